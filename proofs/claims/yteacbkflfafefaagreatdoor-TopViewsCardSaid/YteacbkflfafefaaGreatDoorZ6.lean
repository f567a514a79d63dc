/- Part 7 of 50 of the proof that TopViews returns true at every input: lemmas on the way; no condition. -/
import Derived.Test.YteacbkflfafefaaGreatDoorZ1
import Derived.Test.YteacbkflfafefaaGreatDoorZ2
import Derived.Test.YteacbkflfafefaaGreatDoorZ3
namespace Go.Proofs.YteacbkflfafefaaGreatDoor
set_option linter.all false
section
open Go.RowKit
theorem Uh{P:Program}{w:World}(k:IntKind)(n y:Nat)(c:BoundsCode)(h:n≤y):(Instr.sliceBound (.int k n) y c).run P w= .ok n w:=by
 have a:(n:Int)≤y:=by omega
 simp[Instr.sliceBound,asIntOf,a]
theorem cg{P:Program}{w:World}{t e:TypeId}{i:TypeInfo}(d:P.underlying t=some (.slice e))(hi:P.info? e=some i)(A:Option Addr)(b cap lo hh c:Nat)(h:lo≤hh)(f:hh≤c)(g:c≤cap):(Instr.sliceAt t (O A b cap) (some (Z lo)) (some (Z hh)) (some (Z c))).run P w= .ok (O (if c=lo then A else A.map (·.add (lo*i.size))) (hh-lo) (c-lo)) w∧(Instr.sliceAt t (O A b cap) none (some (Z hh)) (some (Z c))).run P w= .ok (O A hh c) w∧(Instr.sliceAt t (O A b cap) (some (Z lo)) (some (Z hh)) none).run P w= .ok (O (if cap=lo then A else A.map (·.add (lo*i.size))) (hh-lo) (cap-lo)) w∧(Instr.sliceAt t (O A b cap) none (some (Z hh)) none).run P w= .ok (O A hh cap) w∧(lo≤b→b≤cap→(Instr.sliceAt t (O A b cap) (some (Z lo)) none none).run P w= .ok (O (if cap=lo then A else A.map (·.add (lo*i.size))) (b-lo) (cap-lo)) w):=by
 have z:A.map (·.add 0)=A:=by
  cases A with
  |none=>rfl
  |some a=>simp[Addr.add]
 refine⟨?_,?_,?_,?_,fun j k=> ?_⟩
 ·simp[Instr.sliceAt,Instr.slice,SU d,Instr.sliceBounds,Uh _ _ _ _ h,Uh _ _ _ _ f,Uh _ _ _ _ g,sizeOf,typeInfo,hi]
 ·simp[Instr.sliceAt,Instr.slice,SU d,Instr.sliceBounds,Uh _ _ _ _ f,Uh _ _ _ _ g,sizeOf,typeInfo,hi,z]
 ·simp[Instr.sliceAt,Instr.slice,SU d,Instr.sliceBounds,Uh _ _ _ _ h,Uh _ _ _ _ (KT f g),sizeOf,typeInfo,hi]
 ·simp[Instr.sliceAt,Instr.slice,SU d,Instr.sliceBounds,Uh _ _ _ _ (KT f g),sizeOf,typeInfo,hi,z]
 ·simp[Instr.sliceAt,Instr.slice,SU d,Instr.sliceBounds,Uh _ _ _ _ j,sizeOf,typeInfo,hi]
def ua(e:TypeId)(sz:Nat)(v:Value)(n:Nat)(xs:List Value):aa where
 p h o r:=(∀k,¬r k)∧xs.length=n*sz∧((v=O none 0 0∧n=0∧∀k,¬o k)∨∃g cap cur,v=O (some ⟨g,0,none⟩) n cap∧h[g]? =some (.cells cur e (0,0))∧n≤cap∧cap*sz≤cur.size∧cur.toList.take (n*sz)=xs∧∀k,o k↔k=g)
 loc:=by rintro h h' o r ⟨d,i,b⟩ a;refine⟨d,i,b.imp id ?_⟩;rintro⟨g,cap,cur,f,a2,a3,a4,a5,c⟩;exact⟨g,cap,cur,f,(a g (.inl ((c g).2 rfl))).trans a2,a3,a4,a5,c⟩
 lt:=by
  rintro h o r k ⟨d,i,b⟩ a;have a:=a.resolve_right (d k);rcases b with⟨_,_,b⟩|⟨g,cap,cur,f,a2,a3,a4,a5,c⟩
  ·exact absurd a (b k)
  ·rw[(c k).1 a];exact(sU.1 a2).1
def Ba(sz:Nat)(v:Value)(n:Nat)(xs:List Value):aa where
 p h o r:=(∀k,¬o k)∧xs.length=n*sz∧∃A c,v=O A n c∧((xs=[]∧∀k,¬r k)∨∃b off cs e f,A=some ⟨b,off,none⟩∧h[b]? =some (.cells cs e f)∧(∀j u,xs[j]? =some u→cs[off+j]? =some u)∧∀k,r k↔k=b)
 loc:=by rintro h h' o r ⟨g,l,A,c,m,d⟩ a;refine⟨g,l,A,c,m,d.imp id ?_⟩;rintro⟨b,off,cs,e,f,i,a2,a3,a4⟩;exact⟨b,off,cs,e,f,i,(a b (.inr ((a4 b).2 rfl))).trans a2,a3,a4⟩
 lt:=by
  rintro h o r k ⟨g,l,A,c,m,d⟩ a;have a:=a.resolve_left (g k);rcases d with⟨_,d⟩|⟨b,off,cs,e,f,i,a2,a3,a4⟩
  ·exact absurd a (d k)
  ·rw[(a4 k).1 a];exact(sU.1 a2).1
class Gd(v:Value)(S:aa)(e:outParam (TypeId))(sz:outParam (Nat))(n:outParam (Nat))(xs:outParam (List Value))(R:outParam aa):Prop where
 split:aa.le S (ua e sz v n xs*R)
instance (priority:=1000) Gd.here {v:Value}{e:TypeId}{sz:Nat}{n:Nat}{xs:List Value}{R:aa}:Gd v (ua e sz v n xs*R) e sz n xs R:=⟨JZ _⟩
instance (priority:=900) Gd.last {v:Value}{e:TypeId}{sz:Nat}{n:Nat}{xs:List Value}:Gd v (ua e sz v n xs) e sz n xs aa.emp:=⟨KZ (RZ trivial) NZ⟩
instance (priority:=800) Gd.right {v:Value}{e:TypeId}{sz:Nat}{n:Nat}{xs:List Value}{B S R:aa}[h:Gd v S e sz n xs R]:Gd v (B*S) e sz n xs (B*R):=⟨KZ (MZ (JZ _) h.split) (KZ PZ (KZ (MZ NZ (JZ _)) OZ))⟩
instance (priority:=700) Gd.left {v:Value}{e:TypeId}{sz:Nat}{n:Nat}{xs:List Value}{B S R:aa}[h:Gd v S e sz n xs R]:Gd v (S*B) e sz n xs (R*B):=⟨KZ (MZ h.split (JZ _)) OZ⟩
class Aj(v:Value)(S:aa)(sz:outParam (Nat))(n:outParam (Nat))(xs:outParam (List Value))(R:outParam aa):Prop where
 split:aa.le S (Ba sz v n xs*R)
instance (priority:=1000) Aj.here {v:Value}{sz:Nat}{n:Nat}{xs:List Value}{R:aa}:Aj v (Ba sz v n xs*R) sz n xs R:=⟨JZ _⟩
instance (priority:=900) Aj.last {v:Value}{sz:Nat}{n:Nat}{xs:List Value}:Aj v (Ba sz v n xs) sz n xs aa.emp:=⟨KZ (RZ trivial) NZ⟩
instance (priority:=800) Aj.right {v:Value}{sz:Nat}{n:Nat}{xs:List Value}{B S R:aa}[h:Aj v S sz n xs R]:Aj v (B*S) sz n xs (B*R):=⟨KZ (MZ (JZ _) h.split) (KZ PZ (KZ (MZ NZ (JZ _)) OZ))⟩
instance (priority:=700) Aj.left {v:Value}{sz:Nat}{n:Nat}{xs:List Value}{B S R:aa}[h:Aj v S sz n xs R]:Aj v (S*B) sz n xs (R*B):=⟨KZ (MZ h.split (JZ _)) OZ⟩
section
variable {P:Program}{w0 w w':World}{o0 r0 o r:Td}{A B S R:aa}{e t:TypeId}{sz n:Nat}{v:Value}{xs:List Value}
theorem aa.le.gd:aa.le (ua e sz v n xs) (Ba sz v n xs):=by
 constructor;rintro h o r ⟨f,b,⟨rfl,rfl,i⟩|⟨g,cap,cur,rfl,a2,a3,a4,a5,c⟩⟩
 ·exact⟨fun _=>False,fun _=>False,⟨fun _ h=>h,b,none,0,rfl,.inl ⟨uU (by rw[b];simp),fun _ h=>h⟩⟩,fun _ h=>h.elim,fun _ h=>h.elim⟩
 ·refine⟨fun _=>False,fun k=>k=g,⟨fun _ h=>h,b,_,cap,rfl,.inr ⟨g,0,cur,e,(0,0),rfl,a2,?_,fun _=>aX⟩⟩,fun _ h=>h.elim,fun k d=> .inl ((c k).2 d)⟩;intro j u a;rw[←a5,tW]at a;split at a
  ·simpa using a
  ·cases a
theorem aa.le.Bc(e:TypeId)(sz:Nat):aa.le aa.emp (ua e sz (O none 0 0) 0 []):=⟨fun {_ o r} h=>⟨o,r,⟨h.2.2,by simp,.inl ⟨rfl,rfl,h.2.1⟩⟩,fun _ h=>h,fun _ h=> .inr h⟩⟩
theorem aa.le.Yj:aa.le (Ba sz v n xs) (Ba sz v n xs*Ba sz v n xs):=⟨fun {h o r} a=>⟨o,r,⟨o,r,o,r,a,a,fun k b=>absurd b (a.1 k),fun k b=>absurd b (a.1 k),fun k=>by simp,fun k=>by simp⟩,fun _ h=>h,fun _ h=> .inr h⟩⟩
theorem Y.sl(h:Y w0 o0 r0 S w)(v:Value)[k:Aj v S sz n xs R]:xs.length=n*sz∧∃A c,v=O A n c∧(xs≠[]→∃b off,A=some ⟨b,off,none⟩∧b<w.heap.size∧∀j u,xs[j]? =some u→w.cell? ⟨b,off+j,none⟩=some u):=by
 obtain⟨_,_,⟨_,_,_,_,⟨_,i,A,c,l,a⟩,_⟩,_⟩:=h.le k.split;refine⟨i,A,c,l,fun d=> ?_⟩;rcases a with⟨a,_⟩|⟨b,off,cs,e,f,g,a2,a3,a4⟩
 ·exact absurd a d
 ·refine⟨b,off,g,(sU.1 a2).1,fun j u m=> ?_⟩;rw[jW w b (off+j) cs e f a2];exact a3 j u m
theorem Y.En{tx f:TypeId}(h:Y w0 o0 r0 S w)(v:Value)[k:Aj v S sz n xs R](i:P.underlying tx=some (.slice f))(m:∀u∈xs,u.oneCell'=true)(x:0<sz):Src P sz tx v n xs w:=by
 obtain⟨g,A,c,rfl,p⟩:=h.sl v;by_cases l:xs=[]
 ·subst l;have s:n=0:=by
   rcases Nat.mul_eq_zero.1 g.symm with h|h
   ·exact h
   ·omega
  subst s;refine⟨.inl ⟨f,i⟩,fun _=>rfl,?_,?_,by simp,fun _ h=>by cases h⟩
  ·rcases A with _|a
   ·exact qZ w sz 0 0 c
   ·exact rY w sz 0 a 0 c [] (by simp) (fun j u d=>by simp at d)
  ·rcases A with _|a
   ·exact qZ w.drew sz 0 0 c
   ·exact rY w.drew sz 0 a 0 c [] (by simp) (fun j u d=>by simp at d)
 ·obtain⟨b,off,rfl,_,q⟩:=p l;exact Src.ofSlice w i ⟨b,off,none⟩ n c xs g (fun j u d=>by rw[CV];exact q j u d) m
theorem Iq(b:Nat)(e:TypeId):∀ (news:List Value) (w:World) (off:Nat) (cur:Array Value),w.heap[b]? =some (.cells cur e (0,0))→off+news.length≤cur.size→∃a,(w.setCells b off news).heap[b]? =some (.cells a e (0,0))∧a.size=cur.size∧(∀j,off≤j→j<off+news.length→a[j]? =news[j-off]?)∧(∀j,j<off∨off+news.length≤j→a[j]? =cur[j]?)∧(∀k,k≠b→(w.setCells b off news).heap[k]? =w.heap[k]?)∧(w.setCells b off news).os=w.os∧(w.setCells b off news).tape=w.tape∧(w.setCells b off news).output=w.output∧(w.setCells b off news).heap.size=w.heap.size
 |[],w,off,cur,hb,_=>⟨cur,hb,rfl,fun j d c=>by simp at c;omega,fun _ _=>rfl,fun _ _=>rfl,rfl,rfl,rfl,rfl⟩
 |u::news,w,off,cur,hb,q=>by
  simp only[UT]at q;have f:(w.setCell ⟨b,off,none⟩ u).heap[b]? =some (.cells (cur.setIfInBounds off u) e (0,0)):=by simp[World.setCell,DW,hb]
  obtain⟨a,h,a2,a3,a4,a5,i,l,m,a9⟩:=Iq b e news (w.setCell ⟨b,off,none⟩ u) (off+1) (cur.setIfInBounds off u) f (by rw[rW];omega);refine⟨a,h,a2.trans (rW ..),?_,?_,fun k g=>(a5 k g).trans (fX w _ u k g),i,l,m,a9.trans (by simp[World.setCell])⟩
  ·intro j d c;simp only[UT]at c;rcases Nat.eq_or_lt_of_le d with rfl|s
   ·rw[a4 _ (.inl (by omega)),AW];simp[qV];omega
   ·rw[a3 j (by omega) (by omega),show j-off=(j-(off+1))+1 by omega,MT]
  ·intro j p;simp only[UT]at p;rw[a4 j (by omega),qV,DT (by omega)]
theorem Y.append{tx ty:TypeId}{i:TypeInfo}{z:Value}(y:P.underlying t=some (.slice e))(hi:P.info? e=some i)(M:i.zero=some z)(s:i.size=sz)(N:z.cells.size=sz){x:Value}{m:Nat}{news:List Value} [k:Gd v S e sz n xs R] (h:Y w0 o0 r0 S w) (c:Src P sz tx x m news w) (J:n+m≤maxLen) (K:(n+m)*i.bytes≤140737488355328):∃U w',(Builtin.append_ #[t,tx] ty #[v,x]).run P w= .ok U w'∧Y w0 o0 r0 (ua e sz U (n+m) (xs++news)*R) w':=by
 obtain⟨o,r,⟨Q,T,o2,r2,⟨D,a2,a3⟩,b2,b3,b4,E,F⟩,hu⟩:=h.le k.split;subst s;have a6:n+m≤9223372036854775807:=by unfold maxLen at J;omega
 have l:(xs++news).length=(n+m)*i.size:=by rw[CT,a2,c.newsLen,QX]
 have fresh:∀ (b:Nat) (a:List Value),a=xs→b<n+m→∃cap,n+m≤cap∧(.slice (some ⟨w.heap.size,0,none⟩) (n+m) (grownCap w (n+m) b e):Value)= .slice (some ⟨w.heap.size,0,none⟩) (n+m) cap∧Y w0 o0 r0 (ua e i.size (.slice (some ⟨w.heap.size,0,none⟩) (n+m) cap) (n+m) (xs++news)*R) (w.drew.alloc (.cells ((a++news).toArray++Builtin.zeroCells z.cells (grownCap w (n+m) b e-(n+m))) e)):=by
  rintro b a rfl a7;have C:=QY w (n+m) b e;refine⟨_,C,rfl,?_⟩;refine UZ hu (WZ b2 b3 b4 E F ?_);have W:Y w Q T (ua e i.size v n a) w.drew:=(TZ (A:=ua e i.size v n a) ⟨D,a2,a3⟩).drew;refine(W.new _).le (KZ QZ ?_);constructor;rintro h o r ⟨X,c2,c3⟩;refine⟨o,r,⟨c3,l,.inr ⟨w.heap.size,_,_,rfl,X,C,?_,?_,c2⟩⟩,fun _ h=>h,fun _ h=> .inr h⟩
  ·simp only[SX,zV,wZ,N,l,←QX];exact mV _ (by omega)
  ·simp only[Array.toList_append,lV (vW l.symm)];rw[YT (vW l)]
 rcases a3 with⟨rfl,rfl,a4⟩|⟨g,cap,cur,rfl,c2,c3,c4,c5,c6⟩
 ·have hx:xs=[]:=uU (by rw[a2];simp);subst hx;by_cases hm:m=0
  ·subst hm;have hn:news=[]:=uU (by rw[c.newsLen];simp);subst hn;refine⟨.slice none 0 0,w,?_,?_⟩
   ·rcases c.kind with⟨e',L⟩|L<;>simp[Builtin.append_,SU y,SU L,sizeOf,typeInfo,hi,c.len,c.cells]
   ·exact UZ hu (WZ b2 b3 b4 E F (TZ ⟨D,a2,.inl ⟨rfl,rfl,a4⟩⟩))
  ·obtain⟨cp,p,d,H⟩:=fresh 0 [] rfl (by omega);refine⟨_,_,qY w t tx ty e i z y hi M none 0 0 [] (by exact qZ w.drew i.size 0 0 0) x m news c (by omega) (by omega) (uZ (by omega) K),?_⟩;rw[d];exact H
 ·by_cases f:n+m≤cap
  ·have I:n*i.size+news.length≤cur.size:=by refine KT ?_ c4;rw[c.newsLen,←QX];exact mV _ f
   obtain⟨G,d1,d2,d3,d4,d5,d6,d7,d8,d9⟩:=Iq g e news w (n*i.size) cur c2 I;refine⟨_,_,run_append_room_src w t tx ty e i y hi g 0 n cap x m news c f ?_ ?_,?_⟩
   ·intro j q;rw[BU,jW w g _ cur e (0,0) c2];rw[eV (by omega)];rfl
   ·intro j _;simp[World.frozen?,c2]
   ·rw[BU];refine UZ hu (WZ b2 b3 b4 E F ⟨Q,T,⟨D,l,.inr ⟨g,cap,G,rfl,d1,f,by rw[d2];exact c4,?_,c6⟩⟩,d6,d7,d8,by rw[d9];exact FT _,fun k _ d=>d5 k fun e=>d ((c6 k).2 e),fun _ h=> .inl h,fun _ h=> .inr (.inl h)⟩);apply TX;intro j;rw[tW];by_cases p:j<(n+m)*i.size
    ·rw[JT p,EW];by_cases d:j<n*i.size
     ·rw[d4 j (.inl d),IV (by rw[a2];exact d),←c5,tW,JT d,EW]
     ·rw[d3 j (by omega) (by rw[c.newsLen,←QX];exact p),vV (by rw[a2];omega),a2]
    ·rw[DT p,dW (by rw[l];omega)]
  ·obtain⟨cp,p,d,H⟩:=fresh cap xs rfl (by omega);have hold:(Builtin.firstCells i.size n (.slice (some ⟨g,0,none⟩) n cap)).run P w.drew= .ok xs.toArray w.drew:=by
    refine rY w.drew i.size n ⟨g,0,none⟩ n cap xs a2 fun j u q=> ?_;rw[CV,BU];show w.cell? _=_;rw[jW w g j cur e (0,0) c2];rw[←c5,tW]at q;split at q
    ·simpa using q
    ·cases q
   refine⟨_,_,qY w t tx ty e i z y hi M (some ⟨g,0,none⟩) n cap xs hold x m news c (by omega) (by omega) (uZ (by omega) K),?_⟩;rw[d];exact H
theorem Y.Cd(h:Y w0 o0 r0 S w)(v:Value)[k:Gd v S e sz n xs R]:xs.length=n*sz∧∃A c,v=O A n c:=by
 obtain⟨o,r,⟨b,f,d,i,⟨a,a2,a3⟩,_⟩,hu⟩:=h.le k.split;rcases a3 with⟨rfl,rfl,_⟩|⟨g,cap,cur,rfl,_⟩
 ·exact⟨a2,_,_,rfl⟩
 ·exact⟨a2,_,_,rfl⟩
theorem Y.Mc(h:Y w0 o0 r0 S w){A:Option Addr}{c:Nat}[k:Gd (O A n c) S e sz n xs R](d:xs≠[]):∃g,A=some ⟨g,0,none⟩∧∀j u,xs[j]? =some u→w.cell? ⟨g,j,none⟩=some u:=by
 obtain⟨o,r,⟨l,p,m,q,⟨i,a2,a3⟩,_⟩,hu⟩:=h.le k.split;rcases a3 with⟨_,f,_⟩|⟨g,cap,cur,b,c2,c3,c4,c5,c6⟩
 ·subst f;exact absurd (uU (by rw[a2];simp)) d
 ·injection b with b;refine⟨g,b,fun j u a=> ?_⟩;rw[jW w g j cur e (0,0) c2];rw[←c5,tW]at a;split at a
  ·simpa using a
  ·cases a
theorem Y.cut{i:TypeInfo}(j:P.underlying t=some (.slice e))(hi:P.info? e=some i)(m:Nat)(l:m≤n)(h:Y w0 o0 r0 S w)(v:Value)[k:Gd v S e sz n xs R]:∃A,(∀w,(Instr.sliceAt t v none (some (Z m)) (some (Z m))).run P w= .ok (O A m m) w)∧Y w0 o0 r0 (ua e sz (O A m m) m (xs.take (m*sz))*R) w:=by
 obtain⟨o,r,⟨q,u,s,x,⟨b,a2,a3⟩,b2,b3,b4,c,d⟩,hu⟩:=h.le k.split;have a:m*sz≤n*sz:=mV _ l;have f:(xs.take (m*sz)).length=m*sz:=by rw[OT,a2];omega
 rcases a3 with⟨rfl,p,a4⟩|⟨g,cap,cur,rfl,c2,c3,c4,c5,c6⟩
 ·obtain rfl:m=0:=by omega
  exact⟨none,fun w=>(cg j hi none 0 0 0 0 0 (FT _) (FT _) (FT _)).2.1,UZ hu (WZ b2 b3 b4 c d (TZ ⟨b,f,.inl ⟨rfl,rfl,a4⟩⟩))⟩
 ·refine⟨some ⟨g,0,none⟩,fun w=>(cg j hi (some ⟨g,0,none⟩) n cap 0 m m (WT _) (FT _) (by omega)).2.1,UZ hu (WZ b2 b3 b4 c d (TZ ⟨b,f,.inr ⟨g,m,cur,rfl,c2,FT _,KT a (KT (mV _ c3) c4),?_,c6⟩⟩))⟩;rw[←c5,QV,QU a]
theorem kf{g:Array Oper}{c:List Oper}{b:Oper}{a:Act}{Q:Exit→Act→World→Prop}{s x:Operand}{tx:TypeId}{i:TypeInfo}{z:Value}{m:Nat}{news:List Value} (h:Y w0 o0 r0 S w) (p:b.guard=none) (D:b.op= .call {callee:=.builtin .append,args:=#[s,x],argTypes:=#[t,tx]}) (G:P.underlying t=some (.slice e)) (hi:P.info? e=some i) (I:i.zero=some z) (d:i.size=sz) (q:z.cells.size=sz) {v:Value} (H:a.eval s=v) [k:Gd v S e sz n xs R] (F:Src P sz tx (a.eval x) m news w) (j:n+m≤maxLen) (C:(n+m)*i.bytes≤140737488355328) (y:∀f w',Y w0 o0 r0 (ua e sz f (n+m) (xs++news)*R) w'→wpList P g Q c (a.put b.dst f) w'):wpList P g Q (b::c) a w:=by subst H;obtain⟨f,w',E,u⟩:=Y.append (v:=a.eval s) (xs:=xs) (n:=n) (ty:=b.type) (R:=R) G hi I d q h F j C;refine IX p fun K l=> ?_;unfold Oper.wp execOp;simp only[D,resolve,invoke,builtin,wW,YV,GV,uW,qU,gX,E];exact l _ _ (y f w' u)
theorem Oa{g:Array Oper}{b:List Oper}{f:Oper}{a:Act}{Q:Exit→Act→World→Prop}{s x:Operand}{i:TypeInfo}{z:Value}{l:TypeId}(cs:List Value)(c:Nat) (h:Y w0 o0 r0 S w) (p:f.guard=none) (I:f.op= .call {callee:=.builtin .append,args:=#[s,x],argTypes:=#[t,t]}) (q:P.underlying t=some (.slice e)) (hi:P.info? e=some i) (M:i.zero=some z) (d:i.size=sz) (y:z.cells.size=sz) (K:a.eval s=v) [k:Gd v S e sz n xs R] (L:a.eval x=O (some ⟨w.heap.size,0,none⟩) 1 c) (H:cs.length=sz) (C:∀u∈cs,u.oneCell'=true) (T:n+1≤1000000000) (F:i.bytes≤1000) (E:∀A c w',Y w0 o0 r0 (ua e sz (O A (n+1) c) (n+1) (xs++cs)*R) w'→wpList P g Q b (a.put f.dst (O A (n+1) c)) w'):wpList P g Q (f::b) a (w.alloc (.cells cs.toArray l)):=by
 have D:=h.alloc (.cells cs.toArray l);have J:Src P sz t (a.eval x) 1 cs (w.alloc (.cells cs.toArray l)):=by rw[L];refine Src.ofSlice _ q _ 1 c cs (by rw[H,Nat.one_mul]) (fun j u G=> ?_) C;rw[CV,BU,World.cell?_alloc_mark];simpa using G
 refine kf D p I q hi M d y K J (by unfold maxLen;omega) (KT (pZ _ F) (by omega)) fun N w' m=> ?_;obtain⟨_,A,c',rfl⟩:=m.Cd N;exact E A c' w' m
end
abbrev c8:=@aa.le.gd
abbrev j0:=@aa.le.Bc
abbrev j1:=@aa.le.Yj
end
section
open Go.RowKit An Go.Sort Go.Proofs.Tryz
def jh(l:List Bs):List Value:=l.map fun n=>Ha n
theorem yP(v:Value)(a:List Bs)(f:a.length≤1000000):Ud prog 128 #[v] (ua 9 1 v a.length (jh a)) (.tuple #[]) (ua 9 1 v a.length (jh (a.mergeSort fun x y=>decide (x≤y)))):=by
 rintro w o r ⟨d,a2,⟨rfl,i,a4⟩|⟨g,cap,cur,rfl,c2,c3,c4,c5,c6⟩⟩
 ·have:a=[]:=uU i;subst this;refine(Tryz.slices_Sort_string_none none 0 w).mono fun e w' ⟨he,hw⟩=>⟨he,?_⟩;subst hw;exact TZ ⟨d,by simp[jh],.inl ⟨rfl,rfl,a4⟩⟩
 ·rw[wU]at c5;have l:Holds encStr w g 0 a.toArray:=holds_of_block c2 c5;have m:g<w.heap.size:=(sU.1 c2).1;refine(Tryz.slices_Sort_string g 0 cap a w l m (by omega)).mono fun e w' ⟨he,n,os,hw⟩=>⟨he,?_⟩;subst hw;have j:=heap_sorted (n:=n) (os:=os) (a.mergeSort fun x y=>decide (x≤y)).toArray c2;have b:=grownBy_sorted (w:=w) (g:=g) (n:=n) (os:=os) (a.mergeSort fun x y=>decide (x≤y)).toArray;have c:(a.mergeSort fun x y=>decide (x≤y)).length=a.length:=List.length_mergeSort _;refine⟨o,r,⟨d,by simp[jh,c],.inr ⟨g,cap,_,rfl,j,c3,?_,?_,c6⟩⟩,b.os,b.tape,b.output,b.size,fun k p f=>b.block k p (fun e=>f ((c6 k).2 (by simpa using e))),fun _ h=> .inl h,fun _ h=> .inr (.inl h)⟩
  ·simpa [putCells]using c4
  ·rw[wU,←c];exact take_putCells cur _ (by rw[c];omega)
def xf(l:List Int):List Value:=l.map fun n=>Z n
theorem ZK(l:List Int):∀u∈xf l,u.oneCell'=true:=by intro u hu;obtain⟨n,_,rfl⟩:=nU.1 hu;rfl
theorem Mi:(prog.info? 3).map (fun i=>(i.zero,i.size,i.bytes))=some (some (Z 0),1,8):=by kernel_rfl
theorem info_parts{t:TypeId}{z:Value}{n m:Nat}(h:(prog.info? t).map (fun i=>(i.zero,i.size,i.bytes))=some (some z,n,m)):∃i,prog.info? t=some i∧i.zero=some z∧i.size=n∧i.bytes=m:=by
 cases hi:prog.info? t with
 |none=>rw[hi]at h;cases h
 |some i=>rw[hi]at h;simp at h;exact⟨i,rfl,h.1,h.2.1,h.2.2⟩
abbrev Xe(A:Option Addr)(l:List Int)(c:Nat):aa:=Ba 1 (.slice A l.length c) l.length (xf l)
abbrev Zs(A:Option Addr)(l:List Bs)(c:Nat):aa:=ua 9 1 (.slice A l.length c) l.length (jh l)
end
section
open Go.RowKit
section
variable {P:Program}{w0 w:World}{o0 r0:Td}{S:aa}
theorem Y.Wa(h:Y w0 o0 r0 S w)(x:Obj)(n:Nat)(a:w.heap.size=n):Y w0 o0 r0 (aa.obj n x*S) (w.alloc x):=a▸h.new x
theorem dc{w:World}{x:Obj}{n:Nat}(h:w.heap.size=n):(w.alloc x).heap.size=n+1:=by simp[h]
theorem aa.le.Em{g:Nat}{e:TypeId}{cs:Array Value}{sz n c:Nat}{xs:List Value}(a:n≤c)(f:c*sz≤cs.size)(b:cs.toList.take (n*sz)=xs):aa.le (ba g e cs) (ua e sz (O (some ⟨g,0,none⟩) n c) n xs):=by constructor;rintro h o r ⟨d,a2,a3⟩;refine⟨o,r,⟨a3,?_,.inr ⟨g,c,cs,rfl,d,a,f,b,a2⟩⟩,fun _ h=>h,fun _ h=> .inr h⟩;rw[←b,OT,XW];have:=mV sz a;omega
theorem aa.le.YJ{g:Nat}{e:TypeId}{cs:Array Value}{n c:Nat}{xs:List Value}(a:n≤c)(d:c≤cs.size)(b:cs.toList.take n=xs):aa.le (ba g e cs) (Ba 1 (O (some ⟨g,0,none⟩) n c) n xs):=KZ (aa.le.Em (sz:=1) (xs:=xs) a (by omega) (by rw[wU];exact b)) c8
end
abbrev j4:=@aa.le.Em
end
end Go.Proofs.YteacbkflfafefaaGreatDoor
