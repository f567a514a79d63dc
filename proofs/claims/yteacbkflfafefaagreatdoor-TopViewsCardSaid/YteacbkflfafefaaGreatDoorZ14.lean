/- Part 15 of 50 of the proof that TopViews returns true at every input: lemmas on the way; no condition. -/
import Derived.Test.YteacbkflfafefaaGreatDoorZ11
import Derived.Test.YteacbkflfafefaaGreatDoorZ12
namespace Go.Proofs.YteacbkflfafefaaGreatDoor
set_option linter.all false
set_option maxHeartbeats 4000000
set_option maxRecDepth 100000
namespace An
def Ag(ls:List (List qa))(at':List Nat)(k:Nat):Option qa:=(ls[k]?.getD [])[at'[k]?.getD 0]?
def jg(ls:List (List qa))(at':List Nat)(k:Nat):List qa:=(ls[k]?.getD []).drop (at'[k]?.getD 0)
structure mN(ls:List (List qa))(out:List qa)(at':List Nat):Prop where
 len:at'.length=ls.length
 le:∀k (h:k<ls.length) (h2:k<at'.length),at'[k]≤ls[k].length
 ym:ub out=true
 mem:∀x,(∃l∈ls,x∈l)↔x∈out∨∃k,k<ls.length∧x∈jg ls at' k
 low:∀x∈out,∀k,k<ls.length→∀y∈jg ls at' k,de x y=true
def ez(ls:List (List qa))(at':List Nat)(k:Nat)(e:qa):Prop:=∀j,j<k→∀y,Ag ls at' j=some y→de y e=false
def My(ls:List (List qa))(at':List Nat)(e:qa):List Nat:=(List.range ls.length).map fun k=>if Ag ls at' k=some e then at'[k]?.getD 0+1 else at'[k]?.getD 0
theorem Ni{ls:List (List qa)}{at':List Nat}{k:Nat}{e:qa}(h:Ag ls at' k=some e):jg ls at' k=e::(ls[k]?.getD []).drop (at'[k]?.getD 0+1):=by unfold Ag at h;unfold jg;obtain⟨a,b⟩:=ZU.1 h;rw[←b];exact FU a
theorem Bx{ls:List (List qa)}{at':List Nat}{k:Nat}(h:Ag ls at' k=none):jg ls at' k=[]:=by unfold Ag at h;unfold jg;exact ZV (KW.1 h)
theorem kG{ls:List (List qa)}{at':List Nat}{k:Nat}{y:qa}(h:y∈jg ls at' k):∃e,Ag ls at' k=some e:=by
 cases hh:Ag ls at' k with
 |none=>rw[Bx hh]at h;cases h
 |some e=>exact⟨e,rfl⟩
theorem wD{l:List qa}(h:ub l=true)(n:Nat):ub (l.drop n)=true:=uc.2 ((uc.1 h).drop)
theorem xn{ls:List (List qa)}(b:∀l∈ls,ub l=true)(at':List Nat)(k:Nat):ub (jg ls at' k)=true:=by
 unfold jg;refine wD ?_ _;cases a:ls[k]? with
 |none=>rfl
 |some l=>exact b l (AV a)
theorem SE{ls:List (List qa)}{at':List Nat}{e:qa}{k:Nat}(b:k<ls.length):jg ls (My ls at' e) k=if Ag ls at' k=some e then(jg ls at' k).tail else jg ls at' k:=by
 have a:(My ls at' e)[k]?.getD 0=if Ag ls at' k=some e then at'[k]?.getD 0+1 else at'[k]?.getD 0:=by simp[My,b]
 by_cases hh:Ag ls at' k=some e
 ·rw[JT hh,Ni hh];unfold jg;rw[a,JT hh];rfl
 ·rw[DT hh];unfold jg;rw[a,DT hh]
theorem mN.start(ls:List (List qa)):mN ls [] (List.replicate ls.length 0) where
 len:=by simp
 le k h d:=by simp
 ym:=rfl
 mem x:=by
  constructor
  ·rintro⟨l,c,b⟩;obtain⟨k,a,rfl⟩:=dV c;exact .inr ⟨k,a,by simp[jg,a,b]⟩
  ·rintro(h|⟨k,a,b⟩)
   ·cases h
   ·exact⟨ls[k],XT a,by simpa [jg,a]using b⟩
 low x b:=by cases b
theorem mN.step{ls:List (List qa)}{p:List qa}{at':List Nat}(h:mN ls p at')(r:∀l∈ls,ub l=true){b:Nat}(v:b<ls.length){e:qa}(A:Ag ls at' b=some e)(w:ez ls at' ls.length e):mN ls (p++[e]) (My ls at' e):=by
 have o:e∈jg ls at' b:=by rw[Ni A];simp
 have q:∀k,k<ls.length→∀y∈jg ls at' k,y=e∨de e y=true:=by
  intro k f y c;obtain⟨x,d⟩:=kG c;have i:x=e∨de e x=true:=by
   by_cases s:x=e
   ·exact .inl s
   ·exact .inr (uz (w k f x d) s)
  have g:=uc.1 (xn r at' k);rw[Ni d]at c g;rcases dU.1 c with rfl|c
  ·exact i
  ·have:=(xU.1 g).1 y c;rcases i with rfl|t
   ·exact .inr this
   ·exact .inr (Lj t this)
 have j:∀k,k<ls.length→∀y,y∈jg ls (My ls at' e) k↔y∈jg ls at' k∧y≠e:=by
  intro k f y;rw[SE f];by_cases hh:Ag ls at' k=some e
  ·rw[JT hh];have g:=uc.1 (xn r at' k);rw[Ni hh]at g⊢;have B:=(xU.1 g).1;constructor
   ·intro c;refine⟨TV _ c,?_⟩;rintro rfl;have:=B _ c;rw[Hm]at this;omega
   ·rintro⟨c,m⟩;rcases dU.1 c with rfl|c
    ·exact absurd rfl m
    ·exact c
  ·rw[DT hh];refine⟨fun c=>⟨c,?_⟩,fun c=>c.1⟩;rintro rfl;obtain⟨x,d⟩:=kG c;have g:=uc.1 (xn r at' k);rw[Ni d]at g c;rcases dU.1 c with rfl|c
   ·exact hh d
   ·have n:=(xU.1 g).1 _ c;rw[w k f x d]at n;cases n
 refine⟨by simp[My],?_,?_,?_,?_⟩
 ·intro k f t;have n:(My ls at' e)[k]=if Ag ls at' k=some e then at'[k]?.getD 0+1 else at'[k]?.getD 0:=by simp[My]
  have u:k<at'.length:=by rw[h.len];exact f
  rw[n];by_cases hh:Ag ls at' k=some e
  ·rw[JT hh];unfold Ag at hh;have:=(ZU.1 hh).1;rw[PT f]at this;exact this
  ·rw[DT hh];have:=h.le k f u;simpa [u]using this
 ·rw[uc,PW];refine⟨uc.1 h.ym,by simp,fun a z x d=> ?_⟩;rw[lU.1 d];exact h.low a z b v e o
 ·intro x;rw[h.mem x,oU,lU];constructor
  ·rintro(d|⟨k,f,d⟩)
   ·exact .inl (.inl d)
   ·by_cases i:x=e
    ·exact .inl (.inr i)
    ·exact .inr ⟨k,f,(j k f x).2 ⟨d,i⟩⟩
  ·rintro((d|rfl)|⟨k,f,d⟩)
   ·exact .inl d
   ·exact .inr ⟨b,v,o⟩
   ·exact .inr ⟨k,f,((j k f x).1 d).1⟩
 ·intro x d k f y c;obtain⟨c,m⟩:=(j k f y).1 c;rcases oU.1 d with d|d
  ·exact h.low x d k f y c
  ·rw[lU.1 d];exact(q k f y c).resolve_left m
theorem YH{a b:List qa}(d:ub a=true)(e:ub b=true)(h:∀x,x∈a↔x∈b):a=b:=by
 rw[uc]at d e;have hi:∀x:qa,de x x≠true:=fun x j=>by rw[Hm]at j;omega
 induction a generalizing b with
 |nil=>cases b with
  |nil=>rfl
  |cons x r=>exact absurd ((h x).2 (by simp)) (by simp)
 |cons x r k=>cases b with
  |nil=>exact absurd ((h x).1 (by simp)) (by simp)
  |cons y s=>
   rw[xU]at d e;have i:x=y:=by
    rcases dU.1 ((h x).1 (by simp))with c|c
    ·exact c
    ·rcases dU.1 ((h y).2 (by simp))with g|g
     ·exact g.symm
     ·exact absurd (Lj (d.1 y g) (e.1 x c)) (hi x)
   subst i;congr 1;refine k d.2 e.2 fun z=> ?_;constructor
   ·intro f;rcases dU.1 ((h z).1 (TV _ f))with rfl|c
    ·exact absurd (d.1 _ f) (hi _)
    ·exact c
   ·intro f;rcases dU.1 ((h z).2 (TV _ f))with rfl|c
    ·exact absurd (e.1 _ f) (hi _)
    ·exact c
theorem mN.stop{ls:List (List qa)}{b:List qa}{at':List Nat}(h:mN ls b at')(d:∀k,k<ls.length→Ag ls at' k=none):b=Zc ls:=by refine YH h.ym (Ef ls) fun x=> ?_;rw[Fi,h.mem x];refine⟨.inl,fun a=>a.elim id ?_⟩;rintro⟨k,c,a⟩;rw[Bx (d k c)]at a;cases a
end An
section
open Go Go.RowKit
section
variable {P:Program}{w0 w w':World}{o0 r0 o r:Td}{A B S R:aa}{e t:TypeId}{sz n:Nat}{v:Value}{xs:List Value}
theorem Y.sR(h:Y w0 o0 r0 S w){g c:Nat}[k:Gd (O (some ⟨g,0,none⟩) n c) S e sz n xs R]:∃cur,Y w0 o0 r0 (ba g e cur*R) w∧n≤c∧c*sz≤cur.size∧cur.toList.take (n*sz)=xs:=by
 obtain⟨o,r,⟨m,q,p,s,⟨d,a2,a3⟩,b2,b3,b4,f,i⟩,hu⟩:=h.le k.split;rcases a3 with⟨b,_⟩|⟨z,cap,cur,b,c2,c3,c4,c5,c6⟩
 ·cases b
 ·injection b with a u j;injection a with a;injection a with l x y;subst l j;exact⟨cur,⟨o,r,⟨m,q,p,s,⟨c2,c6,d⟩,b2,b3,b4,f,i⟩,hu⟩,c3,c4,c5⟩
theorem Y.Nk(h:Y w0 o0 r0 S w){g c:Nat}[k:Gd (O (some ⟨g,0,none⟩) n c) S e sz n xs R](i:Nat)(u:Value):Y w0 o0 r0 (ua e sz (O (some ⟨g,0,none⟩) n c) n (xs.set i u)*R) (w.setCell ⟨g,i,none⟩ u)∧w.frozen? ⟨g,i,none⟩=false:=by obtain⟨cur,a,b,d,f⟩:=h.sR (g:=g) (c:=c) (n:=n);refine⟨(a.put g i u).le (MZ (j4 b (by rw[rW];exact d) ?_) (JZ _)),a.free g i⟩;rw[Array.toList_setIfInBounds,List.take_set,f]
theorem vb{a b c:World}(h:Below a.heap.size a b)(k:Below b.heap.size b c):Below a.heap.size a c:=⟨k.os.trans h.os,k.tape.trans h.tape,k.output.trans h.output,KT h.size k.size,fun i hi=>(k.block i (aV hi h.size)).trans (h.block i hi)⟩
theorem Ig(w:World):Below w.heap.size w w.drew:=⟨rfl,rfl,rfl,FT _,fun _ _=>rfl⟩
theorem below_drewN(w:World)(n:Nat):Below w.heap.size w (w.drewN n):=⟨rfl,rfl,rfl,FT _,fun _ _=>rfl⟩
theorem Bb{a:Addr}(h:Below w.heap.size w w'){u:Value}(c:w.cell? a=some u):w'.cell? a=some u:=by
 unfold World.cell? at c⊢;split at c
 ·rename_i b;rw[h.block _ (by
   cases d:w.heap[a.block]? with
   |none=>rw[d]at b;cases b
   |some x=>exact(sU.1 d).1),b];exact c
 ·cases c
end
end
section
open Go.RowKit An Go.ChangeShapes Go.WideShapes Go.ChangeAt Go.Proofs.Tryz
def uC(h:Nat):Nat:=hmul h 140737488355328|||h/131072
def Qe(h:Nat):Nat:=uC h|||1
theorem lx(h:Nat)(hh:h<18446744073709551616):uC h<18446744073709551616:=Nat.or_lt_two_pow (n:=64) (cr _ _) (WV (vY _ _) hh)
theorem PK(h:Nat)(hh:h<18446744073709551616):Qe h<18446744073709551616:=Nat.or_lt_two_pow (n:=64) (lx h hh) (by decide)
theorem rR(h:Nat)(hh:h<18446744073709551616):Pq prog 279 #[Pa h,Z (-17)] (Pa (uC h:Nat)):=by
 intro w;have hm:bits .and .u64 (IntKind.u64.wrap (-17)) 63=47:=by decide
 have a:IntKind.u64.wrap ((h:Int)*140737488355328)=((hmul h 140737488355328:Nat):Int):=MG h 140737488355328;have b:(h:Int)/131072=((h/131072:Nat):Int):=by omega
 have c:bits .or .u64 ((hmul h 140737488355328:Nat):Int) ((h/131072:Nat):Int)=((uC h:Nat):Int):=bits_or_u64_nat _ _ (cr _ _) (by omega);have d:=V a;have e:=V b;have f:=V c
 clear a b c hh;go_enter func279,ntmps279;go_wp2;go_ret;refine⟨?_,0,rfl⟩;show Ending.returned (Pa _)=_;rw[d.out,e.out,f.out]
theorem CP(h:Nat)(hh:h<18446744073709551616):Pq prog 247 #[Pa h] (Pa (Qe h:Nat)):=by intro w;have t:=rR h hh;have a:bits .or .u64 ((uC h:Nat):Int) 1=((Qe h:Nat):Int):=bits_or_u64_nat _ 1 (lx h hh) (by decide);have b:=V a;have hb:=lx h hh;clear a hh;go_enter func247,ntmps247;go_wp2_with fail;refine(t _).mono ?_;rintro e w' ⟨rfl,m,rfl⟩;go_wp2;go_ret;refine⟨?_,m,rfl⟩;show Ending.returned (Pa _)=_;rw[b.out]
end
section
open Go Go.RowKit
def aa.mc(S:aa):Prop:=∀h o r k,S.p h o r→o k∨r k→∃cs t f,h[k]? =some (.cells cs t f)
theorem aa.mc.wm(g:Nat)(t:TypeId)(cs:Array Value):aa.mc (ba g t cs):=by
 rintro h o r k ⟨b,c,d⟩ (a|a)
 ·rw[(c k).1 a];exact⟨_,_,_,b⟩
 ·exact absurd a (d k)
theorem aa.mc.row(e:TypeId)(sz:Nat)(v:Value)(n:Nat)(xs:List Value):aa.mc (ua e sz v n xs):=by
 rintro h o r k ⟨d,i,b⟩ (a|a)
 ·rcases b with⟨_,_,b⟩|⟨g,cap,cur,f,a2,a3,a4,a5,c⟩
  ·exact absurd a (b k)
  ·rw[(c k).1 a];exact⟨_,_,_,a2⟩
 ·exact absurd a (d k)
theorem aa.mc.sl(sz:Nat)(v:Value)(n:Nat)(xs:List Value):aa.mc (Ba sz v n xs):=by
 rintro h o r k ⟨g,j,A,c,l,d⟩ (a|a)
 ·exact absurd a (g k)
 ·rcases d with⟨_,d⟩|⟨b,off,cs,e,f,i,a2,a3,a4⟩
  ·exact absurd a (d k)
  ·rw[(a4 k).1 a];exact⟨_,_,_,a2⟩
theorem aa.mc.star{A B:aa}(c:A.mc)(d:B.mc):aa.mc (A*B):=by
 rintro h o r k ⟨g,j,i,l,b,a2,a3,a4,a5,f⟩ a;rw[a5,f]at a;rcases a with(a|a)|(a|a)
 ·exact c _ _ _ _ b (.inl a)
 ·exact d _ _ _ _ a2 (.inl a)
 ·exact c _ _ _ _ b (.inr a)
 ·exact d _ _ _ _ a2 (.inr a)
theorem aa.mc.pure(φ:Prop):aa.mc (aa.pure φ):=by
 rintro h o r k ⟨_,b,c⟩ (a|a)
 ·exact absurd a (b k)
 ·exact absurd a (c k)
theorem aa.mc.ex{α:Type}{A:α→aa}(h:∀x,(A x).mc):aa.mc (aa.ex A):=fun _ _ _ _ ⟨x,b⟩ a=>h x _ _ _ _ b a
section
variable {w0 w w':World}{o0 r0 o r:Td}{S S':aa}
theorem Y.VG{β:Type}{S:β→aa}(l:∀b,(S b).mc)(w0:World)(o0 r0:Td)(B:Nat)(s:w0.heap.size≤B):OwnFrom B (fun b W=>Y w0 o0 r0 (S b) W):=by
 rintro b W q row ⟨o,r,d,hu⟩ c j;have h:∀k,o k∨r k→some k≠row:=by rintro k a e;obtain⟨_,u,i,m⟩:=j k e.symm;obtain⟨cs,t,f,g⟩:=l b _ _ _ _ d a;rw[g]at i;cases i;cases m
 refine⟨o,r,(S b).loc d fun k a=>c.block k ((S b).lt d a) (h k a),c.os.trans hu.os,c.tape.trans hu.tape,c.output.trans hu.output,KT hu.size c.size,fun k a p=> ?_,hu.own,hu.rd⟩;exact(c.block k (aV a hu.size) (fun e=>by have:=(j k e.symm).1;omega)).trans (hu.Ie k a p)
theorem Y.jI(i:S.p w.heap o r)(c:S.mc)(h:Y w o r S' w')(B:Nat):KeepsFrom B w w':=by
 obtain⟨j,m,_,hu⟩:=h;refine⟨hu.size,fun k l _ a d=> ?_⟩;rw[hu.Ie k (sU.1 a).1 (fun g=> ?_)]
 ·exact a
 ·obtain⟨cs,t,f,b⟩:=c _ _ _ _ i (.inl g);rw[b]at a;cases a;cases d
theorem eE.BN(b:eE w0 (fun _=>False) (fun _=>False) w o r)(h:Y w o r S' w'):Below w0.heap.size w w':=by
 obtain⟨f,g,_,a⟩:=h;refine⟨a.os,a.tape,a.output,a.size,fun k c=>a.Ie k (aV c b.size) fun d=> ?_⟩;rcases b.own k d with h|h
 ·exact h
 ·omega
theorem Y.any(h:Y w0 (fun _=>False) (fun _=>False) S w)(o0 r0:Td):Y w0 o0 r0 S w:=let⟨o,r,b,u⟩:=h;⟨o,r,b,u.os,u.tape,u.output,u.size,fun k a _=>u.Ie k a (fun h=>h),fun k a=> .inr ((u.own k a).resolve_left (fun h=>h)),fun k a=> .inr (.inr (((u.rd k a).resolve_left (fun h=>h)).resolve_left (fun h=>h)))⟩
theorem Y.mD(d:S.mc)(h:Y w0 o0 r0 S w){D:Nat}{b:Obj}(a:Obj)(c:w0.heap.size≤D)(f:w.heap[D]? =some b)(g:b.isCells=false):Y w0 o0 r0 S (w.putObj D a):=(Y.VG (β:=Unit) (S:=fun _=>S) (fun _=>d) w0 o0 r0 w0.heap.size (FT _)).putObj (s:=()) a h c f g
theorem eE.UJ{b:Nat}(d:eE w0 o0 r0 w o r)(i:b≤w0.heap.size)(c:∀k,k<b→¬o0 k)(h:Y w o r S' w'):Below b w w':=by
 obtain⟨j,l,_,a⟩:=h;refine⟨a.os,a.tape,a.output,a.size,fun k f=>a.Ie k (by have:=d.size;omega) fun g=> ?_⟩;rcases d.own k g with h|h
 ·exact c k f h
 ·omega
end
section
variable {P:Program}{w0 w w':World}{o0 r0 o r:Td}{A B S R:aa}{e t:TypeId}{sz n:Nat}{v:Value}{xs:List Value}{F:Fence}{nF:Nat}
theorem nw{j:Array Oper}{d:List Oper}{b:Oper}{a:Act}{Q:Exit→Act→World→Prop}{s x:Operand}{tx:TypeId}{i:TypeInfo}{z:Value}{m:Nat}{news:List Value} (h:Y w0 o0 r0 S w) (y:b.guard=none) (l:b.op= .call {callee:=.builtin .append,args:=#[s,x],argTypes:=#[t,tx]}) (J:P.underlying t=some (.slice e)) (hi:P.info? e=some i) (M:i.zero=some z) (f:i.size=sz) (C:z.cells.size=sz) {v:Value} (L:a.eval s=v) [k:Gd v S e sz n xs R] (I:Src P sz tx (a.eval x) m news w) (p:n+m≤maxLen) (G:(n+m)*i.bytes≤140737488355328) (E:∀g w',Y w0 o0 r0 (ua e sz g (n+m) (xs++news)*R) w'→wpListIn F nF P j Q d (a.put b.dst g) w'):wpListIn F nF P j Q (b::d) a w:=by subst L;obtain⟨g,w',H,D⟩:=Y.append (v:=a.eval s) (xs:=xs) (n:=n) (ty:=b.type) (R:=R) J hi M f C h I p G;refine wpListIn_plain y fun K q=> ?_;unfold Oper.wpIn;refine⟨by simp[Oper.about,l,resolve,Target.leads,YV],?_⟩;rw[Oper.semAt_plain F _ _ (by rw[l];intro c u;cases u)];simp only[execOp,l,resolve,invoke,builtin,wW,YV,GV,uW,qU,gX,H];exact q _ _ (E g w' D)
theorem Br{g:Array Oper}{b:List Oper}{f:Oper}{a:Act}{Q:Exit→Act→World→Prop}{s x:Operand}{i:TypeInfo}{z:Value}{l:TypeId}(cs:List Value)(c:Nat) (h:Y w0 o0 r0 S w) (p:f.guard=none) (J:f.op= .call {callee:=.builtin .append,args:=#[s,x],argTypes:=#[t,t]}) (q:P.underlying t=some (.slice e)) (hi:P.info? e=some i) (N:i.zero=some z) (d:i.size=sz) (y:z.cells.size=sz) (L:a.eval s=v) [k:Gd v S e sz n xs R] (M:a.eval x=O (some ⟨w.heap.size,0,none⟩) 1 c) (I:cs.length=sz) (C:∀u∈cs,u.oneCell'=true) (U:n+1≤1000000000) (G:i.bytes≤1000) (E:∀A c w',Y w0 o0 r0 (ua e sz (O A (n+1) c) (n+1) (xs++cs)*R) w'→wpListIn F nF P g Q b (a.put f.dst (O A (n+1) c)) w'):wpListIn F nF P g Q (f::b) a (w.alloc (.cells cs.toArray l)):=by
 have D:=h.alloc (.cells cs.toArray l);have K:Src P sz t (a.eval x) 1 cs (w.alloc (.cells cs.toArray l)):=by rw[M];refine Src.ofSlice _ q _ 1 c cs (by rw[I,Nat.one_mul]) (fun j u H=> ?_) C;rw[CV,BU,World.cell?_alloc_mark];simpa using H
 refine nw D p J q hi N d y L K (by unfold maxLen;omega) (KT (pZ _ G) (by omega)) fun T w' m=> ?_;obtain⟨_,A,c',rfl⟩:=m.Cd T;exact E A c' w' m
end
abbrev j8:=@aa.mc.wm
abbrev j9:=@aa.mc.star
abbrev k9:=@aa.mc.pure
end
section
open Go Go.RowKit Go.Shelf An Go.Proofs.Tryz
attribute [local go_sem] Oper.semAt_some
def bz(s:Bs):Nat→List (Nat×Nat)→Prop
 |a,[]=>bo s a=none
 |a,q::r=>q.1=a∧(∃p,bo s a=some p∧q.2=a+p.length+12)∧bz s q.2 r
theorem qD{s p:Bs}{a:Nat}(h:bo s a=some p):p.length≤2000∧a+p.length+12≤s.length:=by have:=cJ h;rw[cU]at this;omega
theorem yv(s:Bs):∀ (fuel a:Nat),s.length<a+12*(fuel+1)→∃l,bz s a l∧l.map (·.1)=(whole s fuel a).1∧(l.getLast?.map (·.2)).getD a=(whole s fuel a).2
 |0,a,h=>⟨[],(by show bo s a=none;exact Sm (by rw[cU];omega)),rfl,rfl⟩
 |fuel+1,a,h=>by
  unfold whole;cases b:bo s a with
  |none=>exact⟨[],b,rfl,rfl⟩
  |some p=>
   obtain⟨l,c,d,e⟩:=yv s fuel (a+p.length+12) (by omega);refine⟨(a,a+p.length+12)::l,⟨rfl,⟨p,b,rfl⟩,c⟩,by simp[d],?_⟩;dsimp only;rw[←e];cases l with
   |nil=>rfl
   |cons x y=>
    rw[List.getLast?_cons_cons];cases f:(x::y).getLast? with
    |none=>simp at f
    |some z=>rfl
theorem oz{s:Bs}:∀ (l:List (Nat×Nat)) (a:Nat),bz s a l→l≠[]→a+12*l.length≤s.length
 |[],_,_,h=>absurd rfl h
 |q::r,a,⟨d,⟨p,b,e⟩,c⟩,_=>by
  have:=qD b;cases r with
  |nil=>simp;omega
  |cons x y=>have:=oz (x::y) q.2 c (by simp);simp only[UT]at this⊢;omega
def YD(b a:Nat)(A B:World):Prop:=Below b A B∧B.heap[a]? =A.heap[a]?
theorem YD.trans{b a:Nat}{A B C:World}(h:YD b a A B)(k:YD b a B C):YD b a A C:=⟨h.1.trans k.1,k.2.trans h.2⟩
theorem YD.put{b a:Nat}{w:World}(g:b≤w.heap.size)(i:a<w.heap.size)(W:World)(l:Nat)(o c:Obj)(f:w.heap.size≤l)(h:W.heap[l]? =some o)(d:o.isCells=false)(e:o.isWalk=false):YD b a W (W.putObj l c):=⟨belowK_b g W l o c f h d e,EY (by omega)⟩
theorem YD.below{b a:Nat}{A B:World}(h:Below A.heap.size A B)(d:b≤A.heap.size)(c:a<A.heap.size):YD b a A B:=⟨h.mono d,h.block a c⟩
theorem YD.cell{b a:Nat}{A B:World}(h:YD b a A B):B.cell? ⟨a,0,none⟩=A.cell? ⟨a,0,none⟩:=by simp only[World.cell?,h.2]
def YN(q:Nat×Nat):Array Value:=#[Z q.1,Z q.2]
theorem UN(n:Nat)(hn:1≤n)(l y d w:Nat)(s:Bs)(R:s.length≤10000000)(f:Nat)(Q:f≤1000000000)(xs:List (Nat×Nat))(m:bz s f xs)(J A:List (Nat×Nat)→World→Prop) (j:∀pre W b,J pre W→Below W.heap.size W b→J pre b) (P:∀pre x W,J pre W→pre.length<xs.length→YieldAt Fence.wide (n-1) prog l (YN x) W fun e b=>(e= .returned (.bool true)∧J (pre++[x]) b∧YD w d W b)∨(e= .returned (.bool false)∧A (pre++[x]) b)) (W:World) (ht:d<W.heap.size) (T:w≤W.heap.size) (S:W.cell? ⟨y,0,none⟩=some (Z f)) (G:W.cell? ⟨d,0,none⟩=some (Ha s)) (L:J [] W):CallsIn Fence.wide n prog 195 #[.func (.yield l) #[] #[],.pointer (some ⟨y,0,none⟩),.pointer (some ⟨d,0,none⟩)] W fun e b=>(∃v,e= .returned v)∧((∃K,K=xs∧J K b)∨(∃pre,pre<+:xs∧A pre b)):=by
 refine BZ func195 rfl trivial ?_ rfl;simp only[ntmps195,zV,UT,JU,Nat.reduceAdd,Nat.reduceSub,MW,NW,tX,YW,iV,TU];gi_wp2;gi_loopw [4] (fun i wr=>∃ (pre rest:List (Nat×Nat)) (a:Nat),i=Z a∧xs=pre++rest∧bz s a rest∧a≤1000000000∧J pre wr∧YD w d W wr) (fun i _=>1000000001-(intOf i).toNat);case atStart=>exact⟨[],xs,f,rfl,rfl,m,Q,L,mU _ _,rfl⟩
 case round=>
  obtain⟨pre,rest,a,rfl,g,F,E,k,q⟩:=hrel;have ct:wr.cell? ⟨d,0,none⟩=some (Ha s):=q.cell.trans G;have X:=q.1.size;have t:=tF s a R E;cases rest with
  |nil=>rw[show bo s a=none from F]at t;unfold Xx at t;dsimp only at t;gi_wp2;refine⟨trivial,?_⟩;refine(jZ.2 (t _)).mono ?_;rintro e w' ⟨rfl,hb⟩;gi_wp2;refine⟨fun _ h=>(by cases h),?_⟩;gi_wp2;refine ZT (results_none rfl _ _ _) rfl ?_;exact⟨⟨_,rfl⟩,.inl ⟨pre,by simp[g],j _ _ _ k hb⟩⟩
  |cons x rest=>
   obtain⟨c,x2⟩:=x;obtain⟨B,⟨p,o,C⟩,M⟩:=F;dsimp only at B C;subst B C;have U:=qD o;rw[o]at t;have I:∀w',Below wr.heap.size wr w'→J pre w':=fun w' hb=>j _ _ _ k hb;have hlen:pre.length<xs.length:=by rw[g];simp
   have z:=V g;unfold Xx at t;dsimp only at t;clear g o m;gi_wp2;refine⟨trivial,?_⟩;refine(jZ.2 (t _)).mono ?_;rintro e w' ⟨rfl,hb⟩;obtain⟨fn,tmps,assign,body,u,N⟩:=P pre (c,c+p.length+12) w' (I w' hb) hlen;unfold YN at u;dsimp only at u;rw[show((c+p.length+12:Nat):Int)=(c:Int)+p.length+12 by omega]at u;gi_wp2;refine N.mono ?_;rintro e W3 (⟨rfl,D,H⟩|⟨rfl,r⟩)
   ·gi_wp2;go_roundw;case rel=>exact⟨pre++[(c,c+p.length+12)],rest,c+p.length+12,by rw[show((c+p.length+12:Nat):Int)=(c:Int)+p.length+12 by omega],by simp[z.out],M,by omega,D,(q.trans (YD.below hb (by omega) (by omega))).trans H⟩
    case measure=>simp[intOf];omega
   ·gi_wp2;refine ZT (results_none rfl _ _ _) rfl ?_;exact⟨⟨_,rfl⟩,.inr ⟨_,⟨rest,by simp[z.out]⟩,r⟩⟩
theorem TN(n:Nat)(s:Bs)(a:Nat)(w:World):CallsIn Fence.wide n prog 142 #[Ha s,Z a] w fun e w'=>e= .returned (.func (.func 195) #[] #[.pointer (some ⟨w.heap.size+1,0,none⟩),.pointer (some ⟨w.heap.size,0,none⟩)])∧w'=(w.alloc (.cells #[Ha s] 9)).alloc (.cells #[Z a] 3):=by refine BZ func142 rfl trivial ?_ rfl;simp only[ntmps142,zV,UT,JU,Nat.reduceAdd,Nat.reduceSub,MW,NW,tX,YW,iV,TU];gi_wp2;go_ret;exact⟨rfl,rfl⟩
theorem sE(n:Nat)(E:1≤n)(b a f:Nat)(s:Bs)(F:s.length≤10000000)(c:Nat)(B:c≤1000000000)(xs:List (Nat×Nat))(i:bz s c xs)(w:World)(C:b<w.heap.size)(o:a<w.heap.size)(m:f≤w.heap.size) (g:w.cell? ⟨b,0,none⟩=some (Z c)) (j:w.cell? ⟨a,0,none⟩=some (Ha s)):SeqStopsK Fence.wide n prog 195 #[.pointer (some ⟨b,0,none⟩),.pointer (some ⟨a,0,none⟩)] YN (YD f a) (fun G=>G=xs) (fun pre=>pre<+:xs) xs.length w:=by intro l J q W d z _ A y;have v:=(d.cell (p:=⟨b,0,none⟩) C).trans g;have x:=(d.cell (p:=⟨a,0,none⟩) o).trans j;exact UN n E l b a f s F c B xs i J q (fun pre t u h hb=>z pre t u none h ⟨hb.os,hb.tape,hb.output,hb.size,fun k D _=>hb.block k D⟩ (fun r e=>by cases e)) A W (aV o d.size) (KT m d.size) v x y
def zn(l:List (Nat×Nat)):List Value:=l.map fun q=>Z (q.1:Nat)
def zd(a:Nat)(l:List (Nat×Nat)):Nat:=(l.getLast?.map (·.2)).getD a
theorem GC(a:Nat)(l:List (Nat×Nat))(q:Nat×Nat):zd a (l++[q])=q.2:=by simp[zd]
def Ay(b:Nat)(s:Bs)(a:Nat)(c:List (Nat×Nat)):aa:=aa.ex fun v=>ua 3 1 v c.length (zn c)*(ba b 35 #[v]*(ba (b+1) 3 #[Z (zd a c:Nat)]*(ba (b+2) 9 #[Ha s]*ba (b+3) 3 #[Z a])))
theorem GB(b:Nat)(s:Bs)(a:Nat)(c:List (Nat×Nat)):(Ay b s a c).mc:=aa.mc.ex fun _=>j9 (aa.mc.row _ _ _ _ _) (j9 (j8 _ _ _) (j9 (j8 _ _ _) (j9 (j8 _ _ _) (j8 _ _ _))))
def Hx(l:List Nat):List Value:=l.map fun(n:Nat)=>Z (n:Int)
theorem VP(s:Bs)(y:s.length≤10000000)(a:Nat)(ha:a≤s.length):Tr prog 96 #[Ha s,Z a] aa.emp (fun v:Value=> .tuple #[v,Z (gp s a).2]) (fun v=>ua 3 1 v (gp s a).1.length (Hx (gp s a).1)):=by
 intro w o0 r0 h0;obtain⟨i0,hi,S,T,U⟩:=info_parts Mi;obtain⟨xs,t,Q,R⟩:=yv s s.length a (by omega);have z:=(((ZZ w).new (.cells #[O none 0 0] 35)).new (.cells #[Z a] 3)).new (.cells #[Ha s] 9);have d:=z.new (.cells #[Z a] 3);rw[World.size_alloc,World.size_alloc]at d;rw[World.size_alloc]at d;refine(jZ (n:=5)).1 ?_;refine callsIn_of_wp_marks func96 rfl trivial ?_ rfl;simp only[ntmps96,zV,UT,JU,Nat.reduceAdd,Nat.reduceSub,MW,NW,tX,YW,iV,TU];gi_wp2;refine⟨trivial,?_⟩;refine(TN _ s a _).mono ?_;rintro e w' ⟨rfl,rfl⟩;gi_wp2;generalize G:(((w.alloc (.cells #[O none 0 0] 35)).alloc (.cells #[Z a] 3)).alloc (.cells #[Ha s] 9)).alloc (.cells #[Z a] 3)=L at*;have a6:L.heap.size=w.heap.size+4:=by rw[←G];simp
 have J0:Y w (fun _=>False) (fun _=>False) (Ay w.heap.size s a []) L:=by have J:=d.ya (A:=ba w.heap.size 35 #[O none 0 0]*(ba (w.heap.size+1) 3 #[Z a]*(ba (w.heap.size+2) 9 #[Ha s]*ba (w.heap.size+3) 3 #[Z a])));exact J.le (KZ (RZ trivial) (KZ (MZ (j0 3 1) (JZ _)) (SZ (A:=fun v=>ua 3 1 v 0 (zn [])*(ba w.heap.size 35 #[v]*(ba (w.heap.size+1) 3 #[Z (zd a []:Nat)]*(ba (w.heap.size+2) 9 #[Ha s]*ba (w.heap.size+3) 3 #[Z a])))) (O none 0 0))))
 have cT:L.cell? ⟨w.heap.size+2,0,none⟩=some (Ha s):=d.cells (w.heap.size+2) 0;have cF:L.cell? ⟨w.heap.size+3,0,none⟩=some (Z a):=d.cells (w.heap.size+3) 0;have a1:Below w.heap.size w L:=d.Sc;clear z d G h0;have F:1≤5:=by decide
 have a8:xs.length≤10000000:=by
  by_cases h:xs=[]
  ·rw[h];simp
  ·have:=oz xs a t h;omega
 refine wpIn_rangeFunc_ownG rfl F (gf:=195) (lb:=#[.pointer (some ⟨w.heap.size+3,0,none⟩),.pointer (some ⟨w.heap.size+2,0,none⟩)]) rfl trivial (enters_of func195 (by kernel_rfl) rfl) (sE 4 (by decide) (w.heap.size+3) (w.heap.size+2) w.heap.size s y a (by omega) xs t L (by omega) (by omega) (by omega) cF cT) YD.trans (YD.put (by omega) (by omega)) (mU _ _) (fun _=>rfl) (fun pre W=>Y w (fun _=>False) (fun _=>False) (Ay w.heap.size s a pre) W) (fun _ _ _=>False) (Y.VG (GB w.heap.size s a) _ _ _ _ (by omega)) (fun _ _ _ _ _ y _ _=>y) J0 (fun q=>{tmps:=#[Ha s,Z a,undef,undef,.pointer (some ⟨w.heap.size,0,none⟩),.pointer (some ⟨w.heap.size+1,0,none⟩),Z q.1,Z q.2,Z a,.bool (decide ((a:Int)<0)),.bool (decide ((a:Int)<0)),Z a,Ha s,Z s.length,.bool false,.bool (decide ((a:Int)<0)),Z a,Ha s,Z a,.func (.func 195) #[] #[.pointer (some ⟨w.heap.size+3,0,none⟩),.pointer (some ⟨w.heap.size+2,0,none⟩)],Z q.1,Z q.2,undef,undef,undef,undef,undef,undef,undef],defers:=[]}) ?assign ?body ?done ?stop;case assign=>intro l x W K m;unfold YN;gi_wp2;exact m
 case body=>
  rintro l pre ⟨f,g⟩ W ⟨o,r,⟨v,N⟩,hu⟩ a7;have K:=TZ N;obtain⟨_,A,c,rfl⟩:=K.Cd v;have d0:W.cell? ⟨w.heap.size,0,none⟩=some (O A pre.length c):=K.cells w.heap.size 0;have P:pre.length+1≤1000000000:=by omega
  gi_wp2_with (gi_at_builtin;go_loud (refine Br (v:=O A pre.length c) [Z f] 1 K rfl rfl underlying35 hi S T rfl rfl rfl rfl (by simp[Value.oneCell']) P (by rw[U];omega) ?_);intro j c' X i;have e0:X.cell? ⟨w.heap.size,0,none⟩=some (O A pre.length c):=i.cells w.heap.size 0;have B:=i.free w.heap.size 0;have C:X.cell? ⟨w.heap.size+1,0,none⟩=some _:=i.cells (w.heap.size+1) 0;have E:=i.free (w.heap.size+1) 0);have k:=(i.ra w.heap.size 0 (O j (pre.length+1) c') #[O j (pre.length+1) c']).ra (w.heap.size+1) 0 (Z g) #[Z g];have H:=K.wm (w.heap.size+2);have I:=k.wm (w.heap.size+2);refine⟨Y.jI N (j9 (aa.mc.row _ _ _ _ _) (j9 (j8 _ _ _) (j9 (j8 _ _ _) (j9 (j8 _ _ _) (j8 _ _ _))))) k _,⟨hu.BN k,I.trans H.symm⟩,?_⟩;refine UZ hu ?_;have K5:=k.ya (A:=ua 3 1 (O j (pre.length+1) c') (pre.length+1) (zn pre++[Z f])*(ba w.heap.size 35 #[O j (pre.length+1) c']*(ba (w.heap.size+1) 3 #[Z g]*(ba (w.heap.size+2) 9 #[Ha s]*ba (w.heap.size+3) 3 #[Z a]))));have e4:(pre++[(f,g)]).length=pre.length+1:=by simp
  have e5:zn (pre++[(f,g)])=zn pre++[Z f]:=by simp[zn]
  unfold Ay;rw[e4,e5,GC];exact K5.le (SZ (A:=fun v=>ua 3 1 v (pre.length+1) (zn pre++[Z f])*(ba w.heap.size 35 #[v]*(ba (w.heap.size+1) 3 #[Z g]*(ba (w.heap.size+2) 9 #[Ha s]*ba (w.heap.size+3) 3 #[Z a])))) _)
 case stop=>rintro D c pre W _ _ h _;exact h.elim
 case done=>
  rintro D b W hD rfl J m;unfold Ay at J;obtain⟨v,J⟩:=J.ex;obtain⟨_,A,c,rfl⟩:=J.Cd v;have d0:W.cell? ⟨w.heap.size,0,none⟩=some (O A b.length c):=J.cells w.heap.size 0;have d1:=J.free w.heap.size 0;have d2:W.cell? ⟨w.heap.size+1,0,none⟩=some _:=J.cells (w.heap.size+1) 0;have d3:=J.free (w.heap.size+1) 0;gi_wp2;refine wpIn_wide.2 ?_;go_region;have J2:=((J.ra w.heap.size 0 (O A b.length c) #[O A b.length c]).ra (w.heap.size+1) 0 (Z (zd a b)) #[Z (zd a b)]).drew;have p:(((W.setCell ⟨w.heap.size,0,none⟩ (O A b.length c)).setCell ⟨w.heap.size+1,0,none⟩ (Z (zd a b))).drew).heap[D]? =some (.deferred (some [])):=by show((W.setCell ⟨w.heap.size,0,none⟩ (O A b.length c)).setCell ⟨w.heap.size+1,0,none⟩ (Z (zd a b))).heap[D]? =_;rw[fX _ _ _ D (by show D≠w.heap.size+1;omega),fX _ _ _ D (by show D≠w.heap.size;omega)];exact m
  clear d0 d1 d2 d3 m;generalize((W.setCell ⟨w.heap.size,0,none⟩ (O A b.length c)).setCell ⟨w.heap.size+1,0,none⟩ (Z (zd a b))).drew=W2 at*;gi_wp2;refine⟨by simp,.inl ⟨_,_,rfl,run_takeDeferred p,?_⟩⟩;have M:(ba (w.heap.size+1) 3 #[Z (zd a b:Nat)]*(ba w.heap.size 35 #[O A b.length c]*ua 3 1 (O A b.length c) b.length (zn b))).mc:=j9 (j8 _ _ _) (j9 (j8 _ _ _) (aa.mc.row _ _ _ _ _));have u:=Y.mD M J2.ya (.deferred none) (by omega) p rfl;have b0:=u.cells w.heap.size 0;have b1:=u.cells (w.heap.size+1) 0;have B:(gp s a).2=zd a b:=R.symm;have C:(gp s a).1=b.map (·.1):=Q.symm;refine⟨.tuple #[O A b.length c,Z (zd a b)],by simp[results,results96,go_sem,b0,b1],O A b.length c,by rw[B],?_⟩;have E:Hx (b.map (·.1))=zn b:=by simp[Hx,zn,GY]
  rw[C,E,zU];exact u.ya.any o0 r0
end
section
open Go.RowKit An Go.ChangeShapes Go.WideShapes Go.ChangeAt Go.Proofs.Tryz
theorem vM(s:Bs)(n:Nat)(k:s.length≤10000000)(j:n<200):Tr prog 58 #[Ha s,Z n] aa.emp (fun v:Value=> .tuple #[v,Z (scan s n).2.1,.bool (scan s n).2.2]) (fun v=>ua 3 1 v (scan s n).1.length (Hx (scan s n).1)):=by
 intro w o p f;have I:=TZ f;have t0:=MK n j;have g:=Iu n;have t1:=jD s (Yb n);have t2:=jD (Yb n) s;have l:(Yb n==([]:Bs))=false:=by rw[ET];intro e;rw[e]at g;simp at g
 have d:scan s n=if(Yb n).isPrefixOf s then((gp s 12).1,(gp s 12).2,true)else if s.isPrefixOf (Yb n)then([],0,true)else([],0,false):=by unfold scan;rw[DT (by omega)]
 rw[d];have t3:=VP s k 12;generalize Yb n=H at*;clear d f;cases a:H.isPrefixOf s with
 |true=>
  have hle:12≤s.length:=by have:=(qX.1 a).length_le;omega
  have t3:=t3 hle;rw[a]at t1;rw[JT rfl];dsimp only;clear a;go_enter func58,ntmps58;go_wp2_with fail;refine I.kp t0 fun h c=> ?_;go_wp2_with fail;refine(t1 _).mono ?_;rintro e w' ⟨rfl,m,rfl⟩;go_wp2_with fail;refine((c.drewN m).call t3).mono ?_;rintro e w2 ⟨v,rfl,i⟩;go_wp2;go_ret3;exact⟨v,rfl,i.ya⟩
 |false=>
  rw[a]at t1;rw[DT (by simp)];cases b:s.isPrefixOf H with
  |true=>rw[b]at t2;rw[JT rfl];dsimp only;clear a b t3;go_enter func58,ntmps58;go_wp2_with fail;refine I.kp t0 fun h c=> ?_;go_wp2_with fail;refine(t1 _).mono ?_;rintro e w' ⟨rfl,m,rfl⟩;go_wp2_with fail;refine(t2 _).mono ?_;rintro e w' ⟨rfl,m2,rfl⟩;go_wp2;go_ret3;exact⟨O none 0 0,rfl,((c.drewN _).le (j0 3 1))⟩
  |false=>rw[b]at t2;rw[DT (by simp)];dsimp only;clear a b t3;go_enter func58,ntmps58;go_wp2_with fail;refine I.kp t0 fun h c=> ?_;go_wp2_with fail;refine(t1 _).mono ?_;rintro e w' ⟨rfl,m,rfl⟩;go_wp2_with fail;refine(t2 _).mono ?_;rintro e w' ⟨rfl,m2,rfl⟩;go_wp2;go_ret3;exact⟨O none 0 0,rfl,((c.drewN _).le (j0 3 1))⟩
end
end Go.Proofs.YteacbkflfafefaaGreatDoor
