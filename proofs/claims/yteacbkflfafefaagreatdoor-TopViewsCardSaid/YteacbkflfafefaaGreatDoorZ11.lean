/- Part 12 of 50 of the proof that TopViews returns true at every input: lemmas on the way; no condition. -/
import Derived.Test.YteacbkflfafefaaGreatDoorZ7
namespace Go.Proofs.YteacbkflfafefaaGreatDoor
set_option linter.all false
section
namespace An
open ja
def chain:List (ja→Nat×ja)→ja→Nat×ja
 |[],d=>(0,d)
 |g::r,d=>if(g d).1=0 then chain r (g d).2 else g d
theorem Wd{g:ja→Nat×ja}{r:List (ja→Nat×ja)}{d:ja}(h:(g d).1=0):chain (g::r) d=chain r (g d).2:=by rw[chain,JT h]
theorem Vd{g:ja→Nat×ja}{r:List (ja→Nat×ja)}{d:ja}(h:(g d).1≠0):chain (g::r) d=g d:=by rw[chain,DT h]
theorem nf(g:ja→Nat×ja)(d:ja):chain [g] d=g d:=by
 rw[chain];split
 ·rename_i h;rw[chain];exact sZ h.symm rfl
 ·rfl
theorem qt.trans{c d e:Ma}(h:qt c d)(k:qt d e):qt c e:=by
 rcases h with h|⟨A,g,j,B,rfl,rfl⟩
 ·exact .inl h
 ·rcases k with k|⟨i,qs,l,b,k1,rfl⟩
  ·simp at k
  ·rcases ud B with rfl|⟨f,x,rfl⟩
   ·obtain⟨rfl,a⟩:=gW k1 rfl;cases a;refine .inr ⟨A,qs,min j l,b,?_,rfl⟩;rw[QV]
   ·rw[←TU,←iU]at k1;obtain⟨a,_⟩:=gW k1 rfl;refine .inr ⟨A,g,j,f++qs::b,rfl,?_⟩;rw[←a];simp
theorem jQ{i:Nat}(h:i≤999999):Lg (Ca i)=true:=lq h
theorem Hj{i:Nat}(h:i≤999999):Ca i≠oa:=Sn (.inl rfl) h
theorem Pn{i j:Nat}(h:i≤999999)(k:j≤999999)(e:Ca i=Ca j):i=j:=(Mh (.inl rfl) (.inl rfl) h k e).2
def Ke(n:Bs):Prop:=∃i,i≤999999∧n=Ca i
theorem ik:¬Ke oa:=fun⟨_,h,e⟩=>Hj h e.symm
theorem Gf:¬Ke Va:=fun⟨_,h,e⟩=>oq (.inl rfl) h e.symm
theorem uf(n:Nat)(a:n≤999999):¬Ke (Ra n):=fun⟨_,h,e⟩=>by have:=(Mh (.inr (.inl rfl)) (.inl rfl) a h e).1;exact absurd this (by decide)
theorem Jk(n:Nat)(a:n≤999999):¬Ke (rb n):=fun⟨_,h,e⟩=>by have:=(Mh (.inr (.inr rfl)) (.inl rfl) a h e).1;exact absurd this (by decide)
section
variable {fs:Hb}{P:Ma}{T:Bs}{H:Option Bs}{y:Nat}
theorem Jc.last{A:Ma}{a:List Bs}(h:Jc fs (A++[a]) T H y):Na (Ca A.length) fs=some ⟨Lb A.length a++T,y⟩:=by have hm:=h.sub;simp only[CT,UT,JU]at hm;rw[h.get A.length (by omega),qW (by simp),JT (by simp)];simp
theorem Jc.next(h:Jc fs P T none y):Na (Ca P.length) fs=none:=by have hm:=h.sub;rw[h.get P.length (by omega),kW (VW _),JT rfl];rfl
theorem Jc.mB(f:Zb fs){A:Ma}{k qs:List Bs}{y':Nat}(h:Jc fs (A++[k]) T none y)(d:∀p∈qs,p.length≤2000)(g:Xa qs≤4096)(j:y'≤Xa qs):Jc (Ac (Ca A.length) ⟨Lb A.length qs,y'⟩ fs) (A++[qs]) [] none y':=by
 have hm:=h.sub;simp only[CT,UT,JU]at hm;refine⟨?_,?_,?_,by simp;omega,Oi,fun e=>absurd rfl e,fun _ e=>(by cases e),fun x a=>by simp at a;subst a;simpa using j⟩
 ·intro i hi;rw[Wc f];by_cases e:i=A.length
  ·subst e;rw[JT rfl,qW (by simp),JT (by simp)];simp
  ·rw[DT (fun c=>e (Pn hi (by omega) c)),h.get i hi];by_cases b:i<A.length
   ·rw[qW (by simp;omega),qW (by simp;omega),DT (by simp;omega),DT (by simp;omega),eW b,eW b]
   ·rw[kW (by simp;omega),kW (by simp;omega)];simp
 ·intro x a;rcases oU.1 a with a|a
  ·exact h.lF x (by simp[a])
  ·simp at a;subst a;exact d
 ·intro x a;rcases oU.1 a with a|a
  ·exact h.size x (by simp[a])
  ·simp at a;subst a;exact g
theorem Jc.bH(d:Zb fs)(h:Jc fs P [] none y)(g:P.length<200)(f:∀b,P.getLast? =some b→y=Xa b):Jc (Ac (Ca P.length) ⟨[],0⟩ fs) P [] (some []) y:=by
 refine⟨?_,h.lF,h.size,by simp;omega,h.DS,fun e=>absurd rfl e,fun x e=>(by cases e;exact⟨by simp,by simp,rfl,f⟩),h.VS⟩;intro i hi;rw[Wc d];by_cases e:i=P.length
 ·subst e;rw[JT rfl,kW (VW _),JT rfl];rfl
 ·rw[DT (fun c=>e (Pn hi (by omega) c)),h.get i hi];by_cases a:i<P.length
  ·rw[qW a,qW a]
  ·rw[kW a,kW a,DT e,DT e]
theorem Jc.oR(j:Zb fs)(h:Jc fs P [] H y)(l:P.length<200)(k:∀d,P.getLast? =some d→y=Xa d){p:Bs}(g:p.length≤2000):Jc (Ac (Ca P.length) ⟨Lb P.length [p],0⟩ fs) (P++[[p]]) [] none 0:=by
 refine⟨?_,?_,?_,by simp;omega,Oi,fun e=>absurd rfl e,fun _ e=>(by cases e),fun x a=>WT _⟩
 ·intro i hi;rw[Wc j];by_cases e:i=P.length
  ·subst e;rw[JT rfl,qW (by simp),JT (by simp)];simp
  ·rw[DT (fun f=>e (Pn hi (by omega) f)),h.get i hi];by_cases b:i<P.length
   ·rw[qW b,qW (by simp;omega),DT (show¬i+1=(P++[[p]]).length by simp;omega),eW b];split
    ·rename_i he;rw[k P[i] (by rw[sY,show P.length-1=i by omega,PT b]),EU]
    ·rfl
   ·rw[kW b,DT e,kW (by simp;omega)];simp
 ·intro x a;rcases oU.1 a with a|a
  ·exact h.lF x a
  ·simp at a;subst a;intro q c;simp at c;subst c;exact g
 ·intro x a;rcases oU.1 a with a|a
  ·exact h.size x a
  ·simp at a;subst a;simp only[Xa,pd,pj,EU,Ce];omega
end
structure Left(X:Bs→Prop)(d d':ja):Prop where
 down:d'.down=true
 cap:d'.cap=d.cap
 za:d'.za=d.za
 wf:d'.Wf
 off:d'.Ya=false
 get:∀n,¬X n→∃m,Na n d'.fa=(Na n d.fa).map (Lc · m)
structure We(X:Bs→Prop)(d d':ja):Prop where
 down:d'.down=false
 cap:d'.cap=d.cap
 za:d'.za=d.za
 wf:d'.Wf
 calm:d.Ya=false→d'.Ya=false
 get:∀n,¬X n→Na n d'.fa=Na n d.fa
theorem We.refl{X:Bs→Prop}{d:ja}(b:d.Wf)(a:d.down=false):We X d d:=⟨a,rfl,rfl,b,fun h=>h,fun _ _=>rfl⟩
theorem We.trans{X:Bs→Prop}{d a d2:ja}(h:We X d a)(k:We X a d2):We X d d2:=⟨k.down,k.cap.trans h.cap,k.za.trans h.za,k.wf,fun e=>k.calm (h.calm e),fun n b=>(k.get n b).trans (h.get n b)⟩
theorem We.left{X:Bs→Prop}{d a d2:ja}(h:We X d a)(k:Left X a d2):Left X d d2:=⟨k.down,k.cap.trans h.cap,k.za.trans h.za,k.wf,k.off,fun n b=>by obtain⟨m,e⟩:=k.get n b;exact⟨m,by rw[e,h.get n b]⟩⟩
theorem We.wide{X Yy:Bs→Prop}{d d1:ja}(h:We X d d1)(b:∀n,X n→Yy n):We Yy d d1:={h with get:=fun n a=>h.get n fun e=>a (b n e)}
theorem Left.wide{X Yy:Bs→Prop}{d d1:ja}(h:Left X d d1)(b:∀n,X n→Yy n):Left Yy d d1:={h with get:=fun n a=>h.get n fun e=>a (b n e)}
theorem We.up{X:Bs→Prop}{d a:ja}{fs:Hb}(h:Up d fs a)(b:∀n,¬X n→Na n fs=Na n d.fa):We X d a:=⟨h.down,h.cap,h.za,h.wf,h.calm,fun n c=>by rw[h.fa];exact b n c⟩
theorem Cr.left{X:Bs→Prop}{d a:ja}(h:Cr d a):Left X d a:=⟨h.down,h.cap,h.za,h.wf,h.off,fun n _=>h.get n⟩
theorem qN.part{X:Bs→Prop}{d:ja}{fs:Hb}{r:Nat×ja}(h:qN d fs r)(g:∀n,¬X n→Na n fs=Na n d.fa):(r.1=0∧r.2.fa=fs∧We X d r.2)∨(r.1=61∧d.Ya=true∧Left X d r.2∧∃f2,(f2=d.fa∨f2=fs)∧(∀n,∃m,Na n r.2.fa=(Na n f2).map (Lc · m))∧r.2.fa.length=f2.length∧∀n,Ia (zb n r.2.fa)≤Ia (zb n f2)):=by
 rcases h with⟨f,b⟩|⟨f,b,a|⟨d2,c,a2,a3,a4,a⟩⟩
 ·exact .inl ⟨f,b.fa,We.up b g⟩
 ·exact .inr ⟨f,b,a.left,_,.inl rfl,a.get,a.len,a.Ia⟩
 ·refine .inr ⟨f,b,⟨a.down,a.cap.trans a2,a.za.trans a3,a.wf,a.off,fun n i=> ?_⟩,fs,.inr rfl,?_,?_,?_⟩
  ·obtain⟨m,e⟩:=a.get n;exact⟨m,by rw[e,c,g n i]⟩
  ·rw[←c];exact a.get
  ·rw[←c];exact a.len
  ·rw[←c];exact a.Ia
end An
end
namespace An
open ja
def zc(P:Ma)(d:ja):Nat×ja:=if P.isEmpty then(0,d)else d.sync (Ca (P.length-1))
def Wb(P:Ma)(p:Bs)(d:ja):Nat×ja:=if Gp P p then(if d.free-(p.length+12:Nat)<6000 then(60,d)else d.append (Ca (P.length-1)) (ue p))else
 if 200≤P.length∨d.free-(p.length+24:Nat)<6000 then(60,d)else
 chain [zc P,fun d=>d.create (Ca P.length),fun d=>d.append (Ca P.length) (Yb P.length++ue p)] d
def zo(P:Ma)(y:Nat)(Q:Ma)(fs:Hb):Prop:=∃a T H y',Jc fs a T H y'∧qt a Q∧(∀b,Qk P y b→qt b a)∧∀c,a.getLast? =some c→Xa c≤y'
theorem Ki{fs:Hb}(a:Zb fs){m:Bs}{f:jc}(n:Bs)(h:n≠m):Na n (Ac m f fs)=Na n fs:=by rw[Wc a,DT h]
theorem Fo{fs:Hb}(b:Zb fs){i:Nat}(hi:i≤999999){f:jc}:∀n,¬Ke n→Na n (Ac (Ca i) f fs)=Na n fs:=fun n a=>Ki b n fun e=>a ⟨i,hi,e⟩
structure Small(U L:Nat)(fs:Hb):Prop where
 Ia:∀n,Ia (zb n fs)≤U
 len:fs.length≤L
theorem jy{d:ja}(c:d.Wf)(o:d.down=false){P:Ma}{y:Nat}(b:Jc d.fa P [] none y):((zc P d).1=0∧We Ke d (zc P d).2∧(∃y',Jc (zc P d).2.fa P [] none y'∧∀a,P.getLast? =some a→y'=Xa a)∧An.Ia (zc P d).2.fa=An.Ia d.fa∧(zc P d).2.fa.length=d.fa.length)∨((zc P d).1=61∧d.Ya=true∧Left Ke d (zc P d).2∧zo P y P (zc P d).2.fa∧Small (An.Ia d.fa) d.fa.length (zc P d).2.fa):=by
 rcases ud P with rfl|⟨A,a,rfl⟩
 ·exact .inl ⟨rfl,We.refl c o,⟨y,b,by simp⟩,rfl,rfl⟩
 ·have hm:=b.sub;simp only[CT,UT,JU]at hm;have g:=b.last;rw[EU]at g;have e:zc (A++[a]) d=d.sync (Ca A.length):=by simp[zc]
  rw[e];have s:=dg c.Db g;have No:=b.mB (y':=Xa a) c.Db (b.lF a (by simp)) (b.size a (by simp)) (FT _);have m:An.Ia (Ac (Ca A.length) ⟨Lb A.length a,(Lb A.length a).length⟩ d.fa)=An.Ia d.fa:=by rw[eh c.Db,s]
  have l:(Ac (Ca A.length) (⟨Lb A.length a,(Lb A.length a).length⟩:jc) d.fa).length=d.fa.length:=Bg c.Db g;rcases(iy c o g).part (X:=Ke) (Fo c.Db (by omega))with⟨h,f,i⟩|⟨h,f,i,f2,j,k,t,u⟩
  ·refine .inl ⟨h,i,⟨Xa a,?_,by simp⟩,by rw[f];exact m,by rw[f];exact l⟩;rw[f];simp only[Ze];exact No
  ·refine .inr ⟨h,f,i,?_,fun n=> ?_,?_⟩
   ·rcases j with rfl|rfl
    ·exact b.Ve k
    ·simp only[Ze]at k;obtain⟨p,T,H,y',r,a2,a3,a4⟩:=No.Ve k;exact⟨p,T,H,y',r,a2,fun q v=>a3 q (v.pre.rz (by simp)),a4⟩
   ·refine KT (u n) (KT (Nb _ _) ?_);rcases j with rfl|rfl
    ·exact FT _
    ·exact vW m
   ·rw[t];rcases j with rfl|rfl
    ·exact FT _
    ·exact vW l
theorem Qk.fits{A:Ma}{a:List Bs}{p:Bs}{y:Nat}{d:Ma}(h:Qk (A++[a]) y d):Qk (A++[a++[p]]) y d:=by
 rcases h with h|⟨g,qs,j,B,f,b,k⟩
 ·exact .inl h
 ·rcases ud B with rfl|⟨i,x,rfl⟩
  ·obtain⟨rfl,c⟩:=gW b rfl;cases c;have e:(a++[p]).take (min j a.length)=a.take j:=by rw[lV (dX _ _),eY];omega
   exact .inr ⟨A,a++[p],min j a.length,[],by rw[e];exact f,rfl,fun _=>by rw[e];exact k rfl⟩
  ·rw[←TU,←iU]at b;obtain⟨c,_⟩:=gW b rfl;exact .inr ⟨g,qs,j,i++[a++[p]],f,by rw[c];simp,fun h=>by simp at h⟩
theorem Qk.more{P a:Ma}{y y':Nat}{p:List Bs}(h:Qk P y a):Qk (P++[p]) y' a:=by
 rcases h with h|⟨A,c,j,B,b,rfl,d⟩
 ·exact .inl h
 ·exact .inr ⟨A,c,j,B++[p],b,by simp,fun h=>by simp at h⟩
theorem Qk.full{P b:Ma}{y y':Nat}(h:Qk P y b)(d:∀a,P.getLast? =some a→y'=Xa a):Qk P y' b:=h.pre.rz fun a c=>vW (d a c).symm
theorem gw{fs:Hb}(a:Zb fs){n s:Bs}{f:jc}(h:Na n fs=some f):Ia (Ac n ⟨f.data++s,f.ib⟩ fs)=Ia fs+s.length:=by rw[eh a,dg a h,CT];omega
theorem gE{d:ja}(D:d.Wf)(hd:d.down=false){P:Ma}{y:Nat}(B:Jc d.fa P [] none y){p:Bs}(hp:p.length≤2000)(hc:d.fa.length<400):(Wb P p d=(60,d)∧((d.free:Int)<6000+2024∨200≤P.length))∨((Wb P p d).1=0∧We Ke d (Wb P p d).2∧(∃y',Jc (Wb P p d).2.fa (zk P p) [] none y'∧∀c,Qk P y c→Qk (zk P p) y' c)∧An.Ia (Wb P p d).2.fa≤An.Ia d.fa+2024∧An.Ia (Wb P p d).2.fa+6000≤d.cap∧(Wb P p d).2.fa.length≤d.fa.length+1)∨((Wb P p d).1=61∧d.Ya=true∧Left Ke d (Wb P p d).2∧zo P y (zk P p) (Wb P p d).2.fa∧(∃U,U+6000≤d.cap∧U≤An.Ia d.fa+2024∧Small U (d.fa.length+1) (Wb P p d).2.fa)):=by
 have ak:=D.Ia;by_cases W:Gp P p=true
 ·have E:=W;unfold Gp fits at E;simp only[aU,bU,TW,List.isEmpty_eq_false_iff]at E;rcases ud P with rfl|⟨A,j,rfl⟩
  ·exact absurd rfl E.1
  have G:ah (A++[j])=j:=by simp[ah]
  rw[G]at E;have hm:=B.sub;simp only[CT,UT,JU]at hm;have hg:=B.last;rw[EU]at hg;have K:zk (A++[j]) p=A++[j++[p]]:=by unfold zk;rw[JT W,G];simp
  have ea:Wb (A++[j]) p d=if d.free-(p.length+12:Nat)<6000 then(60,d)else d.append (Ca A.length) (ue p):=by unfold Wb;rw[JT W];simp
  rw[K,ea];by_cases C:d.free-(p.length+12:Nat)<6000
  ·rw[JT C];exact .inl ⟨rfl,.inl (by omega)⟩
  ·rw[DT C];right;have a6:(An.Ia d.fa:Int)+p.length+12+6000≤d.cap:=by unfold ja.free at C;omega
   have aj:=Ce p;have a7:∀q∈j++[p],q.length≤2000:=by
    intro q k;rcases oU.1 k with k|k
    ·exact B.lF j (by simp) q k
    ·simp at k;subst k;exact hp
   have a8:=B.VS j (by simp);simp only[JU,lX]at a8;have No:=B.mB (qs:=j++[p]) (y':=y) D.Db a7 (by rw[Is];omega) (by rw[Is];omega);have S:Lb A.length (j++[p])=Lb A.length j++ue p:=by simp[Lb,Ck,pd,pj]
   rw[S]at No;have x:=gw D.Db (s:=ue p) hg;have Q:=Bg D.Db (f':=⟨Lb A.length j++ue p,y⟩) hg;rcases(Bo D hd hg (s:=ue p) (by unfold ja.free;omega)).part (X:=Ke) (Fo D.Db (by omega))with⟨m,b,w⟩|⟨m,b,w,f2,a,r,M,N⟩
   ·refine .inl ⟨m,w,⟨y,by rw[b];exact No,fun c h=>h.fits⟩,?_,?_,?_⟩
    ·rw[b,x];omega
    ·rw[b,x];omega
    ·rw[b,Q];omega
   ·refine .inr ⟨m,b,w,?_,An.Ia d.fa+(p.length+12),by omega,by omega,fun n=> ?_,?_⟩
    ·rcases a with rfl|rfl
     ·obtain⟨f,T,H,y',g,a2,a3,a4⟩:=B.Ve r;have:=FC (A++[j]) p;rw[K]at this;exact⟨f,T,H,y',g,a2.trans this,a3,a4⟩
     ·obtain⟨f,T,H,y',g,a2,a3,a4⟩:=No.Ve r;exact⟨f,T,H,y',g,a2,fun c h=>a3 c h.fits,a4⟩
    ·refine KT (N n) (KT (Nb _ _) ?_);rcases a with rfl|rfl
     ·omega
     ·rw[x];omega
    ·rw[M];rcases a with rfl|rfl
     ·omega
     ·rw[Q];omega
 ·have K:zk P p=P++[[p]]:=by unfold zk;rw[DT W]
  have ea:Wb P p d=if 200≤P.length∨d.free-(p.length+24:Nat)<6000 then(60,d)else chain [zc P,fun d=>d.create (Ca P.length),fun d=>d.append (Ca P.length) (Yb P.length++ue p)] d:=by unfold Wb;rw[DT W]
  rw[K,ea];by_cases C:200≤P.length∨d.free-(p.length+24:Nat)<6000
  ·rw[JT C];exact .inl ⟨rfl,by omega⟩
  ·rw[DT C];right;have a6:(An.Ia d.fa:Int)+p.length+24+6000≤d.cap:=by unfold ja.free at C;omega
   have R:P.length<200:=by omega
   have o:qt P (P++[[p]]):=by have:=FC P p;rwa [K]at this
   rcases jy D hd B with⟨m,k1,⟨y1,J,l⟩,u1,n1⟩|⟨m,F,k1,J,s1⟩
   ·rw[Wd m];generalize(zc P d).2=d1 at*;clear m;have e:=k1.wf;have t:=J.next;rw[←k1.cap]at a6;rcases(Hs e k1.down (jQ (i:=P.length) (by omega)) t (by omega)).part (X:=Ke) (Fo e.Db (by omega))with⟨L,b,I⟩|⟨L,b,I,f2,a,r,M,N⟩
    ·have l2:Jc (d1.create (Ca P.length)).2.fa P [] (some []) y1:=by rw[b];exact J.bH e.Db R l
     rw[Wd L,nf];have u2:An.Ia (d1.create (Ca P.length)).2.fa=An.Ia d1.fa:=by rw[b,eh e.Db,Ob t];exact BU _
     have n2:(d1.create (Ca P.length)).2.fa.length=d1.fa.length+1:=by rw[b,(Oc e.Db).length_eq,Ob t,UT]
     have g2:Na (Ca P.length) (d1.create (Ca P.length)).2.fa=some ⟨[],0⟩:=by rw[b,Wc e.Db,JT rfl]
     generalize(d1.create (Ca P.length)).2=d2 at*;clear L b;have u:=I.wf;have v:=k1.trans I;rw[←I.cap]at a6;have S:Lb P.length [p]=[]++(Yb P.length++ue p):=by simp[Lb,pd,pj]
     have hlen:(Yb P.length++ue p).length=p.length+24:=by rw[CT,Pd,Ce];omega
     have No:=l2.oR u.Db R l hp;rw[S]at No;have x:=gw u.Db (s:=Yb P.length++ue p) g2;have Q:=Bg u.Db (f':=⟨[]++(Yb P.length++ue p),0⟩) g2;rcases(Bo u I.down g2 (s:=Yb P.length++ue p) (by unfold ja.free;rw[hlen];omega)).part (X:=Ke) (Fo u.Db (by omega))with⟨w,a,k3⟩|⟨w,F,k3,f2,a,r,M,N⟩
     ·refine .inl ⟨w,v.trans k3,⟨0,by rw[a];exact No,fun c h=>h.more⟩,?_,?_,?_⟩
      ·rw[a,x,hlen];omega
      ·rw[a,x,hlen,←v.cap];omega
      ·rw[a,Q];omega
     ·have z:d.Ya=true:=by
       cases k:d.Ya with
       |true=>rfl
       |false=>rw[v.calm k]at F;exact absurd F (by simp)
      have hc:=v.cap;refine .inr ⟨w,z,v.left k3,?_,An.Ia d.fa+(p.length+24),by omega,by omega,fun n=> ?_,?_⟩
      ·rcases a with rfl|rfl
       ·obtain⟨f,T,H,y',g,a2,a3,a4⟩:=l2.Ve r;exact⟨f,T,H,y',g,a2.trans o,fun c h=>a3 c (h.full l),a4⟩
       ·obtain⟨f,T,H,y',g,a2,a3,a4⟩:=No.Ve r;exact⟨f,T,H,y',g,a2,fun c h=>a3 c h.more,a4⟩
      ·refine KT (N n) (KT (Nb _ _) ?_);rcases a with rfl|rfl
       ·omega
       ·rw[x,hlen];omega
      ·rw[M];rcases a with rfl|rfl
       ·omega
       ·rw[Q];omega
    ·rw[Vd (by rw[L];simp)];have z:d.Ya=true:=by
      cases k:d.Ya with
      |true=>rfl
      |false=>rw[k1.calm k]at b;exact absurd b (by simp)
     have hc:=k1.cap;refine .inr ⟨L,z,k1.left I,?_,An.Ia d.fa,by omega,by omega,fun n=> ?_,?_⟩
     ·rcases a with rfl|rfl
      ·obtain⟨f,T,H,y',g,a2,a3,a4⟩:=J.Ve r;exact⟨f,T,H,y',g,a2.trans o,fun c h=>a3 c (h.full l),a4⟩
      ·obtain⟨f,T,H,y',g,a2,a3,a4⟩:=(J.bH e.Db R l).Ve r;exact⟨f,T,H,y',g,a2.trans o,fun c h=>a3 c (h.full l),a4⟩
     ·refine KT (N n) (KT (Nb _ _) ?_);rcases a with rfl|rfl
      ·omega
      ·rw[eh e.Db,Ob t];show 0+_≤_;omega
     ·rw[M];rcases a with rfl|rfl
      ·omega
      ·rw[(Oc e.Db).length_eq,Ob t,UT];omega
   ·rw[Vd (by rw[m];simp)];refine .inr ⟨m,F,k1,?_,An.Ia d.fa,by omega,by omega,s1.Ia,KT s1.len (fV _)⟩;obtain⟨f,T,H,y',g,a2,a3,a4⟩:=J;exact⟨f,T,H,y',g,a2.trans o,a3,a4⟩
end An
namespace An
open ja
def yg(n s:Bs)(d:ja):Nat×ja:=chain [fun d=>d.create oa,fun d=>d.append oa s,fun d=>d.sync oa,fun d=>d.rename oa n] d
def Xf(d:ja):Nat×ja:=if(Na oa d.fa).isSome then d.delete oa else(0,d)
def ai(P:Ma)(T:Bs)(H:Option Bs)(d:ja):Nat×ja:=match H with
 |some _=>d.delete (Ca P.length)
 |none=>match P.getLast? with
  |none=>(0,d)
  |some a=>if T.isEmpty then d.sync (Ca (P.length-1))else yg (Ca (P.length-1)) (Lb (P.length-1) a) d
def Gc(P:Ma)(T:Bs)(H:Option Bs)(d:ja):Nat×ja:=chain [Xf,ai P T H] d
def Fl(n:Bs):Prop:=n=oa
def wg(n:Bs):Prop:=Ke n∨n=oa
theorem lQ:Lg oa=true:=by decide
theorem Small.wide{U L b a:Nat}{fs:Hb}(h:Small U L fs)(d:U≤b)(c:L≤a):Small b a fs:=⟨fun n=>KT (h.Ia n) d,KT h.len c⟩
theorem We.fl{X:Bs→Prop}{d a:ja}(h:We X d a)(k:a.Ya=true):d.Ya=true:=by
 cases b:d.Ya with
 |true=>rfl
 |false=>rw[h.calm b]at k;exact absurd k (by simp)
theorem eg{fs:Hb}(a:Zb fs)(n:Bs)(f:jc):Ia (zb n (Ac n f fs))=Ia (zb n fs):=by
 have b:Na n (Ac n f fs)=some f:=by rw[Wc a,JT rfl]
 have c:=dg (Oe a n f) b;have d:=eh a n f;omega
theorem Dp{fs:Hb}(a:Zb fs){n:Bs}{f:jc}(h:Na n fs=some f):Ia (zb n fs)+f.data.length=Ia fs:=by have:=dg a h;omega
theorem jz(a b:Bs)(fs:Hb):zb a (zb b fs)=zb b (zb a fs):=by unfold zb;rw[xY,xY];congr 1;funext p;exact Bool.and_comm _ _
theorem GJ{d:ja}(t:d.Wf)(J:d.down=false){n s:Bs}{f:jc}(K:Na n d.fa=some f)(D:Lg n=true)(h:oa≠n)(l:Na oa d.fa=none) (E:(s.length:Int)≤d.free) (N:s.length≤f.data.length) (I:d.fa.length<400):((yg n s d).1=0∧We (fun m=>m=n∨m=oa) d (yg n s d).2∧Na n (yg n s d).2.fa=some ⟨s,s.length⟩∧Na oa (yg n s d).2.fa=none∧An.Ia (yg n s d).2.fa≤An.Ia d.fa∧(yg n s d).2.fa.length≤d.fa.length)∨((yg n s d).1=61∧d.Ya=true∧Left Fl d (yg n s d).2∧Ia (zb oa (yg n s d).2.fa)≤An.Ia d.fa∧(yg n s d).2.fa.length≤d.fa.length+1)∨((yg n s d).1=61∧d.Ya=true∧Left (fun m=>m=n∨m=oa) d (yg n s d).2∧Na n (yg n s d).2.fa=some ⟨s,s.length⟩∧Ia (zb oa (yg n s d).2.fa)≤An.Ia d.fa∧(yg n s d).2.fa.length≤d.fa.length+1):=by
 unfold yg;have z:∀ {fs:Hb},Zb fs→∀ {f:jc} (m:Bs),¬Fl m→Na m (Ac oa f fs)=Na m fs:=fun L _ m hm=>Ki L m hm;rcases(Hs t J lQ l I).part (X:=Fl) (z t.Db)with⟨a,f1,k1⟩|⟨a,o,k1,f2,i,a2,a3,a4⟩;case inr=>
  rw[Vd (by rw[a];simp)];refine .inr (.inl ⟨a,o,k1,KT (a4 oa) ?_,?_⟩)
  ·rcases i with rfl|rfl
   ·exact Nb _ _
   ·rw[eg t.Db];exact Nb _ _
  ·rw[a3];rcases i with rfl|rfl
   ·omega
   ·rw[(Oc t.Db).length_eq,Ob l,UT];omega
 rw[Wd a];have g1:Na oa (d.create oa).2.fa=some ⟨[],0⟩:=by rw[f1,Wc t.Db,JT rfl]
 have v1:Ia (zb oa (d.create oa).2.fa)=An.Ia d.fa:=by rw[f1,eg t.Db,Ob l]
 have u1:An.Ia (d.create oa).2.fa=An.Ia d.fa:=by have:=Dp k1.wf.Db g1;rw[v1]at this;exact this.symm
 have G:(d.create oa).2.fa.length=d.fa.length+1:=by rw[f1,(Oc t.Db).length_eq,Ob l,UT]
 have m1:Na n (d.create oa).2.fa=some f:=by rw[k1.get n (fun e=>h e.symm)];exact K
 generalize(d.create oa).2=d1 at*;clear a f1;have b:=k1.wf;rcases(Bo b k1.down g1 (s:=s) (by unfold ja.free at E⊢;rw[u1,k1.cap];exact E)).part (X:=Fl) (z b.Db)with⟨a,f1,u⟩|⟨a,o,u,f2,i,a2,a3,a4⟩;case inr=>
  rw[Vd (by rw[a];simp)];refine .inr (.inl ⟨a,k1.fl o,k1.left u,KT (a4 oa) ?_,?_⟩)
  ·rcases i with rfl|rfl
   ·rw[v1];exact FT _
   ·rw[eg b.Db,v1];exact FT _
  ·rw[a3];rcases i with rfl|rfl
   ·omega
   ·rw[Bg b.Db g1];omega
 rw[Wd a];have g2:Na oa (d1.append oa s).2.fa=some ⟨s,0⟩:=by rw[f1,Wc b.Db,JT rfl];rfl
 have v2:Ia (zb oa (d1.append oa s).2.fa)=An.Ia d.fa:=by rw[f1,eg b.Db,v1]
 have H:(d1.append oa s).2.fa.length=d.fa.length+1:=by rw[f1,Bg b.Db g1];exact G
 have m2:Na n (d1.append oa s).2.fa=some f:=by rw[u.get n (fun e=>h e.symm)];exact m1
 have k:=k1.trans u;generalize(d1.append oa s).2=d2 at*;clear a f1 k1 u g1 v1 u1 G m1 b;have c:=k.wf;rcases(iy c k.down g2).part (X:=Fl) (z c.Db)with⟨a,f1,v⟩|⟨a,o,v,f2,i,a2,a3,a4⟩;case inr=>
  rw[Vd (by rw[a];simp)];refine .inr (.inl ⟨a,k.fl o,k.left v,KT (a4 oa) ?_,?_⟩)
  ·rcases i with rfl|rfl
   ·rw[v2];exact FT _
   ·rw[eg c.Db,v2];exact FT _
  ·rw[a3];rcases i with rfl|rfl
   ·omega
   ·rw[Bg c.Db g2];omega
 rw[Wd a,nf];have g3:Na oa (d2.sync oa).2.fa=some ⟨s,s.length⟩:=by rw[f1,Wc c.Db,JT rfl]
 have v3:Ia (zb oa (d2.sync oa).2.fa)=An.Ia d.fa:=by rw[f1,eg c.Db,v2]
 have M:(d2.sync oa).2.fa.length=d.fa.length+1:=by rw[f1,Bg c.Db g2];exact H
 have m3:Na n (d2.sync oa).2.fa=some f:=by rw[v.get n (fun e=>h e.symm)];exact m2
 have g:=k.trans v;generalize(d2.sync oa).2=d3 at*;clear a f1 k v g2 v2 H m2 c;have q:=g.wf;have hb:Na n (zb oa (zb n d3.fa))=none:=by rw[Nc,DT (fun e=>h e.symm),Nc,JT rfl]
 have p:=Me (Me q.Db n) oa;have y:Na n (zb oa d3.fa)=some f:=by rw[Nc,DT (fun e=>h e.symm)];exact m3
 have P:Ia (zb oa (zb n d3.fa))+f.data.length=An.Ia d.fa:=by rw[jz,←v3];exact Dp (Me q.Db oa) y
 have w:An.Ia (Ac n ⟨s,s.length⟩ (zb oa (zb n d3.fa)))≤An.Ia d.fa:=by rw[eh p,Ob hb];simp only;omega
 have B:(Ac n (⟨s,s.length⟩:jc) (zb oa (zb n d3.fa))).length≤d.fa.length:=by rw[(Oc p).length_eq,Ob hb,UT];have a:=dk (Pb q.Db) g3;have Q:=dk (Pb (Me q.Db oa)) y;rw[jz];omega
 have x:Na n (Ac n (⟨s,s.length⟩:jc) (zb oa (zb n d3.fa)))=some ⟨s,s.length⟩:=by rw[Wc p,JT rfl]
 have C:Na oa (Ac n (⟨s,s.length⟩:jc) (zb oa (zb n d3.fa)))=none:=by rw[Wc p,DT h,Nc,JT rfl]
 have A:∀m,¬ (m=n∨m=oa)→Na m (Ac n (⟨s,s.length⟩:jc) (zb oa (zb n d3.fa)))=Na m d3.fa:=by intro m hm;rw[Wc p,DT (fun e=>hm (.inl e)),Nc,DT (fun e=>hm (.inr e)),Nc,DT (fun e=>hm (.inl e))]
 have F:=g.wide (Yy:=fun m=>m=n∨m=oa) (fun m hm=> .inr hm);rcases(Wx q g.down g3 D h).part (X:=fun m=>m=n∨m=oa) A with⟨a,f1,r⟩|⟨a,o,r,f2,i,a2,a3,a4⟩
 ·refine .inl ⟨a,F.trans r,?_,?_,?_,?_⟩
  ·rw[f1];exact x
  ·rw[f1];exact C
  ·rw[f1];exact w
  ·rw[f1];exact B
 ·rcases i with rfl|rfl
  ·refine .inr (.inl ⟨a,g.fl o,⟨r.down,r.cap.trans g.cap,r.za.trans g.za,r.wf,r.off,fun m hm=> ?_⟩,by rw[←v3];exact a4 oa,by rw[a3,M];exact FT _⟩);obtain⟨j,e⟩:=a2 m;exact⟨j,by rw[e,g.get m hm]⟩
  ·refine .inr (.inr ⟨a,g.fl o,F.left r,?_,KT (a4 oa) (KT (Nb _ _) w),by rw[a3];omega⟩);obtain⟨j,e⟩:=a2 n;rw[e,x];simp only[KU];rw[oe rfl]
theorem Ht{d:ja}{f:jc}(h:Na oa d.fa=some f):Xf d=d.delete oa:=by unfold Xf;rw[h];rfl
theorem Ko{d:ja}(h:Na oa d.fa=none):Xf d=(0,d):=by unfold Xf;rw[h];rfl
theorem Dv{d:ja}(g:d.Wf)(e:d.down=false):((Xf d).1=0∧We Fl d (Xf d).2∧Na oa (Xf d).2.fa=none∧An.Ia (Xf d).2.fa=Ia (zb oa d.fa)∧(Xf d).2.fa.length≤d.fa.length)∨((Xf d).1=61∧d.Ya=true∧Left Fl d (Xf d).2∧Ia (zb oa (Xf d).2.fa)≤Ia (zb oa d.fa)∧(Xf d).2.fa.length≤d.fa.length):=by
 cases a:Na oa d.fa with
 |none=>rw[Ko a];exact .inl ⟨rfl,We.refl g e,a,by rw[Ob a],FT _⟩
 |some f=>
  rw[Ht a];rcases(Ho g e a).part (X:=Fl) (fun m hm=>by rw[Nc,DT (show¬m=oa from hm)])with⟨b,f1,k1⟩|⟨b,h,k1,f2,c,a2,a3,a4⟩
  ·refine .inl ⟨b,k1,?_,?_,?_⟩
   ·rw[f1,Nc,JT rfl]
   ·rw[f1]
   ·rw[f1];exact DU _ _
  ·refine .inr ⟨b,h,k1,KT (a4 oa) ?_,?_⟩
   ·rcases c with rfl|rfl
    ·exact FT _
    ·exact Nb _ _
   ·rw[a3];rcases c with rfl|rfl
    ·exact FT _
    ·exact DU _ _
theorem QL{d:ja}(hw:d.Wf)(U:d.down=false){P:Ma}{T:Bs}{H:Option Bs}{y:Nat}(r:Jc d.fa P T H y)(W:Ia (zb oa d.fa)+6000≤d.cap)(hc:d.fa.length<400):((Gc P T H d).1=0∧We wg d (Gc P T H d).2∧(∃y',Jc (Gc P T H d).2.fa P [] none y'∧∀c,P.getLast? =some c→y'=Xa c)∧Na oa (Gc P T H d).2.fa=none∧An.Ia (Gc P T H d).2.fa≤Ia (zb oa d.fa)∧(Gc P T H d).2.fa.length≤d.fa.length)∨((Gc P T H d).1=61∧d.Ya=true∧Left wg d (Gc P T H d).2∧zo P y P (Gc P T H d).2.fa∧Ia (zb oa (Gc P T H d).2.fa)≤Ia (zb oa d.fa)∧(Gc P T H d).2.fa.length≤d.fa.length+1):=by
 unfold Gc;have N:∀m,Fl m→wg m:=fun m h=> .inr h;have z:∀m,Ke m→wg m:=fun m h=> .inl h;have w:∀i,i≤999999→¬Fl (Ca i):=fun i hi e=>Hj hi e;rcases Dv hw U with⟨u,k1,g1,u1,M⟩|⟨u,q,k1,u1,M⟩;case inr=>rw[Vd (by rw[u];simp)];refine .inr ⟨u,q,k1.wide N,r.sA fun i hi=>k1.get _ (w i hi),u1,by omega⟩
 rw[Wd u,nf];have f:Jc (Xf d).2.fa P T H y:=r.frame fun i hi=>k1.get _ (w i hi);generalize(Xf d).2=d1 at*;clear u r;have l:=k1.wf;have t:=k1.wide N;rw[←u1];have a7:An.Ia d1.fa+6000≤d1.cap:=by rw[u1,k1.cap];exact W
 have a6:∀ {fs:Hb},An.Ia fs≤An.Ia d1.fa→∀ {B:Hb},(∀n,Ia (zb n B)≤Ia (zb n fs))→Ia (zb oa B)≤An.Ia d1.fa:=fun h _ k=>KT (k oa) (KT (Nb _ _) h);cases Q:H with
 |some x=>
  subst Q;have R:=f.head x rfl;have hm:=f.many;simp only[Option.isSome_some,dZ]at hm;obtain rfl:T=[]:=R.2.2.1;have J:Na (Ca P.length) d1.fa=some ⟨x,x.length⟩:=by rw[f.get P.length (by omega),kW (VW _),JT rfl];rfl
  have v:Jc (zb (Ca P.length) d1.fa) P [] none y:=by
   refine⟨fun i hi=> ?_,f.lF,f.size,by simp;omega,Oi,fun e=>absurd rfl e,fun _ e=>(by cases e),f.VS⟩;rw[Nc];by_cases e:i=P.length
   ·subst e;rw[JT rfl,kW (VW _),JT rfl];rfl
   ·rw[DT (fun F=>e (Pn hi (by omega) F)),f.get i hi];by_cases r:i<P.length
    ·rw[qW r,qW r]
    ·rw[kW r,kW r,DT e,DT e]
  show((d1.delete (Ca P.length)).1=0∧_)∨_;rcases(Ho l k1.down J).part (X:=Ke) (fun m hm=>by rw[Nc,DT (fun e=>hm ⟨_,by omega,e⟩)])with⟨k,f2,g⟩|⟨k,q,g,f2,o,a2,a3,a4⟩
  ·refine .inl ⟨k,t.trans (g.wide z),⟨y,?_,R.2.2.2⟩,?_,?_,?_⟩
   ·show Jc (d1.delete (Ca P.length)).2.fa P [] none y;rw[f2];exact v
   ·show Na oa (d1.delete (Ca P.length)).2.fa=none;rw[g.get _ ik];exact g1
   ·show An.Ia (d1.delete (Ca P.length)).2.fa≤_;rw[f2];exact Nb _ _
   ·show(d1.delete (Ca P.length)).2.fa.length≤_;rw[f2];exact KT (DU _ _) M
  ·refine .inr ⟨k,k1.fl q,t.left (g.wide z),?_,?_,?_⟩
   ·show zo P y P (d1.delete (Ca P.length)).2.fa;rcases o with rfl|rfl
    ·exact f.Ve a2
    ·exact v.Ve a2
   ·show Ia (zb oa (d1.delete (Ca P.length)).2.fa)≤_;refine KT (a4 oa) ?_;rcases o with rfl|rfl
    ·exact Nb _ _
    ·exact KT (Nb _ _) (Nb _ _)
   ·show(d1.delete (Ca P.length)).2.fa.length≤_;rw[a3];rcases o with rfl|rfl
    ·omega
    ·have:=DU (fun p:Bs×jc=>decide (p.1≠Ca P.length)) d1.fa;unfold zb;omega
 |none=>
  subst Q;rcases ud P with rfl|⟨A,c,rfl⟩
  ·refine .inl ⟨rfl,t,⟨y,?_,by simp⟩,g1,FT _,M⟩;show Jc d1.fa [] [] none y;refine⟨fun i hi=> ?_,by simp,by simp,by simp,Oi,fun e=>absurd rfl e,fun _ e=>(by cases e),by simp⟩;rw[f.get i hi,kW (by simp),kW (by simp)]
  ·have hm:=f.sub;simp only[CT,UT,JU]at hm;have J:=f.last;have No:=f.mB (y':=Xa c) l.Db (f.lF c (by simp)) (f.size c (by simp)) (FT _);by_cases G:T=[]
   ·subst G;have e:ai (A++[c]) [] none d1=zc (A++[c]) d1:=by simp[ai,zc]
    rw[e];rcases jy l k1.down f with⟨k,g,L,u2,n2⟩|⟨k,q,g,L,s2⟩
    ·refine .inl ⟨k,t.trans (g.wide z),L,?_,by omega,by omega⟩;rw[g.get _ ik];exact g1
    ·refine .inr ⟨k,k1.fl q,t.left (g.wide z),L,s2.Ia oa,?_⟩;have:=s2.len;omega
   ·have e:ai (A++[c]) T none d1=yg (Ca A.length) (Lb A.length c) d1:=by
     have:T.isEmpty=false:=by cases T with|nil=>exact absurd rfl G|cons a b=>rfl
     simp[ai,this]
    rw[e];have a8:=f.size c (by simp);have S:∀m,(m=Ca A.length∨m=oa)→wg m:=fun m h=>h.imp (fun e=>⟨_,by omega,e⟩) id;have hy:=f.ES G c (by simp);have I:∀E,Qk (A++[c]) y E→qt E (A++[c]):=fun E h=>h.pre;have C:∀ {fs:Hb},(∀m,¬ (m=Ca A.length∨m=oa)→Na m fs=Na m d1.fa∨∃j,Na m fs=(Na m d1.fa).map (Lc · j))→Na (Ca A.length) fs=some ⟨Lb A.length c,(Lb A.length c).length⟩→Jc fs (A++[c]) [] none (Xa c):=by
     intro fs u k;refine Jc.frame No fun i hi=> ?_;by_cases e:i=A.length
     ·subst e;rw[k,Wc l.Db,JT rfl,Ze]
     ·have D:=fun F=>e (Pn hi (by omega) F);rw[Wc l.Db,DT D];rcases u (Ca i) (fun h=>h.elim D (Hj hi))with K|⟨j,K⟩
      ·exact K
      rw[K,f.get i hi];by_cases r:i<A.length
      ·rw[qW (by simp;omega),DT (by simp;omega)];simp only[KU];rw[oe (by simp only[Ze])]
      ·rw[kW (by simp;omega)];simp
    rcases GJ l k1.down J (s:=Lb A.length c) (jQ (by omega)) (fun e=>Hj (by omega) e.symm) g1 (by unfold ja.free;rw[Ze];omega) (by simp) (by omega)with⟨k,g,o,a2,a3,a4⟩|⟨k,q,g,o,a2⟩|⟨k,q,g,a0,o,a2⟩
    ·exact .inl ⟨k,t.trans (g.wide S),⟨Xa c,C (fun m hm=> .inl (g.get m hm)) o,by simp⟩,a2,a3,by omega⟩
    ·exact .inr ⟨k,k1.fl q,t.left (g.wide N),f.sA fun i hi=>g.get _ (w i hi),o,by omega⟩
    ·exact .inr ⟨k,k1.fl q,t.left (g.wide S),⟨_,_,_,_,C (fun m hm=> .inr (g.get m hm)) a0,qt.refl _,I,by simp⟩,o,by omega⟩
end An
namespace An
open ja
structure aE(d:ja)(fs:Hb)(d':ja):Prop where
 down:d'.down=true
 cap:d'.cap=d.cap
 za:d'.za=d.za
 wf:d'.Wf
 off:d'.Ya=false
 len:d'.fa.length=fs.length
 get:∀n,∃m,Na n d'.fa=(Na n fs).map (Lc · m)
 Ia:∀n,Ia (zb n d'.fa)≤Ia (zb n fs)
theorem Up.fl{d a:ja}{fs:Hb}(h:Up d fs a)(k:a.Ya=true):d.Ya=true:=by
 cases b:d.Ya with
 |true=>rfl
 |false=>rw[h.calm b]at k;exact absurd k (by simp)
theorem Up.trans{d b d2:ja}{fs a:Hb}(h:Up d fs b)(k:Up b a d2):Up d a d2:=⟨k.fa,k.down,k.cap.trans h.cap,k.za.trans h.za,k.wf,fun e=>k.calm (h.calm e)⟩
theorem Up.refl{d:ja}(b:d.Wf)(a:d.down=false):Up d d.fa d:=⟨rfl,a,rfl,rfl,b,fun h=>h⟩
def Np(d:ja)(fl:List Hb)(fs:Hb)(r:Nat×ja):Prop:=(r.1=0∧Up d fs r.2)∨(r.1=61∧d.Ya=true∧∃f2∈fl,aE d f2 r.2)
theorem qN.runs{d:ja}{fs:Hb}{r:Nat×ja}(h:qN d fs r):Np d [d.fa,fs] fs r:=by
 rcases h with h|⟨b,c,a|⟨d2,e,a2,a3,a4,a⟩⟩
 ·exact .inl h
 ·exact .inr ⟨b,c,_,.head _,a.down,a.cap,a.za,a.wf,a.off,a.len,a.get,a.Ia⟩
 ·subst e;exact .inr ⟨b,c,_,.tail _ (.head _),a.down,a.cap.trans a2,a.za.trans a3,a.wf,a.off,a.len,a.get,a.Ia⟩
theorem Np.none{d:ja}(b:d.Wf)(a:d.down=false):Np d [] d.fa (chain [] d):=.inl ⟨rfl,Up.refl b a⟩
theorem Np.cons{d:ja}{fs f:Hb}{fl e:List Hb}{g:ja→Nat×ja}{gs:List (ja→Nat×ja)}(h:Np d fl fs (g d))(k:∀d1,Up d fs d1→Np d1 e f (chain gs d1)):Np d (fl++e) f (chain (g::gs) d):=by
 rcases h with⟨c,b⟩|⟨c,b,f2,j,l⟩
 ·rw[Wd c];rcases k _ b with⟨k1,i⟩|⟨k1,i,f2,m,a⟩
  ·exact .inl ⟨k1,b.trans i⟩
  ·exact .inr ⟨k1,b.fl i,f2,oU.2 (.inr m),a.down,a.cap.trans b.cap,a.za.trans b.za,a.wf,a.off,a.len,a.get,a.Ia⟩
 ·rw[Vd (by rw[c];simp)];exact .inr ⟨c,b,f2,oU.2 (.inl j),l⟩
theorem Np.one{d:ja}{fs:Hb}{fl:List Hb}{g:ja→Nat×ja}(h:Np d fl fs (g d)):Np d fl fs (chain [g] d):=by rw[nf];exact h
theorem Np.le{d:ja}{fs:Hb}{fl a:List Hb}{r:Nat×ja}(h:Np d fl fs r)(i:∀f∈fl,f∈a):Np d a fs r:=by
 rcases h with h|⟨b,c,f2,e,g⟩
 ·exact .inl h
 ·exact .inr ⟨b,c,f2,i _ e,g⟩
def lay(n s:Bs)(d:ja):Nat×ja:=chain [fun d=>d.create n,fun d=>d.append n s,fun d=>d.sync n] d
def laid(n s:Bs)(fs:Hb):Hb:=Ac n ⟨s,s.length⟩ fs
def OE(n s:Bs)(fs:Hb):List Hb:=[fs,Ac n ⟨[],0⟩ fs,Ac n ⟨s,0⟩ fs,laid n s fs]
theorem kz{fs:Hb}(d:Zb fs)(n:Bs)(f g:jc):Ac n f (Ac n g fs)=Ac n f fs:=by
 have c:=Oe d n g;have i:=Oe c n f;have k:=Oe d n f;have key:∀ {a b:Hb},Zb a→Zb b→(∀m,Na m a=Na m b)→a=b:=by
  intro a b j hb he;have l:a.Perm b:=by
   refine(oY ?_ ?_).2 fun p=> ?_
   ·exact(yV.1 (Pb j)).imp fun h e=>h (by rw[e])
   ·exact(yV.1 (Pb hb)).imp fun h e=>h (by rw[e])
   ·obtain⟨m,v⟩:=p;constructor
    ·intro h;have:=Ji (Pb j) h;rw[he]at this;exact Jf this
    ·intro h;have:=Ji (Pb hb) h;rw[←he]at this;exact Jf this
  have o:=af.1 j;have r:=af.1 hb;refine List.Perm.eq_of_pairwise (le:=fun p q:Bs×jc=>blt p.1 q.1=true) ?_ o r l;intro p q _ _ c i;have:=Gj c i;rw[Fj]at this;cases this
 refine key i k fun m=> ?_;rw[Wc c,Wc d,Wc d];split<;>simp_all
theorem jL{d:ja}(k:d.Wf)(m:d.down=false){n s:Bs}(p:Lg n=true)(g:Na n d.fa=none)(o:d.fa.length<400)(j:(s.length:Int)≤d.free):Np d (OE n s d.fa) (laid n s d.fa) (lay n s d):=by
 unfold lay;have a:=k.Db;have g1:Na n (Ac n (⟨[],0⟩:jc) d.fa)=some ⟨[],0⟩:=by rw[Wc a,JT rfl]
 have g2:Na n (Ac n (⟨s,0⟩:jc) d.fa)=some ⟨s,0⟩:=by rw[Wc a,JT rfl]
 have u1:An.Ia (Ac n (⟨[],0⟩:jc) d.fa)=An.Ia d.fa:=by rw[eh a,Ob g];simp
 refine Np.le (fl:=[d.fa,Ac n ⟨[],0⟩ d.fa]++([Ac n ⟨[],0⟩ d.fa,Ac n ⟨s,0⟩ d.fa]++[Ac n ⟨s,0⟩ d.fa,laid n s d.fa])) (Np.cons (Hs k m p g o).runs fun d1 k1=> ?_) ?_
 ·have b:=k1.fa;have h:=(Bo k1.wf k1.down (n:=n) (s:=s) (f:=⟨[],0⟩) (by rw[b];exact g1) (by unfold ja.free at j⊢;rw[b,u1,k1.cap];exact j)).runs;rw[b,kz a]at h;refine Np.cons (fl:=[Ac n ⟨[],0⟩ d.fa,Ac n ⟨s,0⟩ d.fa]) h fun d2 c=> ?_;have e:=c.fa;have h:=(iy c.wf c.down (n:=n) (f:=⟨s,0⟩) (by rw[e];exact g2)).runs;rw[e]at h;have l:Ac n (⟨s,s.length⟩:jc) (Ac n ⟨s,0⟩ d.fa)=laid n s d.fa:=kz a _ _ _;rw[show Ac n ({data:=(⟨s,0⟩:jc).data,ib:=(⟨s,0⟩:jc).data.length}:jc) (Ac n ⟨[]++s,0⟩ d.fa)=laid n s d.fa from l]at h;exact Np.one h
 ·intro f i;simp only[oU,dU,nV,SW]at i;simp only[OE,dU,nV,SW];rcases i with(h|h)|(h|h)|h|h<;>simp[h]
end An
namespace An
open ja
def wj(k:Nat)(n:Bs):Prop:=n=Ra k∨n=rb k
def IsMap(n:Bs):Prop:=n=Va∨n=oa
def full(s:Bs):jc:=⟨s,s.length⟩
theorem xR{k:Nat}(h:k≤999999):Lg (Ra k)=true:=lq h
theorem ZJ{k:Nat}(h:k≤999999):Lg (rb k)=true:=lq h
theorem Xh{k j:Nat}(h:k≤999999)(a:j≤999999):Ra k≠rb j:=fun e=>by have:=(Mh (.inr (.inl rfl)) (.inr (.inr rfl)) h a e).1;exact absurd this (by decide)
theorem yB{k j:Nat}(h:k≤999999)(a:j≤999999)(e:Ra k=Ra j):k=j:=(Mh (.inr (.inl rfl)) (.inr (.inl rfl)) h a e).2
theorem nz{k j:Nat}(h:k≤999999)(a:j≤999999)(e:rb k=rb j):k=j:=(Mh (.inr (.inr rfl)) (.inr (.inr rfl)) h a e).2
theorem Bp{k:Nat}(h:k≤999999):Ra k≠oa:=Sn (.inr (.inl rfl)) h
theorem Ym{k:Nat}(h:k≤999999):Ra k≠Va:=oq (.inr (.inl rfl)) h
theorem ql{k:Nat}(h:k≤999999):rb k≠oa:=Sn (.inr (.inr rfl)) h
theorem ll{k:Nat}(h:k≤999999):rb k≠Va:=oq (.inr (.inr rfl)) h
theorem aE.left{X:Bs→Prop}{d a:ja}{b:Hb}(h:aE d b a)(c:∀n,¬X n→Na n b=Na n d.fa):Left X d a:=⟨h.down,h.cap,h.za,h.wf,h.off,fun n f=>by obtain⟨m,e⟩:=h.get n;exact⟨m,by rw[e,c n f]⟩⟩
theorem aE.small{d b:ja}{a:Hb}{U L:Nat}(h:aE d a b)(e:An.Ia a≤U)(c:a.length≤L):Small U L b.fa:=⟨fun n=>KT (h.Ia n) (KT (Nb _ _) e),by rw[h.len];exact c⟩
theorem aE.full{d a:ja}{b:Hb}{n s:Bs}(h:aE d b a)(c:Na n b=some (full s)):Na n a.fa=some (full s):=by obtain⟨m,e⟩:=h.get n;rw[e,c,KU,oe rfl]
theorem Left.keeps{X:Bs→Prop}{d a:ja}{n s:Bs}(h:Left X d a)(b:¬X n)(c:Na n d.fa=some (full s)):Na n a.fa=some (full s):=by obtain⟨m,e⟩:=h.get n b;rw[e,c,KU,oe rfl]
def uT(X:Bs→Prop)(d:ja)(U L:Nat)(a:ja→Prop)(b:ja→Prop)(r:Nat×ja):Prop:=(r.1=0∧We X d r.2∧a r.2)∨(r.1=61∧d.Ya=true∧Left X d r.2∧Small U L r.2.fa∧b r.2)
theorem Up.kept{X:Bs→Prop}{d a:ja}{fs:Hb}(h:Up d fs a)(b:∀n,¬X n→Na n fs=Na n d.fa):We X d a:=We.up h b
theorem vi{fs:Hb}(a:Zb fs){n:Bs}(h:Na n fs=none)(f:jc):Ia (Ac n f fs)=Ia fs+f.data.length:=by rw[eh a,Ob h];omega
theorem gj{fs:Hb}(a:Zb fs){n:Bs}(h:Na n fs=none)(f:jc):(Ac n f fs).length=fs.length+1:=by rw[(Oc a).length_eq,Ob h,UT]
theorem VA{d:ja}(h:d.Wf)(i:d.down=false){n s:Bs}(k:Lg n=true)(b:Na n d.fa=none)(j:d.fa.length<400)(l:(s.length:Int)≤d.free):((lay n s d).1=0∧We (· =n) d (lay n s d).2∧Na n (lay n s d).2.fa=some (full s)∧An.Ia (lay n s d).2.fa=An.Ia d.fa+s.length∧(lay n s d).2.fa.length=d.fa.length+1)∨((lay n s d).1=61∧d.Ya=true∧Left (· =n) d (lay n s d).2∧Small (An.Ia d.fa+s.length) (d.fa.length+1) (lay n s d).2.fa):=by
 have a:=h.Db;rcases jL h i k b j l with⟨e,c⟩|⟨e,c,f2,f,g⟩
 ·refine .inl ⟨e,We.up c (fun m hm=>Ki a m hm),?_,?_,?_⟩
  ·rw[c.fa];unfold laid;rw[Wc a,JT rfl];rfl
  ·rw[c.fa];exact vi a b _
  ·rw[c.fa];exact gj a b _
 ·have key:(∀m,¬m=n→Na m f2=Na m d.fa)∧An.Ia f2≤An.Ia d.fa+s.length∧f2.length≤d.fa.length+1:=by
   simp only[OE,dU,nV,SW]at f;rcases f with rfl|rfl|rfl|rfl
   ·exact⟨fun _ _=>rfl,by omega,by omega⟩
   ·exact⟨fun m hm=>Ki a m hm,by rw[vi a b];simp,by rw[gj a b];omega⟩
   ·exact⟨fun m hm=>Ki a m hm,by rw[vi a b];simp,by rw[gj a b];omega⟩
   ·exact⟨fun m hm=>Ki a m hm,by unfold laid;rw[vi a b];simp,by unfold laid;rw[gj a b];omega⟩
  exact .inr ⟨e,c,g.left key.1,g.small key.2.1 key.2.2⟩
def je(k:Nat)(s f:Bs)(d:ja):Nat×ja:=if d.free-s.length-f.length<6000 then(60,d)else chain [lay (rb k) f,lay (Ra k) s] d
theorem iA{d:ja}(r:d.Wf)(p:d.down=false){k:Nat}{s f:Bs}(b:k≤999999)(o:Na (rb k) d.fa=none)(q:Na (Ra k) d.fa=none)(u:d.fa.length<399):(je k s f d=(60,d)∧d.free-s.length-f.length<6000)∨(An.Ia d.fa+s.length+f.length+6000≤d.cap∧((je k s f d).1=0∧We (wj k) d (je k s f d).2∧Na (Ra k) (je k s f d).2.fa=some (full s)∧An.Ia (je k s f d).2.fa=An.Ia d.fa+s.length+f.length∧(je k s f d).2.fa.length=d.fa.length+2))∨(An.Ia d.fa+s.length+f.length+6000≤d.cap∧((je k s f d).1=61∧d.Ya=true∧Left (wj k) d (je k s f d).2∧Small (An.Ia d.fa+s.length+f.length) (d.fa.length+2) (je k s f d).2.fa)):=by
 unfold je;by_cases c:d.free-s.length-f.length<6000
 ·rw[JT c];exact .inl ⟨rfl,c⟩
 ·rw[DT c];right;have g:An.Ia d.fa+s.length+f.length+6000≤d.cap:=by unfold ja.free at c;omega
  rw[←and_or_left];refine⟨g,?_⟩;have l:∀n,n=rb k→wj k n:=fun n h=> .inr h;have w2:∀n,n=Ra k→wj k n:=fun n h=> .inl h;rcases VA r p (s:=f) (ZJ b) o (by omega) (by unfold ja.free;omega)with⟨a,k1,t,u1,v⟩|⟨a,i,k1,s1⟩
  ·rw[Wd a,nf];generalize(lay (rb k) f d).2=d1 at*;have m:Na (Ra k) d1.fa=none:=by rw[k1.get _ (Xh b b)];exact q
   rcases VA k1.wf k1.down (s:=s) (xR b) m (by omega) (by unfold ja.free;rw[u1,k1.cap];omega)with⟨e,j,a2,u2,w⟩|⟨e,i,j,s2⟩
   ·exact .inl ⟨e,(k1.wide l).trans (j.wide w2),a2,by omega,by omega⟩
   ·exact .inr ⟨e,k1.fl i,(k1.wide l).left (j.wide w2),s2.wide (by omega) (by omega)⟩
  ·rw[Vd (by rw[a];simp)];exact .inr ⟨a,i,k1.wide l,s1.wide (by omega) (by omega)⟩
def df(n:Bs)(d:ja):Nat×ja:=if(d.delete n).1=4 then(0,(d.delete n).2)else d.delete n
theorem Rt{d:ja}(i:d.Wf)(h:d.down=false)(n:Bs):((df n d).1=0∧We (· =n) d (df n d).2∧Na n (df n d).2.fa=none∧(df n d).2.fa=zb n d.fa)∨((df n d).1=61∧d.Ya=true∧Left (· =n) d (df n d).2∧Ia (zb n (df n d).2.fa)≤Ia (zb n d.fa)∧Small (An.Ia d.fa) d.fa.length (df n d).2.fa):=by
 cases b:Na n d.fa with
 |none=>
  have e:d.delete n=(4,d):=by unfold ja.delete;rw[h,b];rfl
  unfold df;rw[e,JT rfl];exact .inl ⟨rfl,We.refl i h,b,(Ob b).symm⟩
 |some f=>
  have c:=Ho i h b;have e:df n d=d.delete n:=by unfold df;rw[DT];rcases c with⟨a,_⟩|⟨a,_⟩<;>rw[a]<;>simp
  rw[e];rcases c.part (X:=(· =n)) (fun m hm=>by rw[Nc,DT hm])with⟨a,f1,k1⟩|⟨a,j,k1,f2,g,a2,a3,a4⟩
  ·exact .inl ⟨a,k1,by rw[f1,Nc,JT rfl],f1⟩
  ·refine .inr ⟨a,j,k1,KT (a4 n) ?_,fun m=>KT (a4 m) (KT (Nb _ _) ?_),?_⟩
   ·rcases g with rfl|rfl
    ·exact FT _
    ·exact Nb _ _
   ·rcases g with rfl|rfl
    ·exact FT _
    ·exact Nb _ _
   ·rw[a3];rcases g with rfl|rfl
    ·exact FT _
    ·exact DU _ _
def Ta(a:List Bs)(d:ja):Nat×ja:=chain (a.map df) d
theorem xh:∀ (a:List Bs) {d:ja},d.Wf→d.down=false→((Ta a d).1=0∧We (· ∈a) d (Ta a d).2∧(∀n∈a,Na n (Ta a d).2.fa=none)∧An.Ia (Ta a d).2.fa≤An.Ia d.fa∧(Ta a d).2.fa.length≤d.fa.length)∨((Ta a d).1=61∧d.Ya=true∧Left (· ∈a) d (Ta a d).2∧Small (An.Ia d.fa) d.fa.length (Ta a d).2.fa)
 |[],d,hw,g=> .inl ⟨rfl,We.refl hw g,by simp,FT _,FT _⟩
 |n::a,d,hw,g=>by
  unfold Ta;rw[qU];have j:∀m,m=n→m∈n::a:=fun m h=>by subst h;exact .head _
  have w2:∀m,m∈a→m∈n::a:=fun m h=> .tail _ h;rcases Rt hw g n with⟨b,k1,l,f1⟩|⟨b,i,k1,s1,s2⟩
  ·rw[Wd b];have hu:An.Ia (df n d).2.fa≤An.Ia d.fa:=by rw[f1];exact Nb _ _
   have k:(df n d).2.fa.length≤d.fa.length:=by rw[f1];exact DU _ _
   rcases xh a k1.wf k1.down with⟨f,c,a2,u2,o⟩|⟨f,i,c,s2⟩
   ·refine .inl ⟨f,(k1.wide j).trans (c.wide w2),fun m hm=> ?_,KT u2 hu,KT o k⟩;rcases dU.1 hm with rfl|hm
    ·by_cases e:m∈a
     ·exact a2 m e
     ·exact(c.get m e).trans l
    ·exact a2 m hm
   ·exact .inr ⟨f,k1.fl i,(k1.wide j).left (c.wide w2),s2.wide hu k⟩
  ·rw[Vd (by rw[b];simp)];exact .inr ⟨b,i,k1.wide j,s2⟩
def swap(s:Bs)(d:ja):Nat×ja:=if(df oa d).1≠0 then df oa d else
 if(df oa d).2.free-s.length<6000 then(60,(df oa d).2)else yg Va s (df oa d).2
theorem IJ{d:ja}(B:d.Wf)(z:d.down=false){n s:Bs}(v:Lg n=true)(c:oa≠n)(r:Na oa d.fa=none)(A:(s.length:Int)≤d.free)(y:d.fa.length<400):((yg n s d).1=0∧We (fun m=>m=n∨m=oa) d (yg n s d).2∧Na n (yg n s d).2.fa=some (full s)∧Na oa (yg n s d).2.fa=none∧An.Ia (yg n s d).2.fa≤An.Ia d.fa+s.length∧(yg n s d).2.fa.length≤d.fa.length+1)∨((yg n s d).1=61∧d.Ya=true∧Left Fl d (yg n s d).2∧Small (An.Ia d.fa+s.length) (d.fa.length+1) (yg n s d).2.fa)∨((yg n s d).1=61∧d.Ya=true∧Left (fun m=>m=n∨m=oa) d (yg n s d).2∧Na n (yg n s d).2.fa=some (full s)∧Small (An.Ia d.fa+s.length) (d.fa.length+1) (yg n s d).2.fa):=by
 have e:yg n s d=chain [lay oa s,fun d=>d.rename oa n] d:=by
  unfold yg lay;simp only[chain];repeat' split
  all_goals first|rfl|simp_all
 rw[e];rcases VA B z (s:=s) lQ r y A with⟨b,k1,k,u1,D⟩|⟨b,l,k1,s1⟩;case inr=>rw[Vd (by rw[b];simp)];exact .inr (.inl ⟨b,l,k1,s1⟩)
 rw[Wd b,nf];generalize(lay oa s d).2=d3 at*;have i:=k1.wf;have hb:Na n (zb oa (zb n d3.fa))=none:=by rw[Nc,DT (fun e=>c e.symm),Nc,JT rfl]
 have g:=Me (Me i.Db n) oa;have p:An.Ia (Ac n (full s) (zb oa (zb n d3.fa)))≤An.Ia d.fa+s.length:=by rw[vi g hb,←u1];have b:=Nb n d3.fa;have x:=Dp (Me i.Db n) (n:=oa) (f:=full s) (by rw[Nc,DT c];exact k);show _+s.length≤_;have C:(full s).data.length=s.length:=rfl;omega
 have o:(Ac n (full s) (zb oa (zb n d3.fa))).length≤d.fa.length+1:=by rw[gj g hb];have b:=dk (Pb (Me i.Db n)) (a:=oa) (f:=full s) (by rw[Nc,DT c];exact k);have x:(zb n d3.fa).length≤d3.fa.length:=DU _ _;omega
 have q:Na n (Ac n (full s) (zb oa (zb n d3.fa)))=some (full s):=by rw[Wc g,JT rfl]
 have u:Na oa (Ac n (full s) (zb oa (zb n d3.fa)))=none:=by rw[Wc g,DT c,Nc,JT rfl]
 have t:∀m,¬ (m=n∨m=oa)→Na m (Ac n (full s) (zb oa (zb n d3.fa)))=Na m d3.fa:=by intro m hm;rw[Wc g,DT (fun e=>hm (.inl e)),Nc,DT (fun e=>hm (.inr e)),Nc,DT (fun e=>hm (.inl e))]
 have w:=k1.wide (Yy:=fun m=>m=n∨m=oa) (fun m hm=> .inr hm);rcases(Wx i k1.down k v c).part (X:=fun m=>m=n∨m=oa) t with⟨b,f1,h⟩|⟨b,l,h,f2,k,a2,a3,a4⟩
 ·exact .inl ⟨b,w.trans h,by rw[f1];exact q,by rw[f1];exact u,by rw[f1];exact p,by rw[f1];exact o⟩
 ·rcases k with rfl|rfl
  ·refine .inr (.inl ⟨b,k1.fl l,⟨h.down,h.cap.trans k1.cap,h.za.trans k1.za,h.wf,h.off,fun m hm=> ?_⟩,fun m=>KT (a4 m) (KT (Nb _ _) (by omega)),by omega⟩);obtain⟨j,e⟩:=a2 m;exact⟨j,by rw[e,k1.get m hm]⟩
  ·refine .inr (.inr ⟨b,k1.fl l,w.left h,?_,fun m=>KT (a4 m) (KT (Nb _ _) p),by rw[a3];exact o⟩);obtain⟨j,e⟩:=a2 n;rw[e,q,KU,oe rfl]
theorem GM{d:ja}(p:d.Wf)(l:d.down=false){s:Bs}(r:d.fa.length<400)(o:An.Ia d.fa+6000≤d.cap):((swap s d).1=60∧We Fl d (swap s d).2∧Na oa (swap s d).2.fa=none∧An.Ia (swap s d).2.fa≤An.Ia d.fa∧(swap s d).2.fa.length≤d.fa.length∧d.free-s.length<6000)∨((swap s d).1=0∧We IsMap d (swap s d).2∧Na Va (swap s d).2.fa=some (full s)∧Na oa (swap s d).2.fa=none∧An.Ia (swap s d).2.fa≤An.Ia d.fa+s.length∧An.Ia (swap s d).2.fa+6000≤d.cap∧(swap s d).2.fa.length≤d.fa.length+1)∨((swap s d).1=61∧d.Ya=true∧Left Fl d (swap s d).2∧∃U,U+6000≤d.cap∧Small U (d.fa.length+1) (swap s d).2.fa)∨((swap s d).1=61∧d.Ya=true∧Left IsMap d (swap s d).2∧Na Va (swap s d).2.fa=some (full s)∧∃U,U+6000≤d.cap∧Small U (d.fa.length+1) (swap s d).2.fa):=by
 unfold swap;have k:∀m,Fl m→IsMap m:=fun m h=> .inr h;rcases Rt p l oa with⟨e,k1,g,f1⟩|⟨e,b,k1,s1,s2⟩
 ·rw[DT (by rw[e];simp)];have j:An.Ia (df oa d).2.fa≤An.Ia d.fa:=by rw[f1];exact Nb _ _
  have i:(df oa d).2.fa.length≤d.fa.length:=by rw[f1];exact DU _ _
  generalize(df oa d).2=d1 at*;have q:=k1.cap;by_cases f:d1.free-s.length<6000
  ·rw[JT f];refine .inl ⟨rfl,k1,g,j,i,?_⟩;unfold ja.free at f⊢;omega
  ·rw[DT f];right;unfold ja.free at f;rcases IJ k1.wf k1.down (n:=Va) (s:=s) (by decide) jr g (by unfold ja.free;omega) (by omega)with⟨a,c,a2,a3,u2,t⟩|⟨a,b,c,s2⟩|⟨a,b,c,a2,s2⟩
   ·exact .inl ⟨a,(k1.wide k).trans c,a2,a3,by omega,by omega,by omega⟩
   ·exact .inr (.inl ⟨a,k1.fl b,k1.left c,An.Ia d1.fa+s.length,by omega,s2.wide (by omega) (by omega)⟩)
   ·exact .inr (.inr ⟨a,k1.fl b,(k1.wide k).left c,a2,An.Ia d1.fa+s.length,by omega,s2.wide (by omega) (by omega)⟩)
 ·rw[JT (by rw[e];simp)];exact .inr (.inr (.inl ⟨e,b,k1,An.Ia d.fa,o,s2.wide (FT _) (by omega)⟩))
def Ri(k:Nat)(d:ja):Nat×ja:=Ta [Ra k,rb k] d
theorem zz{d:ja}(h:d.down=true)(n:Bs):df n d=(61,d):=by unfold df ja.delete;rw[h];rfl
theorem OA{d:ja}(h:d.down=true)(n:Bs)(a:List Bs):Ta (n::a) d=(61,d):=by unfold Ta;rw[qU,Vd (by rw[zz h];simp),zz h]
theorem dB{k:Nat}{n:Bs}:n∈[Ra k,rb k]↔wj k n:=by simp[wj]
def Ec(k:Nat)(s f ms:Bs)(d:ja):Nat×ja:=let r:=if(je k s f d).1=0 then swap ms (je k s f d).2 else je k s f d;if r.1=0 then r else(r.1,(Ri k r.2).2)
def Bi(k:Nat)(n:Bs):Prop:=wj k n∨n=oa
def Fs(k:Nat)(n:Bs):Prop:=wj k n∨IsMap n
theorem QD{d:ja}(B:d.Wf)(w:d.down=false){k:Nat}{s f ms:Bs}(i:k≤999999)(E:Na (rb k) d.fa=none)(F:Na (Ra k) d.fa=none)(y:Na oa d.fa=none)(M:d.fa.length<398)(G:An.Ia d.fa+6000≤d.cap):((Ec k s f ms d).1=0∧We (Fs k) d (Ec k s f ms d).2∧Na (Ra k) (Ec k s f ms d).2.fa=some (full s)∧Na Va (Ec k s f ms d).2.fa=some (full ms)∧Na oa (Ec k s f ms d).2.fa=none∧An.Ia (Ec k s f ms d).2.fa≤An.Ia d.fa+s.length+f.length+ms.length∧An.Ia (Ec k s f ms d).2.fa+6000≤d.cap∧(Ec k s f ms d).2.fa.length≤d.fa.length+3)∨((Ec k s f ms d).1=60∧d.cap<An.Ia d.fa+s.length+f.length+ms.length+6000∧((We (Bi k) d (Ec k s f ms d).2∧Na (Ra k) (Ec k s f ms d).2.fa=none∧Na (rb k) (Ec k s f ms d).2.fa=none∧Na oa (Ec k s f ms d).2.fa=none∧An.Ia (Ec k s f ms d).2.fa+6000≤d.cap∧(Ec k s f ms d).2.fa.length≤d.fa.length+3)∨(d.Ya=true∧Left (Bi k) d (Ec k s f ms d).2∧∃U,U+6000≤d.cap∧Small U (d.fa.length+3) (Ec k s f ms d).2.fa)))∨((Ec k s f ms d).1=61∧d.Ya=true∧Left (Bi k) d (Ec k s f ms d).2∧∃U,U+6000≤d.cap∧Small U (d.fa.length+3) (Ec k s f ms d).2.fa)∨((Ec k s f ms d).1=61∧d.Ya=true∧Left (Fs k) d (Ec k s f ms d).2∧Na (Ra k) (Ec k s f ms d).2.fa=some (full s)∧Na Va (Ec k s f ms d).2.fa=some (full ms)∧∃U,U+6000≤d.cap∧Small U (d.fa.length+3) (Ec k s f ms d).2.fa):=by
 have c:∀n,wj k n→Bi k n:=fun n h=> .inl h;have r:∀n,Fl n→Bi k n:=fun n h=> .inr h;have t:∀n,wj k n→Fs k n:=fun n h=> .inl h;have q:∀n,IsMap n→Fs k n:=fun n h=> .inr h;have C:¬wj k oa:=fun h=>h.elim (fun h=>Bp i h.symm) (fun h=>ql i h.symm);have p:¬IsMap (Ra k):=fun h=>h.elim (Ym i) (Bp i);have L:¬IsMap (rb k):=fun h=>h.elim (ll i) (ql i);have drop:∀ (d2:ja),We (Bi k) d d2→Na oa d2.fa=none→An.Ia d2.fa+6000≤d.cap→d2.fa.length≤d.fa.length+3→(We (Bi k) d (Ri k d2).2∧Na (Ra k) (Ri k d2).2.fa=none∧Na (rb k) (Ri k d2).2.fa=none∧Na oa (Ri k d2).2.fa=none∧An.Ia (Ri k d2).2.fa+6000≤d.cap∧(Ri k d2).2.fa.length≤d.fa.length+3)∨(d.Ya=true∧Left (Bi k) d (Ri k d2).2∧∃U,U+6000≤d.cap∧Small U (d.fa.length+3) (Ri k d2).2.fa):=by
  intro d2 a z A x;unfold Ri;rcases xh [Ra k,rb k] a.wf a.down with⟨D,m,a3,u3,P⟩|⟨D,g,m,I⟩
  ·refine .inl ⟨a.trans (m.wide fun n h=>c n (dB.1 h)),a3 _ (by simp),a3 _ (by simp),?_,by omega,by omega⟩;rw[m.get oa (fun h=>C (dB.1 h))];exact z
  ·exact .inr ⟨a.fl g,a.left (m.wide fun n h=>c n (dB.1 h)),_,A,I.wide (FT _) x⟩
 have down:∀d2:ja,d2.down=true→(Ri k d2).2=d2:=fun d2 h=>by unfold Ri;rw[OA h]
 unfold Ec;dsimp only;rcases iA B w (s:=s) (f:=f) i E F (by omega)with⟨e,u⟩|⟨j,l,k1,v,u1,N⟩|⟨j,l,g,k1,s1⟩
 ·rw[e];simp only;rw[DT (by simp),DT (by simp)];refine .inr (.inl ⟨rfl,?_,drop d (We.refl B w) y G (by omega)⟩);unfold ja.free at u;omega
 ·rw[JT l];generalize(je k s f d).2=d1 at*;have K:Na oa d1.fa=none:=by rw[k1.get _ C];exact y
  have J:=k1.cap;rcases GM k1.wf k1.down (s:=ms) (by omega) (by omega)with⟨b,a,a2,u2,H,u⟩|⟨b,a,a2,a3,u2,u3,H⟩|⟨b,g,a,U,u2,s2⟩|⟨b,g,a,a2,U,u2,s2⟩
  ·rw[DT (by rw[b];simp)];refine .inr (.inl ⟨b,?_,drop _ ((k1.wide c).trans (a.wide r)) a2 (by omega) (by omega)⟩);unfold ja.free at u;omega
  ·rw[JT b];exact .inl ⟨b,(k1.wide t).trans (a.wide q),by rw[a.get _ p];exact v,a2,a3,by omega,by omega,by omega⟩
  ·rw[DT (by rw[b];simp),down _ a.down];exact .inr (.inr (.inl ⟨b,k1.fl g,(k1.wide c).left (a.wide r),U,by omega,s2.wide (FT _) (by omega)⟩))
  ·rw[DT (by rw[b];simp),down _ a.down];exact .inr (.inr (.inr ⟨b,k1.fl g,(k1.wide t).left (a.wide q),a.keeps p v,a2,U,by omega,s2.wide (FT _) (by omega)⟩))
 ·have o:¬ (je k s f d).1=0:=by rw[l];simp
  rw[DT o,DT o,down _ k1.down];exact .inr (.inr (.inl ⟨l,g,k1.wide c,_,j,s1.wide (FT _) (by omega)⟩))
end An
section
namespace An
open ja
theorem yw{e x:qa}:∀ {l:List qa},x∈ins e l↔x=e∨x∈l
 |[]=>by simp[ins]
 |a::r=>by
  unfold ins;split
  ·simp
  ·split
   ·rename_i h;subst h;simp
   ·rw[dU,yw (l:=r),dU];constructor
    ·rintro(h|h|h)
     ·exact .inr (.inl h)
     ·exact .inl h
     ·exact .inr (.inr h)
    ·rintro(h|h|h)
     ·exact .inr (.inl h)
     ·exact .inl h
     ·exact .inr (.inr h)
theorem uz{a b:qa}(h:de a b=false)(c:a≠b):de b a=true:=by rw[uV,mY,Hm]at h;rw[Hm];obtain⟨e,a2,a3⟩:=a;obtain⟨b1,b2,b3⟩:=b;simp only[mY,qa.mk.injEq]at*;omega
theorem Ss{e:qa}:∀ {l:List qa},ub l=true→ub (ins e l)=true
 |[],_=>rfl
 |a::r,h=>by
  have h':=xU.1 (uc.1 h);unfold ins;split
  ·rename_i he;refine uc.2 (xU.2 ⟨fun x b=> ?_,uc.1 h⟩);rcases dU.1 b with rfl|b
   ·exact he
   ·exact Lj he (h'.1 x b)
  ·rename_i he;split
   ·exact h
   ·rename_i c;refine uc.2 (xU.2 ⟨fun x b=> ?_,uc.1 (Ss (uc.2 h'.2))⟩);rcases yw.1 b with rfl|b
    ·exact uz (by simpa using he) c
    ·exact h'.1 x b
def Vc(es l:List qa):List qa:=es.foldl (fun l e=>ins e l) l
theorem vx(a b l:List qa):Vc (a++b) l=Vc b (Vc a l):=by simp[Vc]
theorem Rl{x:qa}:∀ {es l:List qa},x∈Vc es l↔x∈es∨x∈l
 |[],l=>by simp[Vc]
 |e::r,l=>by
  show x∈Vc r (ins e l)↔_;rw[Rl,yw,dU];constructor
  ·rintro(h|h|h)
   ·exact .inl (.inr h)
   ·exact .inl (.inl h)
   ·exact .inr h
  ·rintro((h|h)|h)
   ·exact .inr (.inl h)
   ·exact .inl h
   ·exact .inr (.inr h)
theorem fg:∀ {es l:List qa},ub l=true→ub (Vc es l)=true
 |[],_,h=>h
 |_::r,_,h=>fg (es:=r) (Ss h)
theorem Fi{ls:List (List qa)}{x:qa}:x∈Zc ls↔∃l∈ls,x∈l:=by
 unfold Zc;have h:∀m:List qa,x∈m.foldr ins []↔x∈m:=by
  intro m;induction m with
  |nil=>simp
  |cons a r b=>rw[List.foldr_cons,yw,b,dU]
 rw[h,FV]
theorem Ef(ls:List (List qa)):ub (Zc ls)=true:=by
 unfold Zc;induction ls.flatten with
 |nil=>rfl
 |cons a r b=>rw[List.foldr_cons];exact Ss b
structure cE(da K:Nat)(P:Ma)(y:Nat)(m:Fa)(tl:Nat→List qa):Prop where
 valid:dd m=true
 sd:m.da=da
 next:m.next≤K
 ym:∀n∈m.ia.flatten,ub (tl n)=true
 check:∃Pc,Qk P y Pc∧m.check=Ad Pc∧∀e,(∃n∈m.ia.flatten,e∈tl n)↔e∈ld da (ab Pc)
theorem Dc{m:Fa}:dd m=true↔m.next≤1000000∧m.check≤2147483647∧Rc m.ia=true∧∀n∈m.ia.flatten,n<m.next:=by unfold dd;simp only[aU,bU,GU,and_assoc]
theorem cE.lt{da K:Nat}{P:Ma}{y:Nat}{m:Fa}{tl:Nat→List qa}(h:cE da K P y m tl){n:Nat}(a:n∈m.ia.flatten):n<K:=aV ((Dc.1 h.valid).2.2.2 n a) h.next
theorem cE.rz{da K:Nat}{P a:Ma}{y y':Nat}{m:Fa}{tl:Nat→List qa}(h:cE da K P y m tl)(g:∀b,Qk P y b→Qk a y' b):cE da K a y' m tl:=by obtain⟨Pc,c,e,f⟩:=h.check;exact⟨h.valid,h.sd,h.next,h.ym,Pc,g _ c,e,f⟩
theorem cE.up{da K a:Nat}{P:Ma}{y:Nat}{m:Fa}{tl:Nat→List qa}(h:cE da K P y m tl)(b:K≤a):cE da a P y m tl:={h with next:=KT h.next b}
theorem cE.trim{da K:Nat}{P:Ma}{y:Nat}{m:Fa}{tl:Nat→List qa}(h:cE da K P y m tl):cE da K P y {m with ia:=Ab m.ia} tl:=by
 obtain⟨Pc,b,c,f⟩:=h.check;have a:=Dc.1 h.valid;refine⟨Dc.2 ⟨a.1,a.2.1,Xt a.2.2.1,?_⟩,h.sd,h.next,?_,Pc,b,c,?_⟩
 ·show∀n∈(Ab m.ia).flatten,_;rw[Yc];exact a.2.2.2
 ·show∀n∈(Ab m.ia).flatten,_;rw[Yc];exact h.ym
 ·show∀e,(∃n∈(Ab m.ia).flatten,_)↔_;rw[Yc];exact f
structure Yi(da K:Nat)(fs:Hb)(P:Ma)(y:Nat):Prop where
 map:∀f,Na Va fs=some f→∃s,f=full s∧∀m,qg s=some m→∃tl,cE da K P y m tl∧∀n∈m.ia.flatten,∃t,Na (Ra n) fs=some (full t)∧(t=Tb (tl n)∨mf t=none)
structure tv(fs fs':Hb)(n:Bs):Prop where
 Ga:∀s,Na n fs=some (full s)→Na n fs'=some (full s)
 none:Na n fs=none→Na n fs'=none
theorem We.stays{X:Bs→Prop}{d d':ja}(h:We X d d'){n:Bs}(b:¬X n):tv d.fa d'.fa n:=⟨fun s a=>(h.get n b).trans a,fun a=>(h.get n b).trans a⟩
theorem Left.stays{X:Bs→Prop}{d d':ja}(h:Left X d d'){n:Bs}(b:¬X n):tv d.fa d'.fa n:=⟨fun s a=>h.keeps b a,fun a=>by obtain⟨m,e⟩:=h.get n b;rw[e,a];rfl⟩
theorem Yi.stays{da K:Nat}{fs a:Hb}{P e:Ma}{y y':Nat}(h:Yi da K fs P y)(l:tv fs a Va)(u:∀k,k<K→tv fs a (Ra k))(r:∀i,Qk P y i→Qk e y' i):Yi da K a e y':=by
 constructor;intro f b;cases c:Na Va fs with
 |none=>rw[l.none c]at b;cases b
 |some g=>obtain⟨s,rfl,q⟩:=h.map g c;rw[l.Ga s c]at b;cases b;refine⟨s,rfl,fun m o=> ?_⟩;obtain⟨tl,j,a2⟩:=q m o;refine⟨tl,j.rz r,fun n p=> ?_⟩;obtain⟨t,b1,b2⟩:=a2 n p;exact⟨t,(u n (j.lt p)).Ga t b1,b2⟩
theorem Yi.up{da K a:Nat}{fs:Hb}{P:Ma}{y:Nat}(h:Yi da K fs P y)(g:K≤a):Yi da a fs P y:=by constructor;intro f i;obtain⟨s,c,e⟩:=h.map f i;refine⟨s,c,fun m hm=> ?_⟩;obtain⟨tl,b,a2⟩:=e m hm;exact⟨tl,b.up g,a2⟩
def uj(P:Ma)(y s:Nat):Prop:=∃a,Qk P y a∧s≤a.flatten.length
theorem uj.rz{P b:Ma}{y y' s:Nat}(h:uj P y s)(f:∀a,Qk P y a→Qk b y' a):uj b y' s:=let⟨a,c,e⟩:=h;⟨a,f _ c,e⟩
structure Ui(da K:Nat)(d:ja)(MB:List Za)(s:Nat):Prop where
 wf:d.Wf
 log:∃P T H y bs,Jc d.fa P T H y∧Holds P bs∧bs<+:MB∧uj P y s∧Yi da K d.fa P y
 qj:nh MB
 room:An.Ia (zb oa d.fa)+6000≤d.cap
 many:d.fa.length≤4*K
structure Tc(da K:Nat)(d:ja)(bs:List Za)(P:Ma)(y:Nat)(m:Fa)(tl:Nat→List qa)(mem:List qa):Prop where
 wf:d.Wf
 up:d.down=false
 log:Jc d.fa P [] none y
 holds:Holds P bs
 qj:nh bs
 gi:cE da K P y m tl
 map:(Na Va d.fa=none∧m=⟨0,0,da,[]⟩)∨Na Va d.fa=some (full (Xb m))
 ko:∀n∈m.ia.flatten,Na (Ra n) d.fa=some (full (Tb (tl n)))
 ym:ub mem=true
 xc:∀e,(e∈mem∨∃n∈m.ia.flatten,e∈tl n)↔e∈ld da (ab P)
 fresh:∀n,m.next≤n→n≤999999→Na (Ra n) d.fa=none∧Na (rb n) d.fa=none
 new:Na oa d.fa=none
 room:An.Ia d.fa+6000≤d.cap
 many:d.fa.length≤4*K
section
variable {da K:Nat}{d d':ja}{bs MB:List Za}{P Q:Ma}{y s:Nat}{m:Fa}{tl:Nat→List qa}{mem:List qa}
theorem Tc.idx(h:Tc da K d bs P y m tl mem)(b:da<18446744073709551616):Yi da K d.fa P y:=by
 constructor;intro f a;rcases h.map with⟨e,_⟩|e
 ·rw[e]at a;cases a
 ·rw[e]at a;cases a;refine⟨_,rfl,fun m2 c=> ?_⟩;rw[Un h.gi.valid (by rw[h.gi.sd];exact b)]at c;cases c;refine⟨tl,h.gi.trim,fun n g=> ?_⟩;rw[Yc]at g;exact⟨_,h.ko n g,.inl rfl⟩
theorem Tc.shut(h:Tc da K d bs P y m tl mem)(a:da<18446744073709551616)(b:uj P y s):Ui da K d bs s:=⟨h.wf,⟨P,[],none,y,bs,h.log,h.holds,List.prefix_refl _,b,h.idx a⟩,h.qj,KT (RW (Nb _ _) _) h.room,h.many⟩
theorem Ui.up{a:Nat}(h:Ui da K d MB s)(i:K≤a):Ui da a d MB s:=by obtain⟨P,T,H,y,bs,b,c,e,f,g⟩:=h.log;exact {h with log:=⟨P,T,H,y,bs,b,c,e,f,g.up i⟩,many:=by have:=h.many;omega}
theorem Tc.RR{a:Nat}(h:Tc da K d bs P y m tl mem)(b:K≤a):Tc da a d bs P y m tl mem:={h with gi:=h.gi.up b,many:=by have:=h.many;omega}
theorem ix(n:d'.Wf)(h:zo P y Q d'.fa)(g:Holds Q MB)(j:nh MB)(l:uj P y s)(hi:∀b y',(∀a,Qk P y a→Qk b y' a)→Yi da K d'.fa b y') (k:An.Ia (zb oa d'.fa)+6000≤d'.cap) (i:d'.fa.length≤4*K):Ui da K d' MB s:=by obtain⟨b,T,H,y',e,a2,a3,a4⟩:=h;have c:∀a,Qk P y a→Qk b y' a:=fun a f=>(a3 a f).rz a4;refine⟨n,⟨b,T,H,y',_,e,g.pre a2,jY _ _,l.rz c,hi b y' c⟩,j,k,i⟩
theorem Left.log{X:Bs→Prop}{T:Bs}{H:Option Bs}(k:Left X d d')(a:∀i,i≤999999→¬X (Ca i))(b:Jc d.fa P T H y):zo P y P d'.fa:=b.sA fun i hi=>k.get _ (a i hi)
theorem Yl{i:Nat}(h:i≤999999):Ca i≠Va:=oq (.inl rfl) h
theorem Zl{i k:Nat}(h:i≤999999)(a:k≤999999):Ca i≠Ra k:=fun e=>uf k a ⟨i,h,e.symm⟩
theorem Rh{i k:Nat}(h:i≤999999)(a:k≤999999):Ca i≠rb k:=fun e=>Jk k a ⟨i,h,e.symm⟩
theorem Tc.append(h:Tc da K d bs P y m tl mem)(g:da<18446744073709551616)(v:uj P y s)(C:K≤90){b:Za}(r:ow b)(z:b.first=(Qf b.stream (Ja bs)).length):(Wb P (Sa b) d=(60,d)∧((d.free:Int)<6000+2024∨200≤P.length))∨((Wb P (Sa b) d).1=0∧We Ke d (Wb P (Sa b) d).2∧An.Ia (Wb P (Sa b) d).2.fa≤An.Ia d.fa+2024∧∃y',Tc da (K+1) (Wb P (Sa b) d).2 (bs++[b]) (zk P (Sa b)) y' m tl (Vc (Kl da (Vi P (Sa b),Sa b)) mem)∧uj (zk P (Sa b)) y' s)∨((Wb P (Sa b) d).1=61∧d.Ya=true∧(Wb P (Sa b) d).2.down=true∧(Wb P (Sa b) d).2.cap=d.cap∧(Wb P (Sa b) d).2.za=d.za∧(Wb P (Sa b) d).2.Ya=false∧Ui da (K+1) (Wb P (Sa b) d).2 (bs++[b]) s):=by
 have q:=h.holds.put r;have i:=h.qj.snoc z;have l:∀k,k<K→¬Ke (Ra k):=fun k D=>uf k (by omega);rcases gE h.wf h.up h.log (Ej r) (by have:=h.many;omega)with⟨c,w⟩|⟨c,k,⟨y',p,f⟩,u1,u2,E⟩|⟨c,t,k,p,U,u1,u2,s1⟩
 ·exact .inl ⟨c,w⟩
 ·refine .inr (.inl ⟨c,k,u1,y',?_,v.rz f⟩);generalize(Wb P (Sa b) d).2=d1 at*;refine⟨k.wf,k.down,p,q,i,(h.gi.rz f).up (fV _),?_,fun n u=> ?_,fg h.ym,fun e=> ?_,fun n x o=> ?_,?_,?_,?_⟩
  ·rw[k.get _ Gf];exact h.map
  ·rw[k.get _ (l n (h.gi.lt u))];exact h.ko n u
  ·rw[EC,Rn,oU,←h.xc e,Rl];have:ld da [(Vi P (Sa b),Sa b)]=Kl da (Vi P (Sa b),Sa b):=by simp[ld]
   rw[this];constructor
   ·rintro((a|a)|a)
    ·exact .inr a
    ·exact .inl (.inl a)
    ·exact .inl (.inr a)
   ·rintro((a|a)|a)
    ·exact .inl (.inr a)
    ·exact .inr a
    ·exact .inl (.inl a)
  ·rw[k.get _ (uf n o),k.get _ (Jk n o)];exact h.fresh n x o
  ·rw[k.get _ ik];exact h.new
  ·rw[k.cap];exact u2
  ·have:=h.many;omega
 ·refine .inr (.inr ⟨c,t,k.down,k.cap,k.za,k.off,?_⟩);have hi:=h.idx g;refine(ix (K:=K+1) k.wf p q i v (fun B y' f=> ?_) ?_ ?_)
  ·exact(hi.stays (k.stays Gf) (fun j A=>k.stays (l j A)) f).up (fV _)
  ·have:=s1.Ia oa;rw[k.cap];omega
  ·have:=s1.len;have:=h.many;omega
theorem Tc.sync(h:Tc da K d bs P y m tl mem)(e:da<18446744073709551616)(v:uj P y s)(z:K≤90):((zc P d).1=0∧We Ke d (zc P d).2∧An.Ia (zc P d).2.fa=An.Ia d.fa∧∃y',Tc da K (zc P d).2 bs P y' m tl mem∧(∀a,Qk P y a→Qk P y' a)∧Qk P y' P∧uj P y' bs.length)∨((zc P d).1=61∧d.Ya=true∧(zc P d).2.down=true∧(zc P d).2.cap=d.cap∧(zc P d).2.za=d.za∧(zc P d).2.Ya=false∧Ui da K (zc P d).2 bs s):=by
 have f:∀k,k<K→¬Ke (Ra k):=fun k A=>uf k (by omega);rcases jy h.wf h.up h.log with⟨b,k,⟨y',i,r⟩,u1,B⟩|⟨b,o,k,i,s1⟩
 ·have c:∀a,Qk P y a→Qk P y' a:=fun a b=>b.full r;have l:Qk P y' P:=(qt.refl P).rz fun w q=>vW (r w q).symm;refine .inl ⟨b,k,u1,y',?_,c,l,P,l,by rw[h.holds.len];exact FT _⟩;generalize(zc P d).2=d1 at*;refine⟨k.wf,k.down,i,h.holds,h.qj,h.gi.rz c,?_,fun n p=> ?_,h.ym,h.xc,fun n t g=> ?_,?_,?_,?_⟩
  ·rw[k.get _ Gf];exact h.map
  ·rw[k.get _ (f n (h.gi.lt p))];exact h.ko n p
  ·rw[k.get _ (uf n g),k.get _ (Jk n g)];exact h.fresh n t g
  ·rw[k.get _ ik];exact h.new
  ·rw[k.cap,u1];exact h.room
  ·have:=h.many;omega
 ·refine .inr ⟨b,o,k.down,k.cap,k.za,k.off,?_⟩;have hi:=h.idx e;refine(ix k.wf i h.holds h.qj v (fun x y' c=> ?_) ?_ ?_)
  ·exact hi.stays (k.stays Gf) (fun j u=>k.stays (f j u)) c
  ·have:=s1.Ia oa;have:=h.room;rw[k.cap];omega
  ·have:=s1.len;have:=h.many;omega
end
end An
end
section
namespace An
open ja
section
variable {da K:Nat}{d d':ja}{bs MB:List Za}{P Q P':Ma}{y y' s:Nat}{m:Fa}{tl:Nat→List qa}{mem:List qa}
theorem Tc.vC(h:Tc da K d bs P y m tl mem)(c:da<18446744073709551616){a:Hb}(l:tv d.fa a Va)(p:∀j∈m.ia.flatten,tv d.fa a (Ra j))(o:∀k,Qk P y k→Qk P' y' k):Yi da K a P' y':=by
 constructor;intro f b;rcases h.map with⟨g,_⟩|g
 ·rw[l.none g]at b;cases b
 ·rw[l.Ga _ g]at b;cases b;refine⟨_,rfl,fun m2 e=> ?_⟩;rw[Un h.gi.valid (by rw[h.gi.sd];exact c)]at e;cases e;refine⟨tl,h.gi.trim.rz o,fun n i=> ?_⟩;rw[Yc]at i;exact⟨_,(p n i).Ga _ (h.ko n i),.inl rfl⟩
theorem Tc.Vg(h:Tc da K d bs P y m tl mem):m.next∉m.ia.flatten:=fun a=>VW _ ((Dc.1 h.gi.valid).2.2.2 _ a)
theorem mi{l:List (List Nat)}:Rc l=true↔l.length≤5∧l.flatten.length≤40∧l.flatten.Nodup:=by unfold Rc;simp[and_assoc]
theorem SC{l:List (List Nat)}{n:Nat}(h:Rc l=true)(f:n∉l.flatten):(40≤l.flatten.length∧og l n=(60,[]))∨∃to',og l n=(0,to')∧Rc to'=true∧to'.flatten.Perm (n::l.flatten):=by
 have i:=mi.1 h;unfold og;rw[DT (by simp[h];simpa using f)];by_cases c:40≤l.flatten.length
 ·rw[JT c];exact .inl ⟨c,rfl⟩
 ·rw[DT c];refine .inr ?_;have key:∀to':List (List Nat),to'.flatten.Perm (n::l.flatten)→to'.length≤5→Rc to'=true∧to'.flatten.Perm (n::l.flatten):=by
   intro to' b e;refine⟨mi.2 ⟨e,?_,?_⟩,b⟩
   ·rw[b.length_eq,UT];omega
   ·rw[b.nodup_iff];exact DV.2 ⟨f,i.2.2⟩
  have b:=Yc l;have e:=Df l;cases g:Ab l with
  |nil=>rw[g]at b;exact⟨_,rfl,key _ (by rw[←b];simp) (by simp)⟩
  |cons a r=>rw[g]at b e;simp only[UT]at e;refine⟨_,rfl,key _ ?_ (by simp only[UT];omega)⟩;rw[←b];simp only[oV,iU];exact List.perm_middle
def sf(tl:Nat→List qa)(n:Nat)(l:List qa)(j:Nat):List qa:=if j=n then l else tl j
theorem Tc.SM(h:Tc da K d bs P y m tl mem)(u:da<18446744073709551616)(X:uj P y s)(hK:K≤90){a:Fa}{l x:List qa}{f:Bs}{gone':List Nat}{Pc:Ma} (hv:dd a=true) (N:a.da=da) (M:a.next=m.next+1) (hp:(a.ia.flatten++gone').Perm (m.next::m.ia.flatten)) (hl:ub l=true) (W:ub x=true) (a6:Qk P y Pc) (a7:a.check=Ad Pc) (hc:∀e,(∃n∈a.ia.flatten,e∈sf tl m.next l n)↔e∈ld da (ab Pc)) (he:∀e,(e∈x∨∃n∈a.ia.flatten,e∈sf tl m.next l n)↔e∈ld da (ab P)):((Ec m.next (Tb l) f (Xb a) d).1=0∧We (Fs m.next) d (Ec m.next (Tb l) f (Xb a) d).2∧An.Ia (Ec m.next (Tb l) f (Xb a) d).2.fa≤An.Ia d.fa+(Tb l).length+f.length+(Xb a).length∧Tc da (K+1) (Ec m.next (Tb l) f (Xb a) d).2 bs P y a (sf tl m.next l) x)∨((Ec m.next (Tb l) f (Xb a) d).1=60∧d.cap<An.Ia d.fa+(Tb l).length+f.length+(Xb a).length+6000∧We (Bi m.next) d (Ec m.next (Tb l) f (Xb a) d).2∧Tc da (K+1) (Ec m.next (Tb l) f (Xb a) d).2 bs P y m tl mem)∨(((Ec m.next (Tb l) f (Xb a) d).1=60∨(Ec m.next (Tb l) f (Xb a) d).1=61)∧d.Ya=true∧(Ec m.next (Tb l) f (Xb a) d).2.down=true∧(Ec m.next (Tb l) f (Xb a) d).2.cap=d.cap∧(Ec m.next (Tb l) f (Xb a) d).2.za=d.za∧(Ec m.next (Tb l) f (Xb a) d).2.Ya=false∧Ui da (K+1) (Ec m.next (Tb l) f (Xb a) d).2 bs s):=by
 have p:m.next≤999999:=by have:=h.gi.next;omega
 have hf:=h.fresh m.next (FT _) p;have an:=h.many;have aq:=h.room;have z:∀j,j∈m.ia.flatten→j<m.next:=(Dc.1 h.gi.valid).2.2.2;have r:∀j,j∈m.ia.flatten→j≤999999:=fun j b=>by have:=z j b;omega
 have J:∀j,j≠m.next→j≤999999→¬wj m.next (Ra j):=fun j b o=>fun h=>h.elim (fun e=>b (yB o p e)) (Xh o p);have nB:∀j,j≠m.next→j≤999999→¬wj m.next (rb j):=fun j b o=>fun h=>h.elim (fun e=>Xh p o e.symm) (fun e=>b (nz o p e));have I:∀j,j≤999999→¬IsMap (Ra j):=fun j o h=>h.elim (Ym o) (Bp o);have aj:∀j,j≤999999→¬IsMap (rb j):=fun j o h=>h.elim (ll o) (ql o);have G:∀i,i≤999999→¬wj m.next (Ca i):=fun i hi h=>h.elim (Zl hi p) (Rh hi p);have R:∀i,i≤999999→¬IsMap (Ca i):=fun i hi h=>h.elim (Yl hi) (Hj hi);have al:¬wj m.next Va:=fun h=>h.elim (fun e=>Ym p e.symm) (fun e=>ll p e.symm);have A:∀j,j≠m.next→j≤999999→¬Bi m.next (Ra j):=fun j b o h=>h.elim (J j b o) (Bp o);have ak:∀j,j≠m.next→j≤999999→¬Bi m.next (rb j):=fun j b o h=>h.elim (nB j b o) (ql o);have F:∀i,i≤999999→¬Bi m.next (Ca i):=fun i hi h=>h.elim (G i hi) (Hj hi);have H:¬Bi m.next Va:=fun h=>h.elim al (fun e=>jr e.symm);have D:∀j∈a.ia.flatten,j=m.next∨j∈m.ia.flatten:=fun j b=>by have:=hp.mem_iff.1 (xX gone' b);simpa using this
 have E:cE da (K+1) P y a (sf tl m.next l):=by
  refine⟨hv,N,by rw[M];have:=h.gi.next;omega,fun n p=> ?_,Pc,a6,a7,hc⟩;unfold sf;split
  ·exact hl
  ·rename_i a8;exact h.gi.ym n ((D n p).resolve_left a8)
 rcases QD h.wf h.up (s:=Tb l) (f:=f) (ms:=Xb a) p hf.2 hf.1 h.new (by omega) h.room with⟨v,k,B,a2,a3,u1,u2,n1⟩|⟨v,T,⟨k,B,a2,a3,u1,n1⟩|⟨w,k,U,u1,s1⟩⟩|⟨v,w,k,U,u1,s1⟩|⟨v,w,k,B,a2,U,u1,s1⟩
 ·refine .inl ⟨v,k,u1,?_⟩;generalize(Ec m.next (Tb l) f (Xb a) d).2=d1 at*;refine⟨k.wf,k.down,h.log.frame fun i hi=>k.get _ fun h=>h.elim (G i hi) (R i hi),h.holds,h.qj,E,.inr a2,fun j b=> ?_,W,he,fun j S t=> ?_,a3,by rw[k.cap];exact u2,by omega⟩
  ·unfold sf;by_cases c:j=m.next
   ·rw[JT c,c];exact B
   ·have q:=(D j b).resolve_left c;rw[DT c,k.get _ fun h=>h.elim (J j c (r j q)) (I j (r j q))];exact h.ko j q
  ·rw[M]at S;rw[k.get _ fun h=>h.elim (J j (by omega) t) (I j t),k.get _ fun h=>h.elim (nB j (by omega) t) (aj j t)];exact h.fresh j (by omega) t
 ·refine .inr (.inl ⟨v,T,k,?_⟩);generalize(Ec m.next (Tb l) f (Xb a) d).2=d1 at*;refine⟨k.wf,k.down,h.log.frame fun i hi=>k.get _ (F i hi),h.holds,h.qj,h.gi.up (fV _),by rw[k.get _ H];exact h.map,fun j b=> ?_,h.ym,h.xc,fun j S t=> ?_,a3,by rw[k.cap];exact u1,by omega⟩
  ·rw[k.get _ (A j (by have:=z j b;omega) (r j b))];exact h.ko j b
  ·by_cases c:j=m.next
   ·rw[c];exact⟨B,a2⟩
   ·rw[k.get _ (A j c t),k.get _ (ak j c t)];exact h.fresh j S t
 ·refine .inr (.inr ⟨.inl v,w,k.down,k.cap,k.za,k.off,?_⟩);refine ix k.wf (k.log F h.log) h.holds h.qj X (fun P' y' C=> ?_) ?_ ?_
  ·exact(h.vC u (k.stays H) (fun j b=>k.stays (A j (by have:=z j b;omega) (r j b))) C).up (fV _)
  ·have:=s1.Ia oa;rw[k.cap];omega
  ·have:=s1.len;omega
 ·refine .inr (.inr ⟨.inr v,w,k.down,k.cap,k.za,k.off,?_⟩);refine ix k.wf (k.log F h.log) h.holds h.qj X (fun P' y' C=> ?_) ?_ ?_
  ·exact(h.vC u (k.stays H) (fun j b=>k.stays (A j (by have:=z j b;omega) (r j b))) C).up (fV _)
  ·have:=s1.Ia oa;rw[k.cap];omega
  ·have:=s1.len;omega
 ·refine .inr (.inr ⟨.inr v,w,k.down,k.cap,k.za,k.off,?_⟩);refine ix k.wf (k.log (fun i hi h=>h.elim (G i hi) (R i hi)) h.log) h.holds h.qj X (fun P' y' C=> ?_) ?_ ?_
  ·constructor;intro g hg;rw[a2]at hg;cases hg;refine⟨_,rfl,fun m2 L=> ?_⟩;rw[Un hv (by rw[N];exact u)]at L;cases L;refine⟨sf tl m.next l,E.trim.rz C,fun j b=> ?_⟩;rw[Yc]at b;refine⟨Tb (sf tl m.next l j),?_,.inl rfl⟩;unfold sf;by_cases c:j=m.next
   ·rw[JT c,c];exact B
   ·have q:=(D j b).resolve_left c;rw[DT c];exact k.keeps (fun h=>h.elim (J j c (r j q)) (I j (r j q))) (h.ko j q)
  ·have:=s1.Ia oa;rw[k.cap];omega
  ·have:=s1.len;omega
def Kd(m:Fa)(to':List (List Nat))(a:Nat):Fa:=⟨m.next+1,a,m.da,to'⟩
theorem Nj(a:∀b∈P,Xa b≤4096)(c:P.length≤200):Ad P≤819200:=by have:=ZN a;omega
theorem Tc.xw(h:Tc da K d bs P y m tl mem)(f:K≤90){to':List (List Nat)}(e:Rc to'=true)(c:∀j∈to'.flatten,j=m.next∨j∈m.ia.flatten){a:Nat}(g:a≤819200):dd (Kd m to' a)=true:=by
 have hm:=Dc.1 h.gi.valid;have:=h.gi.next;refine Dc.2 ⟨by show m.next+1≤_;omega,by show a≤_;omega,e,fun j b=> ?_⟩;show j<m.next+1;rcases c j b with rfl|b
 ·omega
 ·have:=hm.2.2.2 j b;omega
theorem Tc.index(h:Tc da K d bs P y m tl mem)(c:da<18446744073709551616)(t:uj P y s)(q:Qk P y P)(i:K≤90){to':List (List Nat)}(u:Rc to'=true)(b:to'.flatten.Perm (m.next::m.ia.flatten))(f:Bs):((Ec m.next (Tb mem) f (Xb (Kd m to' (Ad P))) d).1=0∧We (Fs m.next) d (Ec m.next (Tb mem) f (Xb (Kd m to' (Ad P))) d).2∧An.Ia (Ec m.next (Tb mem) f (Xb (Kd m to' (Ad P))) d).2.fa≤An.Ia d.fa+(Tb mem).length+f.length+(Xb (Kd m to' (Ad P))).length∧Tc da (K+1) (Ec m.next (Tb mem) f (Xb (Kd m to' (Ad P))) d).2 bs P y (Kd m to' (Ad P)) (sf tl m.next mem) [])∨((Ec m.next (Tb mem) f (Xb (Kd m to' (Ad P))) d).1=60∧d.cap<An.Ia d.fa+(Tb mem).length+f.length+(Xb (Kd m to' (Ad P))).length+6000∧We (Bi m.next) d (Ec m.next (Tb mem) f (Xb (Kd m to' (Ad P))) d).2∧Tc da (K+1) (Ec m.next (Tb mem) f (Xb (Kd m to' (Ad P))) d).2 bs P y m tl mem)∨(((Ec m.next (Tb mem) f (Xb (Kd m to' (Ad P))) d).1=60∨(Ec m.next (Tb mem) f (Xb (Kd m to' (Ad P))) d).1=61)∧d.Ya=true∧(Ec m.next (Tb mem) f (Xb (Kd m to' (Ad P))) d).2.down=true∧(Ec m.next (Tb mem) f (Xb (Kd m to' (Ad P))) d).2.cap=d.cap∧(Ec m.next (Tb mem) f (Xb (Kd m to' (Ad P))) d).2.za=d.za∧(Ec m.next (Tb mem) f (Xb (Kd m to' (Ad P))) d).2.Ya=false∧Ui da (K+1) (Ec m.next (Tb mem) f (Xb (Kd m to' (Ad P))) d).2 bs s):=by
 have g:∀j∈to'.flatten,j=m.next∨j∈m.ia.flatten:=fun j r=>by simpa using b.mem_iff.1 r
 have o:=h.Vg;have k:∀e,(∃n∈to'.flatten,e∈sf tl m.next mem n)↔e∈ld da (ab P):=by
  intro e;rw[←h.xc e];constructor
  ·rintro⟨n,a,he⟩;unfold sf at he;split at he
   ·exact .inl he
   ·rename_i l;exact .inr ⟨n,(g n a).resolve_left l,he⟩
  ·rintro(he|⟨n,a,he⟩)
   ·exact⟨m.next,b.mem_iff.2 (.head _),by unfold sf;rw[JT rfl];exact he⟩
   ·exact⟨n,b.mem_iff.2 (.tail _ a),by unfold sf;rw[DT (fun p=>o (by rw[←p];exact a))];exact he⟩
 refine h.SM c t i (gone':=[]) (Pc:=P) (h.xw i u g (Nj h.log.size h.log.sub)) h.gi.sd rfl (by rw[EU];exact b) h.ym rfl q rfl k (fun e=> ?_);rw[←k e];constructor
 ·rintro(h|h)
  ·cases h
  ·exact h
 ·exact .inr
theorem Mv{l:List (List Nat)}{k:Nat}(e:k<l.length)(x:List Nat):((l.set k x).flatten++l[k]).Perm (x++l.flatten):=by
 have g:l.set k x=l.take k++x::l.drop (k+1):=zX.trans (by rw[JT e]);have h:l=l.take k++l[k]::l.drop (k+1):=by rw[←FU e,tU]
 have i:l.flatten=(l.take k).flatten++(l[k]++(l.drop (k+1)).flatten):=by have:=eU List.flatten h;rw[JX,oV]at this;exact this
 rw[g,i,JX,oV];generalize(l.take k).flatten=a;generalize(l.drop (k+1)).flatten=c;generalize l[k]=b;have f:(a++(x++c)++b).Perm (x++(a++(c++b))):=by rw[iU,iU];have:=(cZ (l₁:=a) (l₂:=x)).append_right (c++b);rw[iU,iU]at this;exact this
 exact f.trans (((cZ (l₁:=c) (l₂:=b)).append_left a).append_left x)
theorem eI{l:List (List Nat)}{k:Nat}(h:l.getD k []≠[]):k<(Ab l).length∧(Ab l)[k]? =l[k]? :=by
 have o:Ab l<+:l:=by unfold Ab;have:=List.dropWhile_suffix (p:=List.isEmpty) (l:=l.reverse);have b:=List.reverse_prefix.2 this;rw[QW]at b;exact b
 obtain⟨t,c⟩:=o;have a:∀x∈t,x=[]:=by
  intro x q;have e:l.reverse=t.reverse++(Ab l).reverse:=by have:=eU List.reverse c;rw[oZ]at this;exact this.symm
  have b:(Ab l).reverse=l.reverse.dropWhile List.isEmpty:=by unfold Ab;rw[QW]
  have g:l.reverse=l.reverse.takeWhile List.isEmpty++l.reverse.dropWhile List.isEmpty:=List.takeWhile_append_dropWhile.symm;rw[b]at e;have i:t.reverse=l.reverse.takeWhile List.isEmpty:=List.append_cancel_right (e.symm.trans g);have j:x∈l.reverse.takeWhile List.isEmpty:=by rw[←i];exact DX.2 q
  have:=List.all_takeWhile (p:=List.isEmpty) (l:=l.reverse);rw[GU]at this;simpa using this x j
 by_cases f:k<(Ab l).length
 ·refine⟨f,?_⟩;have:l[k]? =(Ab l++t)[k]? :=by rw[c]
  rw[this,IV f]
 ·exfalso;apply h;have:l.getD k []=(Ab l++t).getD k []:=by rw[c]
  rw[this,kU,vV (by omega)];cases n:t[k-(Ab l).length]? with
  |none=>rfl
  |some x=>exact a x (AV n)
theorem Xo{l:List (List Nat)}{k n:Nat}(u:Rc l=true)(r:n∉l.flatten)(z:k<5)(h:l.getD k []≠[]):Rc (Fb l k n)=true∧((Fb l k n).flatten++l.getD k []).Perm (n::l.flatten):=by
 have f:=mi.1 u;obtain⟨c,g⟩:=eI h;have v:k<l.length:=by have:=Df l;omega
 have hold:l.getD k []=(Ab l)[k]:=by rw[kU,←g,PT c];rfl
 have w:(Ab l).length≤5:=KT (Df l) f.1;have j:=Mv c [];have main:((Fb l k n).flatten++l.getD k []).Perm (n::l.flatten)∧(Fb l k n).length≤5:=by
  rw[hold,←Yc l];unfold Fb;generalize Ab l=t at*;dsimp only;have hlen:(t.set k []).length=t.length:=sV;generalize b:(if(t.set k []).length≤min (k+1) 4 then t.set k []++[[]]else t.set k [])=out;have i:out.flatten=(t.set k []).flatten:=by rw[←b];split<;>simp
  have a:min (k+1) 4<out.length∧out.length≤5:=by
   rw[←b];split
   ·rw[CT,UT,JU];omega
   ·omega
  have e:=Mv a.1 (out.getD (min (k+1) 4) []++[n]);have q:out.getD (min (k+1) 4) []=out[min (k+1) 4]:=by rw[kU,PT a.1];rfl
  rw[q]at e⊢;refine⟨?_,by rw[sV];exact a.2⟩;have o:(out.set (min (k+1) 4) (out[min (k+1) 4]++[n])).flatten.Perm (n::out.flatten):=by
   have p:(out[min (k+1) 4]++[n]++out.flatten).Perm (n::out.flatten++out[min (k+1) 4]):=by rw[iU];exact cZ
   exact(List.perm_append_right_iff _).1 (e.trans p)
  refine(o.append_right _).trans ?_;rw[TU,i];exact(j.trans (by simp)).cons n
 refine⟨mi.2 ⟨main.2,?_,?_⟩,main.1⟩
 ·have:=main.1.length_eq;rw[CT,UT]at this;have x:0<(l.getD k []).length:=xV.2 h;omega
 ·have:=main.1.nodup_iff.2 (DV.2 ⟨r,f.2.2⟩);exact(bW.1 this).1
def sc(l:List Nat):List Bs:=l.flatMap fun n=> [Ra n,rb n]
theorem xB{l:List Nat}{n:Bs}:n∈sc l↔∃j∈l,wj j n:=by unfold sc;rw[cX];constructor<;>rintro⟨j,a,b⟩<;>exact⟨j,a,by simpa [wj]using b⟩
theorem Tc.merge(h:Tc da K d bs P y m tl mem)(o:da<18446744073709551616)(I:uj P y s)(z:K≤90){k:Nat}(F:k<5)(H:m.ia.getD k []≠[])(f:Bs):((Ec m.next (Tb (Zc ((m.ia.getD k []).map tl))) f (Xb (Kd m (Fb m.ia k m.next) m.check)) d).1=0∧We (Fs m.next) d (Ec m.next (Tb (Zc ((m.ia.getD k []).map tl))) f (Xb (Kd m (Fb m.ia k m.next) m.check)) d).2∧An.Ia (Ec m.next (Tb (Zc ((m.ia.getD k []).map tl))) f (Xb (Kd m (Fb m.ia k m.next) m.check)) d).2.fa≤An.Ia d.fa+(Tb (Zc ((m.ia.getD k []).map tl))).length+f.length+(Xb (Kd m (Fb m.ia k m.next) m.check)).length∧Tc da (K+1) (Ec m.next (Tb (Zc ((m.ia.getD k []).map tl))) f (Xb (Kd m (Fb m.ia k m.next) m.check)) d).2 bs P y (Kd m (Fb m.ia k m.next) m.check) (sf tl m.next (Zc ((m.ia.getD k []).map tl))) mem)∨((Ec m.next (Tb (Zc ((m.ia.getD k []).map tl))) f (Xb (Kd m (Fb m.ia k m.next) m.check)) d).1=60∧d.cap<An.Ia d.fa+(Tb (Zc ((m.ia.getD k []).map tl))).length+f.length+(Xb (Kd m (Fb m.ia k m.next) m.check)).length+6000∧We (Bi m.next) d (Ec m.next (Tb (Zc ((m.ia.getD k []).map tl))) f (Xb (Kd m (Fb m.ia k m.next) m.check)) d).2∧Tc da (K+1) (Ec m.next (Tb (Zc ((m.ia.getD k []).map tl))) f (Xb (Kd m (Fb m.ia k m.next) m.check)) d).2 bs P y m tl mem)∨(((Ec m.next (Tb (Zc ((m.ia.getD k []).map tl))) f (Xb (Kd m (Fb m.ia k m.next) m.check)) d).1=60∨(Ec m.next (Tb (Zc ((m.ia.getD k []).map tl))) f (Xb (Kd m (Fb m.ia k m.next) m.check)) d).1=61)∧d.Ya=true∧(Ec m.next (Tb (Zc ((m.ia.getD k []).map tl))) f (Xb (Kd m (Fb m.ia k m.next) m.check)) d).2.down=true∧(Ec m.next (Tb (Zc ((m.ia.getD k []).map tl))) f (Xb (Kd m (Fb m.ia k m.next) m.check)) d).2.cap=d.cap∧(Ec m.next (Tb (Zc ((m.ia.getD k []).map tl))) f (Xb (Kd m (Fb m.ia k m.next) m.check)) d).2.za=d.za∧(Ec m.next (Tb (Zc ((m.ia.getD k []).map tl))) f (Xb (Kd m (Fb m.ia k m.next) m.check)) d).2.Ya=false∧Ui da (K+1) (Ec m.next (Tb (Zc ((m.ia.getD k []).map tl))) f (Xb (Kd m (Fb m.ia k m.next) m.check)) d).2 bs s):=by
 have B:=Dc.1 h.gi.valid;have c:=h.Vg;obtain⟨J,i⟩:=Xo (n:=m.next) B.2.2.1 c F H;have t:∀j∈(Fb m.ia k m.next).flatten,j=m.next∨j∈m.ia.flatten:=fun j a=>by simpa using i.mem_iff.1 (xX _ a)
 have q:∀j,j=m.next∨j∈m.ia.flatten→j∈(Fb m.ia k m.next).flatten∨j∈m.ia.getD k []:=fun j a=>oU.1 (i.mem_iff.2 (by simpa using a));have hold:∀j∈m.ia.getD k [],j∈m.ia.flatten:=fun j a=>by
  have:=i.mem_iff.1 (bZ _ a);rcases dU.1 this with rfl|b
  ·exfalso;rw[kU]at a;cases w:m.ia[k]? with
   |none=>rw[w]at a;cases a
   |some x=>rw[w]at a;exact c (FV.2 ⟨x,AV w,a⟩)
  ·exact b
 obtain⟨Pc,p,r,v⟩:=h.gi.check;have u:∀e,(∃n∈(Fb m.ia k m.next).flatten,e∈sf tl m.next (Zc ((m.ia.getD k []).map tl)) n)↔∃n∈m.ia.flatten,e∈tl n:=by
  intro e;have D:m.next∈(Fb m.ia k m.next).flatten:=(q _ (.inl rfl)).resolve_right fun b=>c (hold _ b);constructor
  ·rintro⟨n,g,he⟩;unfold sf at he;split at he
   ·obtain⟨l,G,A⟩:=Fi.1 he;obtain⟨j,a,rfl⟩:=nU.1 G;exact⟨j,hold j a,A⟩
   ·rename_i C;exact⟨n,(t n g).resolve_left C,he⟩
  ·rintro⟨n,g,he⟩;rcases q n (.inr g)with b|b
   ·exact⟨n,b,by unfold sf;rw[DT (fun E=>c (by rw[←E];exact g))];exact he⟩
   ·exact⟨m.next,D,by unfold sf;rw[JT rfl];exact Fi.2 ⟨_,nU.2 ⟨n,b,rfl⟩,he⟩⟩
 have hb:m.check≤819200:=by rw[r];obtain⟨_,_,_,hle⟩:=p.pre.split h.log.size;exact KT hle.2 (Nj h.log.size h.log.sub)
 refine h.SM o I z (gone':=m.ia.getD k []) (Pc:=Pc) (h.xw z J t hb) h.gi.sd rfl i (Ef _) h.ym p r (fun e=>(u e).trans (v e)) (fun e=> ?_);show(e∈mem∨∃n∈(Fb m.ia k m.next).flatten,_)↔_;rw[u e];exact h.xc e
theorem Tc.eS(h:Tc da K d bs P y m tl mem)(f:da<18446744073709551616)(x:uj P y s)(D:K≤90){Ie:List Nat}(p:∀j∈Ie,j<m.next∧j∉m.ia.flatten):((Ta (sc Ie) d).1=0∧We (· ∈sc Ie) d (Ta (sc Ie) d).2∧An.Ia (Ta (sc Ie) d).2.fa≤An.Ia d.fa∧Tc da K (Ta (sc Ie) d).2 bs P y m tl mem)∨((Ta (sc Ie) d).1=61∧d.Ya=true∧(Ta (sc Ie) d).2.down=true∧(Ta (sc Ie) d).2.cap=d.cap∧(Ta (sc Ie) d).2.za=d.za∧(Ta (sc Ie) d).2.Ya=false∧Ui da K (Ta (sc Ie) d).2 bs s):=by
 have E:m.next≤999999:=by have:=h.gi.next;omega
 have g:∀j,j∈m.ia.flatten→j<m.next:=(Dc.1 h.gi.valid).2.2.2;have b:∀ {n:Bs},(∀j,j<m.next→j∉m.ia.flatten→¬wj j n)→¬n∈sc Ie:=fun hh hm=>by obtain⟨j,a,z⟩:=xB.1 hm;exact hh j (p j a).1 (p j a).2 z
 have q:∀i,i≤999999→¬Ca i∈sc Ie:=fun i hi=>b fun j a _ h=>h.elim (Zl hi (by omega)) (Rh hi (by omega));have r:¬Va∈sc Ie:=b fun j a _ h=>h.elim (fun e=>Ym (k:=j) (by omega) e.symm) (fun e=>ll (k:=j) (by omega) e.symm);have B:¬oa∈sc Ie:=b fun j a _ h=>h.elim (fun e=>Bp (k:=j) (by omega) e.symm) (fun e=>ql (k:=j) (by omega) e.symm);have t:∀j∈m.ia.flatten,¬Ra j∈sc Ie:=fun j a=>b fun i hi u h=>h.elim (fun e=>u (yB (by have:=g j a;omega) (by omega) e▸a)) (Xh (by have:=g j a;omega) (by omega));rcases xh (sc Ie) h.wf h.up with⟨l,k,C,u1,A⟩|⟨l,o,k,s1⟩
 ·refine .inl ⟨l,k,u1,?_⟩;generalize(Ta (sc Ie) d).2=d1 at*;refine⟨k.wf,k.down,h.log.frame fun i hi=>k.get _ (q i hi),h.holds,h.qj,h.gi,by rw[k.get _ r];exact h.map,fun j a=>by rw[k.get _ (t j a)];exact h.ko j a,h.ym,h.xc,fun j v c=> ?_,by rw[k.get _ B];exact h.new,by rw[k.cap];exact KT (RW u1 _) h.room,KT A h.many⟩;rw[k.get _ (b fun i hi _ h=>h.elim (fun e=>by have:=yB c (by omega) e;omega) (Xh c (by omega))),k.get _ (b fun i hi _ h=>h.elim (fun e=>Xh (k:=i) (j:=j) (by omega) c e.symm) (fun e=>by have:=nz c (by omega) e;omega))];exact h.fresh j v c
 ·refine .inr ⟨l,o,k.down,k.cap,k.za,k.off,?_⟩;refine ix k.wf (k.log q h.log) h.holds h.qj x (fun P' y' w=> ?_) ?_ (KT s1.len h.many)
  ·exact h.vC f (k.stays r) (fun j a=>k.stays (t j a)) w
  ·have:=s1.Ia oa;have:=h.room;rw[k.cap];omega
end
end An
end
section
namespace An
open ja
def Hh(fs:Hb)(n:Nat):Option (List qa):=match Na (Ra n) fs with
 |none=>none
 |some f=>mf f.data
def ei(da:Nat)(fs:Hb)(e:Nat):Option Fa:=match Na Va fs with
 |none=>none
 |some f=>match qg f.data with
  |none=>none
  |some m=>if m.da=da∧m.check≤e∧(m.ia.flatten.all fun n=>(Hh fs n).isSome)=true then some m else none
def He(m:Fa)(n:Bs):Bool:=decide (n=oa)||match ji n with
 |none=>false
 |some (k,j)=>(decide (k=116)||decide (k=98))&& !m.ia.flatten.contains j
def Uc(fs:Hb)(m:Fa):List Bs:=(fs.map (·.1)).filter (He m)
def m0(da:Nat):Fa:=⟨0,0,da,[]⟩
def Dg(da:Nat)(P:Ma)(from':Nat):List qa:=Vc (ld da ((ab P).filter fun q=>decide (from'≤q.1))) []
def Af(m:Fa)(d:ja):Nat×ja:=Ta (Uc d.fa m) d
def ke(da:Nat)(P:Ma)(d:ja):Nat×ja:=match ei da d.fa (Ad P)with
 |some m=>Af m d
 |none=>chain [df Va,Af (m0 da)] d
def dm(da:Nat)(P:Ma)(fs:Hb):Fa:=(ei da fs (Ad P)).getD (m0 da)
theorem er{s:Bs}{m:Fa}(h:qg s=some m):dd m=true∧Xb m=s:=by
 unfold qg at h;split at h
 ·cases h
 ·split at h
  ·cases h
  ·split at h
   ·cases h
   ·split at h
    ·cases h
    ·dsimp only at h;split at h
     ·rename_i a;cases h;exact⟨a.2.1,a.2.2⟩
     ·cases h
theorem gF(m:Fa):He m Va=false:=by unfold He;rw[Vu];simp[jr.symm]
theorem Nx(m:Fa):He m oa=true:=by simp[He]
theorem fu(m:Fa){i:Nat}(h:i≤999999):He m (Ca i)=false:=by unfold He;have:=Ch (.inl rfl) h;rw[show Ca i=fileName 99 i from rfl,this];simp;exact Sn (.inl rfl) h
theorem Vs(m:Fa){i:Nat}(h:i≤999999):He m (Ra i)= !m.ia.flatten.contains i:=by unfold He;have:=Ch (.inr (.inl rfl)) h;rw[show Ra i=fileName 116 i from rfl,this];have a:=Sn (.inr (.inl rfl)) h;simp[a]
theorem eu(m:Fa){i:Nat}(h:i≤999999):He m (rb i)= !m.ia.flatten.contains i:=by unfold He;have:=Ch (.inr (.inr rfl)) h;rw[show rb i=fileName 98 i from rfl,this];have a:=Sn (.inr (.inr rfl)) h;simp[a]
theorem Ah{fs:Hb}{m:Fa}{n:Bs}:n∈Uc fs m↔(∃p∈fs,p.1=n)∧He m n=true:=by unfold Uc;rw[vU,nU]
theorem YE{fs:Hb}{n:Bs}(h:¬∃p∈fs,p.1=n):Na n fs=none:=Bj.2 fun p a e=>h ⟨p,a,e⟩
theorem Vw{d a:ja}{m:Fa}(k:We (· ∈Uc d.fa m) d a)(b:∀n∈Uc d.fa m,Na n a.fa=none){n:Bs}(c:He m n=true):Na n a.fa=none:=by
 by_cases h:n∈Uc d.fa m
 ·exact b n h
 ·rw[k.get n h];exact YE fun e=>h (Ah.2 ⟨e,c⟩)
theorem BE{d:ja}(o:d.Wf)(i:d.down=false){n:Bs}(h:(df n d).1≠0):Na n (df n d).2.fa=none∨tv d.fa (df n d).2.fa n:=by
 cases k:Na n d.fa with
 |none=>
  have e:d.delete n=(4,d):=by unfold ja.delete;rw[i,k];rfl
  unfold df at h;rw[e,JT rfl]at h;exact absurd rfl h
 |some f=>
  have c:=Ho o i k;have e:df n d=d.delete n:=by unfold df;rw[DT];rcases c with⟨a,_⟩|⟨a,_⟩<;>rw[a]<;>simp
  rw[e]at h⊢;rcases c.part (X:=(· =n)) (fun m hm=>by rw[Nc,DT hm])with⟨a,_⟩|⟨a,p,k1,f2,l,a2,a3,a4⟩
  ·exact absurd a h
  ·obtain⟨j,b⟩:=a2 n;rcases l with rfl|rfl
   ·refine .inr ⟨fun s g=> ?_,fun g=> ?_⟩
    ·rw[b,g,KU,oe rfl]
    ·rw[b,g];rfl
   ·rw[Nc,JT rfl]at b;exact .inl b
section
variable {da K:Nat}{d:ja}{bs:List Za}{P:Ma}{y s:Nat}
theorem Kt{P Pc:Ma}(f:∀g∈P,Xa g≤4096)(h:qt Pc P):∃r,ab P=ab Pc++r∧((ab P).filter fun q=>decide (Ad Pc≤q.1))=r:=by
 obtain⟨r,b,c,e,_⟩:=h.split f;refine⟨r,b,?_⟩;rw[b,sW,WU.2,wV.2,iV]
 ·exact fun q a=>by simpa using e q a
 ·exact fun q a=>by have:=c q a;simp;omega
theorem Yi.TE(hi:Yi da K d.fa P y)(i:da<18446744073709551616)(c:Jc d.fa P [] none y)(hh:Holds P bs){m:Fa}(a:ei da d.fa (Ad P)=some m):∃tl,cE da K P y m tl∧Na Va d.fa=some (full (Xb m))∧∀n∈m.ia.flatten,Na (Ra n) d.fa=some (full (Tb (tl n)))∧Hh d.fa n=some (tl n)∧(tl n).length≤70000∧∀e∈tl n,Iy e:=by
 unfold ei at a;split at a
 ·cases a
 ·rename_i f u;split at a
  ·cases a
  ·rename_i m2 j;split at a
   ·rename_i w;cases a;obtain⟨s,rfl,v⟩:=hi.map f u;obtain⟨tl,h,a2⟩:=v m j;have z:s=Xb m:=(er j).2.symm;obtain⟨Pc,q,A,l⟩:=h.check;obtain⟨r,x,_⟩:=Kt c.size q.pre;refine⟨tl,h,by rw[u,z],fun n g=> ?_⟩;obtain⟨t,b1,b2⟩:=a2 n g;have b:∀e∈tl n,e∈ld da (ab P):=fun e he=>by rw[x,Rn,oU];exact .inl ((l e).1 ⟨n,g,he⟩)
    have hlen:=Ll hh c.size c.sub (h.ym n g) b;have k:∀e∈tl n,Iy e:=fun e he=>(Jt i hh c.size c.sub (b e he)).1;have o:(Hh d.fa n).isSome=true:=by have:=w.2.2;rw[GU]at this;exact this n g
    have p:Hh d.fa n=mf t:=by unfold Hh;rw[b1];rfl
    rcases b2 with rfl|b2
    ·exact⟨b1,by rw[p,uu (h.ym n g) k (by omega)],hlen,k⟩
    ·rw[p,b2]at o;cases o
   ·cases a
theorem mP(W:d.Wf)(D:d.down=false)(H:da<18446744073709551616)(hK:K≤90)(A:Jc d.fa P [] none y)(hh:Holds P bs)(C:nh bs)(U:uj P y s)(hi:Yi da K d.fa P y)(T:An.Ia d.fa+6000≤d.cap)(S:d.fa.length≤4*K):((ke da P d).1=0∧We (fun n=>¬Ke n) d (ke da P d).2∧An.Ia (ke da P d).2.fa≤An.Ia d.fa∧∃tl,(∀n∈(dm da P d.fa).ia.flatten,Hh d.fa n=some (tl n))∧Tc da K (ke da P d).2 bs P y (dm da P d.fa) tl (Dg da P (dm da P d.fa).check))∨((ke da P d).1=61∧d.Ya=true∧(ke da P d).2.down=true∧(ke da P d).2.cap=d.cap∧(ke da P d).2.za=d.za∧(ke da P d).2.Ya=false∧Ui da K (ke da P d).2 bs s):=by
 have E:∀ (m:Fa) (fs:Hb) (i:Nat),i≤999999→¬Ca i∈Uc fs m:=fun m fs i hi h=>by rw[Ah,fu m hi]at h;simp at h
 have Q:∀ (m:Fa) (fs:Hb) (n:Bs),n∈Uc fs m→¬Ke n:=fun m fs n h ⟨i,hi,e⟩=>E m fs i hi (e▸h);have I:∀ (m:Fa) (fs:Hb),¬Va∈Uc fs m:=fun m fs h=>by rw[Ah,gF]at h;simp at h
 have nT:∀ (m:Fa) (fs:Hb) (i:Nat),i≤999999→i∈m.ia.flatten→¬Ra i∈Uc fs m:=fun m fs i hi v h=>by rw[Ah,Vs m hi]at h;simp at h;simp at v;obtain⟨l,B,w⟩:=v;exact h.2 l B w
 have an:=KT (RW (Nb oa d.fa) 6000) T;unfold ke dm;cases c:ei da d.fa (Ad P)with
 |some m=>
  obtain⟨tl,g,p,z⟩:=hi.TE H A hh c;have aj:=Dc.1 g.valid;have L:∀j,j∈m.ia.flatten→j≤999999:=fun j hj=>by have:=g.lt hj;omega
  simp only[CW];unfold Af;rcases xh (Uc d.fa m) W D with⟨o,k,F,u1,n1⟩|⟨o,u,k,s1⟩
  ·refine .inl ⟨o,k.wide (Q m d.fa),u1,tl,fun n a=>(z n a).2.1,?_⟩;have x:∀ {n:Bs},He m n=true→Na n (Ta (Uc d.fa m) d).2.fa=none:=fun a=>Vw k F a;generalize(Ta (Uc d.fa m) d).2=d1 at*;obtain⟨Pc,a6,a7,R⟩:=g.check;obtain⟨r,ak,al⟩:=Kt A.size a6.pre;refine⟨k.wf,k.down,A.frame fun i hi=>k.get _ (E m d.fa i hi),hh,C,g,.inr (by rw[k.get _ (I m d.fa)];exact p),fun n a=>by rw[k.get _ (nT m d.fa n (L n a) a)];exact(z n a).1,fg rfl,fun e=> ?_,fun n B w=> ?_,x (Nx m),by rw[k.cap];omega,KT n1 S⟩
   ·unfold Dg;rw[a7,al,Rl,R e,ak,Rn,oU];simp only[nV,SW];exact Or.comm
   ·have N:m.ia.flatten.contains n=false:=by rw[uV];intro hc;have:=aj.2.2.2 n (pW.1 hc);omega
    exact⟨x (by rw[Vs m w,N];rfl),x (by rw[eu m w,N];rfl)⟩
  ·refine .inr ⟨o,u,k.down,k.cap,k.za,k.off,?_⟩;refine ix k.wf (k.log (E m d.fa) A) hh C U (fun X y' G=> ?_) (by rw[k.cap];exact KT (RW (s1.Ia oa) _) T) (KT s1.len S);constructor;intro f t;rw[k.keeps (I m d.fa) p]at t;cases t;obtain⟨sm,e1,v⟩:=hi.map _ p;have e2:sm=Xb m:=by have:=eU jc.data e1;exact this.symm
   subst e2;refine⟨_,rfl,fun m2 M=> ?_⟩;have a8:qg (Xb m)=some m:=by
    unfold ei at c;rw[p]at c;dsimp only[full]at c;split at c
    ·cases c
    ·rename_i m3 B;split at c
     ·cases c;exact B
     ·cases c
   rw[a8]at M;cases M;exact⟨tl,g.rz G,fun n a=>⟨_,k.keeps (nT m d.fa n (L n a) a) (z n a).1,.inl rfl⟩⟩
 |none=>
  simp only[Option.getD_none];have J:∀i,i≤999999→¬Ca i=Va:=fun i hi=>Yl hi;have w1:∀n,n=Va→¬Ke n:=fun n h=>by rw[h];exact Gf
  rcases Rt W D Va with⟨o,k1,F,f1⟩|⟨o,u,k1,s0,s1⟩
  ·rw[Wd o,nf];have u1:An.Ia (df Va d).2.fa≤An.Ia d.fa:=by rw[f1];exact Nb _ _
   have n1:(df Va d).2.fa.length≤d.fa.length:=by rw[f1];exact DU _ _
   have l1:Jc (df Va d).2.fa P [] none y:=A.frame fun i hi=>k1.get _ (J i hi);generalize(df Va d).2=d1 at*;unfold Af;rcases xh (Uc d1.fa (m0 da)) k1.wf k1.down with⟨v,b,a2,u2,n2⟩|⟨v,u,b,s2⟩
   ·refine .inl ⟨v,(k1.wide w1).trans (b.wide (Q (m0 da) d1.fa)),KT u2 u1,fun _=> [],fun n a=>(by cases a),?_⟩;have x:∀ {n:Bs},He (m0 da) n=true→Na n (Ta (Uc d1.fa (m0 da)) d1).2.fa=none:=fun a=>Vw b a2 a;generalize(Ta (Uc d1.fa (m0 da)) d1).2=d2 at*;refine⟨b.wf,b.down,l1.frame fun i hi=>b.get _ (E (m0 da) d1.fa i hi),hh,C,⟨rfl,rfl,WT _,fun n a=>(by cases a),[],.inl rfl,rfl,fun e=> ?_⟩,.inl ⟨by rw[b.get _ (I _ _)];exact F,rfl⟩,fun n a=>(by cases a),fg rfl,fun e=> ?_,fun n B w=>⟨x (by rw[Vs _ w];rfl),x (by rw[eu _ w];rfl)⟩,x (Nx _),by rw[b.cap,k1.cap];omega,by omega⟩
    ·simp[m0,ab,vd,ld]
    ·unfold Dg;rw[Rl];have:((ab P).filter fun q=>decide ((m0 da).check≤q.1))=ab P:=wV.2 fun q _=>by simp[m0]
     rw[this];simp[m0]
   ·refine .inr ⟨v,k1.fl u,b.down,b.cap.trans k1.cap,b.za.trans k1.za,b.off,?_⟩;refine ix b.wf (b.log (E (m0 da) d1.fa) l1) hh C U (fun X y' G=> ?_) (by rw[b.cap,k1.cap];have:=s2.Ia oa;omega) (by have:=s2.len;omega);constructor;intro f t;rw[(b.stays (I (m0 da) d1.fa)).none F]at t;cases t
  ·rw[Vd (by rw[o];simp)];refine .inr ⟨o,u,k1.down,k1.cap,k1.za,k1.off,?_⟩;refine ix k1.wf (k1.log J A) hh C U (fun X y' G=> ?_) (by rw[k1.cap];exact KT (RW (s1.Ia oa) _) T) (KT s1.len S);rcases BE W D (n:=Va) (by rw[o];simp)with a|aq
   ·constructor;intro f t;rw[a]at t;cases t
   ·exact hi.stays aq (fun j hj=>k1.stays (Ym (by omega))) G
def fm(da:Nat)(P:Ma)(T:Bs)(H:Option Bs)(d:ja):Nat×ja:=chain [Gc P T H,ke da P] d
theorem opened{T:Bs}{H:Option Bs}(J:d.Wf)(z:d.down=false)(l:da<18446744073709551616)(D:K≤90)(G:Jc d.fa P T H y)(hh:Holds P bs)(v:nh bs)(w:uj P y s)(hi:Yi da K d.fa P y)(I:An.Ia (zb oa d.fa)+6000≤d.cap)(N:d.fa.length≤4*K):((Gc P T H d).1=0∧(fm da P T H d).1=0∧∃y',(Jc (Gc P T H d).2.fa P [] none y'∧∀b,P.getLast? =some b→y'=Xa b)∧We wg d (Gc P T H d).2∧fm da P T H d=ke da P (Gc P T H d).2∧(fm da P T H d).2.cap=d.cap∧(fm da P T H d).2.za=d.za∧(d.Ya=false→(fm da P T H d).2.Ya=false)∧An.Ia (fm da P T H d).2.fa≤An.Ia (zb oa d.fa)∧Qk P y' P∧uj P y' bs.length∧∃tl,(∀n∈(dm da P (Gc P T H d).2.fa).ia.flatten,Hh (Gc P T H d).2.fa n=some (tl n))∧Yi da K (Gc P T H d).2.fa P y'∧Tc da K (fm da P T H d).2 bs P y' (dm da P (Gc P T H d).2.fa) tl (Dg da P (dm da P (Gc P T H d).2.fa).check))∨((fm da P T H d).1=61∧d.Ya=true∧(fm da P T H d).2.down=true∧(fm da P T H d).2.cap=d.cap∧(fm da P T H d).2.za=d.za∧(fm da P T H d).2.Ya=false∧Ui da (K+1) (fm da P T H d).2 bs s∧((Gc P T H d).1=61∨((Gc P T H d).1=0∧∃y',(Jc (Gc P T H d).2.fa P [] none y'∧∀b,P.getLast? =some b→y'=Xa b)∧We wg d (Gc P T H d).2∧Yi da K (Gc P T H d).2.fa P y'))):=by
 unfold fm;have A:¬wg Va:=fun h=>h.elim Gf (fun e=>jr e.symm);have B:∀j,j<K→¬wg (Ra j):=fun j k h=>h.elim (uf j (by omega)) (Bp (by omega));rcases QL J z G I (by omega)with⟨a,k1,⟨y',g,m⟩,g1,u1,L⟩|⟨a,c,k1,g,u1,L⟩
 ·rw[Wd a,nf];have i:∀o,Qk P y o→Qk P y' o:=fun o a=>a.full m;have t:Qk P y' P:=(qt.refl P).rz fun b u=>vW (m b u).symm;have q:uj P y' bs.length:=⟨P,t,by rw[hh.len];exact FT _⟩;have f:Yi da K (Gc P T H d).2.fa P y':=hi.stays (k1.stays A) (fun j k=>k1.stays (B j k)) i;rcases mP k1.wf k1.down l D g hh v (w.rz i) f (by rw[k1.cap];omega) (by omega)with⟨p,r,u2,tl,x,E⟩|⟨p,c,C,a2,a3,a4,F⟩
  ·exact .inl ⟨a,p,y',⟨g,m⟩,k1,rfl,r.cap.trans k1.cap,r.za.trans k1.za,fun e=>r.calm (k1.calm e),KT u2 u1,t,q,tl,x,f,E⟩
  ·exact .inr ⟨p,k1.fl c,C,a2.trans k1.cap,a3.trans k1.za,a4,F.up (fV _),.inr ⟨a,y',⟨g,m⟩,k1,f⟩⟩
 ·rw[Vd (by rw[a];simp)];refine .inr ⟨a,c,k1.down,k1.cap,k1.za,k1.off,?_,.inl a⟩;refine ix k1.wf g hh v w (fun M y' i=> ?_) (by rw[k1.cap];omega) (by omega);exact(hi.stays (k1.stays A) (fun j k=>k1.stays (B j k)) i).up (fV _)
end
end An
end
section
namespace An
open ja
section
variable {da K:Nat}{d d':ja}{bs MB:List Za}{P:Ma}{y s:Nat}{m:Fa}{tl:Nat→List qa}{mem:List qa}
theorem Tc.Ve(h:Tc da K d bs P y m tl mem)(a:da<18446744073709551616)(e:uj P y s)(Ga:List Int):Ui da K (d.Ve Ga) bs s:=by
 have c:=uk h.wf Ga;have k:Left (fun _=>False) d (d.Ve Ga):=c.left;refine ix k.wf (k.log (fun _ _ h=>h) h.log) h.holds h.qj e (fun f y' b=>h.vC a (k.stays fun h=>h) (fun j _=>k.stays fun h=>h) b) ?_ ?_
 ·have:=c.Ia oa;have g:=Nb oa d.fa;have:=h.room;rw[k.cap];omega
 ·rw[c.len];exact h.many
theorem Ui.Ve(h:Ui da K d MB s)(Ga:List Int):Ui da K (d.Ve Ga) MB s:=by
 have c:=uk h.wf Ga;have k:Left (fun _=>False) d (d.Ve Ga):=c.left;obtain⟨P,T,H,y,bs,b,n,o,p,q⟩:=h.log;obtain⟨e,i,g,y',l,a2,a3,a4⟩:=b.Ve c.get;have f:∀a,Qk P y a→Qk e y' a:=fun a b=>(a3 a b).rz a4;refine⟨k.wf,⟨e,i,g,y',_,l,n.pre a2,(jY _ _).trans o,p.rz f,q.stays (k.stays fun h=>h) (fun j _=>k.stays fun h=>h) f⟩,h.qj,?_,?_⟩
 ·have:=c.Ia oa;have:=h.room;rw[k.cap];omega
 ·rw[c.len];exact h.many
theorem Ui.same(h:Ui da K d MB s)(c:d'.Wf)(a:d'.fa=d.fa)(b:d'.cap=d.cap):Ui da K d' MB s:=⟨c,by rw[a];exact h.log,h.qj,by rw[a,b];exact h.room,by rw[a];exact h.many⟩
theorem Tc.same(h:Tc da K d bs P y m tl mem)(e:d'.Wf)(c:d'.down=false)(a:d'.fa=d.fa)(b:d'.cap=d.cap):Tc da K d' bs P y m tl mem:=⟨e,c,by rw[a];exact h.log,h.holds,h.qj,h.gi,by rw[a];exact h.map,by rw[a];exact h.ko,h.ym,h.xc,by rw[a];exact h.fresh,by rw[a];exact h.new,by rw[a,b];exact h.room,by rw[a];exact h.many⟩
theorem TP(a:d.Wf){n:Int}(c:n<9223372036854775808){Ga:List Int}(b:Ga.length≤1000000):(d.fail n Ga).2.Wf:=by
 unfold ja.fail;split
 ·exact a
 ·split
  ·exact a
  ·exact⟨a.Db,a.cap,a.Ia,a.ib,by show n.toNat<_;omega,a.many,b⟩
theorem Ls(n:Int)(Ga:List Int):(d.fail n Ga).2.fa=d.fa∧(d.fail n Ga).2.cap=d.cap∧(d.fail n Ga).2.down=d.down∧(d.fail n Ga).2.za=d.za:=by
 unfold ja.fail;split
 ·exact⟨rfl,rfl,rfl,rfl⟩
 ·split<;>exact⟨rfl,rfl,rfl,rfl⟩
theorem aN(a:d.Wf):d.rf.2.Wf:=by
 unfold ja.rf;split
 ·exact⟨a.Db,a.cap,a.Ia,a.ib,a.left,a.many,a.kept⟩
 ·exact a
theorem Qi:d.rf.2.fa=d.fa∧d.rf.2.cap=d.cap∧d.rf.2.down=false∧d.rf.2.Ya=d.Ya:=by
 unfold ja.rf;cases h:d.down with
 |true=>exact⟨rfl,rfl,rfl,rfl⟩
 |false=>exact⟨rfl,rfl,h,rfl⟩
structure Touch(n:Bs)(d d':ja):Prop where
 cap:d'.cap=d.cap
 down:d'.down=d.down
 za:d'.za=d.za
 Ya:d'.Ya=d.Ya
 wf:d'.Wf
 fa:d'.fa=d.fa∨∃f f':jc,Na n d.fa=some f∧d'.fa=Ac n f' d.fa∧f'.data.length≤f.data.length∧(f.ib=f.data.length→f'.ib=f'.data.length)
theorem eD{a s:Bs}{at':Nat}(h:at'≤a.length):(yi a s at').length=a.length:=by unfold yi;simp only[CT,OT,cU];omega
theorem ZM(a:d.Wf){n:Bs}{f f':jc}(c:Na n d.fa=some f)(i:f'.data.length≤f.data.length)(e:f'.ib≤f'.data.length):({d with fa:=Ac n f' d.fa}:ja).Wf:=by
 refine⟨Oe a.Db _ _,a.cap,?_,fun p b=> ?_,a.left,by show(Ac n f' d.fa).length≤400;rw[Bg a.Db c];exact a.many,a.kept⟩
 ·have g:=eh a.Db n f';have h:=dg a.Db c;have:=a.Ia;show An.Ia (Ac n f' d.fa)≤d.cap;omega
 ·rcases Fx a.Db b with rfl|b
  ·exact e
  ·exact a.ib p b
theorem xD(b:d.Wf)(n:Bs)(k:Int)(t:Bs):Touch n d (d.Ek n k t).2:=by
 unfold ja.Ek;cases c:Na n d.fa with
 |none=>exact⟨rfl,rfl,rfl,rfl,b,.inl rfl⟩
 |some f=>
  dsimp only;split
  ·exact⟨rfl,rfl,rfl,rfl,b,.inl rfl⟩
  ·rename_i i;dsimp only;split
   ·rename_i g;have hle:k.toNat≤f.data.length:=by omega
    have e:=b.ib _ (Jf c);have a:=eD (s:=t) hle;exact⟨rfl,rfl,rfl,rfl,ZM b c (by simp only[a];exact FT _) (by simp only[a];exact e),.inr ⟨f,_,c,rfl,by simp only[a];exact FT _,fun h=>by simp only[a];exact h⟩⟩
   ·exact⟨rfl,rfl,rfl,rfl,b,.inl rfl⟩
theorem TH(a:d.Wf)(n:Bs)(k:Int):Touch n d (d.Di n k).2:=by
 unfold ja.Di;cases b:Na n d.fa with
 |none=>exact⟨rfl,rfl,rfl,rfl,a,.inl rfl⟩
 |some f=>
  dsimp only;split
  ·exact⟨rfl,rfl,rfl,rfl,a,.inl rfl⟩
  ·have e:=a.ib _ (Jf b);have c:(Cf f k.toNat).data.length≤f.data.length:=by simp only[Cf,OT];omega
   refine⟨rfl,rfl,rfl,rfl,ZM a b c ?_,.inr ⟨f,_,b,rfl,c,fun h=> ?_⟩⟩
   ·simp only[Cf,OT];omega
   ·simp only[Cf,OT];omega
theorem Touch.get{n:Bs}(h:Touch n d d')(b:Zb d.fa){k:Bs}(a:k≠n):Na k d'.fa=Na k d.fa:=by
 rcases h.fa with e|⟨f,f',_,e,_⟩
 ·rw[e]
 ·rw[e,Wc b,DT a]
theorem Touch.room{n:Bs}(h:Touch n d d')(a:Zb d.fa):An.Ia (zb oa d'.fa)≤An.Ia (zb oa d.fa)∧An.Ia d'.fa≤An.Ia d.fa∧d'.fa.length=d.fa.length:=by
 rcases h.fa with e|⟨f,f',g,e,j,_⟩
 ·rw[e];exact⟨FT _,FT _,rfl⟩
 ·rw[e];have u:An.Ia (Ac n f' d.fa)≤An.Ia d.fa:=by rw[eh a,dg a g];omega
  refine⟨?_,u,Bg a g⟩;by_cases i:n=oa
  ·subst i;rw[eg a];exact FT _
  ·have b:=Au ((Oc a (n:=n) (v:=f')).filter fun p=>decide (p.1≠oa));have c:=Au ((Wg (Pb a) g).filter fun p=>decide (p.1≠oa));rw[IU,JT (by simpa using i),xy]at b c;unfold zb at b c⊢;rw[b,c];simp only;omega
theorem Ui.Rw(h:Ui da K d MB s)(r:K≤90){k:Nat}(b:k≤999999)(t:Touch (rb k) d d'):Ui da K d' MB s:=by
 have a:=h.wf.Db;obtain⟨P,T,H,y,bs,g,l,o,p,q⟩:=h.log;have st:∀n,n≠rb k→tv d.fa d'.fa n:=fun n f=>⟨fun s c=>(t.get a f).trans c,fun c=>(t.get a f).trans c⟩;have ro:=t.room a;refine⟨t.wf,⟨P,T,H,y,bs,g.frame fun i hi=>t.get a (Rh hi b),l,o,p,q.stays (st _ fun e=>ll b e.symm) (fun j u=>st _ (Xh (by omega) b)) fun _ h=>h⟩,h.qj,?_,?_⟩
 ·have:=h.room;rw[t.cap];omega
 ·rw[ro.2.2];exact h.many
theorem Tc.Rw(h:Tc da K d bs P y m tl mem)(r:K≤90){k:Nat}(b:k≤999999)(t:Touch (rb k) d d'):Tc da K d' bs P y m tl mem:=by
 have a:=h.wf.Db;have ro:=t.room a;have p:∀j,j∈m.ia.flatten→j≤999999:=fun j q=>by have:=h.gi.lt q;omega
 refine⟨t.wf,t.down.trans h.up,h.log.frame fun i hi=>t.get a (Rh hi b),h.holds,h.qj,h.gi,?_,fun n c=> ?_,h.ym,h.xc,fun n o g=> ?_,?_,?_,?_⟩
 ·rw[t.get a fun e=>ll b e.symm];exact h.map
 ·rw[t.get a (Xh (p n c) b)];exact h.ko n c
 ·refine⟨by rw[t.get a (Xh g b)];exact(h.fresh n o g).1,?_⟩;have hb:=(h.fresh n o g).2;by_cases c:rb n=rb k
  ·rcases t.fa with e|⟨f,f',l,_⟩
   ·rw[e];exact hb
   ·rw[←c,hb]at l;cases l
  ·rw[t.get a c];exact hb
 ·rw[t.get a fun e=>ql b e.symm];exact h.new
 ·have:=h.room;rw[t.cap];omega
 ·rw[ro.2.2];exact h.many
theorem Ui.EB(h:Ui da K d MB s)(W:K≤90){n:Bs}(E:n=Va∨∃k,k≤999999∧n=Ra k)(t:Touch n d d') (Q:∀f f',Na n d.fa=some f→Na n d'.fa=some f'→f'.data=f.data∨(if n=Va then qg f'.data=none else mf f'.data=none)):Ui da K d' MB s:=by
 have b:=h.wf.Db;obtain⟨P,T,H,y,bs,J,L,M,N,D⟩:=h.log;have ro:=t.room b;have R:∀i,i≤999999→Ca i≠n:=fun i hi=>by
  rcases E with rfl|⟨k,r,rfl⟩
  ·exact Yl hi
  ·exact Zl hi r
 have z:∀s1,Na n d.fa=some (full s1)→∃s2,Na n d'.fa=some (full s2)∧(s2=s1∨(if n=Va then qg s2=none else mf s2=none)):=by
  intro s1 l;rcases t.fa with e|⟨f,f',c,F,U,G⟩
  ·exact⟨s1,by rw[e];exact l,.inl rfl⟩
  ·rw[l]at c;cases c;have B:Na n d'.fa=some f':=by rw[F,Wc b,JT rfl]
   have I:f'=full f'.data:=by obtain⟨S,X⟩:=f';have:=G rfl;simp only at this;subst this;rfl
   exact⟨f'.data,by rw[B,←I],Q _ _ l B⟩
 have u:Na n d.fa=none→Na n d'.fa=none:=by
  intro C;rcases t.fa with e|⟨f,f',c,_⟩
  ·rw[e];exact C
  ·rw[C]at c;cases c
 refine⟨t.wf,⟨P,T,H,y,bs,J.frame fun i hi=>t.get b (R i hi),L,M,N,?_⟩,h.qj,?_,?_⟩
 ·constructor;intro f a;rcases E with rfl|⟨k,r,rfl⟩
  ·cases A:Na Va d.fa with
   |none=>rw[u A]at a;cases a
   |some g=>
    obtain⟨s1,rfl,a2⟩:=D.map g A;obtain⟨s2,b1,b2⟩:=z s1 A;rw[b1]at a;cases a;refine⟨s2,rfl,fun m hm=> ?_⟩;rcases b2 with rfl|b2
    ·obtain⟨tl,p,c2⟩:=a2 m hm;refine⟨tl,p,fun j q=> ?_⟩;obtain⟨x,o,v⟩:=c2 j q;exact⟨x,by rw[t.get b (Ym (by have:=p.lt q;omega))];exact o,v⟩
    ·rw[JT rfl]at b2;rw[b2]at hm;cases hm
  ·rw[t.get b fun e=>Ym r e.symm]at a;obtain⟨s1,rfl,a2⟩:=D.map f a;refine⟨s1,rfl,fun m hm=> ?_⟩;obtain⟨tl,p,c2⟩:=a2 m hm;refine⟨tl,p,fun j q=> ?_⟩;obtain⟨x,o,v⟩:=c2 j q;by_cases w:Ra j=Ra k
   ·rw[w]at o⊢;obtain⟨s2,b1,b2⟩:=z x o;refine⟨s2,b1,?_⟩;rcases b2 with rfl|b2
    ·exact v
    ·rw[DT (Ym r)]at b2;exact .inr b2
   ·exact⟨x,by rw[t.get b w];exact o,v⟩
 ·have:=h.room;rw[t.cap];omega
 ·rw[ro.2.2];exact h.many
end
end An
end
section
namespace An
def jk(mem:List qa)(ls:List (List qa))(h:Nat)(from' to':Int):List qa:=Zc (ae mem h from' to'::ls.map fun l=>ae l h from' to')
theorem Js{l:List qa}{h:Nat}{f t:Int}{e:qa}:e∈ae l h f t↔e∈l∧e.Qa=h∧f≤(e.Qb:Int)∧(e.Qb:Int)≤t:=by unfold ae;rw[vU];simp[and_assoc]
theorem Gq{mem:List qa}{ls:List (List qa)}{h:Nat}{f t:Int}{e:qa}:e∈jk mem ls h f t↔(e∈mem∨∃l∈ls,e∈l)∧e.Qa=h∧f≤(e.Qb:Int)∧(e.Qb:Int)≤t:=by
 unfold jk;rw[Fi];simp only[dU,nU,exists_eq_or_imp,Js];constructor
 ·rintro(⟨a,b⟩|⟨_,⟨l,a,rfl⟩,b⟩)
  ·exact⟨.inl a,b⟩
  ·rw[Js]at b;exact⟨.inr ⟨l,a,b.1⟩,b.2⟩
 ·rintro⟨a|⟨l,a,b⟩,c⟩
  ·exact .inl ⟨a,c⟩
  ·exact .inr ⟨_,⟨l,a,rfl⟩,Js.2 ⟨b,c⟩⟩
def zd(l:List qa)(h:Nat)(upto:Int):Int:=match Rg l h upto with
 |none=> -1
 |some e=>e.Qb
def Zf(mem:List qa)(ls:List (List qa))(h:Nat)(upto:Int):Int:=ls.foldl (fun v l=>max v (zd l h upto)) (zd mem h upto)
theorem Dz{l:List qa}(o:ub l=true){h:Nat}{upto:Int}{e:qa}(n:e∈l)(hh:e.Qa=h)(q:(e.Qb:Int)≤upto):(e.Qb:Int)≤zd l h upto:=by
 unfold zd Rg;have hm:e∈l.filter fun e=>decide (e.Qa=h)&&decide ((e.Qb:Int)≤upto):=vU.2 ⟨n,by simp[hh,q]⟩;have p:(l.filter fun e=>decide (e.Qa=h)&&decide ((e.Qb:Int)≤upto)).Pairwise fun a b=>de a b=true:=(uc.1 o).filter _;have i:∀x∈l.filter fun e=>decide (e.Qa=h)&&decide ((e.Qb:Int)≤upto),x.Qa=h:=fun x r=>by have:=(vU.1 r).2;simp at this;exact this.1
 generalize(l.filter fun e=>decide (e.Qa=h)&&decide ((e.Qb:Int)≤upto))=f at*;rcases bY f with rfl|⟨g,x,rfl⟩
 ·cases hm
 ·rw[aY]at*;have j:(g++[x]).getLast? =some x:=by simp
  rw[j];dsimp only;rcases oU.1 hm with c|c
  ·have k:=(PW.1 p).2.2 e c x (by simp);rw[Hm]at k;have s:=i x (by simp);omega
  ·simp at c;subst c;exact MY _
theorem Ez{l:List qa}{h:Nat}{upto:Int}:zd l h upto= -1∨∃e∈l,e.Qa=h∧(e.Qb:Int)≤upto∧zd l h upto=e.Qb:=by
 unfold zd Rg;cases b:(l.filter fun e=>decide (e.Qa=h)&&decide ((e.Qb:Int)≤upto)).getLast? with
 |none=>exact .inl rfl
 |some e=>have hm:=List.mem_of_getLast? b;have a:=(vU.1 hm).2;simp at a;exact .inr ⟨e,(vU.1 hm).1,a.1,a.2,rfl⟩
theorem Xk:∀ (ls:List (List qa)) (h:Nat) (u v:Int),v≤ls.foldl (fun v l=>max v (zd l h u)) v∧∀l∈ls,zd l h u≤ls.foldl (fun v l=>max v (zd l h u)) v
 |[],_,_,v=>⟨MY _,fun _ h=>(by cases h)⟩
 |a::r,h,u,v=>by
  have:=Xk r h u (max v (zd a h u));rw[fW];refine⟨by omega,fun l b=> ?_⟩;rcases dU.1 b with rfl|b
  ·omega
  ·exact this.2 l b
theorem Ot:∀ (ls:List (List qa)) (h:Nat) (u v:Int),ls.foldl (fun v l=>max v (zd l h u)) v=v∨∃l∈ls,ls.foldl (fun v l=>max v (zd l h u)) v=zd l h u
 |[],_,_,_=> .inl rfl
 |a::r,h,u,v=>by
  rw[fW];rcases Ot r h u (max v (zd a h u))with b|⟨l,b,c⟩
  ·by_cases e:zd a h u≤v
   ·exact .inl (by rw[b];omega)
   ·exact .inr ⟨a,.head _,by rw[b];omega⟩
  ·exact .inr ⟨l,.tail _ b,c⟩
section
variable {da K:Nat}{d:ja}{bs:List Za}{P:Ma}{y:Nat}{m:Fa}{tl:Nat→List qa}{mem:List qa}
abbrev ef(m:Fa)(tl:Nat→List qa):List (List qa):=m.ia.flatten.map tl
theorem Tc.Kn(h:Tc da K d bs P y m tl mem)(e:qa):(e∈mem∨∃l∈ef m tl,e∈l)↔e∈ld da (ab P):=by
 rw[←h.xc e];simp only[ef,nU];constructor
 ·rintro(a|⟨_,⟨n,c,rfl⟩,b⟩)
  ·exact .inl a
  ·exact .inr ⟨n,c,b⟩
 ·rintro(a|⟨n,c,b⟩)
  ·exact .inl a
  ·exact .inr ⟨_,⟨n,c,rfl⟩,b⟩
def Kh(da:Nat)(P:Ma)(mem:List qa)(ls:List (List qa))(st:Bs)(from' to':Int):List yc:=(jk mem ls (Qa da st) (max from' 0) (min to' 1073741824)).filterMap (found P st)
theorem Tc.wu(h:Tc da K d bs P y m tl mem){t:yc}(b:t∈Ja bs):t.Qb<1073741824:=by obtain⟨k,a,i,hi,rfl⟩:=vu.1 b;have:=(Hd (h.holds.ok _ (XT a)).check).2.2.2.2.1;show bs[k].first+i<_;omega
theorem Tc.Kh(h:Tc da K d bs P y m tl mem)(st:Bs)(from' to':Int):Kh da P mem (ef m tl) st from' to'=(Qf st (Ja bs)).filter fun t=>decide (from'≤(t.Qb:Int)∧(t.Qb:Int)≤to'):=by
 unfold An.Kh;rw[TB h.holds h.log.size h.qj (da:=da) (st:=st) (from':=max from' 0) (to':=min to' 1073741824) (E:=jk mem (ef m tl) (Qa da st) (max from' 0) (min to' 1073741824)) (Ef _) fun e=> ?_]
 ·apply lW;intro t a;have:=h.wu (Rm.1 a).1;rw[eX];omega
 ·rw[Gq,h.Kn e]
theorem Tc.EE(h:Tc da K d bs P y m tl mem){hh:Nat}{u:Int}{e:qa}(i:e∈ld da (ab P))(b:e.Qa=hh)(c:(e.Qb:Int)≤u):(e.Qb:Int)≤Zf mem (ef m tl) hh u:=by
 have f:=Xk (ef m tl) hh u (zd mem hh u);unfold Zf;rcases(h.Kn e).2 i with a|⟨l,a,g⟩
 ·exact CZ (Dz h.ym a b c) f.1
 ·obtain⟨n,j,rfl⟩:=nU.1 a;exact CZ (Dz (h.gi.ym n j) g b c) (f.2 _ a)
theorem Tc.KQ(h:Tc da K d bs P y m tl mem){hh:Nat}{u:Int}:Zf mem (ef m tl) hh u= -1∨∃e∈ld da (ab P),e.Qa=hh∧(e.Qb:Int)≤u∧Zf mem (ef m tl) hh u=e.Qb:=by
 unfold Zf;rcases Ot (ef m tl) hh u (zd mem hh u)with b|⟨l,b,f⟩
 ·rw[b];rcases Ez (l:=mem) (h:=hh) (upto:=u)with a|⟨e,a,c⟩
  ·exact .inl a
  ·exact .inr ⟨e,(h.Kn e).1 (.inl a),c⟩
 ·rw[f];rcases Ez (l:=l) (h:=hh) (upto:=u)with a|⟨e,a,c⟩
  ·exact .inl a
  ·exact .inr ⟨e,(h.Kn e).1 (.inr ⟨l,b,a⟩),c⟩
theorem Tc.uE(h:Tc da K d bs P y m tl mem){st:Bs}{t:yc}(f:t∈Qf st (Ja bs)):∃e∈ld da (ab P),e.Qa=Qa da st∧e.Qb=t.Qb:=by obtain⟨b,a⟩:=Rm.1 f;obtain⟨k,c,i,hi,rfl⟩:=vu.1 b;refine⟨_,h.holds.BQ.2 ⟨k,c,i,hi,rfl⟩,?_,rfl⟩;dsimp only at a⊢;rw[a]
def uv(bs:List Za)(st:Bs)(u:Int):Prop:=∀t∈Qf st (Ja bs),(t.Qb:Int)≤u
theorem Tc.nI(h:Tc da K d bs P y m tl mem){st:Bs}{u:Int}(g:uv bs st u)(k:Zf mem (ef m tl) (Qa da st) u<0):Qf st (Ja bs)=[]:=by
 cases f:Qf st (Ja bs)with
 |nil=>rfl
 |cons t r=>
  have a:t∈Qf st (Ja bs):=by rw[f];exact .head _
  obtain⟨e,b,c,i⟩:=h.uE a;have j:=g t a;have:=h.EE b c (u:=u) (by omega);omega
theorem Tc.oI(h:Tc da K d bs P y m tl mem){st:Bs}{u:Int}(j:uv bs st u)(b:An.Kh da P mem (ef m tl) st (Zf mem (ef m tl) (Qa da st) u) (Zf mem (ef m tl) (Qa da st) u)≠[]):Zf mem (ef m tl) (Qa da st) u=((Qf st (Ja bs)).length:Int)-1:=by
 rw[h.Kh]at b;obtain⟨t,c⟩:=List.exists_mem_of_ne_nil _ b;rw[vU,bU]at c;obtain⟨i,hi,rfl⟩:=dV c.1;have k:=h.qj.MF st i hi;have a:(Qf st (Ja bs)).length-1<(Qf st (Ja bs)).length:=by omega
 have l:=h.qj.MF st _ a;obtain⟨e,f,g,n⟩:=h.uE (XT a);have o:=j _ (XT a);have p:=h.EE f g (u:=u) (by omega);omega
theorem Tc.mI(h:Tc da K d bs P y m tl mem){st:Bs}{u:Int}(i:uv bs st u)(b:An.Kh da P mem (ef m tl) st (Zf mem (ef m tl) (Qa da st) u) (Zf mem (ef m tl) (Qa da st) u)=[]):uv bs st (Zf mem (ef m tl) (Qa da st) u-1):=by intro t a;obtain⟨e,c,f,j⟩:=h.uE a;have k:=i t a;have l:=h.EE c f (u:=u) (by omega);rw[h.Kh]at b;have g:=WU.1 b t a;rw[bU]at g;omega
theorem Tc.xO(h:Tc da K d bs P y m tl mem){hh:Nat}{u:Int}:Zf mem (ef m tl) hh u≤max (-1) u:=by
 rcases h.KQ (hh:=hh) (u:=u)with a|⟨e,a,b,c,f⟩
 ·omega
 ·omega
end
def Tg(l:List yc)(from' a:Nat):List yc:=(l.filter fun t=>decide (from'≤t.Qb)).take a
def Bh(l:List yc)(from':Nat)(a:Int):List yc:=l.reverse.filter fun t=>decide (t.Qb≤from'∧(from':Int)-t.Qb<a)
def ri(a:Nat)(l:List yc):Prop:=l.map (·.Qb)=List.range' a l.length
theorem ri.cons{a:Nat}{t:yc}{r:List yc}(h:ri a (t::r)):t.Qb=a∧ri (a+1) r:=by unfold ri at h;rw[qU,UT,SY]at h;injection h with b c;exact⟨b,c⟩
theorem ri.ge:∀ {l:List yc} {a:Nat},ri a l→∀t∈l,a≤t.Qb
 |[],_,_,_,h=>by cases h
 |x::r,a,h,t,b=>by
  rcases dU.1 b with rfl|b
  ·have:=h.cons.1;omega
  ·have:=ri.ge h.cons.2 t b;omega
theorem ri.Zq:∀ {l:List yc} {a:Nat},ri a l→∀f,l.filter (fun t=>decide (f≤t.Qb))=l.drop (f-a)
 |[],_,_,f=>by simp
 |x::r,a,h,f=>by
  by_cases c:f≤a
  ·rw[show f-a=0 by omega,FW];exact wV.2 fun t b=>by have:=h.ge t b;simp;omega
  ·rw[show f-a=(f-(a+1))+1 by omega,List.drop_succ_cons,IU,DT (by have:=h.cons.1;simp;omega),h.cons.2.Zq]
theorem ri.filter_le:∀ {l:List yc} {a:Nat},ri a l→∀u,l.filter (fun t=>decide (t.Qb<u))=l.take (u-a)
 |[],_,_,u=>by simp
 |x::r,a,h,u=>by
  have c:=h.cons.1;by_cases e:a<u
  ·rw[show u-a=(u-(a+1))+1 by omega,yW,IU,JT (by simp;omega),h.cons.2.filter_le]
  ·rw[show u-a=0 by omega,IW];exact WU.2 fun t b=>by have:=h.ge t b;simp;omega
theorem ri.drop{l:List yc}{a:Nat}(h:ri a l)(n:Nat):ri (a+n) (l.drop n):=by
 unfold ri at*;rw[List.map_drop,h,cU];apply List.ext_getElem
 ·simp
 ·intro i b c;simp
theorem ri.Kh{l:List yc}{a:Nat}(h:ri a l)(f u:Nat)(e:a≤f):l.filter (fun t=>decide (f≤t.Qb∧t.Qb<u))=(l.drop (f-a)).take (u-f):=by
 have c:l.filter (fun t=>decide (f≤t.Qb∧t.Qb<u))=(l.filter fun t=>decide (f≤t.Qb)).filter fun t=>decide (t.Qb<u):=by rw[xY];apply lW;intro t _;rw[RV];simp[and_comm]
 rw[c,h.Zq];have b:=h.drop (f-a);rw[show a+(f-a)=f by omega]at b;exact b.filter_le u
theorem nh.runs{bs:List Za}(h:nh bs)(st:Bs):ri 0 (Qf st (Ja bs)):=by unfold ri;rw[h.ER,gZ]
theorem IK{l:List yc}(h:ri 0 l)(e:l.length≤1073741824)(from' count:Nat)(c:1≤count):(l.filter fun t=>decide ((from':Int)≤t.Qb∧(t.Qb:Int)≤(from':Int)+min (count:Int) 1073741824-1))=Tg l from' count:=by
 unfold Tg;rw[h.Zq,yY];have a:=h.Kh from' (from'+min count 1073741824) (WT _);rw[yY,show from'+min count 1073741824-from'=min count 1073741824 by omega]at a;have b:(l.filter fun t=>decide ((from':Int)≤t.Qb∧(t.Qb:Int)≤(from':Int)+min (count:Int) 1073741824-1))=l.filter fun t=>decide (from'≤t.Qb∧t.Qb<from'+min count 1073741824):=by apply lW;intro t _;rw[eX];omega
 rw[b,a,eY,cU];omega
theorem dK{l:List yc}(from':Nat)(count:Int):(l.filter fun t=>decide ((from':Int)-count+1≤t.Qb∧(t.Qb:Int)≤from')).reverse=Bh l from' count:=by unfold Bh;rw[←List.filter_reverse];apply lW;intro t _;rw[eX];omega
def kR(l:List yc)(n:Nat):Nat→Nat→List yc
 |0,_=> []
 |k+1,at'=>if at'<l.length then Tg l at' n++kR l n k (at'+n)else []
theorem PI{l:List yc}(h:ri 0 l){n at':Nat}(p:at'<l.length):Bh l (l.length-1-at') n=(l.reverse.drop at').take n:=by
 have e:∀j (a:j<l.reverse.length),l.reverse[j].Qb=l.length-1-j:=by intro j a;rw[EV]at a;rw[List.getElem_reverse];have:=eU (fun l=>l[l.length-1-j]?) h;have b:=eU (fun m=>m[l.length-1-j]?) h;simp only[VX,PT (show l.length-1-j<l.length by omega),KU]at b;rw[List.getElem?_range' (by omega)]at b;have:=VU b;omega
 unfold Bh;have key:∀ (r:List yc) (c:Nat),(∀j (a:j<r.length),c+j<l.length∧r[j].Qb=l.length-1-(c+j))→r.filter (fun t=>decide (t.Qb≤l.length-1-at'∧((l.length-1-at':Nat):Int)-t.Qb<n))=(r.drop (at'-c)).take (at'+n-max c at'):=by
  intro r;induction r with
  |nil=>intro c _;simp
  |cons t r o=>
   intro c g;have k:=g 0 (by simp);simp only[PY,lX]at k;have i:=o (c+1) fun j a=>by have:=g (j+1) (by simpa using a);simp only[OY]at this;rw[show c+1+j=c+(j+1) by omega];exact this
   rw[IU,i];by_cases b:c<at'
   ·rw[DT (by simp;omega),show at'-c=(at'-(c+1))+1 by omega,List.drop_succ_cons,show max (c+1) at'=max c at' by omega]
   ·rw[show at'-c=0 by omega,show at'-(c+1)=0 by omega,FW,FW];by_cases f:c<at'+n
    ·rw[JT (by simp;omega),show at'+n-max c at'=(at'+n-max (c+1) at')+1 by omega,yW]
    ·rw[DT (by simp;omega),show at'+n-max c at'=0 by omega,show at'+n-max (c+1) at'=0 by omega,IW,IW]
 have:=key l.reverse 0 fun j a=>by have f:=e j a;rw[EV]at a;rw[BU];exact⟨a,f⟩
 rw[this,yY,show at'+n-max 0 at'=n by omega]
def jR(l:List yc)(n:Nat):Nat→Nat→List yc
 |0,_=> []
 |k+1,at'=>if at'<l.length then Bh l (l.length-1-at') n++jR l n k (at'+n)else []
end An
end
namespace An
open ja
theorem PF:∀ (b:List Bs) (a:Nat) (q:Nat×Bs),q∈(Cc a b).zip b→∃A B,b=A++q.2::B∧q.1=a+(kg A).length
 |[],a,q,h=>by simp[Cc]at h
 |p::r,a,q,h=>by
  simp only[Cc,jX,dU]at h;rcases h with rfl|h
  ·exact⟨[],r,rfl,by simp[pj]⟩
  ·obtain⟨A,B,c,d⟩:=PF r _ q h;refine⟨p::A,B,by rw[c];rfl,?_⟩;rw[d,pd,CT,Ce];omega
theorem Xz:∀ (P:Ma) (i:Nat) (q:Nat×Bs),q∈vd i P→∃n,∃b:n<P.length,q∈(Cc ((i+n)*4096+12) P[n]).zip P[n]
 |[],i,q,h=>by cases h
 |c::r,i,q,h=>by
  simp only[vd,oU]at h;rcases h with h|h
  ·exact⟨0,by simp,by simpa using h⟩
  ·obtain⟨n,b,a⟩:=Xz r (i+1) q h;refine⟨n+1,by simp;omega,?_⟩;rw[show i+(n+1)=i+1+n by omega];exact a
theorem bM{P:Ma}(i:∀j∈P,Xa j≤4096){q:Nat×Bs}(h:q∈ab P):∃n,∃c:n<P.length,∃a,q.1=n*4096+a∧12≤a∧a+q.2.length+12≤Xa P[n]∧a<4096∧q.2∈P[n]∧∀k,k≤q.2.length+12→((Lb n P[n]).drop a).take k=(ue q.2).take k:=by
 obtain⟨n,c,b⟩:=Xz P 0 q h;rw[BU]at b;have l:=Xg _ _ q b;obtain⟨A,B,d,e⟩:=PF _ _ q b;have f:=i _ (XT c);have hm:q.2∈P[n]:=by
  have:q.2∈A++q.2::B:=by simp
  rwa [←d]at this
 refine⟨n,c,12+(kg A).length,by rw[e,RY],UY _ _,?_,?_,hm,fun k g=> ?_⟩
 ·unfold Xa;omega
 ·unfold Xa at f;omega
 ·rw[d];unfold Lb;rw[Ck,pd,←iU,List.drop_append_of_le_length (by rw[CT,Pd];exact FT _),NY (by rw[CT,Pd];exact FT _),iV,lV (by rw[Ce];exact g)]
theorem xF(p:Bs):(ue p).take 4=put p.length 4:=by rw[pB];exact re (Jb _ _)
theorem aJ{p:Bs}(h:p.length≤2000):bo (ue p) 0=some p:=by
 unfold bo;rw[FW];have:=Ys [] h
 rwa [EU]at this
theorem Jc.chunk{fs:Hb}{P:Ma}{y:Nat}(h:Jc fs P [] none y){n:Nat}(a:n<P.length):∃z,Na (Ca n) fs=some ⟨Lb n P[n],z⟩:=by
 have hm:=h.sub;rw[h.get n (by omega),qW a];split
 ·exact⟨y,by simp⟩
 ·exact⟨_,rfl⟩
theorem Jc.reads{d:ja}{P:Ma}{y:Nat}(h:Jc d.fa P [] none y)(b:d.down=false){n:Nat}(c:n<P.length){a k:Nat}(f:a+k≤Xa P[n]):d.ze (Ca n) a k=(0,((Lb n P[n]).drop a).take k):=by obtain⟨z,e⟩:=h.chunk c;unfold ja.ze;rw[b,e,DT (by simp)];dsimp only;rw[DT,gV,gV];rw[Ze];omega
def Mg(P:Ma)(pos:Nat):Option (Nat×Bs):=(ab P).find? fun q=>decide (pos≤q.1)
def qq(pos:Nat)(l:List (Nat×Bs)):Option (Nat×Bs):=l.find? fun q=>decide (pos≤q.1)
theorem cI(pos:Nat)(a b:List (Nat×Bs)):qq pos (a++b)=(qq pos a).or (qq pos b):=by unfold qq;rw[List.find?_append]
theorem yE{pos:Nat}{l:List (Nat×Bs)}(h:∀q∈l,q.1<pos):qq pos l=none:=by unfold qq;rw[List.find?_eq_none];intro q a;have:=h q a;simp;omega
theorem au{P:Ma}(f:∀a∈P,Xa a≤4096){n pos:Nat}(h:n*4096≤pos)(b:n≤P.length):Mg P pos=qq pos (vd n (P.drop n)):=by
 have d:ab P=vd 0 (P.take n)++vd n (P.drop n):=by unfold ab;have:=Gi (P.take n) (P.drop n) 0;rw[tU,BU,OT,QU b]at this;exact this
 show qq pos (ab P)=_;rw[d,cI,yE,Option.none_or];intro q e;have:=yf (P.take n) 0 (fun a c=>f a (VV c)) q e;rw[OT,QU b,BU]at this;omega
theorem bD{P:Ma}(a:∀b∈P,Xa b≤4096){pos:Nat}(h:P.length*4096≤pos):Mg P pos=none:=by rw[au a h (FT _),List.drop_length];rfl
theorem zD{P:Ma}{n:Nat}(a:n<P.length):vd n (P.drop n)=(Cc (n*4096+12) P[n]).zip P[n]++vd (n+1) (P.drop (n+1)):=by rw[FU a,vd]
theorem iN{b:List Bs}{a k:Nat}(c:k<b.length):((Cc a b).zip b).drop k=((Cc a b)[k]'(by rw[qf];exact c),b[k])::((Cc a b).zip b).drop (k+1):=by
 have d:k<((Cc a b).zip b).length:=by rw[fZ,qf];omega
 rw[FU d,List.getElem_zip]
theorem bw:∀ (c:List Bs) (a b:Nat),Cc (a+b) c=(Cc b c).map (a+ ·)
 |[],_,_=>rfl
 |p::r,a,b=>by simp only[Cc,qU];rw[show a+b+p.length+12=a+(b+p.length+12) by omega,bw r]
theorem uF{n:Nat}{a:List Bs}(i:∀p∈a,p.length≤2000){k:Nat}(d:k<a.length):bo (Lb n a) ((Cc 12 a)[k]'(by rw[qf];exact d))=some a[k]:=by
 have h:k<((Cc 12 a).zip a).length:=by rw[fZ,qf];omega
 have j:((Cc 12 a).zip a)[k]∈(Cc 12 a).zip a:=XT h;obtain⟨A,B,b,c⟩:=PF _ _ _ j;rw[List.getElem_zip]at b c;dsimp only at b c;have f:(Lb n a).drop ((Cc 12 a)[k]'(by rw[qf];exact d))=ue a[k]++kg B:=by
  rw[c];have g:Lb n a=(Yb n++kg A)++(ue a[k]++kg B):=by unfold Lb;have e:=eU kg b;rw[Ck,pd]at e;rw[e,iU]
  rw[g];exact Nd (by rw[CT,Pd])
 unfold bo;rw[f];exact Ys _ (i _ (XT d))
end An
namespace An
open ja
def Uk(n:Bs):Option Nat:=match ji n with
 |some (k,j)=>if k=99 then some j else none
 |none=>none
def ek(s:Nat×Bool)(n:Bs):Nat×Bool:=match Uk n with
 |some j=>(s.1+1,s.2&&decide (j=s.1))
 |none=>s
def xm(l:List Bs):Nat×Bool:=l.foldl ek (0,true)
theorem PH(l:List Bs)(n:Bs):xm (l++[n])=ek (xm l) n:=by simp[xm]
theorem Ci:∀ (l:List Bs),(xm l).1≤l.length:=by
 intro l;have h:∀ (l:List Bs) (s:Nat×Bool),(l.foldl ek s).1≤s.1+l.length:=by
  intro l;induction l with
  |nil=>intro s;exact FT _
  |cons a r b=>
   intro s;have:=b (ek s a);have c:(ek s a).1≤s.1+1:=by unfold ek;split<;>simp
   rw[fW,UT];omega
 have:=h l (0,true);simpa [xm]using this
theorem DK(l:List Bs)(s:Nat×Bool):l.foldl ek s=(l.filterMap Uk).foldl (fun s j=>(s.1+1,s.2&&decide (j=s.1))) s:=by
 induction l generalizing s with
 |nil=>rfl
 |cons a r b=>rw[fW,b,QT];unfold ek;cases Uk a<;>rfl
theorem sC(n k:Nat):(List.range' k n).foldl (fun(s:Nat×Bool) j=>(s.1+1,s.2&&decide (j=s.1))) (k,true)=(k+n,true):=by
 induction n generalizing k with
 |zero=>rfl
 |succ n a=>rw[SY,fW];simp only[xZ,Bool.and_true];rw[a];congr 1;omega
theorem Eo{n:Bs}{j:Nat}(h:Uk n=some j):j≤999999∧n=Ca j:=by
 unfold Uk at h;split at h
 ·rename_i k i b;split at h
  ·rename_i a;cases h;have:=du b;subst a;exact⟨this.1,this.2.1⟩
  ·cases h
 ·cases h
theorem rA{j:Nat}(h:j≤999999):Uk (Ca j)=some j:=by unfold Uk;rw[show Ca j=fileName 99 j from rfl,Ch (.inl rfl) h];rfl
theorem Jc.has{fs:Hb}{P:Ma}{T:Bs}{H:Option Bs}{y:Nat}(h:Jc fs P T H y){i:Nat}(hi:i≤999999):(Na (Ca i) fs).isSome=true↔i<P.length+(if H.isSome then 1 else 0):=by
 rw[h.get i hi];by_cases a:i<P.length
 ·rw[qW a];constructor
  ·intro _;omega
  ·intro _;split<;>rfl
 ·rw[kW a];cases H with
  |none=>simp;omega
  |some x=>
   by_cases he:i=P.length
   ·rw[JT he];simp;omega
   ·rw[DT he];simp;omega
theorem Jc.count{fs:Hb}{P:Ma}{T:Bs}{H:Option Bs}{y:Nat}(h:Jc fs P T H y)(m:Zb fs):xm (fs.map (·.1))=(P.length+(if H.isSome then 1 else 0),true):=by
 unfold xm;rw[DK];have hlen:=h.many;generalize k:P.length+(if H.isSome=true then 1 else 0)=N at*;have e:(fs.map (·.1)).filterMap Uk=List.range' 0 N:=by
  refine Hv id ?_ ?_ ?_
  ·rw[List.pairwise_filterMap,yV];refine(af.1 m).imp ?_;intro a b g x s z t;obtain⟨u,w⟩:=Eo s;obtain⟨A,z2⟩:=Eo t;rw[w,z2]at g;exact aK u A g
  ·exact List.pairwise_lt_range' (step:=1) (by omega)
  ·intro j;rw[List.mem_filterMap,List.mem_range'];constructor
   ·rintro⟨n,q,o⟩;obtain⟨c,d⟩:=Eo o;obtain⟨p,r,rfl⟩:=nU.1 q;have:(Na (Ca j) fs).isSome=true:=by rw[←d,Ji (Pb m) (v:=p.2) r];rfl
    rw[h.has c,k]at this;exact⟨j,this,by omega⟩
   ·rintro⟨i,hi,rfl⟩;have c:0+1*i≤999999:=by omega
    have d:=(h.has c).2 (by rw[k];omega);cases l:Na (Ca (0+1*i)) fs with
    |none=>rw[l]at d;cases d
    |some f=>exact⟨_,nU.2 ⟨_,Jf l,rfl⟩,rA c⟩
 rw[e,sC];congr 1;omega
end An
section
open An An.ja
namespace An
theorem xz:∀ (l:List qa) (i:Nat) (h:i<l.length),(l.flatMap Nf).drop (24*i)=Nf l[i]++(l.drop (i+1)).flatMap Nf
 |a::r,0,_=>by simp
 |a::r,i+1,h=>by rw[AU,show 24*(i+1)=(Nf a).length+24*i by rw[rh];omega,List.drop_append,ZV (by omega),Nat.add_sub_cancel_left,iV];exact xz r i (by simpa using h)
theorem pH{l:List qa}{i:Nat}(h:i<l.length):((Tb l).drop (8+24*i)).take 24=Nf l[i]:=by
 have e:Tb l=(Hi++put l.length 4)++(l.flatMap Nf++low (Oy (Hi++put l.length 4++l.flatMap Nf))):=by simp[Tb,Qg]
 have a:(Hi++put l.length 4).length=8:=by rw[CT,Jb];rfl
 rw[e,←jV,Nd a,List.drop_append_of_le_length (by rw[ti];omega),xz l i h,iU,re (rh _)]
theorem nD{d:ja}(b:d.down=false){n s:Bs}(c:Na n d.fa=some (full s)){a k:Nat}(h:a+k≤s.length):d.ze n a k=(0,(s.drop a).take k):=by unfold ja.ze;rw[b,c];simp only[KV,RX,gV];rw[DT (by simp only[full];omega)];rfl
end An
end
end Go.Proofs.YteacbkflfafefaaGreatDoor
