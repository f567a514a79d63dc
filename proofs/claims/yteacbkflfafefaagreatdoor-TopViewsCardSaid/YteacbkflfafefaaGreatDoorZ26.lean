/- Part 27 of 50 of the proof that TopViews returns true at every input: lemmas on the way; no condition. -/
import Derived.Test.YteacbkflfafefaaGreatDoorZ21
import Derived.Test.YteacbkflfafefaaGreatDoorZ23
import Derived.Test.YteacbkflfafefaaGreatDoorZ24
namespace Go.Proofs.YteacbkflfafefaaGreatDoor
set_option linter.all false
set_option maxHeartbeats 400000
set_option maxRecDepth 100000
section
open Go.RowKit An Go.ChangeShapes Go.WideShapes Go.ChangeAt Go.Proofs.Tryz
def Rj:Option qa→Value
 |none=> .tuple #[.agg #[Pa 0,Z 0,Z 0],.bool false,Z 0]
 |some e=> .tuple #[.agg #[Pa e.Qa,Z e.Qb,Z e.pos],.bool true,Z 0]
theorem qE{l:List qa}{h:Nat}{t:Int}(a:∀e∈l,e.Qa≠h):Rg l h t=none:=by unfold Rg;rw[WU.2 fun e he=>by simp[a e he]];rfl
theorem UH{l:List qa}{h:Nat}{t:Int}(b:t<0):Rg l h t=none:=by unfold Rg;rw[WU.2 fun e he a=>by simp only[aU,bU]at a;omega];rfl
theorem IP(T D n:Nat)(l:List qa)(d:An.ja)(h:Nat)(upto:Int)(hh:h<18446744073709551616)(H:d.down=false)(g:iz d n l):Ud prog 68 #[Da T,Pa h,Z upto] (Tf T D n l*na D d) (Rj (Rg l h (min upto 1073741824))) (Tf T D n l*na D d):=by
 intro w o r U;have P:=TZ U;generalize aj:min upto 1073741824=u at*;have a1:u≤1073741824:=by omega
 obtain⟨E,c⟩:∃E,Rg l h u=E:=⟨_,rfl⟩;rw[c];obtain⟨C,W,Q⟩:=P.wR T D n l;have t1:=yu T D n l.length C.mv C.F C.M;have t2:=nH T D n l h hh;have hle:=Us (T:=T) (D:=D) (n:=n) W;have I:=Q.Wa (.cells #[Pa 0,Z 0,Z 0] 126) w.heap.size rfl;have a7:=g.len;clear U P Q W;go_enter func68,ntmps68;go_upto_region 1 with(fail);generalize w.alloc (.cells #[Pa 0,Z 0,Z 0] 126)=X at*;go_wp2_with fail;refine Y.ka I t1 fun m=> ?_;have p:Y w o r (Tf T D n l*(na D d*ba w.heap.size 126 #[Pa 0,Z 0,Z 0])) (X.drewN m):=((I.drewN m).ya (A:=az T D n l C*(na D d*ba w.heap.size 126 #[Pa 0,Z 0,Z 0]))).le (MZ hle (JZ _));clear I t1 hle;by_cases x:u<0
 ·have a:E=none:=c▸UH x;subst a;clear c;obtain⟨e,f,c2⟩:=p.c3 w.heap.size;obtain⟨f0,f1,f2⟩:=p.f3 w.heap.size;go_wp2_with fail;refine ZT (v:=Rj none) (by simp[results,results68,go_sem,Rj,e,f,c2]) rfl ⟨rfl,?_⟩;exact(((p.ra w.heap.size 0 (Pa 0) _ rfl).ra w.heap.size 1 (Z 0) _ rfl).ra w.heap.size 2 (Z 0) _ rfl).ya
 ·obtain⟨un,rfl⟩:∃un:Nat,u=un:=⟨u.toNat,by omega⟩;have a8:¬ ((un:Int)<0):=x;go_wp2_with fail;refine p.kc t2 fun w2 q R=> ?_;obtain⟨J,s⟩:=R.pure;clear p R t2;cases q with
  |false=>have a:E=none:=c▸qE (J rfl);subst a;clear c J;obtain⟨e,f,c2⟩:=s.c3 w.heap.size;obtain⟨f0,f1,f2⟩:=s.f3 w.heap.size;go_wp2_with fail;refine ZT (v:=Rj none) (by simp[results,results68,go_sem,Rj,e,f,c2]) rfl ⟨rfl,?_⟩;exact(((s.ra w.heap.size 0 (Pa 0) _ rfl).ra w.heap.size 1 (Z 0) _ rfl).ra w.heap.size 2 (Z 0) _ rfl).ya
  |true=>
   have t108:=JD T D n l d ⟨h,un+1,0⟩ H g;unfold bj at t108;rw[wv h (un+1)]at t108;have b:=fC g.ym h un;have a6:=Ci (Mb h ((un+1:Nat):Int)) l;rw[show((un:Int)+1)=((un+1:Nat):Int) by omega]at b;rw[c]at b;have hw:IntKind.i64.wrap ((un:Int)+1)=((un+1:Nat):Int):=by rw[RT _ (by omega)];omega
   have j:Hid (∀i (hi:i<l.length),Ud prog 109 #[Da T,Z i] (Tf T D n l*na D d) (.tuple #[bj l[i],Z 0]) (Tf T D n l*na D d)):=V fun i hi=>jv T D n l d i hi g.num (KT g.len (by omega)) H g.file g.QS;generalize Mf (Mb h ((un+1:Nat):Int)) l=N at*;dsimp only at t108;obtain⟨u1,G⟩:∃u1,un+1=u1:=⟨_,rfl⟩;rw[G]at t108 hw;have B:=V b;clear c J b g H G;go_wp2_with fail;refine s.k1 t108 fun w3 t=> ?_;clear t108 s;cases N with
   |zero=>
    have a:E=none:=by rw[B.out];rfl
    subst a;clear B;obtain⟨e,f,c2⟩:=t.c3 w.heap.size;obtain⟨f0,f1,f2⟩:=t.f3 w.heap.size;go_wp2_with fail;refine ZT (v:=Rj none) (by simp[results,results68,go_sem,Rj,e,f,c2]) rfl ⟨rfl,?_⟩;exact(((t.ra w.heap.size 0 (Pa 0) _ rfl).ra w.heap.size 1 (Z 0) _ rfl).ra w.heap.size 2 (Z 0) _ rfl).ya
   |succ k=>
    have t109:=j.out k (by omega);have a:=B.out;unfold Qu at a;rw[DT (by omega),Nat.add_sub_cancel,PT (by omega)]at a;dsimp only at a;unfold bj at t109;generalize(l[k]'(by omega))=y at*;have b0:((((k+1:Nat):Int))==0)=false:=by rw[ET];omega
    have ak:IntKind.i64.wrap (((k+1:Nat):Int)-1)=(k:Int):=by rw[RT _ (by omega)];omega
    have al:((k+1:Nat):Int)-1=(k:Int):=by omega
    generalize((k+1:Nat):Int)=k1 at*;clear B j hw;go_wp2_with fail;refine t.k1 t109 fun L S=> ?_;have K:=S.Wa (.cells #[Pa y.Qa,Z y.Qb,Z y.pos] 126) L.heap.size rfl;clear t S t109;go_upto_region 10 with(fail);generalize L.alloc (.cells #[Pa y.Qa,Z y.Qb,Z y.pos] 126)=W7 at*;obtain⟨e,f,c2⟩:=K.c3 w.heap.size;obtain⟨f0,f1,f2⟩:=K.f3 w.heap.size;obtain⟨d0,d1,d2⟩:=K.c3 L.heap.size;by_cases z:y.Qa=h
    ·rw[JT z]at a;subst a;subst z;go_wp2_with fail;refine ZT (v:=Rj (some y)) (by simp[results,results68,go_sem,Rj,e,f,c2]) rfl ⟨rfl,?_⟩;exact(((K.ra w.heap.size 0 (Pa y.Qa) _ rfl).ra w.heap.size 1 (Z y.Qb) _ rfl).ra w.heap.size 2 (Z y.pos) _ rfl).ya
    ·rw[DT z]at a;subst a;have b1:((y.Qa:Int) !=h)=true:=by rw[CU];omega
     go_wp2_with fail;refine ZT (v:=Rj none) (by simp[results,results68,go_sem,Rj,e,f,c2]) rfl ⟨rfl,?_⟩;exact(((K.ra w.heap.size 0 (Pa 0) _ rfl).ra w.heap.size 1 (Z 0) _ rfl).ra w.heap.size 2 (Z 0) _ rfl).ya
theorem GP(T D n:Nat)(l:List qa)(d:An.ja)(s:d.down=false)(a:iz d n l):Tr prog 191 #[Da T] (Tf T D n l*na D d) (fun v:Value=> .tuple #[v,Z 0]) (fun v=>ua 126 3 v l.length (xc l)*(Tf T D n l*na D d)):=by
 intro w o r k;have g:=TZ k;obtain⟨f,t,I⟩:=g.wR T D n l;have t1:=yu T D n l.length f.mv f.F f.M;have hle:=Us (T:=T) (D:=D) (n:=n) t;have E:=a.len;have t151:=Kq n a.num;have t243:=zy D d (Ra n) (Xm n) s;rw[a.file]at t243;have t244:=mH (Tb l) (by rw[jo];omega);rw[uu a.ym a.QS (by omega)]at t244;unfold qv full at t243;have t244:Tr prog 244 #[Ha (Tb l)] aa.emp (fun v:Value=> .tuple #[v,Z 0]) (fun v=>ua 126 3 v l.length (xc l)):=t244;dsimp only at t243;generalize Tb l=G at*;generalize Ra n=H at*;clear k g t a s;go_enter func191,ntmps191;go_wp2_with fail;refine Y.ka I t1 fun m=> ?_;have c:=(I.drewN m);clear I;generalize w.drewN m=e at*;have i:e.cell? ⟨T,0,none⟩=some (Da D):=c.cells T 0;have j:e.cell? ⟨T,1,none⟩=some (Z n):=c.cells T 1;have B:=IT i;have C:=IT j;go_upto_region 3 with(fail);refine Hc [0,4] [1,2,3,5,6,7,8] 9 [10,11,12,13,14] (by kernel_rfl) (by kernel_rfl) (by rfl) (fun _ _ _ _ _ h=>h) ?_;simp only[QT,VT,MT,NT];dsimp only[Ub];go_simp;repeat (quiet_step ((first|(go_at_call 151;refine gU (t151 _)))))
 refine fU ?_;first|(rintro _ ⟨b,rfl⟩)|(intro b)
 have q:=jU e b.d b.os;generalize Go.Sort.grow (redrawn e b.d) b.os=L at*;clear b;intro K p;go_simp;have u:=c.below q;clear B C i j c;refine u.k1 t243 fun J x=> ?_;go_simp;refine p _ _ ?_;clear p K;repeat (quiet_step (fail))
 refine fU ?_;have y:=x.le (Re _);go_wp2_with fail;refine Y.kc y t244 fun w' v z=> ?_;go_wp2;go_ret2;exact⟨v,rfl,(z.ya (A:=az T D n l f*(na D d*ua 126 3 v l.length (xc l)))).le (KZ (MZ hle (JZ _)) (KZ PZ NZ))⟩
theorem nR:Ud prog 254 #[.string ⟨#[]⟩] aa.emp (Sg Ng 0) aa.emp:=by intro w o r a;have b:=TZ a;have I:=b.Wa (.cells #[Z 0,Z 0,.map none] 227) w.heap.size rfl;clear a;go_enter func254,ntmps254;obtain⟨c,d,c2⟩:=I.c3 w.heap.size;obtain⟨f0,f1,f2⟩:=I.f3 w.heap.size;go_wp2_with fail;refine ZT (v:=.agg #[Z 0,Z 0,.map none]) (by simp[results,results254,go_sem,c,d,c2]) rfl ⟨rfl,?_⟩;exact I.le (le_empty _)
abbrev CM(l:List qa)(q:Bl×Nat):aa:=aa.pure (kN q.1∧∀e∈l,Rp q.1 e.Qa=true)*Mm q.1 q.2
theorem BM(F:Bl)(M:Nat)(A:Option Addr)(c:Nat)(l:List qa)(hF:kN F)(hl:l.length≤100000)(T:∀e∈l,e.Qa<18446744073709551616):Tr prog 253 #[Sg F M,O A l.length c] (Mm F M*Fg A l c) (fun q:Bl×Nat=>Sg q.1 q.2) (fun q=>CM l q*Fg A l c):=by
 intro w o r S;have P:=TZ S;obtain⟨b,z⟩:∃b,(if F.Rb=0 then Value.map none else .map (some M))=Value.map b:=by
  by_cases X:F.Rb=0
  ·exact⟨none,JT X⟩
  ·exact⟨some M,DT X⟩
 have I:Sg F M= .agg #[Z F.Rb,Z F.size,.map b]:=by unfold Sg;rw[z]
 have n:∀W,Y w o r (Fg A l c) W→∃q:Bl×Nat,Ending.returned (Sg Ng 0)=Ending.returned (Sg q.1 q.2)∧Y w o r (CM l q*Fg A l c) W:=fun W hW=>⟨(Ng,0),rfl,hW.le (KZ (RZ trivial) (MZ (RZ ⟨Iz,fun e _=>rfl⟩) (JZ _)))⟩;have HB:=V n;have HE:=V T;have t148:=fun h hh=>ZG F M h hh hF;have Q:=(P.Wa (.cells #[Z F.Rb,Z F.size,.map b] 227) w.heap.size rfl).Wa (.cells #[Z 0,Z 0,.map none] 227) (w.heap.size+1) (dc rfl);rw[I]at t148⊢;have HV:=V I;have HF:=V hF;clear S P n z I T hF;go_enter func253,ntmps253;go_wp2_with fail;generalize((w.alloc (.cells #[Z F.Rb,Z F.size,.map b] 227)).alloc (.cells #[Z 0,Z 0,.map none] 227))=W1 at*;generalize w.heap.size+1=a at*;have R:Y w o r (ba w.heap.size 227 #[Z F.Rb,Z F.size,.map b]*(ba a 227 #[Z 0,Z 0,.map none]*(Mm F M*Fg A l c))) W1:=Q.ya;clear Q;go_loopw [9] (fun L wr=>∃k:Nat,L=Z k∧k≤l.length∧Hid (∀j (p:j<l.length),j<k→Rp F l[j].Qa=true)∧Y w o r (ba w.heap.size 227 #[Z F.Rb,Z F.size,.map b]*(ba a 227 #[Z 0,Z 0,.map none]*(Mm F M*Fg A l c))) wr) (fun L _=>l.length-(intOf L).toNat);case atStart=>exact⟨0,rfl,WT _,V fun j _ h=>absurd h (NV _),R⟩
 case round=>
  obtain⟨k,rfl,hk,s,J⟩:=hrel;clear R;by_cases x:k<l.length
  ·have U:(k:Int)<(l.length:Int):=by omega
   obtain⟨g,off,rfl,a1,u,G⟩:=J.we A c l Ld k x (by decide);have d:=u _ rfl;have i:=G 1 _ rfl;have c2:=G 2 _ rfl;have t:=t148 l[k].Qa (HE.out _ (XT x));have f:Rp F l[k].Qa=true→Hid (∀j (p:j<l.length),j<k+1→Rp F l[j].Qa=true):=fun h=>V fun j p a6=>by
    by_cases H:j<k
    ·exact s.out j p H
    ·have:j=k:=by omega
     subst this;exact h
   have C:=V f;generalize l[k]=y at*;have K:=J.Wa (.cells #[Pa y.Qa,Z y.Qb,Z y.pos] 126) wr.heap.size rfl;clear G u f J s t148;go_upto_region 4 with(fail);clear d i c2;generalize wr.alloc (.cells #[Pa y.Qa,Z y.Qb,Z y.pos] 126)=W4 at*;have d:=K.cells wr.heap.size 0;obtain⟨d0,d1,d2⟩:=K.c3 w.heap.size;cases hm:Rp F y.Qa with
   |true=>
    rw[hm]at t;have N:=C.out hm;clear C hm;go_wp2_with fail;refine K.k1 t fun w5 D=> ?_;clear d d0 d1 d2;go_wp2;go_roundw;case rel=>exact⟨k+1,by go_num,by omega,N,D.ya⟩
    case measure=>simp[intOf];omega
   |false=>rw[hm]at t;clear C hm;go_wp2_with fail;refine K.k1 t fun w5 D=> ?_;clear d d0 d1 d2;go_wp2_with fail;refine((D.le (Re _)).Fm nR).mono ?_;rintro e w6 ⟨rfl,E⟩;obtain⟨d,i,c2⟩:=E.c3 a;obtain⟨f0,f1,f2⟩:=E.f3 a;unfold Sg Ng;dsimp only;go_wp2_with fail;refine ZT (v:=Sg Ng 0) (by simp[results,results253,go_sem,Sg,Ng,d,i,c2]) rfl (HB.out _ ?_);exact(((E.ra a 0 (Z 0) _ rfl).ra a 1 (Z 0) _ rfl).ra a 2 (.map none) _ rfl).ya
  ·have U:¬ ((k:Int)<(l.length:Int)):=by omega
   have m:∀e∈l,Rp F e.Qa=true:=fun e he=>by obtain⟨j,p,rfl⟩:=dV he;exact s.out j p (by omega)
   have B:kN F∧∀e∈l,Rp F e.Qa=true:=⟨HF.out,m⟩;have HA:=V B;obtain⟨d,i,c2⟩:=J.c3 a;obtain⟨f0,f1,f2⟩:=J.f3 a;obtain⟨d0,d1,d2⟩:=J.c3 w.heap.size;clear s m B;go_wp2_with fail;refine ZT (v:=.agg #[Z F.Rb,Z F.size,.map b]) (by simp[results,results253,go_sem,d,i,c2]) rfl ?_;refine⟨F,M,by rw[HV.out],?_⟩;have J2:=(((J.ra a 0 (Z F.Rb) _ rfl).ra a 1 (Z F.size) _ rfl).ra a 2 (.map b) _ rfl);exact(J2.ya (A:=Mm F M*Fg A l c)).le (MZ (RZ HA.out) (JZ _))
theorem qu:∀ (n:Nat) (s:Bs) (l:List qa),Zd n s=some l→l.length=n∧∀e∈l,Iy e
 |0,s,l,h=>by
  unfold Zd at h;split at h
  ·cases h;exact⟨rfl,fun e he=>by cases he⟩
  ·cases h
 |n+1,s,l,h=>by
  rw[Ur]at h;cases he:vj (s.take 24)with
  |none=>rw[he]at h;cases h
  |some e=>
   rw[he]at h;dsimp only at h;cases a:Zd n (s.drop 24)with
   |none=>rw[a]at h;cases h
   |some r=>rw[a]at h;simp only[KU,uX]at h;subst h;obtain⟨c,d⟩:=qu n _ r a;exact⟨by simp[c],fun x b=>by rcases dU.1 b with rfl|b;exact yA he;exact d x b⟩
theorem ky{s:Bs}{l:List qa}(h:mf s=some l):s.length=12+24*l.length∧ub l=true∧∀e∈l,Iy e:=by
 unfold mf at h;cases a:Eg s with
 |none=>rw[a]at h;cases h
 |some t=>
  rw[a]at h;dsimp only at h;have i:=Kz a;split at h
  ·cases h
  ·split at h
   ·cases h
   ·rename_i f b;cases he:Zd (num ((t.drop 4).take 4)) (t.drop 8)with
    |none=>rw[he]at h;cases h
    |some r=>
     rw[he]at h;dsimp only at h;split at h
     ·rename_i d;cases h;obtain⟨g,c⟩:=qu _ _ _ he;refine⟨?_,d,c⟩;rw[cU]at b;omega
     ·cases h
theorem oC(F:Bl)(M:Nat):∃b,Sg F M= .agg #[Z F.Rb,Z F.size,.map b]∧∀D n many mv,BS D n many mv F M=#[Da D,Z n,Z many,mv,Z F.Rb,Z F.size,.map b]:=by
 by_cases a:F.Rb=0
 ·exact⟨none,by unfold Sg;rw[JT a],fun _ _ _ _=>by unfold BS;rw[JT a]⟩
 ·exact⟨some M,by unfold Sg;rw[DT a],fun _ _ _ _=>by unfold BS;rw[DT a]⟩
def JF(o:Option (List qa))(T:Nat):Value:=if o.isSome then .tuple #[Da T,Z 0]else .tuple #[.pointer none,Z 90]
def IF(o:Option (List qa))(T D n:Nat):aa:=match o with
 |none=>aa.emp
 |some l=>Tf T D n l
theorem ED(fs:Hb)(n:Nat):Hh fs n=match Na (Ra n) fs with
 |none=>none
 |some f=>mf f.data:=rfl
theorem OD(D n:Nat)(d:An.ja)(hn:n≤999999)(H:d.down=false):Tr prog 209 #[Da D,Z n] (na D d) (fun T:Nat=>JF (Hh d.fa n) T) (fun T=>IF (Hh d.fa n) T D n*na D d):=by
 intro w o r h0;have I:=TZ h0;have i:=I.Zi D d;have t151:=Kq n hn;have t243:=zy D d (Ra n) (Xm n) H;have t153:=IH 4 ⟨by omega,by omega⟩;rw[ED];cases x:Na (Ra n) d.fa with
 |none=>rw[x]at t243;unfold qv at t243;dsimp only at*;clear h0 H x i;go_enter func209,ntmps209;go_wp2_with fail;refine Y.kp I t151 fun w' k=> ?_;go_wp2_with fail;refine Y.k1 k t243 fun w' p=> ?_;go_wp2_with fail;refine(t153 _).mono ?_;rintro e w4 ⟨rfl,m,rfl⟩;go_wp2;go_ret2;exact⟨0,rfl,(p.drewN m).le (KZ (MZ (JZ _) (JZ _)) NZ)⟩
 |some f=>
  have hlen:f.data.length≤1048576:=by have h1:=dg i.Db x;have:=i.Ia;have:=i.cap;omega
  rw[x]at t243;unfold qv at t243;dsimp only at*;have t244:=mH f.data (by omega);have a:∀l,mf f.data=some l→l.length≤70000∧∀e∈l,e.Qa<18446744073709551616:=fun l hl=>by obtain⟨h1,_,h3⟩:=ky hl;exact⟨by omega,fun e he=>(h3 e he).Qa⟩
  generalize mf f.data=o2 at*;generalize f.data=s at*;have tb:=Sw n hn;have h:=zy D d (rb n) (qn n) H;have L:∀g,Na (rb n) d.fa=some g→g.data.length≤1048576:=fun g hg=>by have h1:=dg i.Db hg;have:=i.Ia;have:=i.cap;omega
  obtain⟨G,u,U,a1,a7⟩:∃ (G:Bs) (u:Nat),qv (Na (rb n) d.fa)= .tuple #[Ha G,Z u]∧G.length≤2000000∧(u=0∨u=4):=by
   cases hb:Na (rb n) d.fa with
   |none=>exact⟨[],4,rfl,by simp,.inr rfl⟩
   |some g=>exact⟨g.data,0,rfl,by have:=L g hb;omega,.inl rfl⟩
  rw[U]at h;have a6:((u:Int)==61)=false:=by rw[ET];omega
  have t254:=dM G a1;clear h0 H x i hlen L U;cases o2 with
  |none=>have t244:Tr prog 244 #[Ha s] aa.emp (fun v:Value=> .tuple #[O none 0 0,Z 90]) (fun v=>aa.emp):=t244;clear a;go_enter func209,ntmps209;go_wp2_with fail;refine Y.kp I t151 fun w' k=> ?_;go_wp2_with fail;refine Y.k1 k t243 fun w' p=> ?_;have C:=p.le (Re _);go_wp2_with fail;refine Y.kc C t244 fun w' v t=> ?_;go_wp2;go_ret2;refine⟨0,rfl,?_⟩;show Y w o r (aa.emp*na D d) _;exact(t.ya (A:=na D d)).le (Re _)
  |some l=>have t244:Tr prog 244 #[Ha s] aa.emp (fun v:Value=> .tuple #[v,Z 0]) (fun v=>ua 126 3 v l.length (xc l)):=t244;obtain⟨hl,hh⟩:=a l rfl;have HH:=V hh;clear a hh;go_enter func209,ntmps209;go_wp2_with fail;refine Y.kp I t151 fun w' k=> ?_;go_wp2_with fail;refine Y.k1 k t243 fun w' p=> ?_;have C:=p.le (Re _);go_wp2_with fail;refine Y.kc C t244 fun w' v t=> ?_;obtain⟨_,A,c,rfl⟩:=t.Cd v;go_wp2_with fail;refine Y.kp t tb fun w' I6=> ?_;go_wp2_with fail;refine Y.k1 I6 h fun w' I7=> ?_;have I8:=(I7.ya (A:=Dk A l c*na D d)).le (MZ c8 (JZ _));have t252:=GL (O A l.length c) l (by omega);clear k p C t I6 I7 t151 t243 t153 t244 tb h;go_wp2_with fail;refine(I8.call t252).mono ?_;rintro e w5 ⟨⟨mv,ms⟩,rfl,J1⟩;obtain⟨⟨P,R⟩,E⟩:=J1.pure;dsimp only at P R E;obtain⟨_,j,c2,rfl⟩:=E.Cd mv;go_wp2_with fail;refine((E.le (Re _)).call t254).mono ?_;rintro e w6 ⟨⟨F,M⟩,rfl,J3⟩;obtain⟨hF,W⟩:=J3.pure;dsimp only at hF W;have t253:=BM F M A c l hF (by omega) HH.out;obtain⟨mo,Q,_⟩:=oC F M;rw[Q]at t253⊢;clear I8 J1 E J3 t252 t254 hF Q;go_wp2_with fail;refine(W.call t253).mono ?_;rintro e q ⟨⟨b,M2⟩,rfl,J5⟩;obtain⟨⟨J,y⟩,X⟩:=J5.pure;dsimp only at J y X⊢;obtain⟨B,z,N⟩:=oC b M2;rw[z];have S:SR l ⟨O j ms.length c2,ms,b,M2⟩:=⟨R,P,J,y⟩;have hle:=Us (T:=q.heap.size) (D:=D) (n:=n) S;unfold az at hle;dsimp only at hle;rw[N]at hle;have HL:=V hle;have K:=X.Wa (.cells #[Da D,Z n,Z l.length,O j ms.length c2,Z b.Rb,Z b.size,.map B] 229) q.heap.size rfl;clear W J5 X t253 z N hle S;go_wp2;go_ret2;refine⟨q.heap.size,rfl,?_⟩;show Y w o r (Tf q.heap.size D n l*na D d) _;have K2:=(K.ya (A:=ua 272 4 (O j ms.length c2) ms.length (ms.flatMap (Yk l))*(ba q.heap.size 229 #[Da D,Z n,Z l.length,O j ms.length c2,Z b.Rb,Z b.size,.map B]*(Mm b M2*na D d)))).le (MZ c8 (JZ _));exact(K2.ya (A:=(ba q.heap.size 229 #[Da D,Z n,Z l.length,O j ms.length c2,Z b.Rb,Z b.size,.map B]*(Ba 4 (O j ms.length c2) ms.length (ms.flatMap (Yk l))*Mm b M2))*na D d)).le (MZ HL.out (JZ _))
abbrev TL:=List (Nat×Nat)
def Sp(g:TL):yo:=g.map fun p=>(p.1,Da p.2)
def Od(D:Nat)(tl:Nat→List qa):TL→aa
 |[]=>aa.emp
 |p::r=>Tf p.2 D p.1 (tl p.1)*Od D tl r
theorem ny{D:Nat}{tl:Nat→List qa}{g c:TL}(h:g.Perm c):aa.le (Od D tl g) (Od D tl c):=by
 induction h with
 |nil=>exact JZ _
 |cons _ _ f=>exact MZ (JZ _) f
 |swap a b l=>exact KZ PZ (KZ (MZ NZ (JZ _)) OZ)
 |trans _ _ d e=>exact KZ d e
theorem Zz{D:Nat}{tl:Nat→List qa}{g:TL}{n T:Nat}(h:(n,T)∈g):aa.le (Od D tl g) (Tf T D n (tl n)*Od D tl (g.erase (n,T))):=ny (List.perm_cons_erase h)
theorem FD{D:Nat}{tl:Nat→List qa}{g:TL}{n T:Nat}(h:(n,T)∈g):aa.le (Tf T D n (tl n)*Od D tl (g.erase (n,T))) (Od D tl g):=ny (List.perm_cons_erase h).symm
theorem GD{D:Nat}{tl a:Nat→List qa}:∀ {g:TL},(∀p∈g,a p.1=tl p.1)→aa.le (Od D tl g) (Od D a g)
 |[],_=>JZ _
 |p::r,h=>by refine MZ ?_ (GD fun q b=>h q (TV _ b));rw[h p (iX ..)];exact JZ _
theorem PL{α:Type}{f:FuncId}{a:Array Value}{v:α→Value}{B:α→aa}{T D n:Nat}{tl:Nat→List qa}{d:An.ja}{g:TL}(t:Tr prog f a (Tf T D n (tl n)*na D d) v (fun x=>B x*(Tf T D n (tl n)*na D d)))(h:(n,T)∈g):Tr prog f a (Od D tl g*na D d) v (fun x=>B x*(Od D tl g*na D d)):=by intro w o r c;have I:=(TZ c).le (KZ (MZ (Zz h) (JZ _)) (KZ OZ (KZ (MZ (JZ _) NZ) PZ)));refine(I.call t).mono ?_;rintro e w' ⟨x,rfl,J⟩;refine⟨x,rfl,?_⟩;have b:=J.ya (A:=(Tf T D n (tl n)*Od D tl (g.erase (n,T)))*(B x*na D d));exact b.le (KZ (MZ (FD h) (JZ _)) (KZ PZ (KZ (MZ NZ (JZ _)) OZ)))
theorem aP{f:FuncId}{a:Array Value}{u:Value}{T D n:Nat}{tl:Nat→List qa}{d:An.ja}{g:TL}(t:Ud prog f a (Tf T D n (tl n)*na D d) u (Tf T D n (tl n)*na D d))(h:(n,T)∈g):Ud prog f a (Od D tl g*na D d) u (Od D tl g*na D d):=by intro w o r c;have I:=(TZ c).le (KZ (MZ (Zz h) (JZ _)) (KZ OZ (KZ (MZ (JZ _) NZ) PZ)));refine(I.Fm t).mono ?_;rintro e w' ⟨rfl,J⟩;refine⟨rfl,?_⟩;have b:=J.ya (A:=(Tf T D n (tl n)*Od D tl (g.erase (n,T)))*na D d);exact b.le (MZ (FD h) (JZ _))
structure XG where
 lv:Value
 B:Nat
 M:Nat
 g:TL
structure AJ(m:Fa)(x:XG):Prop where
 nd:(x.g.map (·.1)).Nodup
 has:∀n∈m.ia.flatten,∃T,(n,T)∈x.g
 lt:∀p∈x.g,p.1<m.next
abbrev Lw(D:Nat)(m:Fa)(rate:Nat)(a:Value)(B M:Nat):Array Value:=#[Da D,.int .i64 m.next,.int .i64 m.check,.int .u64 m.da,a,.float .f64 rate,Da B,.map (some M)]
abbrev ui(X D rate:Nat)(m:Fa)(tl:Nat→List qa)(mem:List qa)(x:XG):aa:=ba X 131 (Lw D m rate x.lv x.B x.M)*(Ea x.lv m.ia*(gh x.B mem*(Ib prog 3 x.M (Rk (Sp x.g))*Od D tl x.g)))
def Xd(X D rate:Nat)(m:Fa)(tl:Nat→List qa)(mem:List qa):aa:=aa.ex fun x:XG=>aa.pure (AJ m x)*ui X D rate m tl mem x
theorem Ik{X D rate:Nat}{m:Fa}{tl:Nat→List qa}{mem:List qa}{x:XG}(h:AJ m x):aa.le (ui X D rate m tl mem x) (Xd X D rate m tl mem):=KZ (RZ h) (SZ (A:=fun x:XG=>aa.pure (AJ m x)*ui X D rate m tl mem x) x)
theorem Y.idx{d w:World}{b c:Td}{S R:aa}(h:Y d b c S w)(X D rate:Nat)(m:Fa)(tl:Nat→List qa)(mem:List qa)[k:Find (Xd X D rate m tl mem) S R]:∃x,AJ m x∧Y d b c (ui X D rate m tl mem x*R) w:=by have a:=h.le k.split;unfold Xd at a;obtain⟨x,a⟩:=a.ex;obtain⟨e,a⟩:=a.pure;exact⟨x,e,a⟩
theorem px{g:TL}(a:(g.map (·.1)).Nodup){n T:Nat}(h:(n,T)∈g):Ql n (Sp g)=some (Da T):=by
 induction g with
 |nil=>cases h
 |cons p r c=>
  rw[qU,DV]at a;unfold Ql Sp;rw[qU,oW];rcases dU.1 h with rfl|h
  ·simp
  ·have b:p.1≠n:=fun e=>a.1 (nU.2 ⟨_,h,by rw[e]⟩);simp only[b,GZ];exact c a.2 h
theorem Mw(w:World):(zeroValue 135).run prog w= .ok (.pointer none) w:=by kernel_rfl
theorem zr(X:Nat)(a b c d e f h:Value)(B:Nat):Pp prog 65 #[Da X] (ba X 131 #[a,b,c,d,e,f,Da B,h]) (.bool false):=by intro w o r g;have I:=TZ g;have c6:w.cell? ⟨X,6,none⟩=some (Da B):=I.cells X 6;clear g;go_enter func65,ntmps65;go_wp2;go_ret;exact⟨rfl,0,rfl⟩
end
end Go.Proofs.YteacbkflfafefaaGreatDoor
