/- Part 25 of 50 of the proof that TopViews returns true at every input: lemmas on the way; no condition. -/
import Derived.Test.YteacbkflfafefaaGreatDoorZ19
import Derived.Test.YteacbkflfafefaaGreatDoorZ20
namespace Go.Proofs.YteacbkflfafefaaGreatDoor
set_option linter.all false
set_option maxHeartbeats 1000000
set_option maxRecDepth 100000
section
open Go.RowKit An Go.ChangeShapes Go.WideShapes Go.ChangeAt Go.Proofs.Tryz
theorem AL(L D:Nat)(st:Int)(P:Ma)(d:An.ja)(h:Bs)(i:P.length≤200):Ud prog 205 #[Da L,Z P.length,Ha h,Z 0] (Fc L D st P*na D d) (Z (d.delete (Ca P.length)).1) (Fc L D st P*na D (d.delete (Ca P.length)).2):=by intro w o r b;have e:=TZ b;obtain⟨A,c,u,I⟩:=e.log L D st P;have t56:=Tk P.length (by omega);have t:=xl D d (Ca P.length) (Qd _);clear b;generalize d.delete (Ca P.length)=q at*;obtain⟨j,k⟩:=q;dsimp only at*;go_enter func205,ntmps205;go_wp2_with fail;refine I.kp t56 fun w2 a=> ?_;have g:w2.cell? ⟨L,0,none⟩=some (Da D):=a.cells L 0;go_wp2_with fail;refine a.k1 t fun l f=> ?_;go_wp2;go_ret;exact⟨rfl,(f.via (ig (L:=L) (D:=D) (st:=st) (P:=P) (v:=O A P.length c) (u:=u))).ya⟩
theorem BL(L D:Nat)(st:Int)(B:Ma)(f:List Bs)(T:Bs)(d:An.ja)(hP:B.length≤199)(hs:Xa f≤4096)(U:T.length≤2000000):Ud prog 205 #[Da L,Z B.length,Ha (Lb B.length f++T),Z (Xa f)] (Fc L D st B*na D d) (Z (ai (B++[f]) T none d).1) (Fc L D st (B++[f])*na D (ai (B++[f]) T none d).2):=by
 intro w o r H;have N:=TZ H;obtain⟨A,c,u,I⟩:=N.log L D st B;obtain⟨i3,hi,C,E,F⟩:=info_parts Mi;have z:B.length+1≤1000000000:=by omega
 have t56:=Tk B.length (by omega);have p:=Ze B.length f;have hle:∀ {A:Option Addr} {c:Nat} {u:Int},aa.le (Ut L D st A (B.length+1) c u (Gn B++[Z (Xa f)])) (Fc L D st (B++[f])):=fun {A c u}=>by rw[←fo,show B.length+1=(B++[f]).length by simp];exact ig
 have a1:((Xa f:Int)==0)=false:=by rw[ET];unfold Xa;omega
 clear H;by_cases j:T=[]
 ·subst j;have e:ai (B++[f]) [] none d=d.sync (Ca B.length):=by simp[ai]
  have t:=ou D d (Ca B.length) (Qd _);rw[e,EU];clear e;generalize d.sync (Ca B.length)=q at*;obtain⟨q1,q2⟩:=q;have K:¬ ((Xa f:Int)<((Lb B.length f).length:Int)):=by omega
  clear p;generalize Lb B.length f=S at*;generalize Xa f=cs at*;dsimp only at*;go_enter func205,ntmps205;go_wp2_with fail;refine I.kp t56 fun w2 m=> ?_;have c3:w2.cell? ⟨L,3,none⟩=some (O A B.length c):=m.cells L 3;go_wp2_with (at_builtin;go_loud (refine Oa (v:=O A B.length c) [Z (cs:Int)] 1 m rfl rfl underlying35 hi C E rfl rfl rfl rfl (sw _) z (by rw[F];omega) ?_);intro i c' l g;have G:=g.free L 3;have c3:l.cell? ⟨L,3,none⟩=some (O A B.length c):=g.cells L 3;have x:l.cell? ⟨L,0,none⟩=some (Da D):=g.cells L 0);have s:=((g.ra L 3 (O i (B.length+1) c') #[Da D,Z st,.bool false,O i (B.length+1) c',Z u]).via (hle (A:=i) (c:=c') (u:=u)));refine s.k1 t fun w4 n=> ?_;go_wp2;go_ret;exact⟨rfl,n.ya⟩
 ·have y:T.isEmpty=false:=by cases T with|nil=>exact absurd rfl j|cons a b=>rfl
  have e:ai (B++[f]) T none d=An.yg (Ca B.length) (Lb B.length f) d:=by simp[ai,y]
  have t:=vN D d (Ca B.length) (Lb B.length f) (Qd _) (by omega);rw[e];clear e y;generalize An.yg (Ca B.length) (Lb B.length f) d=q at*;obtain⟨q1,q2⟩:=q;have K:(Xa f:Int)<((Lb B.length f++T).length:Int):=by have:0<T.length:=xV.2 j;rw[CT];omega
  have hcut:∀w,(Instr.slice 9 (Ha (Lb B.length f++T)) none (some (Z (Xa f))) none).run prog w= .ok (Ha ((Lb B.length f++T).take (Xa f))) w:=jm (by omega) (by congr 1<;>omega);rw[re p]at hcut;clear p j U;generalize Lb B.length f++T=cT at*;generalize Lb B.length f=S at*;generalize Xa f=cs at*;dsimp only at*;go_enter func205,ntmps205;go_wp2_with fail;refine I.kp t56 fun w2 m=> ?_;have c3:w2.cell? ⟨L,3,none⟩=some (O A B.length c):=m.cells L 3;go_wp2_with (at_builtin;go_loud (refine Oa (v:=O A B.length c) [Z (cs:Int)] 1 m rfl rfl underlying35 hi C E rfl rfl rfl rfl (sw _) z (by rw[F];omega) ?_);intro i c' l g;have G:=g.free L 3;have c3:l.cell? ⟨L,3,none⟩=some (O A B.length c):=g.cells L 3;have x:l.cell? ⟨L,0,none⟩=some (Da D):=g.cells L 0);have s:=((g.ra L 3 (O i (B.length+1) c') #[Da D,Z st,.bool false,O i (B.length+1) c',Z u]).via (hle (A:=i) (c:=c') (u:=u)));generalize l.setCell ⟨L,3,none⟩ (O i (B.length+1) c')=W at*;obtain⟨M,c2,u2,n⟩:=s.log L D st (B++[f]);clear x c3 G g s;have x:W.cell? ⟨L,0,none⟩=some (Da D):=n.cells L 0;have X:=IT x;refine Cb [0,4,5,6] [1,2,3,7] [8,9] (by kernel_rfl) (by kernel_rfl) (fun _ _ _ _ _ h=>h) ?_;simp only[QT,VT,MT,NT];dsimp only[Ub];go_simp;repeat (quiet_step (fail))
  refine fU ?_;first|(rintro _ ⟨k,rfl⟩)|(intro k)
  have J:=jU W k.d k.os;generalize Go.Sort.grow (redrawn W k.d) k.os=wq at*;clear k;have Q:=n.below J;clear X n;go_wp2_with fail;refine Q.k1 t fun w4 R=> ?_;go_wp2;go_ret;exact⟨rfl,(R.via (ig (L:=L) (D:=D) (st:=st) (P:=B++[f]) (v:=O M (B++[f]).length c2) (u:=u2))).ya⟩
def Om(H:Option Bs):Nat:=if H.isSome then 1 else 0
theorem lP(L D:Nat)(st:Int)(P:Ma)(T:Bs)(H:Option Bs)(y:Nat)(d:An.ja)(hd:d.down=false)(e:Jc d.fa P T H y):Ud prog 158 #[Da L,Z (P.length+Om H:Nat)] (Fc L D st []*na D d) (Z (ai P T H d).1) (Fc L D st P*na D (ai P T H d).2):=by
 intro w o r h0;have I:=TZ h0;have K:=I.Zi D d;have hlen:∀n f,Na n d.fa=some f→f.data.length≤1048576:=fun n f t=>by have h1:=dg K.Db t;have:=K.Ia;have:=K.cap;omega
 have aM:P.length+Om H≤200:=e.many;have HL:=V e;have HE:=V hlen;have HD:=V hd;clear h0 e hlen hd K;obtain⟨i3,hi,an,aq,av⟩:=info_parts Mi;generalize a:P.length+Om H=N at*;have C:=V a;clear a;have G:N=0→P=[]∧ai P T H d=(0,d):=fun h0=>by
  have a:=C.out;have E:P=[]:=uU (by omega);have a6:H=none:=by
   cases H with
   |none=>rfl
   |some x=>unfold Om at a;simp at a;omega
  subst E a6;exact⟨rfl,rfl⟩
 have HZ:=V G;clear G;obtain⟨q,hq⟩:∃q,ai P T H d=q:=⟨_,rfl⟩;rw[hq];have HQ:=V hq;clear hq;go_enter func158,ntmps158;go_wp2_with fail;go_loopw [10] (fun yk wr=>∃k:Nat,k≤N∧(N=0∨k<N)∧k≤P.length∧yk=Z k∧Y w o r (Fc L D st (P.take k)*na D d) wr) (fun yk _=>N-(intOf yk).toNat);case atStart=>exact⟨0,WT _,by omega,WT _,rfl,by rw[IW];exact I.ya⟩
 case round=>
  obtain⟨k,b7,b6,b9,rfl,J⟩:=hrel;clear I;by_cases Q:N=0
  ·obtain⟨E,hM⟩:=HZ.out Q;have hk:k=0:=by omega
   subst hk Q E;go_wp2;go_ret;have b:=HQ.out;rw[hM]at b;subst b;exact⟨rfl,J⟩
  ·have bc:k<N:=by omega
   have e:=HL.out;obtain⟨A,c,u,p⟩:=J.log L D st (P.take k);have c0:wr.cell? ⟨L,0,none⟩=some (Da D):=p.cells L 0;have m:(P.take k).length=k:=by rw[OT];omega
   have al:IntKind.i64.wrap ((N:Int)-1)=((N-1:Nat):Int):=by rw[RT _ (by omega)];omega
   by_cases j:k<P.length
   ·obtain⟨S,z,t,F⟩:∃S z,Na (Ca k) d.fa=some ⟨Lb k P[k]++S,z⟩∧zj S=none∧(k+1<N→S=[])∧(k+1=N→S=T∧H=none∧P=P.take k++[P[k]]):=by
     have i:=e.get k (by omega);rw[qW j]at i;by_cases he:k+1=P.length
     ·rw[JT he]at i;refine⟨T,y,i,e.DS,fun h1=> ?_,fun h1=>⟨rfl,?_,?_⟩⟩
      ·have a:=C.out;cases h:H with
       |none=>rw[h]at a;unfold Om at a;simp at a;omega
       |some x=>exact(e.head x h).2.2.1
      ·have a:=C.out;cases h:H with
       |none=>rfl
       |some x=>rw[h]at a;unfold Om at a;simp at a;omega
      ·have:=EX j;rw[this,he,UU]
     ·rw[DT he]at i;refine⟨[],_,by rw[i,EU],Oi,fun _=>rfl,fun h1=> ?_⟩;have a:=C.out;unfold Om at a;split at a<;>omega
    have g:=cy (n:=k) (by omega) (e.lF _ (XT j)) F.1;have tl:=BG D d k _ HD.out (by omega) t (by dsimp only;rw[g]);have l:=HE.out _ _ t;dsimp only at tl l;rw[g]at tl;dsimp only at tl;rw[Ze]at tl;have U:=e.size _ (XT j);by_cases M:k+1=N
    ·obtain⟨aj,h,R⟩:=F.2.2 M;subst aj;have B:=BL L D st (P.take k) P[k] S d (by omega) U (by rw[CT]at l;omega);rw[m,←R]at B;have b:=HQ.out;rw[h]at b;rw[b]at B;have W:((k:Int)==((N-1:Nat):Int))=true:=by rw[OV];omega
     clear b h R F g t l e al;generalize Lb k P[k]++S=sk at*;generalize Xa P[k]=cs at*;go_wp2_with fail;refine p.k1 tl fun w3 s=> ?_;have J2:=s.via (ig (L:=L) (D:=D) (st:=st) (P:=P.take k) (v:=O A (P.take k).length c) (u:=u));go_wp2_with fail;refine J2.k1 B fun w4 J3=> ?_;go_wp2;go_ret;exact⟨rfl,J3.ya⟩
    ·have a8:=F.2.1 (by omega);subst a8;rw[EU]at tl;have W:((k:Int)==((N-1:Nat):Int))=false:=by rw[ET];omega
     have b5:((Xa P[k]:Int)==0)=false:=by rw[ET];unfold Xa;omega
     have hle:∀ {A:Option Addr} {c:Nat} {u:Int},aa.le (Ut L D st A (k+1) c u (Gn (P.take k)++[Z (Xa P[k])])) (Fc L D st (P.take (k+1))):=fun {A c u}=>by
      have e1:(P.take (k+1)).length=k+1:=by rw[OT];omega
      have e2:=ig (L:=L) (D:=D) (st:=st) (P:=P.take (k+1)) (v:=O A (k+1) c) (u:=u);rw[e1]at e2;rw[←fo,EX j];exact e2
     have b0:¬ ((Xa P[k]:Int)<((Lb k P[k]).length:Int)):=by rw[Ze];omega
     have ak:k+1≤1000000000:=by omega
     rw[m]at p;clear F g t l e U m;generalize Lb k P[k]=sk at*;generalize Xa P[k]=cs at*;go_wp2_with fail;refine p.k1 tl fun w3 s=> ?_;have c3:w3.cell? ⟨L,3,none⟩=some (O A k c):=s.cells L 3;go_wp2_with (at_builtin;go_loud (refine Oa (v:=O A k c) [Z (cs:Int)] 1 s rfl rfl underlying35 hi an aq rfl rfl rfl rfl (sw _) ak (by rw[av];omega) ?_);intro X c' w4 J4;have e3:=J4.free L 3;have c3:w4.cell? ⟨L,3,none⟩=some (O A k c):=J4.cells L 3);have J5:=((J4.ra L 3 (O X (k+1) c') #[Da D,Z st,.bool false,O X (k+1) c',Z u]).via (hle (A:=X) (c:=c') (u:=u))).ya (A:=Fc L D st (P.take (k+1))*na D d);go_roundw;case rel=>exact⟨k+1,by omega,by omega,by omega,by go_num,J5⟩
     case measure=>simp[intOf];omega
   ·have a1:k=P.length:=by omega
    have a:=C.out;obtain⟨x,h⟩:∃x,H=some x:=by
     cases h:H with
     |none=>rw[h]at a;unfold Om at a;simp at a;omega
     |some x=>exact⟨x,rfl⟩
    subst h;have hx:=e.head x rfl;have i:=e.get P.length (by omega);rw[kW (VW _),JT rfl]at i;have a7:N=P.length+1:=by rw[←a];rfl
    have g:=zF (n:=P.length) (by omega) hx.1 hx.2.1;have tl:=BG D d P.length _ HD.out (by omega) i (by dsimp only;rw[g]);dsimp only at tl;rw[g]at tl;dsimp only at tl;have B:=AL L D st P d x (by omega);have b:=HQ.out;rw[show ai P T (some x) d=d.delete (Ca P.length) from rfl]at b;rw[b]at B;subst a1;have W:((P.length:Int)==((N-1:Nat):Int))=true:=by rw[OV];omega
    clear g i hx e b a a7;rw[UU]at p m;go_wp2_with fail;refine p.k1 tl fun w3 s=> ?_;have J2:=s.via (ig (L:=L) (D:=D) (st:=st) (P:=P) (v:=O A P.length c) (u:=u));go_wp2_with fail;refine J2.k1 B fun w4 J3=> ?_;go_wp2;go_ret;exact⟨rfl,J3.ya⟩
theorem Gk(D:Nat)(d:An.ja):Pp prog 40 #[Da D] (na D d) (.bool !d.down):=by intro w o r b;obtain⟨cap,fs,a,dn,fl,lf,kp⟩:=d;obtain⟨M,rd,kv,g,rfl,hw,e,c,I⟩:=(TZ b).Be D;exact I.ask (IS D cap (Ia (ma g)) M rd a dn fl lf kv)
theorem iJ(D:Nat)(d:An.ja):Pp prog 92 #[Da D] (na D d) (Z d.za):=by intro w o r b;obtain⟨cap,fs,a,dn,fl,lf,kp⟩:=d;obtain⟨M,rd,kv,g,rfl,hw,e,c,I⟩:=(TZ b).Be D;exact I.ask (AD D cap (Ia (ma g)) M rd a dn fl lf kv)
theorem Gz{S:aa}(e:Nat)(sz:Nat):aa.le S (S*ua e sz (O none 0 0) 0 []):=KZ (Re S) (KZ NZ (MZ (JZ _) (j0 e sz)))
theorem xG{L D:Nat}{st u:Int}:aa.le (ba L 111 #[Da D,Z st,.bool false,O none 0 0,Z u]*ua 3 1 (O none 0 0) 0 []) (Fc L D st []):=by exact ig (L:=L) (D:=D) (st:=st) (P:=[]) (v:=O none 0 0) (u:=u)
def VE(L:Nat)(a:Nat):Value:=if a=0 then .tuple #[Da L,Z 0]else .tuple #[.pointer none,Z a]
def UE(L D:Nat)(st:Int)(P:Ma)(q:Nat×An.ja):aa:=if q.1=0 then Fc L D st P*na D q.2 else na D q.2
theorem dC{d:An.ja}(a:d.down=false){n:Bs}{f:An.jc}(h:Na n d.fa=some f):(d.delete n).1=0∨(d.delete n).1=61:=by
 unfold ja.delete;rw[a,h,DT (by simp)];dsimp only;split
 ·exact .inr rfl
 ·exact .inl rfl
theorem pL(D:Nat)(d:An.ja)(P:Ma)(T:Bs)(H:Option Bs)(y:Nat)(c:d.down=false)(l:Jc d.fa P T H y):Tr prog 115 #[Da D] (na D d) (fun L:Nat=>VE L (Gc P T H d).1) (fun L=>UE L D d.za P (Gc P T H d)):=by
 intro w o r Q;have I:=TZ Q;have K:=I.Zi D d;have s:Zb d.fa:=K.Db;have t40:=Gk D d;rw[c]at t40;have t41:=Dn D d oa Xl;have t156:=xl D d oa Xl;unfold Ha at t41 t156;rw[Ix]at t41 t156;have rest:∀d1:An.ja,d1.down=false→Jc d1.fa P T H y→Zb d1.fa→d1.za=d.za→Ud prog 157 #[Da D] (na D d1) (.tuple #[Z (P.length+Om H:Nat),.bool true]) (na D d1)∧(∀L,Ud prog 158 #[Da L,Z (P.length+Om H:Nat)] (Fc L D d.za []*na D d1) (Z (ai P T H d1).1) (Fc L D d.za P*na D (ai P T H d1).2))∧Pp prog 92 #[Da D] (na D d1) (Z d.za):=by intro d1 b h2 h3 h4;refine⟨?_,fun L=>lP L D d.za P T H y d1 b h2,h4▸iJ D d1⟩;have t:=tK D d1;have hc:xm d1.names=(P.length+Om H,true):=h2.count h3;have hm:P.length+Om H≤200:=h2.many;rw[hc]at t;unfold yQ at t;dsimp only at t;rw[RU hm,KX]at t;exact t
 have R:∀ps∈P,Xa ps≤4096:=l.size;have t159:=fun L=>BA L D d.za P l.sub R;have G:oa=[110,101,119]:=rfl;cases g:Na oa d.fa with
 |none=>
  obtain⟨tc,tr,ts⟩:=rest d c l s rfl;clear rest;generalize P.length+Om H=N at*;have e:Gc P T H d=ai P T H d:=by unfold Gc;rw[Wd (show(Xf d).1=0 by rw[Ko g]),nf,Ko g]
  have x:d.size oa=(4,0):=by unfold ja.size;rw[c,g];rfl
  rw[x]at t41;rw[e];generalize ai P T H d=q at*;generalize Ad P=k at*;obtain⟨M,q2⟩:=q;clear Q e x t156 g l K s R c G;dsimp only[Bool.not_false]at*;go_enter func115,ntmps115;go_wp2_with fail;refine Y.ka I t40 fun m=> ?_;go_wp2_with fail;refine((I.drewN m).ask t41).mono ?_;rintro e w2 ⟨rfl,m2,rfl⟩;have B:=I.drewN (m+m2);clear I;go_wp2_with fail;refine Y.k1 B tc fun p h=> ?_;go_wp2_with fail;refine Y.ka h ts fun m4=> ?_;have C:=((Y.drewN h m4).Wa (.cells #[Da D,Z d.za,.bool false,O none 0 0,Z 0] 111) p.heap.size rfl).le (Gz 3 1);have E:=C.via (xG (L:=p.heap.size) (D:=D) (st:=d.za) (u:=0));clear h C;go_wp2_with fail;generalize p.heap.size=L at*;refine Y.k1 E (tr L) fun w5 F=> ?_;clear E;by_cases n:M=0
  ·subst n;go_wp2_with fail;refine Y.k1 F (t159 L) fun w6 W=> ?_;obtain⟨z,c',u',j⟩:=W.log L D d.za P;have f4:=j.free L 4;have c4:w6.cell? ⟨L,4,none⟩=some (Z u'):=j.cells L 4;go_wp2;go_ret2;have X:=((j.ra L 4 (Z k) #[Da D,Z d.za,.bool false,O z P.length c',Z k]).via (ig (L:=L) (D:=D) (st:=d.za) (P:=P) (v:=O z P.length c') (u:=k))).ya (A:=Fc L D d.za P*na D q2);exact⟨L,rfl,X⟩
  ·have hb:((M:Int) !=0)=true:=by rw[CU];omega
   go_wp2;go_ret2;refine⟨L,?_,?_⟩
   ·unfold VE;rw[DT n];rfl
   ·unfold UE;rw[DT n];exact F.ya
 |some f=>
  have x:d.size oa=(0,f.data.length):=by unfold ja.size;rw[c,g];rfl
  rw[x]at t41;have a:=Ht g;have S:=dC c g;have U:=Dv K c;rw[a]at U;rcases U with⟨b,k1,g1,u1,n1⟩|⟨b,hf,k1,u1,n1⟩
  ·obtain⟨tc,tr,ts⟩:=rest (d.delete oa).2 k1.down (l.frame fun i hi=>k1.get _ fun e=>Hj hi e) k1.wf.Db k1.za;clear rest;generalize P.length+Om H=N at*;have e:Gc P T H d=ai P T H (d.delete oa).2:=by unfold Gc;rw[Wd (by rw[a];exact b),nf,a]
   rw[e];rw[b]at t156;generalize ai P T H (d.delete oa).2=q at*;generalize(d.delete oa).2=d1 at*;generalize Ad P=k at*;obtain⟨M,q2⟩:=q;clear Q e x g l K s R c G b k1 g1 u1 n1 a S;dsimp only[Bool.not_false]at*;go_enter func115,ntmps115;go_wp2_with fail;refine Y.ka I t40 fun m=> ?_;go_wp2_with fail;refine((I.drewN m).ask t41).mono ?_;rintro e w2 ⟨rfl,m2,rfl⟩;go_wp2_with fail;refine((I.drewN (m+m2)).Fm t156).mono ?_;rintro e w2 ⟨rfl,B⟩;clear I;go_wp2_with fail;refine Y.k1 B tc fun p h=> ?_;go_wp2_with fail;refine Y.ka h ts fun m4=> ?_;have C:=((Y.drewN h m4).Wa (.cells #[Da D,Z d.za,.bool false,O none 0 0,Z 0] 111) p.heap.size rfl).le (Gz 3 1);have E:=C.via (xG (L:=p.heap.size) (D:=D) (st:=d.za) (u:=0));clear h C;go_wp2_with fail;generalize p.heap.size=L at*;refine Y.k1 E (tr L) fun w5 F=> ?_;clear E;by_cases n:M=0
   ·subst n;go_wp2_with fail;refine Y.k1 F (t159 L) fun w6 W=> ?_;obtain⟨z,c',u',j⟩:=W.log L D d.za P;have f4:=j.free L 4;have c4:w6.cell? ⟨L,4,none⟩=some (Z u'):=j.cells L 4;go_wp2;go_ret2;have X:=((j.ra L 4 (Z k) #[Da D,Z d.za,.bool false,O z P.length c',Z k]).via (ig (L:=L) (D:=D) (st:=d.za) (P:=P) (v:=O z P.length c') (u:=k))).ya (A:=Fc L D d.za P*na D q2);exact⟨L,rfl,X⟩
   ·have hb:((M:Int) !=0)=true:=by rw[CU];omega
    go_wp2;go_ret2;refine⟨L,?_,?_⟩
    ·unfold VE;rw[DT n];rfl
    ·unfold UE;rw[DT n];exact F.ya
  ·have e:Gc P T H d=(61,(d.delete oa).2):=by unfold Gc;rw[Vd (by rw[a,b];simp),a];exact sZ b rfl
   rw[e];rw[b]at t156;generalize(d.delete oa).2=d1 at*;clear Q e x rest g l K s R c G b k1 u1 n1 a S hf;dsimp only[Bool.not_false]at*;go_enter func115,ntmps115;go_wp2_with fail;refine Y.ka I t40 fun m=> ?_;go_wp2_with fail;refine((I.drewN m).ask t41).mono ?_;rintro e w2 ⟨rfl,m2,rfl⟩;go_wp2_with fail;refine((I.drewN (m+m2)).Fm t156).mono ?_;rintro e w2 ⟨rfl,B⟩;go_wp2;go_ret2;have J:=B.ya (A:=na D d1);exact⟨0,rfl,J⟩
abbrev rT(F:Bl)(M:Nat):Array Value:=#[.int .i64 F.Rb,.int .i64 F.size,if F.Rb=0 then .map none else .map (some M)]
def Ng:Bl:=⟨0,0,[]⟩
theorem Iz:kN Ng:=⟨by decide,fun h=>absurd rfl h,by simp[Ng]⟩
theorem toNat_lt(c:UInt8):c.toNat<256:=c.toNat_lt
theorem lC(a sz:Nat)(b:List (Nat×Bs))(n:Nat)(s:Bs):CC n (Ha s) (Jg ⟨a,sz,b⟩)=Jg ⟨a,sz,(n,s)::b.filter fun p=>decide (p.1≠n)⟩:=by unfold CC Ry Jg;rw[OX];rfl
theorem QE(a sz g:Nat):aa.le (aa.obj g (.map #[] 0)) (Ib prog 3 g (Rk (Jg ⟨a,sz,[]⟩))):=Ru g
theorem Kz{s t:Bs}(h:Eg s=some t):t.length+4=s.length:=by
 unfold Eg at h;split at h
 ·cases h
 ·split at h
  ·cases h;rw[OT];omega
  ·cases h
theorem dM(a:Bs)(hf:a.length≤2000000):Tr prog 254 #[Ha a] aa.emp (fun q:Bl×Nat=>Sg q.1 q.2) (fun q=>aa.pure (kN q.1)*Mm q.1 q.2):=by
 intro w o r Q;have I0:=TZ Q;have I:=I0.Wa (.cells #[Z 0,Z 0,.map none] 227) w.heap.size rfl;clear Q;have f:∀W:World,Y w o r (aa.emp) W→Y w o r (aa.pure (kN Ng)*Mm Ng 0) W:=fun W h=>h.le (RZ Iz);by_cases hlen:a.length<64
 ·have b5:(a.length:Int)<64:=by omega
  go_enter func254,ntmps254;obtain⟨b,c,c2⟩:=I.c3 w.heap.size;obtain⟨f0,f1,f2⟩:=I.f3 w.heap.size;go_wp2_with fail;refine ZT (v:=Sg Ng 0) (by simp[results,results254,go_sem,Sg,Ng,b,c,c2]) rfl ⟨(Ng,0),rfl,f _ ?_⟩;first|exact((Y.le I (KZ NZ QZ)))|exact(((((Y.ra I w.heap.size 0 (Z 0) _ rfl).ra w.heap.size 1 (Z 0) _ rfl).ra w.heap.size 2 (.map none) _ rfl).le (KZ NZ QZ)))
 ·have b6:¬ ((a.length:Int)<64):=by omega
  have T:∀w,(Instr.slice 9 (Ha a) none (some (Z 64)) none).run prog w= .ok (Ha (a.take 64)) w:=jm (by omega) (by congr 1<;>omega);have X:(a.take 64).length=64:=by rw[OT];omega
  generalize j:a.take 64=first at*
  have U:∀w,(Instr.slice 9 (Ha first) (some (Z 4)) (some (Z 8)) none).run prog w= .ok (Ha ((first.drop 4).take 4)) w:=Vh (by omega) (by congr 2<;>omega);have t97:=tq ((first.drop 4).take 4) (by rw[OT];omega);have an:num (((first.drop 4).take 4).take 8)<4294967296:=by
   have:=Sh (((first.drop 4).take 4).take 8);have h4:(((first.drop 4).take 4).take 8).length≤4:=by rw[OT,OT];omega
   exact aV this (KT (XV (by omega) h4) (by omega))
  generalize num (((first.drop 4).take 4).take 8)=sz at*;have h3:3<first.length:=by omega
  have b9:=toNat_lt first[3]
  have a1:∀w,(Instr.index 9 (Ha first) (Z 3)).run prog w= .ok (.int .u8 (first[3].toNat:Int)) w:=fun w=>by simp[Instr.index,go_sem,h3]
  generalize first[3].toNat=pr at*
  generalize(first.drop 4).take 4=f48 at*;have t286:=aH sz pr (by omega) (by omega);have t287:=iD sz pr (by omega) (by omega);have a8:IntKind.i64.wrap (sz:Int)=(sz:Int):=RT _ (by omega);have a7:IntKind.i64.wrap (pr:Int)=(pr:Int):=RT _ (by omega);have ak:¬ (a.length<64):=hlen;clear X hlen j;have L:=fun w=>ZX (P:=prog) 225 w;cases hm:OI sz pr with
  |false=>rw[hm]at t286;go_enter func254,ntmps254;obtain⟨b,c,c2⟩:=I.c3 w.heap.size;obtain⟨f0,f1,f2⟩:=I.f3 w.heap.size;go_wp2_with fail;go_quiet (first|(go_at_call 97;exact AY (t97 _)));go_wp2_with fail;refine(t286 _).mono ?_;rintro e w' ⟨rfl,d,rfl⟩;have J:=I.drewN (nq+d);clear b c c2 f0 f1 f2;obtain⟨b,c,c2⟩:=J.c3 w.heap.size;obtain⟨f0,f1,f2⟩:=J.f3 w.heap.size;go_wp2_with fail;refine ZT (v:=Sg Ng 0) (by simp[results,results254,go_sem,Sg,Ng,b,c,c2]) rfl ⟨(Ng,0),rfl,f _ ?_⟩;first|exact((Y.le J (KZ NZ QZ)))|exact(((((Y.ra J w.heap.size 0 (Z 0) _ rfl).ra w.heap.size 1 (Z 0) _ rfl).ra w.heap.size 2 (.map none) _ rfl).le (KZ NZ QZ)))
  |true=>
   rw[hm]at t286;obtain⟨m1,m2,m3,m4,m5⟩:=Bk.1 hm;by_cases he:first=Qr sz pr
   ·have R:(first==Qr sz pr)=true:=by rw[he];simp
    clear he;generalize Qr sz pr=ph at*;go_enter func254,ntmps254;obtain⟨b,c,c2⟩:=I.c3 w.heap.size;obtain⟨f0,f1,f2⟩:=I.f3 w.heap.size;go_wp2_with fail;go_quiet (first|(go_at_call 97;exact AY (t97 _)));go_wp2_with fail;refine(t286 _).mono ?_;rintro e w' ⟨rfl,d,rfl⟩;have J:=I.drewN (nq+d);go_wp2_with fail;refine J.kp t287 fun w2 g=> ?_;clear b c c2 f0 f1 f2;have G:=(g.new (.map #[] 0)).via (QE pr sz w2.heap.size);have hM:(w2.alloc (.map #[] 0)).heap.size=w2.heap.size+1:=by simp
    have H:=G.Wa (.cells #[Z pr,Z sz,.map (some w2.heap.size)] 227) (w2.heap.size+1) hM;have av:w.heap.size<w2.heap.size:=by have:=(sU.1 (g.wm w.heap.size)).1;exact this
    clear J g G t97 t286 t287 T U a1 a8 a7;have y:(sz:Int)/60=((sz/60:Nat):Int):=by omega
    have M:Y w o r (ba (w2.heap.size+1) 227 #[Z pr,Z sz,.map (some w2.heap.size)]*(Ib prog 3 w2.heap.size (Rk (Jg ⟨pr,sz,[]⟩))*ba w.heap.size 227 #[Z 0,Z 0,.map none])) _:=H.ya;clear H;obtain⟨i,C⟩:∃i,sz/60=i:=⟨_,rfl⟩;rw[C]at y;have al:i≤2000:=by omega
    clear C;go_wp2_with fail;go_loopw [42] (fun F wr=>∃k:Nat,k≤i∧F=Z k∧∃wl:List (Nat×Bs),(∀p∈wl,p.2.length=60)∧Y w o r (ba (w2.heap.size+1) 227 #[Z pr,Z sz,.map (some w2.heap.size)]*(Ib prog 3 w2.heap.size (Rk (Jg ⟨pr,sz,wl⟩))*ba w.heap.size 227 #[Z 0,Z 0,.map none])) wr) (fun F _=>i-(intOf F).toNat);case atStart=>exact⟨0,WT _,rfl,[],by simp,M⟩
    case round=>
     obtain⟨k,hk,rfl,wl,u,K⟩:=hrel;clear M;have d0:wr.cell? ⟨w2.heap.size+1,0,none⟩=some (Z pr):=K.cells (w2.heap.size+1) 0;have d1:wr.cell? ⟨w2.heap.size+1,1,none⟩=some (Z sz):=K.cells (w2.heap.size+1) 1;have d2:wr.cell? ⟨w2.heap.size+1,2,none⟩=some (.map (some w2.heap.size)):=K.cells (w2.heap.size+1) 2;obtain⟨b,c,c2⟩:=K.c3 w.heap.size;obtain⟨f0,f1,f2⟩:=K.f3 w.heap.size;have D:kN ⟨pr,sz,wl⟩:=⟨m5,fun _=>⟨m1,m2⟩,u⟩;have n:¬ (pr=0):=by omega
     have N:=((((K.ra w.heap.size 0 (Z pr) #[Z pr,Z 0,.map none]).ra w.heap.size 1 (Z sz) #[Z pr,Z sz,.map none]).ra w.heap.size 2 (.map (some w2.heap.size)) #[Z pr,Z sz,.map (some w2.heap.size)]).ya (A:=Ib prog 3 w2.heap.size (Rk (Jg ⟨pr,sz,wl⟩)))).le (RZ D);have z:Mm ⟨pr,sz,wl⟩ w2.heap.size=Ib prog 3 w2.heap.size (Rk (Jg ⟨pr,sz,wl⟩)):=DT n;have B:Sg ⟨pr,sz,wl⟩ w2.heap.size= .agg #[Z pr,Z sz,.map (some w2.heap.size)]:=by unfold Sg;dsimp only;rw[DT n]
     by_cases b7:k<i
     ·by_cases aM:a.length<(k+1)*64+64
      ·have S:(a.length:Int)<((k:Int)+1)*64+64:=by omega
       go_wp2_with fail;refine ZT (v:=.agg #[Z pr,Z sz,.map (some w2.heap.size)]) (by simp[results,results254,go_sem,b,c,c2]) rfl ⟨(⟨pr,sz,wl⟩,w2.heap.size),by rw[B],?_⟩;rw[z];exact N
      ·have S:¬ ((a.length:Int)<((k:Int)+1)*64+64):=by omega
       have b0:∀w,(Instr.slice 9 (Ha a) (some (Z ((k+1)*64))) (some (Z ((k+1)*64+64))) none).run prog w= .ok (Ha ((a.drop ((k+1)*64)).take 64)) w:=Vh (by omega) (by congr 2<;>omega);have bc:((a.drop ((k+1)*64)).take 64).length=64:=by rw[OT,cU];omega
       have t98:=iB ((a.drop ((k+1)*64)).take 64) (by omega);generalize(a.drop ((k+1)*64)).take 64=pg at*;cases m:Eg pg with
       |none=>
        rw[m]at t98;unfold Mx at t98;dsimp only at t98;clear m;go_wp2_with fail;refine K.kp t98 fun w5 x=> ?_;go_wp2;go_roundw;case rel=>exact⟨k+1,by omega,by go_num,wl,u,x⟩
        case measure=>simp[intOf];omega
       |some s=>
        have aq:=Kz m;rw[m]at t98;unfold Mx at t98;dsimp only at t98;clear m;go_wp2_with fail;refine K.kp t98 fun w5 x=> ?_;clear d2;have d2:w5.cell? ⟨w2.heap.size+1,2,none⟩=some (.map (some w2.heap.size)):=x.cells (w2.heap.size+1) 2;have a6:k≤1000000000000:=by omega
        go_wp2_with (refine Tq (l:=Jg ⟨pr,sz,wl⟩) (t:=225) w2.heap.size k (Ha s) a6 underlying225 x rfl rfl rfl rfl rfl ?_;intro w6 K2);go_roundw;case rel=>
         refine⟨k+1,by omega,by go_num,(k,s)::wl.filter (fun p=>decide (p.1≠k)),fun p E=> ?_,?_⟩
         ·rcases dU.1 E with rfl|E
          ·show s.length=60;omega
          ·exact u p (vU.1 E).1
         ·rw[←lC];exact K2.ya
        case measure=>simp[intOf];omega
     ·go_wp2_with fail;refine ZT (v:=.agg #[Z pr,Z sz,.map (some w2.heap.size)]) (by simp[results,results254,go_sem,b,c,c2]) rfl ⟨(⟨pr,sz,wl⟩,w2.heap.size),by rw[B],?_⟩;rw[z];exact N
   ·have R:(first !=Qr sz pr)=true:=by simpa using he
    have aj:(first==Qr sz pr)=false:=by simpa using he
    generalize Qr sz pr=ph at*;go_enter func254,ntmps254;obtain⟨b,c,c2⟩:=I.c3 w.heap.size;obtain⟨f0,f1,f2⟩:=I.f3 w.heap.size;go_wp2_with fail;go_quiet (first|(go_at_call 97;exact AY (t97 _)));go_wp2_with fail;refine(t286 _).mono ?_;rintro e w' ⟨rfl,d,rfl⟩;have J:=I.drewN (nq+d);go_wp2_with fail;refine J.kp t287 fun w2 g=> ?_;clear b c c2 f0 f1 f2;obtain⟨b,c,c2⟩:=g.c3 w.heap.size;obtain⟨f0,f1,f2⟩:=g.f3 w.heap.size;go_wp2_with fail;refine ZT (v:=Sg Ng 0) (by simp[results,results254,go_sem,Sg,Ng,b,c,c2]) rfl ⟨(Ng,0),rfl,f _ ?_⟩;first|exact((Y.le g (KZ NZ QZ)))|exact(((((Y.ra g w.heap.size 0 (Z 0) _ rfl).ra w.heap.size 1 (Z 0) _ rfl).ra w.heap.size 2 (.map none) _ rfl).le (KZ NZ QZ)))
end
end Go.Proofs.YteacbkflfafefaaGreatDoor
