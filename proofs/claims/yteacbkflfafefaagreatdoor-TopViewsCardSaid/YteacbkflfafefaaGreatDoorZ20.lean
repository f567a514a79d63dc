/- Part 21 of 50 of the proof that TopViews returns true at every input: lemmas on the way; no condition. -/
import Derived.Test.YteacbkflfafefaaGreatDoorZ9
import Derived.Test.YteacbkflfafefaaGreatDoorZ13
import Derived.Test.YteacbkflfafefaaGreatDoorZ18
namespace Go.Proofs.YteacbkflfafefaaGreatDoor
set_option linter.all false
set_option maxHeartbeats 2000000
set_option maxRecDepth 100000
section
open Go.RowKit An Go.ChangeShapes Go.WideShapes Go.ChangeAt Go.Proofs.Tryz
abbrev Fv:=Nat×Array Value×Array Value
def OR(p:Fv):List Value:=[.func (.func p.1) p.2.1 p.2.2]
theorem gO(p:Fv):(OR p).length=1:=rfl
def Ao(A:An.ja→aa)(p:Fv)(g:An.ja→Nat×An.ja):Prop:=∃args,(∀w,(callFunc p.1 (p.2.1++p.2.2)).run prog w= .ok (.enter p.1 args) w)∧∀d,Ud prog p.1 args (A d) (Z (g d).1) (A (g d).2)
def Cm(A:An.ja→aa):List Fv→List (An.ja→Nat×An.ja)→Prop
 |[],[]=>True
 |p::r,g::s=>Ao A p g∧Cm A r s
 |_,_=>False
theorem Cm.len{A:An.ja→aa}:∀ {l:List Fv} {gs:List (An.ja→Nat×An.ja)},Cm A l gs→l.length=gs.length
 |[],[],_=>rfl
 |_::r,_::s,h=>by simp[Cm.len (l:=r) (gs:=s) h.2]
 |[],_::_,h=>h.elim
 |_::_,[],h=>h.elim
theorem Cm.at{A:An.ja→aa}:∀ {l:List Fv} {gs:List (An.ja→Nat×An.ja)},Cm A l gs→∀ (k:Nat) (a:k<l.length) (b:k<gs.length),Ao A l[k] gs[k]
 |[],_,_,k,a,_=>by simp at a
 |p::r,g::s,h,0,_,_=>h.1
 |p::r,g::s,h,k+1,a,b=>Cm.at (l:=r) (gs:=s) h.2 k (rV a) (rV b)
 |_::_,[],h,_,_,_=>h.elim
theorem EJ(A:An.ja→aa)(v:Value)(l:List Fv)(gs:List (An.ja→Nat×An.ja))(E:Cm A l gs)(R:l.length≤100)(d:An.ja):Ud prog 233 #[v] (Ba 1 v l.length (l.flatMap OR)*A d) (Z (chain gs d).1) (Ba 1 v l.length (l.flatMap OR)*A (chain gs d).2):=by
 intro w o Q u;have I:=TZ u;obtain⟨-,B,c,rfl, -⟩:=I.sl v;have hlen:=V E.len;clear u;go_enter func233,ntmps233;go_wp2_with fail;go_loopw [8] (fun y wr=>∃k:Nat,k≤l.length∧y=Z k∧∃a,chain (gs.drop k) a=chain gs d∧Y w o Q (Ba 1 (O B l.length c) l.length (l.flatMap OR)*A a) wr) (fun y _=>l.length-(intOf y).toNat);case atStart=>exact⟨0,WT _,rfl,d,rfl,I⟩
 case round=>
  obtain⟨k,S,rfl,a,x,J⟩:=hrel;have j:=V x;clear x I;by_cases m:k<l.length
  ·obtain⟨g,off,rfl,L,n,M⟩:=J.we B c l gO k m (by decide);have H:=n _ rfl;rw[wU]at H;have i:k<gs.length:=by rw[←hlen.out];exact m
   obtain⟨args,N,t0⟩:=E.at k m i;have t:=t0 a;clear t0;have e:gs.drop k=gs[k]::gs.drop (k+1):=FU i;have H1:Hid ((gs[k] a).1=0→chain (gs.drop (k+1)) (gs[k] a).2=chain gs d):=V fun h=>by rw[←j.out,e,Wd h]
   have r:Hid ((gs[k] a).1≠0→gs[k] a=chain gs d):=V fun h=>by rw[←j.out,e,Vd h]
   clear e M n j hlen;generalize l[k]=p at*;generalize gs[k] a=q at*;clear i;obtain⟨f,first,K⟩:=p;obtain⟨G,P⟩:=q;dsimp only at*;go_wp2_with fail;refine J.k1 t fun T s=> ?_;by_cases F:G=0
   ·subst F;have b:=H1.out rfl;clear H1 r;go_wp2;go_roundw;case rel=>exact⟨k+1,by omega,by go_num,P,b,s.ya⟩
    case measure=>simp[intOf];omega
   ·have b:=V (r.out F);have hb:((G:Int) !=0)=true:=by rw[CU];omega
    clear H1 r;go_wp2;go_ret;exact⟨eU (fun z:Nat×An.ja=>Ending.returned (Z (z.1:Int))) b.out,by rw[←b.out];exact s.ya⟩
  ·have D:k=l.length:=by omega
   subst D;have C:gs.drop l.length=[]:=ZV (by rw[hlen.out];exact FT _);have H1:=j.out;rw[C]at H1;have b:=V H1;clear H1 j C hlen;go_wp2;go_ret;exact⟨by rw[←b.out];rfl,by rw[←b.out];exact J⟩
end
section
open Go.RowKit An Go.ChangeShapes Go.WideShapes Go.ChangeAt Go.Proofs.Tryz
theorem Ix:mk oa=⟨#[110,101,119]⟩:=rfl
theorem Xl:oa.length≤1000:=by decide
section
variable(D b1 b2 b3:Nat)(n s:Bs)
abbrev QB(d:An.ja):aa:=ba b1 75 #[Da D]*(ba b2 9 #[.string (mk n)]*(ba b3 9 #[.string (mk s)]*na D d))
theorem xN:Ao (QB D b1 b2 b3 n s) (280,#[],#[Da b1]) (fun d=>d.create oa):=by
 refine⟨#[Da b1],fun w=>by kernel_rfl,fun d w o r a=> ?_⟩;have I:=TZ a;have b:w.cell? ⟨b1,0,none⟩=some (Da D):=I.cells b1 0;have t:=Xq D d oa Xl;try rw[Ix]at t
 clear a;go_enter func280,ntmps280;go_wp2_with fail;refine I.k1 t fun c J=> ?_;go_wp2;go_ret;exact⟨rfl,J.ya⟩
variable(hs:s.length≤100000000)(hn:n.length≤1000)
include hs in
theorem yN:Ao (QB D b1 b2 b3 n s) (281,#[],#[Da b1,Da b3]) (fun d=>d.append oa s):=by
 refine⟨#[Da b1,Da b3],fun w=>by kernel_rfl,fun d w o r a=> ?_⟩;have I:=TZ a;have b:w.cell? ⟨b1,0,none⟩=some (Da D):=I.cells b1 0;have c3:w.cell? ⟨b3,0,none⟩=some (Ha s):=I.cells b3 0;have t:=Ln D d oa s Xl hs;try rw[Ix]at t
 clear a;go_enter func281,ntmps281;go_wp2_with fail;refine I.k1 t fun c J=> ?_;go_wp2;go_ret;exact⟨rfl,J.ya⟩
theorem zN:Ao (QB D b1 b2 b3 n s) (282,#[],#[Da b1]) (fun d=>d.sync oa):=by
 refine⟨#[Da b1],fun w=>by kernel_rfl,fun d w o r a=> ?_⟩;have I:=TZ a;have b:w.cell? ⟨b1,0,none⟩=some (Da D):=I.cells b1 0;have t:=ou D d oa Xl;try rw[Ix]at t
 clear a;go_enter func282,ntmps282;go_wp2_with fail;refine I.k1 t fun c J=> ?_;go_wp2;go_ret;exact⟨rfl,J.ya⟩
include hn in
theorem AN:Ao (QB D b1 b2 b3 n s) (283,#[],#[Da b1,Da b2]) (fun d=>d.rename oa n):=by
 refine⟨#[Da b1,Da b2],fun w=>by kernel_rfl,fun d w o r a=> ?_⟩;have I:=TZ a;have b:w.cell? ⟨b1,0,none⟩=some (Da D):=I.cells b1 0;have c2:w.cell? ⟨b2,0,none⟩=some (Ha n):=I.cells b2 0;have t:=Tz D d oa n Xl hn;try rw[Ix]at t
 clear a;go_enter func283,ntmps283;go_wp2_with fail;refine I.k1 t fun c J=> ?_;go_wp2;go_ret;exact⟨rfl,J.ya⟩
end
theorem vN(D:Nat)(d:An.ja)(n s:Bs)(hn:n.length≤1000)(hs:s.length≤100000000):Ud prog 248 #[Da D,Ha n,Ha s] (na D d) (Z (An.yg n s d).1) (na D (An.yg n s d).2):=by intro w o r a;have I:=((((TZ a).Wa (.cells #[Da D] 75) _ rfl).Wa (.cells #[Ha n] 9) _ (dc rfl)).Wa (.cells #[Ha s] 9) _ (dc (dc rfl)));clear a;go_enter func248,ntmps248;go_wp2_with fail;have J:=I.Wa (.cells #[.func (.func 280) #[] #[Da w.heap.size],.func (.func 281) #[] #[Da w.heap.size,Da (w.heap.size+1+1)],.func (.func 282) #[] #[Da w.heap.size],.func (.func 283) #[] #[Da w.heap.size,Da (w.heap.size+1)]] 96) _ (dc (dc (dc rfl)));have hle:aa.le (ba (w.heap.size+1+1+1) 96 #[.func (.func 280) #[] #[Da w.heap.size],.func (.func 281) #[] #[Da w.heap.size,Da (w.heap.size+1+1)],.func (.func 282) #[] #[Da w.heap.size],.func (.func 283) #[] #[Da w.heap.size,Da (w.heap.size+1)]]) (Ba 1 (O (some ⟨w.heap.size+1+1+1,0,none⟩) 4 4) 4 ([((280,#[],#[Da w.heap.size]):Fv),(281,#[],#[Da w.heap.size,Da (w.heap.size+1+1)]),(282,#[],#[Da w.heap.size]),(283,#[],#[Da w.heap.size,Da (w.heap.size+1)])].flatMap OR)):=aa.le.YJ (by decide) (FT 4) rfl;have K:=J.via hle;have t:=EJ (QB D w.heap.size (w.heap.size+1) (w.heap.size+1+1) n s) (O (some ⟨w.heap.size+1+1+1,0,none⟩) 4 4) [((280,#[],#[Da w.heap.size]):Fv),(281,#[],#[Da w.heap.size,Da (w.heap.size+1+1)]),(282,#[],#[Da w.heap.size]),(283,#[],#[Da w.heap.size,Da (w.heap.size+1)])] [fun d=>d.create oa,fun d=>d.append oa s,fun d=>d.sync oa,fun d=>d.rename oa n] ⟨xN D _ _ _ n s,yN D _ _ _ n s hs,zN D _ _ _ n s,AN D _ _ _ n s hn,trivial⟩ (by simp) d;refine K.k1 t fun c b=> ?_;go_wp2;go_ret;refine⟨rfl,?_⟩;unfold An.yg;exact b.ya
end
section
open Go.RowKit An Go.ChangeShapes Go.WideShapes Go.ChangeAt Go.Proofs.Tryz
def CD(a:List Bs):Int:=Xa a
def Gn(P:Ma):List Value:=(P.map CD).flatMap iv
theorem lH(P:Ma):(Gn P).length=P.length*1:=by rw[Gn,zg Ts,zU]
abbrev Ut(L D:Nat)(st:Int)(A:Option Addr)(n c:Nat)(u:Int)(xs:List Value):aa:=ba L 111 #[Da D,.int .i64 st,.bool false,.slice A n c,.int .i64 u]*ua 3 1 (.slice A n c) n xs
def Fc(L D:Nat)(st:Int)(P:Ma):aa:=aa.ex fun p:Value×Int=>ba L 111 #[Da D,Z st,.bool false,p.1,Z p.2]*ua 3 1 p.1 P.length (Gn P)
theorem ig{L D:Nat}{st:Int}{P:Ma}{v:Value}{u:Int}:aa.le (ba L 111 #[Da D,Z st,.bool false,v,Z u]*ua 3 1 v P.length (Gn P)) (Fc L D st P):=SZ (A:=fun p:Value×Int=>ba L 111 #[Da D,Z st,.bool false,p.1,Z p.2]*ua 3 1 p.1 P.length (Gn P)) (v,u)
theorem Y.log{e w:World}{b d:Td}{S R:aa}(h:Y e b d S w)(L D:Nat)(st:Int)(P:Ma)[k:Find (Fc L D st P) S R]:∃A c u,Y e b d (Ut L D st A P.length c u (Gn P)*R) w:=by have a:=h.le k.split;unfold Fc at a;obtain⟨⟨v,u⟩,a⟩:=a.ex;obtain⟨_,A,c,rfl⟩:=a.Cd v;exact⟨A,c,u,a⟩
section
variable(L D:Nat)(st:Int)(v:Value)(u:Int)
theorem Cw(d:An.ja)(f:d.down=false)(e:d.za=st):Pp prog 55 #[Da L] (ba L 111 #[Da D,Z st,.bool false,v,Z u]*na D d) (Z 0):=by intro w o r c;obtain⟨cap,fs,a,dn,fl,lf,kp⟩:=d;obtain rfl:dn=false:=f;obtain rfl:a=st:=e;have b:=TZ c;obtain⟨M,rd,kv,g,rfl,hw,i,h,I⟩:=b.Be D;have t1:=IS D cap (Ia (ma g)) M rd a false fl lf kv;have t2:=AD D cap (Ia (ma g)) M rd a false fl lf kv;have j:w.cell? ⟨L,0,none⟩=some (Da D):=I.cells L 0;have k:w.cell? ⟨L,1,none⟩=some (Z a):=I.cells L 1;have c2:w.cell? ⟨L,2,none⟩=some (.bool false):=I.cells L 2;clear c hw i h b;go_enter func55,ntmps55;go_wp2_with fail;go_quiet (first|(go_at_call 40;exact AY ((I.drewN _).ask t1))|(go_at_call 92;exact AY ((I.drewN _).ask t2)));go_wp2;go_ret;exact⟨rfl,_,rfl⟩
theorem dF(e:Int):Ud prog 57 #[Da L,Z e] (ba L 111 #[Da D,Z st,.bool false,v,Z u]) (Z e) (ba L 111 #[Da D,Z st,.bool (decide (e=61)),v,Z u]):=by
 intro w o r a;have I:=TZ a;have c2:w.cell? ⟨L,2,none⟩=some (.bool false):=I.cells L 2;have f2:w.frozen? ⟨L,2,none⟩=false:=I.free L 2;have hb:(e==61)=decide (e=61):=by rw[RV];simp
 generalize decide (e=61)=b at*;clear a;go_enter func57,ntmps57;go_wp2;go_ret;exact⟨rfl,(I.ra L 2 (.bool b) #[Da D,Z st,.bool b,v,Z u]).ya⟩
theorem fH(n:Nat)(d:An.ja)(j:n≤100000000):Pp prog 231 #[Da L,Z n] (ba L 111 #[Da D,Z st,.bool false,v,Z u]*na D d) (.bool (decide (6000≤d.free-n))):=by intro w o r f;obtain⟨cap,fs,h,dn,fl,lf,kp⟩:=d;have c:=TZ f;obtain⟨M,rd,kv,g,rfl,hw,k,i,I⟩:=c.Be D;have b:Ia (ma g)≤1048576:=KT hw.Ia hw.cap;have a:cap≤1048576:=hw.cap;have t1:=iG D cap (Ia (ma g)) M rd h dn fl lf kv a b;have p:w.cell? ⟨L,0,none⟩=some (Da D):=I.cells L 0;show Calls prog 231 _ w fun e w'=>e= .returned (.bool (decide (6000≤((cap:Int)-(Ia (ma g):Nat))-n)))∧_;have l:IntKind.i64.wrap ((cap:Int)-(Ia (ma g):Nat)-n)=(cap:Int)-(Ia (ma g):Nat)-n:=RT _ (by omega);clear f hw k i c;generalize Ia (ma g)=us at*;clear b a j;go_enter func231,ntmps231;go_wp2_with fail;refine Y.ka I t1 fun m=> ?_;go_wp2;go_ret;refine⟨?_,m,rfl⟩;rfl
end
theorem BA(L D:Nat)(st:Int)(P:Ma)(t:P.length≤200)(j:∀a∈P,Xa a≤4096):Ud prog 159 #[Da L] (Fc L D st P) (Z (Ad P)) (Fc L D st P):=by
 intro w o r d;have b:=TZ d;obtain⟨A,c,u,I⟩:=b.log L D st P;have c3:w.cell? ⟨L,3,none⟩=some (O A P.length c):=I.cells L 3;clear d;rcases ud P with rfl|⟨B,a,rfl⟩
 ·go_enter func159,ntmps159;go_wp2;go_ret;exact⟨rfl,b⟩
 ·have hlen:(B++[a]).length=B.length+1:=by simp
  have l:=j a (by simp);have s:B.length≤199:=by omega
  obtain⟨g,rfl,i⟩:=I.Mc (A:=A) (c:=c) (n:=(B++[a]).length) (xs:=Gn (B++[a])) (by intro h;have:=lH (B++[a]);rw[h]at this;simp at this);have c4:w.cell? ⟨g,B.length,none⟩=some (Z (Xa a)):=i B.length _ (by have:=vh (f:=iv) Ts ((B++[a]).map CD) B.length 0 (by simp) (by decide);rw[wU,lX]at this;unfold Gn;rw[this];simp[iv,CD]);have m:IntKind.i64.wrap (((B.length:Nat):Int)*4096)=((B.length*4096:Nat):Int):=by rw[RT _ (by omega)];omega
  have e:((Ad (B++[a]):Nat):Int)=((B.length:Nat):Int)*4096+(Xa a:Int):=by rw[Lh];omega
  have k:=V e;clear e;have p:IntKind.i64.wrap (((B.length+1:Nat):Int)-1)=((B.length:Nat):Int):=by rw[RT _ (by omega)];omega
  rw[hlen]at c3;clear i j I;generalize Ad (B++[a])=q at*;generalize Xa a=cs at*;go_enter func159,ntmps159;go_wp2;go_ret;refine⟨?_,b⟩;rw[k.out];rfl
end
section
open Go.RowKit An Go.ChangeShapes Go.WideShapes Go.ChangeAt Go.Proofs.Tryz
def YA(L D:Nat)(st:Int)(P:Ma)(a:Nat):aa:=if a=61 then aa.emp else Fc L D st P
theorem ij{L D:Nat}{st:Int}{P:Ma}{c:Nat}(h:c≠61):YA L D st P c=Fc L D st P:=DT h
theorem Qd(n:Nat):(Ca n).length≤1000:=KT Wk (by omega)
theorem Re(A:aa):aa.le A (aa.emp*A):=RZ trivial
theorem kH(L D:Nat)(st:Int)(P:Ma)(d:An.ja)(l:P.length≤200)(n:∀a∈P,Xa a≤4096):Ud prog 184 #[Da L] (Fc L D st P*na D d) (Z (zc P d).1) (Fc L D st P*na D (zc P d).2):=by
 intro w o r k;have f:=TZ k;obtain⟨A,c,u,I⟩:=f.log L D st P;have c3:w.cell? ⟨L,3,none⟩=some (O A P.length c):=I.cells L 3;have y:w.cell? ⟨L,0,none⟩=some (Da D):=I.cells L 0;clear k;rcases ud P with rfl|⟨B,a,rfl⟩
 ·go_enter func184,ntmps184;go_wp2;go_ret;exact⟨rfl,f⟩
 ·have e:zc (B++[a]) d=d.sync (Ca B.length):=by simp[zc]
  rw[e];have hlen:(B++[a]).length=B.length+1:=by simp
  have M:B.length≤199:=by omega
  have t56:=Tk B.length (by omega);have t:=ou D d (Ca B.length) (Qd _);have t159:=BA L D st (B++[a]) l n;have K:IntKind.i64.wrap ((B.length:Nat):Int)=((B.length:Nat):Int):=RT _ (by omega);have hle:∀ {A:Option Addr} {c:Nat} {u:Int},aa.le (Ut L D st A (B++[a]).length c u (Gn (B++[a]))) (Fc L D st (B++[a])):=fun {A c u}=>ig;have H:=V hlen;generalize d.sync (Ca B.length)=q at*;generalize Ad (B++[a])=i at*;obtain⟨p,N⟩:=q;rw[hlen]at c3;clear f l n e hlen;dsimp only at*;go_enter func184,ntmps184;go_wp2_with fail;have C:=IT y;have E:=IT c3;refine Cb [0,4] [1,2,3,5,6,7,8,9,10] [11,12] (by kernel_rfl) (by kernel_rfl) (fun _ _ _ _ _ h=>h) ?_;simp only[QT,VT,MT,NT];dsimp only[Ub];go_simp;repeat (quiet_step ((go_at_call 56;refine gU (t56 _))))
  refine fU ?_;first|(rintro _ ⟨b,rfl⟩)|(intro b)
  have m:=jU w b.d b.os;generalize Go.Sort.grow (redrawn w b.d) b.os=Q at*;clear b;have s:=I.below m;clear C E;go_wp2_with fail;refine s.k1 t fun w2 v=> ?_;have J:=v.via (hle (A:=A) (c:=c) (u:=u));by_cases z:p=0
  ·subst z;go_wp2_with fail;refine J.k1 t159 fun G x=> ?_;obtain⟨j,c',F,g⟩:=x.log L D st (B++[a]);have f4:=g.free L 4;have c4:G.cell? ⟨L,4,none⟩=some (Z F):=g.cells L 4;go_wp2;go_ret;exact⟨rfl,((g.ra L 4 (Z i) #[Da D,Z st,.bool false,O j (B++[a]).length c',Z i]).via (hle (A:=j) (c:=c') (u:=i))).ya⟩
  ·have hb:((p:Int)==0)=false:=by rw[ET];omega
   go_wp2;go_ret;exact⟨rfl,J.ya⟩
theorem rC(L D:Nat)(st:Int)(P:Ma)(d:An.ja)(i:d.down=false)(a:d.za=st)(h:P.length≤200)(j:∀t∈P,Xa t≤4096):Ud prog 132 #[Da L] (Fc L D st P*na D d) (Z (zc P d).1) (YA L D st P (zc P d).1*na D (zc P d).2):=by
 intro w o r g;have f:=TZ g;obtain⟨A,c,u,I⟩:=f.log L D st P;have t1:=Cw L D st (O A P.length c) u d i a;have t2:=kH L D st P d h j;have t3:=fun A c u=>dF L D st (O A P.length c) u (zc P d).1;have hle:∀ {A:Option Addr} {c:Nat} {u:Int},aa.le (Ut L D st A P.length c u (Gn P)) (Fc L D st P):=fun {A c u}=>ig;generalize zc P d=q at*;obtain⟨l,v⟩:=q;clear g h j i a f;dsimp only at*;go_enter func132,ntmps132;go_wp2_with fail;refine Y.ka I t1 fun m=> ?_;have J:=(I.drewN m).via (hle (A:=A) (c:=c) (u:=u));go_wp2_with fail;refine J.k1 t2 fun w2 p=> ?_;obtain⟨e,c',n,s⟩:=p.log L D st P;go_wp2_with fail;refine s.k1 (t3 e c' n) fun x b=> ?_;go_wp2;go_ret;refine⟨rfl,?_⟩;by_cases k:l=61
 ·subst k;exact b.ya.le (Re _)
 ·rw[ij k];rw[show decide (((l:Nat):Int)=61)=false from yU (by omega)]at b;exact(b.via (hle (A:=e) (c:=c') (u:=n))).ya
theorem fo(B:Ma)(a:List Bs):Gn (B++[a])=Gn B++[Z (Xa a)]:=by simp[Gn,iv,CD]
theorem lg(P:Ma):(Gn P).length=P.length:=by rw[lH,wU]
theorem IM(B:Ma)(a:List Bs):(Gn (B++[a]))[B.length]? =some (Z (Xa a)):=by rw[fo,vV (by rw[lg];exact FT _),lg,AW];rfl
theorem EP(B:Ma)(a:List Bs)(u:Value):(Gn (B++[a])).set B.length u=Gn B++[u]:=by rw[fo,dY _ _ (by rw[lg];exact FT _),lg,AW];rfl
def Sx(pos a:Nat):Value:=.tuple #[Z (if a=0 then pos else 0:Nat),Z a]
def TI(L D:Nat)(st:Int)(P b:Ma)(a:Nat):aa:=if a=0 then Fc L D st b else YA L D st P a
def Qm(B:Ma)(p:Bs)(d:An.ja):Nat×An.ja:=if d.free-(p.length+12:Nat)<6000 then(60,d)else d.append (Ca B.length) (ue p)
theorem GH(L D:Nat)(st:Int)(B:Ma)(a:List Bs)(p:Bs)(d:An.ja)(hB:B.length≤199)(P:∀x∈B++[a],Xa x≤4096)(U:p.length≤2000):Ud prog 180 #[Da L,Z B.length,Ha (ue p)] (Fc L D st (B++[a])*na D d) (Sx (B.length*4096+Xa a) (Qm B p d).1) (TI L D st (B++[a]) (B++[a++[p]]) (Qm B p d).1*na D (Qm B p d).2):=by
 intro w o r H;have v:=TZ H;obtain⟨A,c,u,I⟩:=v.log L D st (B++[a]);have hlen:(B++[a]).length=B.length+1:=by simp
 have e:=Ce p;have t1:=fH L D st (O A (B++[a]).length c) u (ue p).length d (by omega);have t56:=Tk B.length (by omega);have t2:=Ln D d (Ca B.length) (ue p) (Qd _) (by omega);have t3:=fun q:Nat=>dF L D st (O A (B++[a]).length c) u q;have hle:∀ {A:Option Addr} {c:Nat} {u:Int},aa.le (Ut L D st A (B++[a]).length c u (Gn (B++[a]))) (Fc L D st (B++[a])):=fun {A c u}=>ig;have C:∀ {A:Option Addr} {c:Nat} {u:Int},aa.le (Ut L D st A (B++[a]).length c u ((Gn (B++[a])).set B.length (Z ((Xa a:Int)+(ue p).length)))) (Fc L D st (B++[a++[p]])):=fun {A c u}=>by
  have S:(Gn (B++[a])).set B.length (Z ((Xa a:Int)+(ue p).length))=Gn (B++[a++[p]]):=by rw[EP,fo,Is,e];congr 4<;>omega
  have T:(B++[a]).length=(B++[a++[p]]).length:=by simp
  rw[S,T];exact ig
 have K:Qm B p d=if d.free-((ue p).length:Int)<6000 then(60,d)else d.append (Ca B.length) (ue p):=by unfold Qm;rw[e]
 rw[K];have a1:=P a (by simp);have s:=IM B a;have e5:wrap64 ((Xa a:Int)+((ue p).length:Int))=(Xa a:Int)+(ue p).length:=RP (by omega);have z:w.cell? ⟨L,0,none⟩=some (Da D):=I.cells L 0;clear H P K U;generalize ue p=k at*;generalize d.append (Ca B.length) k=q at*;generalize d.free=fr at*;obtain⟨j,q2⟩:=q;dsimp only at*;by_cases l:fr-(k.length:Int)<6000
 ·have b:decide (6000≤fr-(k.length:Int))=false:=yU (by omega);rw[JT l];rw[b]at t1;clear l b e;go_enter func180,ntmps180;go_wp2_with fail;refine I.ka t1 fun m=> ?_;go_wp2;go_ret2;exact⟨rfl,v.drewN m⟩
 ·have b:decide (6000≤fr-(k.length:Int))=true:=RU (by omega);rw[DT l];rw[b]at t1;clear l b e;go_enter func180,ntmps180;go_wp2_with fail;refine I.ka t1 fun m=> ?_;have F:=I.drewN m;generalize w.drewN m=W at*;clear z I v;have z:W.cell? ⟨L,0,none⟩=some (Da D):=F.cells L 0;go_wp2_with fail;have X:=IT z;refine Cb [0,4,6] [1,2,3,5] [7,8] (by kernel_rfl) (by kernel_rfl) (fun _ _ _ _ _ h=>h) ?_;simp only[QT,VT,MT,NT];dsimp only[Ub];go_simp;repeat (quiet_step ((go_at_call 56;refine gU (t56 _))))
  refine fU ?_;first|(rintro _ ⟨f,rfl⟩)|(intro f)
  have M:=jU W f.d f.os;generalize Go.Sort.grow (redrawn W f.d) f.os=wq at*;clear f;have G:=F.below M;clear X;go_wp2_with fail;refine G.k1 t2 fun w2 i=> ?_;by_cases E:j=0
  ·subst E;have c3:w2.cell? ⟨L,3,none⟩=some (O A (B++[a]).length c):=i.cells L 3;obtain⟨g,rfl,N⟩:=i.Mc (A:=A) (c:=c) (n:=(B++[a]).length) (xs:=Gn (B++[a])) (by intro h;have:=lg (B++[a]);rw[h]at this;simp at this);have c4:w2.cell? ⟨g,B.length,none⟩=some (Z (Xa a)):=N B.length _ s;have J:=i.Nk (g:=g) (c:=c) (n:=(B++[a]).length) B.length (Z ((Xa a:Int)+k.length));have f4:=J.2;have Q:Hid (((B.length*4096+Xa a:Nat):Int)=(B.length:Int)*4096+Xa a):=V (by omega);rw[hlen]at c3;have R:=((J.1).via (C (A:=some ⟨g,0,none⟩) (c:=c) (u:=u))).ya (A:=Fc L D st (B++[a++[p]])*na D q2);clear J N i G s;go_wp2;go_ret2;refine⟨?_,R⟩;rw[show Sx (B.length*4096+Xa a) 0= .tuple #[Z ((B.length*4096+Xa a:Nat):Int),Z 0] from rfl,Q.out];rfl
  ·have hb:((j:Int) !=0)=true:=by rw[CU];omega
   go_wp2_with fail;refine i.k1 (t3 j) fun w3 y=> ?_;go_wp2;go_ret2;refine⟨by unfold Sx;rw[DT E];rfl,?_⟩;unfold TI;rw[DT E];by_cases t:j=61
   ·subst t;exact y.ya.le (Re _)
   ·rw[ij t];rw[show decide (((j:Nat):Int)=61)=false from yU (by omega)]at y;exact(y.via (hle (A:=A) (c:=c) (u:=u))).ya
end
section
open Go.RowKit An Go.ChangeShapes Go.WideShapes Go.ChangeAt Go.Proofs.Tryz
section
variable(b1 b2 b3 L D:Nat)(st:Int)(P:Ma)(rp:Bs)
abbrev nA(d:An.ja):aa:=ba b1 79 #[Da L]*(ba b2 3 #[.int .i64 P.length]*(ba b3 9 #[.string (mk rp)]*(Fc L D st P*na D d)))
theorem QJ(b:P.length≤200)(c:∀e∈P,Xa e≤4096):Ao (nA b1 b2 b3 L D st P rp) (184,#[Da L],#[]) (zc P):=⟨#[Da L],fun w=>by kernel_rfl,fun d w o r a=>((TZ a).Fm (kH L D st P d b c)).mono fun _ _ ⟨he,h⟩=>⟨he,h.ya⟩⟩
theorem RJ(i:P.length<200):Ao (nA b1 b2 b3 L D st P rp) (234,#[],#[Da b1,Da b2]) (fun d=>d.create (Ca P.length)):=by
 refine⟨#[Da b1,Da b2],fun w=>by kernel_rfl,fun d w o r b=> ?_⟩;obtain⟨A,c,u,I⟩:=(TZ b).log L D st P;have d1:w.cell? ⟨b1,0,none⟩=some (Da L):=I.cells b1 0;have d2:w.cell? ⟨b2,0,none⟩=some (Z P.length):=I.cells b2 0;have d3:w.cell? ⟨L,0,none⟩=some (Da D):=I.cells L 0;have j:=IT d1;have k:=IT d2;have l:=IT d3;have t56:=Tk P.length (by omega);have t:=Xq D d (Ca P.length) (Qd _);have hle:∀ {A:Option Addr} {c:Nat} {u:Int},aa.le (Ut L D st A P.length c u (Gn P)) (Fc L D st P):=fun {A c u}=>ig;dsimp only;generalize d.create (Ca P.length)=q at*;clear b;go_enter func234,ntmps234;go_wp2_with fail;refine Cb [] [0,1,2,3,4,5] [6,7] (by kernel_rfl) (by kernel_rfl) (fun _ _ _ _ _ h=>h) ?_;simp only[QT,VT,MT,NT];dsimp only[Ub];go_simp;repeat (quiet_step ((go_at_call 56;refine gU (t56 _))))
 refine fU ?_;first|(rintro _ ⟨a,rfl⟩)|(intro a)
 have e:=jU w a.d a.os;generalize Go.Sort.grow (redrawn w a.d) a.os=m at*;clear a;have f:=I.below e;go_wp2_with fail;refine f.k1 t fun w2 g=> ?_;go_wp2;go_ret;exact⟨rfl,(g.via (hle (A:=A) (c:=c) (u:=u))).ya⟩
theorem SJ(i:P.length<200)(k:rp.length≤3000):Ao (nA b1 b2 b3 L D st P rp) (236,#[],#[Da b1,Da b2,Da b3]) (fun d=>d.append (Ca P.length) (Yb P.length++rp)):=by
 refine⟨#[Da b1,Da b2,Da b3],fun w=>by kernel_rfl,fun d w o r b=> ?_⟩;obtain⟨A,c,u,I⟩:=(TZ b).log L D st P;have d1:w.cell? ⟨b1,0,none⟩=some (Da L):=I.cells b1 0;have d2:w.cell? ⟨b2,0,none⟩=some (Z P.length):=I.cells b2 0;have d3:w.cell? ⟨L,0,none⟩=some (Da D):=I.cells L 0;have d4:w.cell? ⟨b3,0,none⟩=some (Ha rp):=I.cells b3 0;have l:=IT d1;have m:=IT d2;have n:=IT d3;have p:=IT d4;have t56:=Tk P.length (by omega);have t94:=MK P.length i;have t:=Ln D d (Ca P.length) (Yb P.length++rp) (Qd _) (by rw[CT,Pd];omega);have hle:∀ {A:Option Addr} {c:Nat} {u:Int},aa.le (Ut L D st A P.length c u (Gn P)) (Fc L D st P):=fun {A c u}=>ig;dsimp only;generalize d.append (Ca P.length) (Yb P.length++rp)=q at*;have j:¬ (9223372036854775807<(Yb P.length).length+rp.length):=by rw[Pd];omega
 clear b k;go_enter func236,ntmps236;go_wp2_with fail;refine Cb [] [0,1,2,3,4,5,6,7,8,9] [10,11] (by kernel_rfl) (by kernel_rfl) (fun _ _ _ _ _ h=>h) ?_;simp only[QT,VT,MT,NT];dsimp only[Ub];go_simp;repeat (quiet_step ((first|(go_at_call 56;refine gU (t56 _))|(go_at_call 94;refine gU (t94 _)))))
 refine fU ?_;first|(rintro _ ⟨a,rfl⟩)|(intro a)
 have e:=jU w a.d a.os;generalize Go.Sort.grow (redrawn w a.d) a.os=s at*;clear a;have f:=I.below e;go_wp2_with fail;refine f.k1 t fun w2 g=> ?_;go_wp2;go_ret;exact⟨rfl,(g.via (hle (A:=A) (c:=c) (u:=u))).ya⟩
end
end
section
open Go.RowKit An Go.ChangeShapes Go.WideShapes Go.ChangeAt Go.Proofs.Tryz
theorem sw(x:Int):∀u∈[Z x],u.oneCell'=true:=by intro u hu;simp only[lU]at hu;subst hu;rfl
def Uo(P:Ma)(p:Bs)(d:An.ja):Nat×An.ja:=if 200≤P.length∨d.free-(p.length+24:Nat)<6000 then(60,d)else chain [zc P,fun d=>d.create (Ca P.length),fun d=>d.append (Ca P.length) (Yb P.length++ue p)] d
theorem PJ(L D:Nat)(st:Int)(P:Ma)(p:Bs)(d:An.ja)(hP:P.length≤200)(hs:∀x∈P,Xa x≤4096)(hp:p.length≤2000):Ud prog 181 #[Da L,Z P.length,Ha (ue p)] (Fc L D st P*na D d) (Sx (P.length*4096+12) (Uo P p d).1) (TI L D st P (P++[[p]]) (Uo P p d).1*na D (Uo P p d).2):=by
 intro w o r h0;have I0:=TZ h0;obtain⟨G,z,u0,IA⟩:=I0.log L D st P;have S:=Ce p;have B:(((ue p).length+12:Nat):Int)=12+((ue p).length:Int):=by omega
 have t1:=fH L D st (O G P.length z) u0 ((ue p).length+12) d (by omega);rw[B]at t1;have M:Uo P p d=if 200≤P.length∨d.free-(12+((ue p).length:Int))<6000 then(60,d)else chain [zc P,fun d=>d.create (Ca P.length),fun d=>d.append (Ca P.length) (Yb P.length++ue p)] d:=by unfold Uo;rw[←B,S]
 rw[M];have Q:Xa [p]=12+(ue p).length:=by simp[Xa,pd,pj]
 have a1:∀ {A:Option Addr} {c:Nat} {u:Int},aa.le (Ut L D st A (P.length+1) c u (Gn P++[Z (12+((ue p).length:Int))])) (Fc L D st (P++[[p]])):=fun {A c u}=>by
  have X:Gn P++[Z (12+((ue p).length:Int))]=Gn (P++[[p]]):=by rw[fo,Q,←B,fY]
  have e2:P.length+1=(P++[[p]]).length:=by simp
  rw[X,e2];exact ig
 have R:(ue p).length≤3000:=by omega
 have hle:∀ {A:Option Addr} {c:Nat} {u:Int},aa.le (Ut L D st A P.length c u (Gn P)) (Fc L D st P):=fun {A c u}=>ig;have I:=(((IA.Wa (.cells #[Da L] 79) _ rfl).Wa (.cells #[Z P.length] 3) _ (dc rfl)).Wa (.cells #[Ha (ue p)] 9) _ (dc (dc rfl)));clear h0 M hp Q B S;generalize ue p=i at*;by_cases h2:200≤P.length
 ·rw[JT (.inl h2)];clear t1;go_enter func181,ntmps181;go_wp2;go_ret2;have J:=(I.via (hle (A:=G) (c:=z) (u:=u0))).ya (A:=Fc L D st P*na D d);exact⟨rfl,J⟩
 ·by_cases E:d.free-(12+(i.length:Int))<6000
  ·rw[JT (.inr E)];rw[yU (Int.not_le.2 E)]at t1;have H2:¬ (P.length:Int)≥200:=by omega
   clear E;go_enter func181,ntmps181;go_wp2_with fail;refine I.ka t1 fun m=> ?_;go_wp2;go_ret2;have J:=((I.drewN m).via (hle (A:=G) (c:=z) (u:=u0))).ya (A:=Fc L D st P*na D d);exact⟨rfl,J⟩
  ·rw[DT (fun h=>h.elim h2 E)];rw[RU (Int.not_lt.1 E)]at t1;have N:P.length<200:=by omega
   have t:=EJ (nA w.heap.size (w.heap.size+1) (w.heap.size+1+1) L D st P i) (O (some ⟨w.heap.size+1+1+1,0,none⟩) 3 3) [((184,#[Da L],#[]):Fv),(234,#[],#[Da w.heap.size,Da (w.heap.size+1)]),(236,#[],#[Da w.heap.size,Da (w.heap.size+1),Da (w.heap.size+1+1)])] [zc P,fun d=>d.create (Ca P.length),fun d=>d.append (Ca P.length) (Yb P.length++i)] ⟨QJ _ _ _ L D st P i hP hs,RJ _ _ _ L D st P i N,SJ _ _ _ L D st P i N R,trivial⟩ (by simp) d;generalize chain [zc P,fun d=>d.create (Ca P.length),fun d=>d.append (Ca P.length) (Yb P.length++i)] d=q at*;obtain⟨F,q2⟩:=q;have ew:wrap64 (12+(i.length:Int))=12+(i.length:Int):=RP (by omega);have al:IntKind.i64.wrap (12+(i.length:Int))=12+(i.length:Int):=RT _ (by omega);obtain⟨i3,hi,aj,ak,C⟩:=info_parts Mi;have aq:P.length+1≤1000000000:=by omega
   have M:Hid (((P.length*4096+12:Nat):Int)=(P.length:Int)*4096+12):=V (by omega);clear E hs R I0 IA;dsimp only at*;go_enter func181,ntmps181;go_wp2_with fail;refine I.ka t1 fun m=> ?_;have I2:=(I.drewN m).via (hle (A:=G) (c:=z) (u:=u0));have J:=I2.Wa (.cells #[.func (.func 184) #[Da L] #[],.func (.func 234) #[] #[Da w.heap.size,Da (w.heap.size+1)],.func (.func 236) #[] #[Da w.heap.size,Da (w.heap.size+1),Da (w.heap.size+1+1)]] 96) (w.heap.size+1+1+1) (dc (dc (dc rfl)));have T:aa.le (ba (w.heap.size+1+1+1) 96 #[.func (.func 184) #[Da L] #[],.func (.func 234) #[] #[Da w.heap.size,Da (w.heap.size+1)],.func (.func 236) #[] #[Da w.heap.size,Da (w.heap.size+1),Da (w.heap.size+1+1)]]) (Ba 1 (O (some ⟨w.heap.size+1+1+1,0,none⟩) 3 3) 3 ([((184,#[Da L],#[]):Fv),(234,#[],#[Da w.heap.size,Da (w.heap.size+1)]),(236,#[],#[Da w.heap.size,Da (w.heap.size+1),Da (w.heap.size+1+1)])].flatMap OR)):=aa.le.YJ (by decide) (FT 3) rfl;have K:=J.via T;clear I I2 J T t1;go_wp2_with fail;refine K.k1 t fun y J1=> ?_;clear K t;obtain⟨A,c,u,s⟩:=J1.log L D st P;clear J1;generalize an:w.heap.size=f at*;have d1:y.cell? ⟨f,0,none⟩=some (Da L):=s.cells f 0;have d2:y.cell? ⟨f+1,0,none⟩=some (Z P.length):=s.cells (f+1) 0;have d3:y.cell? ⟨f+1+1,0,none⟩=some (Ha i):=s.cells (f+1+1) 0;have l3:y.cell? ⟨L,3,none⟩=some (O A P.length c):=s.cells L 3;by_cases hz:F=0
   ·subst hz;go_wp2_with fail;refine Gb (fun W=>W.cell? ⟨f,0,none⟩=some (Da L)∧W.cell? ⟨f+1+1,0,none⟩=some (Ha i)∧W.cell? ⟨L,3,none⟩=some (O A P.length c)) (fun a b=>a=b) [0,1,2,3,4,5,6,7] [8,9] [10,11,12] (fun _=>rfl) (fun _ _ _ h k=>Eq.trans h k) (fun _ _ h e=>e▸h) (by kernel_rfl) (by kernel_rfl) (fun _ _ _ _ _ h=>h) ⟨(s.drew).cells f 0,(s.drew).cells (f+1+1) 0,(s.drew).cells L 3⟩ ?_;simp only[QT,VT,MT,NT];iterate 8 (first|(refine db (by rfl) (fun K l=> ?_);go_simp;refine l _ ?_;clear l K)|(refine gb (by rfl) (fun K l=> ?_);apply Exists.intro;refine⟨fun w hw=> ?_,?_⟩;(next=>(first|(go_simp;rfl)|(obtain⟨X,e2,e3⟩:=hw;go_simp;rfl)|(obtain⟨X,e2,e3⟩:=hw;go_simp;done)));go_simp;refine l _ ?_;clear l K))
    refine Eb ?_;intro y a6;subst a6;have H:=s.drew;clear s d1 d2 d3 l3;refine ic (fun K l=> ?_);go_simp;refine l _ _ ⟨(H.alloc _).cells f 0,(H.alloc _).cells (f+1+1) 0,(H.alloc _).cells L 3⟩ (fun w2 a7=> ?_);subst a7;clear l K;refine ic (fun K l=> ?_);refine step_append (v:=O A P.length c) (n:=P.length) (xs:=Gn P) (m:=1) (news:=[Z (12+(i.length:Int))]) (H.alloc _) (by rfl) (by rfl) underlying35 hi aj ak (by rfl) (by rfl) (by exact ur (sz:=1) (ty:=3) (g:=y.heap.size) (cs:=[Z (12+(i.length:Int))]) prog underlying35 1 (CY y _) rfl (sw _)) (by unfold maxLen;omega) (by rw[C];omega) ?_;intro v1 w3 j;refine l _ _ ⟨j.cells f 0,j.cells (f+1+1) 0,j.cells L 3⟩ (fun w4 a8=> ?_);subst a8;clear l K;unfold Sb;obtain⟨_,U,c',rfl⟩:=j.Cd v1;have e3:=j.free L 3;have c3:w3.cell? ⟨L,3,none⟩=some (O A P.length c):=j.cells L 3;have d2:w3.cell? ⟨f+1,0,none⟩=some (Z P.length):=j.cells (f+1) 0;have n2:=j.ne L (f+1);have n3:=Ne.symm n2;go_wp2;go_ret2;have J5:=((j.ra L 3 (O U (P.length+1) c') #[Da D,Z st,.bool false,O U (P.length+1) c',Z u]).via (a1 (A:=U) (c:=c') (u:=u))).ya (A:=Fc L D st (P++[[p]])*na D q2);refine⟨?_,J5⟩;rw[show Sx (P.length*4096+12) 0= .tuple #[Z ((P.length*4096+12:Nat):Int),Z 0] from rfl,M.out];rfl
   ·have hb:((F:Int) !=0)=true:=by rw[CU];omega
    have t3:=dF L D st (O A P.length c) u F;go_wp2_with fail;refine s.k1 t3 fun w3 j=> ?_;go_wp2;go_ret2;refine⟨by unfold Sx;rw[DT hz];rfl,?_⟩;unfold TI;rw[DT hz];by_cases C:F=61
    ·subst C;exact j.ya.le (Re _)
    ·rw[ij C];rw[show decide (((F:Nat):Int)=61)=false from yU (by omega)]at j;exact(j.via (hle (A:=A) (c:=c) (u:=u))).ya
theorem KE(P:Ma)(p:Bs)(d:An.ja):Wb P p d=if Gp P p then Qm P.dropLast p d else Uo P p d:=by
 unfold Wb Qm Uo;split
 ·rename_i h;unfold Gp at h;rcases ud P with rfl|⟨B,a,rfl⟩
  ·simp at h
  ·simp
 ·rfl
theorem CH(L D:Nat)(st:Int)(P:Ma)(p:Bs)(d:An.ja)(T:d.down=false)(M:d.za=st)(Q:P.length≤200)(C:∀x∈P,Xa x≤4096)(G:p.length≤2000):Ud prog 130 #[Da L,Ha p] (Fc L D st P*na D d) (Sx (Vi P p) (Wb P p d).1) (TI L D st P (zk P p) (Wb P p d).1*na D (Wb P p d).2):=by
 intro w o r S;have N:=TZ S;obtain⟨A,c,u,I⟩:=N.log L D st P;have t1:=Cw L D st (O A P.length c) u d T M;have t2:=rP p (by omega);rw[show rM p= .tuple #[Ha (ue p),Z 0] from DT (by omega)]at t2;have l:=PJ L D st P p d Q C G;rw[KE];clear S T M;rcases ud P with rfl|⟨B,a,rfl⟩
 ·rw[show Gp [] p=false from rfl,show zk [] p=[]++[[p]] from rfl,show Vi [] p=([]:Ma).length*4096+12 from rfl];simp only[KV,RX];have c3:w.cell? ⟨L,3,none⟩=some (O A 0 c):=I.cells L 3;generalize Uo [] p d=q at*;obtain⟨E,U⟩:=q;dsimp only[List.length_nil,List.nil_append]at*;unfold Sx at*;obtain⟨i,b⟩:∃i,(if E=0 then 0*4096+12 else 0)=i:=⟨_,rfl⟩;rw[b]at l⊢;clear b;go_enter func130,ntmps130;go_wp2_with fail;refine Y.ka I t1 fun m=> ?_;go_wp2_with fail;refine((I.drewN m).pu t2).mono ?_;rintro e w2 ⟨rfl,f⟩;have c3:w2.cell? ⟨L,3,none⟩=some (O A 0 c):=f.cells L 3;have J:=f.via (ig (L:=L) (D:=D) (st:=st) (P:=[]) (v:=O A 0 c) (u:=u));go_wp2_with fail;refine J.k1 l fun K s=> ?_;go_wp2;go_ret2;exact⟨rfl,s.ya⟩
 ·have W:=C a (by simp);have hlen:(B++[a]).length=B.length+1:=by simp
  have H:=dO (Xa a) p (by omega) (by omega);have R:=GH L D st B a p d (by omega) C G;have j:=IM B a;have hle:∀ {A:Option Addr} {c:Nat} {u:Int},aa.le (Ut L D st A (B++[a]).length c u (Gn (B++[a]))) (Fc L D st (B++[a])):=fun {A c u}=>ig;have hF:Gp (B++[a]) p=fits (Xa a) p:=by simp[Gp,ah]
  have k:(B++[a]).dropLast=B:=by simp
  rw[hF,k];have X:B.length≤199:=by omega
  cases F:fits (Xa a) p with
  |true=>
   rw[F]at H hF;have t:zk (B++[a]) p=B++[a++[p]]:=by unfold zk;rw[JT hF,k];simp[ah]
   have y:Vi (B++[a]) p=B.length*4096+Xa a:=by unfold Vi;rw[JT hF,Lh]
   rw[t,y,JT rfl];generalize Qm B p d=q at*;obtain⟨E,U⟩:=q;dsimp only at*;obtain⟨i,b⟩:∃i,(if E=0 then B.length*4096+Xa a else 0)=i:=⟨_,rfl⟩;unfold Sx at*;rw[b]at R⊢;clear t y hF k F l C Q G b hlen N;go_enter func130,ntmps130;go_wp2_with fail;refine Y.ka I t1 fun m=> ?_;go_wp2_with fail;refine((I.drewN m).pu t2).mono ?_;rintro e w2 ⟨rfl,f⟩;have c3:w2.cell? ⟨L,3,none⟩=some (O A (B++[a]).length c):=f.cells L 3;rw[CT,cY]at c3;obtain⟨g,rfl,z⟩:=f.Mc (A:=A) (c:=c) (n:=(B++[a]).length) (xs:=Gn (B++[a])) (by intro h;have:=lg (B++[a]);rw[h]at this;simp at this);have c4:w2.cell? ⟨g,B.length,none⟩=some (Z (Xa a)):=z B.length _ j;clear z j;go_wp2_with (go_at_call 179;refine(H _).mono ?_;rintro e K ⟨rfl,m2,rfl⟩);have J:=(f.drewN m2).via (hle (A:=some ⟨g,0,none⟩) (c:=c) (u:=u));refine J.k1 R fun K s=> ?_;go_wp2;go_ret2;exact⟨rfl,s.ya⟩
  |false=>
   rw[F]at H hF;have t:zk (B++[a]) p=(B++[a])++[[p]]:=by unfold zk;rw[DT (by rw[hF];simp)]
   have y:Vi (B++[a]) p=(B++[a]).length*4096+12:=by unfold Vi;rw[DT (by rw[hF];simp)]
   rw[t,y,DT (by simp)];generalize Uo (B++[a]) p d=q at*;obtain⟨E,U⟩:=q;dsimp only at*;obtain⟨i,b⟩:∃i,(if E=0 then(B++[a]).length*4096+12 else 0)=i:=⟨_,rfl⟩;unfold Sx at*;rw[b]at l⊢;rw[hlen,show((B.length+1:Nat):Int)=(B.length:Int)+1 by omega]at l;clear t y hF k F R C Q G b hlen N;go_enter func130,ntmps130;go_wp2_with fail;refine Y.ka I t1 fun m=> ?_;go_wp2_with fail;refine((I.drewN m).pu t2).mono ?_;rintro e w2 ⟨rfl,f⟩;have c3:w2.cell? ⟨L,3,none⟩=some (O A (B++[a]).length c):=f.cells L 3;rw[CT,cY]at c3;obtain⟨g,rfl,z⟩:=f.Mc (A:=A) (c:=c) (n:=(B++[a]).length) (xs:=Gn (B++[a])) (by intro h;have:=lg (B++[a]);rw[h]at this;simp at this);have c4:w2.cell? ⟨g,B.length,none⟩=some (Z (Xa a)):=z B.length _ j;clear z j;go_wp2_with (go_at_call 179;refine(H _).mono ?_;rintro e K ⟨rfl,m2,rfl⟩);have J:=(f.drewN m2).via (hle (A:=some ⟨g,0,none⟩) (c:=c) (u:=u));refine J.k1 l fun K s=> ?_;go_wp2;go_ret2;exact⟨rfl,s.ya⟩
theorem rL(L D:Nat)(st:Int)(P:Ma)(d:An.ja)(y:Nat)(x:d.down=false)(C:d.za=st)(j:Jc d.fa P [] none y)(q:Nat×Bs)(S:q∈ab P):Ud prog 113 #[Da L,Z q.1] (Fc L D st P*na D d) (.tuple #[Ha q.2,Z 0]) (Fc L D st P*na D d):=by
 intro w o r N;have J:=TZ N;obtain⟨A,c,u,I⟩:=J.log L D st P;obtain⟨n,s,a,X,h2,h3,h4,Q,F⟩:=bM j.size S;obtain⟨G,b⟩:=q;dsimp only at*;have R:=j.lF _ (XT s) _ Q;have aq:=j.size _ (XT s);have hP:=j.sub;have t1:=Cw L D st (O A P.length c) u d x C;have t56:=Tk n (by omega);have z:=j.reads x s (a:=a) (k:=4) (by omega);have H:=j.reads x s (a:=a) (k:=b.length+12) (by omega);rw[F 4 (by omega),xF]at z;rw[F (b.length+12) (FT _),YT (by rw[Ce];exact FT _)]at H;have t2:=Bn D d (Ca n) a 4 (Qd _) (by omega) (by omega);have t3:=Bn D d (Ca n) a ((b.length+12:Nat):Int) (Qd _) (by omega) (by omega);rw[show((4:Nat):Int)=4 from rfl]at z;rw[z]at t2;rw[H]at t3;have t97:=tq (put b.length 4) (by rw[Jb];omega);rw[YT (by rw[Jb];omega),ug (by omega)]at t97;have t59:=tF (ue b) 0 (by rw[Ce];omega) (by omega);rw[aJ R]at t59;unfold Xx at t59;dsimp only at*;rw[show((b.length+12:Nat):Int)=(b.length:Int)+12 by omega]at t3;have hdiv:Int.tdiv (G:Int) 4096=(n:Int):=by rw[PV (by omega)];omega
 have a6:Int.tmod (G:Int) 4096=(a:Int):=by rw[cV (by omega)];omega
 have al:¬ ((G:Int)<0):=by omega
 have ak:¬ ((n:Int)≥(P.length:Int)):=by omega
 have a1:¬ ((a:Int)<12):=by omega
 have a8:¬ ((a:Int)>(Xa P[n]:Int)-12):=by omega
 have an:¬ ((b.length:Int)>2000):=by omega
 have a7:¬ ((b.length:Int)>(Xa P[n]:Int)-12-a):=by omega
 have i:(Gn P)[n]? =some (Z (Xa P[n])):=by have:=vh (f:=iv) Ts (P.map CD) n 0 (by simpa using s) (by decide);rw[wU,lX]at this;unfold Gn;rw[this];simp[iv,CD]
 obtain⟨g,rfl,l⟩:=I.Mc (A:=A) (c:=c) (n:=P.length) (xs:=Gn P) (by intro h;have:=lg P;rw[h]at this;simp at this;omega);have c4:w.cell? ⟨g,n,none⟩=some (Z (Xa P[n])):=l n _ i;have c3:w.cell? ⟨L,3,none⟩=some (O (some ⟨g,0,none⟩) P.length c):=I.cells L 3;have v:w.cell? ⟨L,0,none⟩=some (Da D):=I.cells L 0;have hle:∀ {A:Option Addr} {c:Nat} {u:Int},aa.le (Ut L D st A P.length c u (Gn P)) (Fc L D st P):=fun {A c u}=>ig;have aj:(n:Int)<(P.length:Int):=by omega
 have av:(Xa P[n]:Int)-12≤4096∧0≤(Xa P[n]:Int)-12:=by omega
 have aM:(Xa P[n]:Int)-12-a≤4096∧0≤(Xa P[n]:Int)-12-a:=by omega
 have b0:b.length≤2000:=R;clear N X h2 h3 h4 Q F x C j S l z H J;generalize Xa P[n]=cs at*;go_enter func113,ntmps113;go_wp2_with fail;refine Y.ka I t1 fun m=> ?_;have K:=I.drewN m;clear I;go_wp2_with fail;refine K.kp t56 fun w2 E=> ?_;clear K v c3 c4;have v:w2.cell? ⟨L,0,none⟩=some (Da D):=E.cells L 0;go_wp2_with fail;refine E.k1 t2 fun w3 M=> ?_;clear E v;go_wp2_with fail;refine(t97 _).mono ?_;rintro e B ⟨rfl,m2,rfl⟩;have t:=M.drewN m2;clear M;generalize w3.drewN m2=B at*;have c3:B.cell? ⟨L,3,none⟩=some (O (some ⟨g,0,none⟩) P.length c):=t.cells L 3;have v:B.cell? ⟨L,0,none⟩=some (Da D):=t.cells L 0;obtain⟨W,p,l⟩:=t.Mc (A:=some ⟨g,0,none⟩) (c:=c) (n:=P.length) (xs:=Gn P) (by intro h;have:=lg P;rw[h]at this;simp at this;omega);have c4:B.cell? ⟨W,n,none⟩=some (Z cs):=l n _ i;injection p with p;injection p with p;subst p;clear l i;go_wp2_with fail;refine t.k1 t3 fun w5 T=> ?_;go_wp2_with fail;refine T.kp t59 fun w6 U=> ?_;go_wp2;go_ret2;exact⟨rfl,(U.via (hle (A:=some ⟨g,0,none⟩) (c:=c) (u:=u))).ya⟩
def eC:Bs:=[48,49,50,51,52,53,54,55,56,57]
theorem SN(c:UInt8):eC.contains c=isDigit c:=by rw[RV];simp only[eC,isDigit,pW,dU,nV,SW,←pX,aU,bU];simp;omega
theorem dropWhile_nil{α:Type}(p:α→Bool)(l:List α):l.dropWhile p=[]↔∀x∈l,p x=true:=by
 induction l with
 |nil=>simp
 |cons a r b=>
  rw[ZW];split
  ·rename_i h;rw[b];simp[h]
  ·rename_i h;simp[h]
theorem Zw{α:Type}{p:α→Bool}{l r:List α}{a:α}(h:l.dropWhile p=a::r):p a=false:=by
 induction l with
 |nil=>cases h
 |cons b l c=>
  rw[ZW]at h;split at h
  ·exact c h
  ·rename_i hb;cases h;simpa using hb
theorem Yr(l:Bs):Lib.trimS l eC=[]↔l.all isDigit=true:=by
 have e:(fun c=>eC.contains c)=isDigit:=funext SN;unfold Lib.trimS Lib.trimLeftS Lib.trimRightS;rw[e,dropWhile_nil];simp only[DX,GU];constructor
 ·intro h;cases b:l.reverse.dropWhile isDigit with
  |nil=>rw[dropWhile_nil]at b;exact fun x d=>b x (by simpa using d)
  |cons a r=>have f:=h a (by rw[b];exact .head _);rw[Zw b]at f;cases f
 ·intro h x d;exact h x (by have:=(List.dropWhile_sublist (l:=l.reverse) isDigit).subset d;simpa using this)
def Lk:Option (UInt8×Nat)→Value
 |none=> .tuple #[.int .u8 0,Z 0,.bool false]
 |some (k,n)=> .tuple #[.int .u8 k.toNat,Z n,.bool true]
theorem BR(s:Bs)(a:s.length≤1000000000):Pu prog 74 #[Ha s,.string ⟨#[48,49,50,51,52,53,54,55,56,57]⟩] (Ha (Lib.trimS s eC)):=fun w=>Tryz.vB (mk s) ⟨#[48,49,50,51,52,53,54,55,56,57]⟩ w (by rw[Ph];omega) (by decide) (ascii_of_all (by decide))
theorem sO(s:Bs)(i:Int)(n:Nat)(hi:i=n)(h:n<s.length)(w:World):(Instr.index 9 (Ha s) (Z i)).run prog w= .ok (.int .u8 (s[n].toNat:Int)) w:=by
 subst hi;have a:(mk s)[n]? =some s[n]:=by rw[getElem?_pos (mk s) n (by rw[Ph];omega),FL]
 simp[Instr.index,asIntOf,SU underlying9,a]
theorem cC(l:Bs)(k:Nat)(h:k<l.length):Ei (l.take (k+1))=10*Ei (l.take k)+(l[k].toNat-48):=by unfold Ei;rw[rU h,UX];rfl
theorem pz(l:Bs)(h:l.all isDigit=true):∀k,k≤l.length→Ei (l.take k)<10^k
 |0,_=>by simp[Ei]
 |k+1,c=>by have b:=pz l h k (by omega);have a:=GU.1 h l[k] (XT (by omega));simp only[isDigit,aU,bU]at a;rw[cC l k (by omega),FX];omega
theorem kB(s:Bs)(R:s.length≤1000000000):Pu prog 38 #[Ha s] (Lk (ji s)):=by
 intro w;have hb:=mU w.heap.size w;cases s with
 |nil=>have e:ji []=none:=rfl;rw[e];unfold Lk;clear e;go_enter func38,ntmps38;go_wp2;go_ret3;exact⟨rfl,hb⟩
 |cons k r=>
  have e:ji (k::r)=if r.length=6∧r.all isDigit=true∧(k=99∨k=116∨k=98)then some (k,Ei r)else none:=rfl
  by_cases j:r.length=6
  ·have t:=BR r (by omega);have P:∀w,(Instr.slice 9 (Ha (k::r)) (some (Z 1)) none none).run prog w= .ok (Ha r) w:=qm (by rw[UT];omega) rfl;have z:∀w,(Instr.index 9 (Ha (k::r)) (Z 0)).run prog w= .ok (.int .u8 (k.toNat:Int)) w:=sO (k::r) 0 0 rfl (by simp);have u:((((k::r).length:Nat):Int) !=7)=false:=by rw[UT,j];rfl
   by_cases a:r.all isDigit=true
   ·rw[(Yr r).2 a]at t;by_cases c:k=99∨k=116∨k=98
    ·rw[e,JT ⟨j,a,c⟩];unfold Lk;dsimp only;have f:=pz r a;have o:=fun x z=>GU.1 a x z;have p:Ei (r.take 6)=Ei r:=by rw[YT (by omega)]
     have C:=V p;have B:=V o;have E:=V f;clear e a p o f;rcases c with rfl|rfl|rfl;all_goals
      go_enter func38,ntmps38;go_wp2_with fail;refine(t _).mono ?_;rintro e A ⟨rfl,b⟩;go_wp2_with fail;go_loop [3,21] (fun n i=>∃q:Nat,q≤6∧i=Z q∧n=Z (Ei (r.take q):Nat)) (fun _ i=>6-(intOf i).toNat);case atStart=>exact⟨0,WT _,rfl,rfl⟩
      case round=>
       obtain⟨q,Q,rfl,rfl⟩:=hrel;by_cases f:q<6
       ·have d:=B.out r[q] (XT (by omega));have l:=E.out q (by omega);have m:10^q≤10^6:=XV (by decide) (by omega);have g:=cC r q (by omega);simp only[isDigit,aU,bU]at d;have F:=V g;have D:=V d;have H:Ei (r.take q)<1000000:=by omega
        generalize G:Ei (r.take q)=N at*;clear G g l m d;go_wp2_with fail;go_round;case rel=>
         refine⟨q+1,by omega,by go_num,?_⟩;rw[F.out];have I:∀ (y:UInt8) h,((y::r)[1+q]'h)=r[q]:=fun y h=>by simp only[fY 1 q,OY]
         rw[I];have:=D.out;congr 1;omega
        case measure=>simp[intOf];omega
       ·obtain rfl:q=6:=by omega
        rw[C.out];go_wp2;go_ret3;exact⟨rfl,b⟩
    ·rw[e,DT (fun h=>c h.2.2)];unfold Lk;dsimp only;rw[lZ,lZ]at c;have K:((k.toNat:Int)==99)=false:=by rw[ET];intro h;exact c.1 (Nq (by show k.toNat=99;omega))
     have L:((k.toNat:Int)==116)=false:=by rw[ET];intro h;exact c.2.1 (Nq (by show k.toNat=116;omega))
     have M:((k.toNat:Int)==98)=false:=by rw[ET];intro h;exact c.2.2 (Nq (by show k.toNat=98;omega))
     clear e a c;go_enter func38,ntmps38;go_wp2_with fail;refine(t _).mono ?_;rintro e A ⟨rfl,b⟩;go_wp2;go_ret3;exact⟨rfl,b⟩
   ·rw[e,DT (fun h=>a h.2.1)];have v:¬ (Lib.trimS r eC=[]):=fun h=>a ((Yr r).1 h);have J:(Lib.trimS r eC==[])=false:=by simpa using v
    unfold Lk;dsimp only;generalize Lib.trimS r eC=T at*;clear e a;go_enter func38,ntmps38;go_wp2_with fail;refine(t _).mono ?_;rintro e A ⟨rfl,b⟩;go_wp2;go_ret3;exact⟨rfl,b⟩
  ·rw[e,DT (fun h=>j h.1)];unfold Lk;dsimp only;have u:((((k::r).length:Nat):Int) !=7)=true:=by rw[CU,mY,UT];omega
   clear e;go_enter func38,ntmps38;go_wp2;go_ret3;exact⟨rfl,hb⟩
theorem Y.Gx{f w:World}{c e:Td}{S R:aa}(h:Y f c e S w)(D:Nat)(d:An.ja)[k:Find (na D d) S R]:∀n∈d.names,n.length≤12:=by have b:Y f c e (na D d*R) w:=h.le k.split;unfold na at b;obtain⟨x,g⟩:=b.ex;obtain⟨⟨o,i,j⟩,r⟩:=g.pure;intro n a;unfold ja.names at a;rw[i]at a;obtain⟨p,l,rfl⟩:=nU.1 a;obtain⟨q,m,rfl⟩:=nU.1 l;exact j q m
theorem Y.Zi{e w:World}{b c:Td}{S R:aa}(h:Y e b c S w)(D:Nat)(d:An.ja)[k:Find (na D d) S R]:d.Wf:=by have a:Y e b c (na D d*R) w:=h.le k.split;unfold na at a;obtain⟨x,f⟩:=a.ex;exact f.pure.1.1
theorem wB{l:List Bs}{k:Nat}(h:k<l.length):(jh l)[k]? =some (Ha l[k]):=by simp[jh,h]
theorem Jq(l:List Bs):(jh l).length=l.length:=by simp[jh]
def yQ(s:Nat×Bool):Value:=.tuple #[Z s.1,.bool (s.2&&decide (s.1≤200))]
theorem tK(D:Nat)(d:An.ja):Ud prog 157 #[Da D] (na D d) (yQ (xm d.names)) (na D d):=by
 intro w o r C;have I:=TZ C;have u:=I.Gx D d;have L:d.names.length≤400:=by have:=(I.Zi D d).many;unfold ja.names;rwa [zU]
 have t:=eB D d;generalize d.names=a at*;have M:=V u;clear C u;go_enter func157,ntmps157;go_wp2_with fail;refine I.kc t fun w2 v z=> ?_;obtain⟨_,A,c,rfl⟩:=z.Cd v;go_wp2_with fail;go_loopw [12,2,3] (fun y S T wr=>∃k:Nat,k≤a.length∧y=Z k∧S=Z (xm (a.take k)).1∧T= .bool (xm (a.take k)).2∧Y w o r (Zs A a c*na D d) wr) (fun y _ _ _=>a.length-(intOf y).toNat);case atStart=>exact⟨0,WT _,rfl,rfl,rfl,z.ya⟩
 case round=>
  obtain⟨k,W,rfl,rfl,rfl,J⟩:=hrel;clear I z;by_cases l:k<a.length
  ·obtain⟨g,rfl,E⟩:=J.Mc (A:=A) (c:=c) (n:=a.length) (xs:=jh a) (by intro h;have:=Jq a;rw[h]at this;simp at this;omega);have c4:wr.cell? ⟨g,k,none⟩=some (Ha a[k]):=E k _ (wB l);have x:xm (a.take (k+1))=ek (xm (a.take k)) a[k]:=by rw[←PH,EX l]
   have p:=Ci (a.take k);rw[OT]at p;have Q:(xm (a.take k)).1≤400:=by omega
   have t38:=kB a[k] (by have:=M.out _ (XT l);omega);have e:=V x;clear E x p;generalize xm (a.take k)=s at*;obtain⟨s1,s2⟩:=s;generalize a[k]=R at*;dsimp only at*;unfold ek Uk at e;cases m:ji R with
   |none=>
    rw[m]at t38 e;unfold Lk at t38;dsimp only at*;clear m;go_wp2_with fail;refine J.kp t38 fun B f=> ?_;go_wp2;go_roundw;case rel=>exact⟨k+1,by omega,by go_num,by rw[e.out],by rw[e.out],f⟩
    case measure=>simp[intOf];omega
   |some q=>
    obtain⟨K,j⟩:=q;have U:=(du m).1;rw[m]at t38 e;unfold Lk at t38;dsimp only at*;clear m;by_cases i:K=99
    ·subst i;rw[JT rfl]at e;dsimp only at e;have hb:((j:Int)==(s1:Int))=decide (j=s1):=by rw[RV];simp;omega
     have G:(((99:UInt8).toNat:Int)==99)=true:=rfl;have H:((99:UInt8).toNat:Int)=99:=rfl;rw[H]at t38;cases s2 with
     |true=>
      simp only[KX]at e;generalize decide (j=s1)=b at*;go_wp2_with fail;refine J.kp t38 fun B f=> ?_;go_wp2;go_roundw;case rel=>exact⟨k+1,by omega,by go_num,by rw[e.out];go_num,by rw[e.out],f⟩
      case measure=>simp[intOf];omega
     |false=>
      simp only[Bool.false_and]at e;go_wp2_with fail;refine J.kp t38 fun B f=> ?_;go_wp2;go_roundw;case rel=>exact⟨k+1,by omega,by go_num,by rw[e.out];go_num,by rw[e.out],f⟩
      case measure=>simp[intOf];omega
    ·rw[DT i]at e;dsimp only at e;have G:((K.toNat:Int)==99)=false:=by rw[ET];intro h;exact i (pX.1 (by rw[show(99:UInt8).toNat=99 from rfl];omega))
     go_wp2_with fail;refine J.kp t38 fun B f=> ?_;go_wp2;go_roundw;case rel=>exact⟨k+1,by omega,by go_num,by rw[e.out],by rw[e.out],f⟩
     case measure=>simp[intOf];omega
  ·have F:k=a.length:=by omega
   subst F;have N:Hid (a.take a.length=a):=V (UU);have hb:decide (((xm (a.take a.length)).1:Int)≤200)=decide ((xm (a.take a.length)).1≤200):=by rw[RV];simp;omega
   have P:Hid (yQ (xm a)= .tuple #[Z ((xm (a.take a.length)).1:Nat),.bool ((xm (a.take a.length)).2&&decide ((xm (a.take a.length)).1≤200))]):=V (by rw[N.out];rfl);generalize xm (a.take a.length)=s at*;obtain⟨s1,s2⟩:=s;dsimp only at*;generalize decide (s1≤200)=b at*;cases s2;all_goals go_wp2;go_ret2;exact⟨by rw[P.out];rfl,J.ya⟩
theorem BG(D:Nat)(d:An.ja)(n:Nat)(f:An.jc)(g:d.down=false)(q:n<200)(b:Na (Ca n) d.fa=some f)(c:(scan f.data n).2.2=true):Ud prog 204 #[Da D,Z n] (na D d) (.tuple #[Ha f.data,Z (scan f.data n).2.1,Z 0]) (na D d):=by
 intro w o r i;have I:=TZ i;have a:=I.Zi D d;have hlen:f.data.length≤1048576:=by have u:=dg a.Db b;have:=a.Ia;have:=a.cap;omega
 have t56:=Tk n (by omega);have t41:=Dn D d (Ca n) (Qd _);have t42:=Bn D d (Ca n) 0 (f.data.length:Int) (Qd _) (by omega) (by omega);have t58:=vM f.data n (by omega) q;rw[show d.size (Ca n)=(0,f.data.length) by unfold ja.size;rw[g,b];rfl]at t41;rw[show d.ze (Ca n) 0 f.data.length=(0,f.data) by unfold ja.ze;rw[g,b,DT (by simp)];dsimp only;rw[DT (by omega)];simp]at t42;rw[c]at t58;generalize(scan f.data n).2.1=t at*;generalize(scan f.data n).1=x at*;generalize f.data=s at*;clear i g b c a hlen;dsimp only at*;go_enter func204,ntmps204;go_wp2_with fail;refine I.kp t56 fun w2 h=> ?_;go_wp2_with fail;refine h.ka t41 fun m=> ?_;have j:=h.drewN m;go_wp2_with fail;refine j.kp t56 fun y k=> ?_;go_wp2_with fail;refine k.k1 t42 fun z l=> ?_;go_wp2_with fail;refine((l.le (Re _)).call t58).mono ?_;rintro e A ⟨v,rfl,p⟩;go_wp2;go_ret3;exact⟨rfl,p.ya⟩
theorem Xm(n:Nat):(Ra n).length≤1000:=KT Wk (by omega)
theorem qn(n:Nat):(rb n).length≤1000:=KT Wk (by omega)
theorem fP(D:Nat)(d:An.ja)(c:d.down=false):Pp prog 272 #[Da D] (na D d) (Z 0):=by
 intro w o r b;have I:=TZ b;have t:=Dn D d [] (by simp);rw[lu c]at t;clear b c;cases a:Na ([]:Bs) d.fa with
 |none=>rw[a]at t;clear a;go_enter func272,ntmps272;go_wp2_with fail;refine Y.ka I t fun m=> ?_;go_wp2;go_ret;exact⟨rfl,_,rfl⟩
 |some f=>rw[a]at t;clear a;go_enter func272,ntmps272;go_wp2_with fail;refine Y.ka I t fun m=> ?_;go_wp2;go_ret;exact⟨rfl,_,rfl⟩
theorem UG(D:Nat)(d:An.ja)(c:d.down=false):Pp prog 210 #[Da D] (na D d) (Z 0):=by
 intro w o r b;have I:=TZ b;have t:=Dn D d [] (by simp);rw[lu c]at t;clear b c;cases a:Na ([]:Bs) d.fa with
 |none=>rw[a]at t;clear a;go_enter func210,ntmps210;go_wp2_with fail;refine Y.ka I t fun m=> ?_;go_wp2;go_ret;exact⟨rfl,_,rfl⟩
 |some f=>rw[a]at t;clear a;go_enter func210,ntmps210;go_wp2_with fail;refine Y.ka I t fun m=> ?_;go_wp2;go_ret;exact⟨rfl,_,rfl⟩
theorem IH(e:Nat)(h:e≠1∧e≠61):Pq prog 153 #[Z e] (Z 90):=by
 intro w;have a:((e:Int)==1)=false:=by rw[ET];omega
 have b:((e:Int)==61)=false:=by rw[ET];omega
 go_enter func153,ntmps153;go_wp2;go_ret;exact⟨rfl,0,rfl⟩
theorem iL(D:Nat)(d:An.ja)(n s:Bs)(f:n.length≤1000)(j:s.length≤100000000):Ud prog 274 #[Da D,Ha n,Ha s] (na D d) (Z (An.lay n s d).1) (na D (An.lay n s d).2):=by
 intro w o r g;have I:=TZ g;have t1:=Xq D d n f;have t2:=Ln D (d.create n).2 n s f j;have t3:=ou D ((d.create n).2.append n s).2 n f;have e:An.lay n s d=if(d.create n).1=0 then(if((d.create n).2.append n s).1=0 then((d.create n).2.append n s).2.sync n else(d.create n).2.append n s)else d.create n:=fK _ _ _ d
 rw[e];clear e g;generalize((d.create n).2.append n s).2.sync n=m at*;generalize(d.create n).2.append n s=l at*;generalize d.create n=k at*;obtain⟨b,d1⟩:=k;obtain⟨a2,d2⟩:=l;obtain⟨a3,d3⟩:=m;dsimp only at*;by_cases h:b=0
 ·subst h;by_cases z2:a2=0
  ·subst z2;go_enter func274,ntmps274;go_wp2_with fail;refine Y.k1 I t1 fun w' a=> ?_;go_wp2_with fail;refine Y.k1 a t2 fun w' c=> ?_;go_wp2_with fail;refine Y.k1 c t3 fun w' i=> ?_;go_wp2;go_ret;exact⟨rfl,i.ya⟩
  ·have e:(if 0=0 then(if a2=0 then(a3,d3)else(a2,d2))else(0,d1))=(a2,d2):=by rw[JT rfl,DT z2]
   rw[e];have q:(((a2:Nat):Int)==0)=false:=by rw[ET];omega
   clear e;go_enter func274,ntmps274;go_wp2_with fail;refine Y.k1 I t1 fun w' a=> ?_;go_wp2_with fail;refine Y.k1 a t2 fun w' c=> ?_;go_wp2;go_ret;exact⟨rfl,c.ya⟩
 ·have e:(if b=0 then(if a2=0 then(a3,d3)else(a2,d2))else(b,d1))=(b,d1):=by rw[DT h]
  rw[e];have p:(((b:Nat):Int)==0)=false:=by rw[ET];omega
  clear e;go_enter func274,ntmps274;go_wp2_with fail;refine Y.k1 I t1 fun w' a=> ?_;go_wp2;go_ret;exact⟨rfl,a.ya⟩
def qv:Option An.jc→Value
 |none=> .tuple #[Ha [],Z 4]
 |some f=> .tuple #[Ha f.data,Z 0]
theorem zy(D:Nat)(d:An.ja)(n:Bs)(g:n.length≤1000)(c:d.down=false):Ud prog 243 #[Da D,Ha n] (na D d) (qv (Na n d.fa)) (na D d):=by
 intro w o r e;have I:=TZ e;have b:=I.Zi D d;have t41:=Dn D d n g;rw[lu c]at t41;cases a:Na n d.fa with
 |none=>rw[a]at t41;clear e c a b;go_enter func243,ntmps243;go_wp2_with fail;refine Y.ka I t41 fun m=> ?_;go_wp2;go_ret2;exact⟨rfl,I.drewN _⟩
 |some f=>
  have hlen:f.data.length≤1048576:=by have i:=dg b.Db a;have:=b.Ia;have:=b.cap;omega
  have t42:=Bn D d n 0 (f.data.length:Int) g (by omega) (by omega);rw[Ux c a]at t42;rw[a]at t41;unfold qv;dsimp only at*;generalize f.data=s at*;clear e c a b;go_enter func243,ntmps243;go_wp2_with fail;refine Y.ka I t41 fun m=> ?_;have J:=I.drewN m;go_wp2_with fail;refine Y.k1 J t42 fun w' h=> ?_;go_wp2;go_ret2;exact⟨rfl,h.ya⟩
theorem kO(D:Nat)(d:An.ja)(n:Bs)(c:n.length≤1000):Ud prog 276 #[Da D,Ha n] (na D d) (Z (An.df n d).1) (na D (An.df n d).2):=by
 intro w o r b;have I:=TZ b;have t:=xl D d n c;have e:An.df n d=if(d.delete n).1=4 then(0,(d.delete n).2)else d.delete n:=rfl
 rw[e];clear b e;generalize d.delete n=q at*;obtain⟨a,d1⟩:=q;dsimp only at*;by_cases z:a=4
 ·subst z;go_enter func276,ntmps276;go_wp2_with fail;refine Y.k1 I t fun w' J=> ?_;go_wp2;go_ret;exact⟨rfl,J.ya⟩
 ·have f:((a:Int)==4)=false:=by rw[ET];omega
  rw[DT z];clear z;go_enter func276,ntmps276;go_wp2_with fail;refine Y.k1 I t fun w' J=> ?_;go_wp2;go_ret;exact⟨rfl,J.ya⟩
end
end Go.Proofs.YteacbkflfafefaaGreatDoor
