/- Part 28 of 50 of the proof that TopViews returns true at every input: lemmas on the way; no condition. -/
import Derived.Test.YteacbkflfafefaaGreatDoorZ23
import Derived.Test.YteacbkflfafefaaGreatDoorZ24
import Derived.Test.YteacbkflfafefaaGreatDoorZ25
namespace Go.Proofs.YteacbkflfafefaaGreatDoor
set_option linter.all false
set_option maxHeartbeats 800000
set_option maxRecDepth 100000
section
open Go.RowKit An Go.ChangeShapes Go.WideShapes Go.ChangeAt Go.Proofs.Tryz
theorem bG(D:Nat)(d:An.ja)(n:Nat)(P:n≤999999):Ud prog 193 #[Da D,Z n] (na D d) (Z (An.Ri n d).1) (na D (An.Ri n d).2):=by
 intro w o r G;have I:=TZ G;have t151:=Kq n P;have t245:=Sw n P;have L:=Xm n;have M:=qn n;show Calls _ _ _ _ fun e w'=>e= .returned (Z (Ta [Ra n,rb n] d).1)∧Y w o r (na D (Ta [Ra n,rb n] d).2) w';obtain⟨b,f⟩:∃b,[Ra n,rb n]=b:=⟨_,rfl⟩;have hlen:b.length=2:=by rw[←f];rfl
 have c:∀x∈b,x.length≤1000:=by rw[←f];intro x y;rcases dU.1 y with rfl|y;exact L;rw[lU.1 y];exact M
 have T:#[Ha (Ra n),Ha (rb n)]=(jh b).toArray:=by rw[←f];rfl
 rw[f];generalize Ra n=s1 at*;generalize rb n=s2 at*;clear G f;go_enter func193,ntmps193;go_wp2_with fail;refine Y.kp I t151 fun w' E=> ?_;go_wp2_with fail;refine Y.kp E t245 fun w2 h=> ?_;have K:=h.Wa (.cells #[Ha s1,Ha s2] 9) w2.heap.size rfl;rw[T]at K;have j:(Ta (b.take 0) d).1=0:=rfl;have F:Y w o r (ba w2.heap.size 9 (jh b).toArray*na D (Ta (b.take 0) d).2) (w2.alloc (.cells (jh b).toArray 9)):=by show Y w o r (ba w2.heap.size 9 (jh b).toArray*na D d) _;exact K.ya
 have R:=V c;have B:=V hlen;clear I E h K c t151 t245;go_upto_region 2 with(fail);go_loopw [14] (fun A wr=>∃k:Nat,A=Z k∧k≤2∧Hid ((Ta (b.take k) d).1=0)∧Y w o r (ba w2.heap.size 9 (jh b).toArray*na D (Ta (b.take k) d).2) wr) (fun A _=>2-(intOf A).toNat);case atStart=>exact⟨0,rfl,by omega,V j,F⟩
 case round=>
  obtain⟨k,rfl,X,v,J⟩:=hrel;clear F j;by_cases N:k<2
  ·have H:(k:Int)<2:=by omega
   have i:k<b.length:=by rw[B.out];exact N
   have W:wr.cell? ⟨w2.heap.size,k,none⟩=some (Ha b[k]):=by rw[J.cells w2.heap.size k];simp[jh,i]
   have f:=R.out _ (XT i);have t:=xl D (Ta (b.take k) d).2 b[k] f;have l:Ta (b.take (k+1)) d=An.df b[k] (Ta (b.take k) d).2:=Qt i v.out;have s:An.df b[k] (Ta (b.take k) d).2=if((Ta (b.take k) d).2.delete b[k]).1=4 then(0,((Ta (b.take k) d).2.delete b[k]).2)else(Ta (b.take k) d).2.delete b[k]:=rfl
   have U:=Et (Ta (b.take k) d).2 b[k];rw[s]at l;generalize(Ta (b.take k) d).2.delete b[k]=q at*;obtain⟨a,d1⟩:=q;dsimp only at*;have C:=V l;generalize b[k]=nk at*;clear l s f i;by_cases z:a=0∨a=4
   ·have g:Ta (b.take (k+1)) d=(0,d1):=by rw[C.out];rcases z with rfl|rfl<;>rfl
    have m:Hid ((Ta (b.take (k+1)) d).1=0):=V (by rw[g]);have p:Hid ((Ta (b.take (k+1)) d).2=d1):=V (by rw[g]);clear g;rcases z with rfl|rfl
    ·go_wp2_with fail;refine J.k1 t fun Q h=> ?_;go_wp2;go_roundw;case rel=>exact⟨k+1,by go_num,by omega,m,by rw[p.out];exact h.ya⟩
     case measure=>simp[intOf];omega
    ·go_wp2_with fail;refine J.k1 t fun Q h=> ?_;go_wp2;go_roundw;case rel=>exact⟨k+1,by go_num,by omega,m,by rw[p.out];exact h.ya⟩
     case measure=>simp[intOf];omega
   ·obtain rfl:a=61:=by omega
    have g:Ta (b.take (k+1)) d=(61,d1):=C.out;have m:Hid (Ta b d=(61,d1)):=V (by rw[Pt (k:=k+1) (by rw[g];omega),g]);clear g z;go_wp2_with fail;refine J.k1 t fun Q h=> ?_;go_wp2;go_ret;rw[m.out];exact⟨rfl,h.ya⟩
  ·have H:¬ ((k:Int)<2):=by omega
   have u:k=b.length:=by rw[B.out];omega
   have c:b.take k=b:=by rw[u,UU]
   rw[c]at J;have S:Hid ((Ta b d).1=0):=V (by rw[←c];exact v.out);clear c u v;go_wp2;go_ret;rw[S.out];exact⟨rfl,J.ya⟩
theorem gG:∀ (l:List (List Nat)),(l.flatMap Sd).length=l.length+4*l.flatten.length
 |[]=>rfl
 |a::r=>by rw[AU,CT,gG r,UT,oV,CT];unfold Sd;rw[CT,Jb,CK];omega
theorem wL{m:Fa}(h:dd m=true):(Xb m).length≤200:=by
 obtain⟨_,_,b,c,_⟩:=Qh h;have d:=Df m.ia;have a:=Yc m.ia;rw[bB,rj,CT,gG,a];have:(Aq m).length=21:=by simp[Aq,Jb,Se]
 omega
theorem tC(D:Nat)(d:An.ja):Pp prog 267 #[Da D] (na D d) (Z d.free):=by obtain⟨cap,fs,st,dn,fl,lf,kp⟩:=d;intro w o r a;obtain⟨M,rd,kv,g,rfl,hw,c,b,I⟩:=(TZ a).Be D;exact I.ask (iG D cap (Ia (ma g)) M rd st dn fl lf kv hw.cap (KT hw.Ia hw.cap))
theorem JP(s:Bs)(d:An.ja):An.swap s d=if(An.df oa d).1≠0 then An.df oa d else if(An.df oa d).2.free-s.length<6000 then(60,(An.df oa d).2)else An.yg Va s (An.df oa d).2:=rfl
theorem DP(D:Nat)(d:An.ja)(m:Fa)(v:Value)(J:lN m)(y:dd m=true)(H:d.down=false):Ud prog 242 #[Da D,ag m v] (na D d*Ea v m.ia) (Z (An.swap (Xb m) d).1) (na D (An.swap (Xb m) d).2*Ea v m.ia):=by
 intro w o r C;have t:=TZ C;have hlen:=wL y;have t275:=KG m v J;unfold Wn at t275;rw[JT y]at t275;have t210:=UG D d H;have t276:=kO D d oa Xl;rw[JP];generalize Xb m=s at*;have hw:=(t.Zi D d);obtain⟨_,A,c,qs,rfl,K⟩:∃_:True,∃A c qs,v=O A qs c∧qs=m.ia.length:=by obtain⟨A,c,qs,E,F,_⟩:=t.dr v m.ia;exact⟨trivial,A,c,qs.length,E,F⟩
 generalize An.df oa d=P at*;obtain⟨z,d1⟩:=P;dsimp only at*;have g:=tC D d1;have t1:=Xq D d1 oa Xl;have t2:=Ln D (d1.create oa).2 oa s Xl (by omega);have t3:=ou D ((d1.create oa).2.append oa s).2 oa Xl;have t4:=Tz D (((d1.create oa).2.append oa s).2.sync oa).2 oa Va Xl (by decide);have B:An.yg Va s d1=_:=xQ (fun d=>d.create oa) (fun d=>d.append oa s) (fun d=>d.sync oa) (fun d=>d.rename oa Va) d1;rw[B];clear B;obtain⟨fr,q⟩:∃fr,d1.free=fr:=⟨_,rfl⟩;rw[q]at g⊢;have u:=V q;have I:=t.Wa (.cells #[Z m.next,Z m.check,Pa m.da,O A qs c] 66) w.heap.size rfl;unfold ag at t275⊢;clear C J y H t K hw q;generalize(((d1.create oa).2.append oa s).2.sync oa).2.rename oa Va=T at*;generalize((d1.create oa).2.append oa s).2.sync oa=S at*;generalize(d1.create oa).2.append oa s=R at*;generalize d1.create oa=Q at*;obtain⟨a2,d2⟩:=Q;obtain⟨a3,d3⟩:=R;obtain⟨a4,d4⟩:=S;obtain⟨a5,d5⟩:=T;dsimp only at*;by_cases L:z=0
 ·subst L;have hbound:∀ (W:World) (X:aa),Y w o r (na D d1*X) W→0≤fr∧fr≤1048576:=fun W X h=>by have G:=h.Zi D d1;have E:=G.cap;have F:=G.Ia;rw[←u.out];unfold ja.free;omega
  have i:=V hbound;clear hbound u;by_cases M:fr-(s.length:Int)<6000
  ·rw[DT (by omega),JT M];go_enter func242,ntmps242;go_upto_region 1 with(fail);obtain⟨n,p,c2,c3⟩:=I.c4 w.heap.size;go_wp2_with fail;refine Y.k1 I t275 fun w' b=> ?_;go_wp2_with fail;refine Y.ka b t210 fun m=> ?_;have e:=b.drewN m;go_wp2_with fail;refine Y.k1 e t276 fun w' a=> ?_;have hb:=i.out _ _ a;have k:IntKind.i64.wrap (fr-(s.length:Int))=fr-(s.length:Int):=RT _ (by omega);go_wp2_with fail;refine Y.ka a g fun m2=> ?_;have f:=a.drewN m2;clear I b e a t275 t210 t276 g i;go_wp2;go_ret;exact⟨rfl,f.ya⟩
  ·rw[DT (by omega),DT M];by_cases z2:a2=0
   ·subst z2;rw[JT rfl];by_cases z3:a3=0
    ·subst z3;rw[JT rfl];by_cases z4:a4=0
     ·subst z4;rw[JT rfl];go_enter func242,ntmps242;go_upto_region 1 with(fail);obtain⟨n,p,c2,c3⟩:=I.c4 w.heap.size;go_wp2_with fail;refine Y.k1 I t275 fun w' b=> ?_;go_wp2_with fail;refine Y.ka b t210 fun m=> ?_;have e:=b.drewN m;go_wp2_with fail;refine Y.k1 e t276 fun w' a=> ?_;have hb:=i.out _ _ a;have k:IntKind.i64.wrap (fr-(s.length:Int))=fr-(s.length:Int):=RT _ (by omega);go_wp2_with fail;refine Y.ka a g fun m2=> ?_;have f:=a.drewN m2;clear I b e a t275 t210 t276 g i;go_wp2_with fail;refine Y.k1 f t1 fun w' j=> ?_;go_wp2_with fail;refine Y.k1 j t2 fun w' l=> ?_;go_wp2_with fail;refine Y.k1 l t3 fun w' x=> ?_;go_wp2_with fail;refine Y.k1 x t4 fun w' N=> ?_;go_wp2;go_ret;exact⟨rfl,N.ya⟩
     ·rw[DT z4];have n4:(((a4:Nat):Int)==0)=false:=by rw[ET];omega
      go_enter func242,ntmps242;go_upto_region 1 with(fail);obtain⟨n,p,c2,c3⟩:=I.c4 w.heap.size;go_wp2_with fail;refine Y.k1 I t275 fun w' b=> ?_;go_wp2_with fail;refine Y.ka b t210 fun m=> ?_;have e:=b.drewN m;go_wp2_with fail;refine Y.k1 e t276 fun w' a=> ?_;have hb:=i.out _ _ a;have k:IntKind.i64.wrap (fr-(s.length:Int))=fr-(s.length:Int):=RT _ (by omega);go_wp2_with fail;refine Y.ka a g fun m2=> ?_;have f:=a.drewN m2;clear I b e a t275 t210 t276 g i;go_wp2_with fail;refine Y.k1 f t1 fun w' j=> ?_;go_wp2_with fail;refine Y.k1 j t2 fun w' l=> ?_;go_wp2_with fail;refine Y.k1 l t3 fun w' x=> ?_;go_wp2;go_ret;exact⟨rfl,x.ya⟩
    ·rw[DT z3];have n3:(((a3:Nat):Int)==0)=false:=by rw[ET];omega
     go_enter func242,ntmps242;go_upto_region 1 with(fail);obtain⟨n,p,c2,c3⟩:=I.c4 w.heap.size;go_wp2_with fail;refine Y.k1 I t275 fun w' b=> ?_;go_wp2_with fail;refine Y.ka b t210 fun m=> ?_;have e:=b.drewN m;go_wp2_with fail;refine Y.k1 e t276 fun w' a=> ?_;have hb:=i.out _ _ a;have k:IntKind.i64.wrap (fr-(s.length:Int))=fr-(s.length:Int):=RT _ (by omega);go_wp2_with fail;refine Y.ka a g fun m2=> ?_;have f:=a.drewN m2;clear I b e a t275 t210 t276 g i;go_wp2_with fail;refine Y.k1 f t1 fun w' j=> ?_;go_wp2_with fail;refine Y.k1 j t2 fun w' l=> ?_;go_wp2;go_ret;exact⟨rfl,l.ya⟩
   ·rw[DT z2];have n2:(((a2:Nat):Int)==0)=false:=by rw[ET];omega
    go_enter func242,ntmps242;go_upto_region 1 with(fail);obtain⟨n,p,c2,c3⟩:=I.c4 w.heap.size;go_wp2_with fail;refine Y.k1 I t275 fun w' b=> ?_;go_wp2_with fail;refine Y.ka b t210 fun m=> ?_;have e:=b.drewN m;go_wp2_with fail;refine Y.k1 e t276 fun w' a=> ?_;have hb:=i.out _ _ a;have k:IntKind.i64.wrap (fr-(s.length:Int))=fr-(s.length:Int):=RT _ (by omega);go_wp2_with fail;refine Y.ka a g fun m2=> ?_;have f:=a.drewN m2;clear I b e a t275 t210 t276 g i;go_wp2_with fail;refine Y.k1 f t1 fun w' j=> ?_;go_wp2;go_ret;exact⟨rfl,j.ya⟩
 ·rw[JT L];have U:(((z:Nat):Int)==0)=false:=by rw[ET];omega
  go_enter func242,ntmps242;go_upto_region 1 with(fail);obtain⟨n,p,c2,c3⟩:=I.c4 w.heap.size;go_wp2_with fail;refine Y.k1 I t275 fun w' b=> ?_;go_wp2_with fail;refine Y.ka b t210 fun m=> ?_;have e:=b.drewN m;go_wp2_with fail;refine Y.k1 e t276 fun w' f=> ?_;go_wp2;go_ret;exact⟨rfl,f.ya⟩
def Bq(fs:Hb):Option Fa:=match Na Va fs with
 |none=>none
 |some f=>qg f.data
def cR(o:Option Fa)(a:Nat)(v:Value):Value:=match o with
 |none=> .tuple #[.agg #[Z 0,Z 0,Pa 0,O none 0 0],Z a]
 |some m=> .tuple #[ag m v,Z 0]
def Tl(fs:Hb):Nat:=if(Na Va fs).isSome then 90 else 4
theorem AO(D:Nat)(d:An.ja)(p:d.down=false):Tr prog 206 #[Da D] (na D d) (fun v:Value=>cR (Bq d.fa) (Tl d.fa) v) (fun v=>CL (Bq d.fa) v*na D d):=by
 intro w o r q;have n:=TZ q;have l:=n.Zi D d;have t41:=Dn D d Va (by decide);rw[lu p]at t41;unfold Bq Tl;have I:=n.Wa (.cells #[Z 0,Z 0,Pa 0,O none 0 0] 66) w.heap.size rfl;cases e:Na Va d.fa with
 |none=>rw[e]at t41;dsimp only[Option.isSome]at*;clear q p e l n;go_enter func206,ntmps206;go_upto_region 1 with(fail);generalize w.alloc (.cells #[Z 0,Z 0,Pa 0,O none 0 0] 66)=t at*;go_wp2_with fail;refine Y.ka I t41 fun m=> ?_;have J:=I.drewN m;clear I;obtain⟨j,k,c2,c3⟩:=J.c4 w.heap.size;obtain⟨f0,f1,f2,f3⟩:=J.f4 w.heap.size;go_wp2_with fail;refine ZT (v:=.tuple #[.agg #[Z 0,Z 0,Pa 0,O none 0 0],Z 4]) (by simp[results,results206,go_sem,j,k,c2,c3]) rfl ⟨undef,rfl,?_⟩;have a:=((((J.ra w.heap.size 0 (Z 0) _ rfl).ra w.heap.size 1 (Z 0) _ rfl).ra w.heap.size 2 (Pa 0) _ rfl).ra w.heap.size 3 (O none 0 0) _ rfl);exact(a.ya (A:=na D d)).le (Re _)
 |some f=>
  have hlen:f.data.length≤1048576:=by have y:=dg l.Db e;have:=l.Ia;have:=l.cap;omega
  have t42:=Bn D d Va 0 (f.data.length:Int) (by decide) (by omega) (by omega);rw[Ux p e]at t42;rw[e]at t41;dsimp only[Option.isSome]at*;have t249:=MO f.data (by omega);generalize qg f.data=u at*;generalize f.data=s at*;clear q p e l n;cases u with
  |none=>have t249:Tr prog 249 #[Ha s] aa.emp (fun v:Value=> .tuple #[.agg #[Z 0,Z 0,Pa 0,O none 0 0],Z 90]) (fun v=>aa.emp):=t249;go_enter func206,ntmps206;go_upto_region 1 with(fail);generalize w.alloc (.cells #[Z 0,Z 0,Pa 0,O none 0 0] 66)=t at*;go_wp2_with fail;refine Y.ka I t41 fun m=> ?_;have J:=I.drewN m;go_wp2_with fail;refine Y.k1 J t42 fun w' a=> ?_;have i:=a.le (Re _);go_wp2_with fail;refine i.kc t249 fun x v b=> ?_;clear I J a i;obtain⟨j,k,c2,c3⟩:=b.c4 w.heap.size;obtain⟨f0,f1,f2,f3⟩:=b.f4 w.heap.size;go_wp2_with fail;refine ZT (v:=.tuple #[.agg #[Z 0,Z 0,Pa 0,O none 0 0],Z 90]) (by simp[results,results206,go_sem,j,k,c2,c3]) rfl ⟨undef,rfl,?_⟩;have a:=((((b.ra w.heap.size 0 (Z 0) _ rfl).ra w.heap.size 1 (Z 0) _ rfl).ra w.heap.size 2 (Pa 0) _ rfl).ra w.heap.size 3 (O none 0 0) _ rfl);exact(a.ya (A:=na D d)).le (Re _)
  |some m2=>
   have t249:Tr prog 249 #[Ha s] aa.emp (fun v:Value=> .tuple #[ag m2 v,Z 0]) (fun v=>Ea v m2.ia):=t249;unfold ag at t249;go_enter func206,ntmps206;go_upto_region 1 with(fail);generalize w.alloc (.cells #[Z 0,Z 0,Pa 0,O none 0 0] 66)=t at*;go_wp2_with fail;refine Y.ka I t41 fun m=> ?_;have J:=I.drewN m;go_wp2_with fail;refine Y.k1 J t42 fun w' a=> ?_;have i:=a.le (Re _);go_wp2_with fail;refine i.kc t249 fun x v b=> ?_;clear I J a i;obtain⟨A,c,g,rfl⟩:∃A c g,v=O A g c:=by obtain⟨A,c,qs,h,_⟩:=b.dr v m2.ia;exact⟨A,c,qs.length,h⟩
   obtain⟨j,k,c2,c3⟩:=b.c4 w.heap.size;obtain⟨f0,f1,f2,f3⟩:=b.f4 w.heap.size;go_wp2_with fail;refine ZT (v:=.tuple #[.agg #[Z m2.next,Z m2.check,Pa m2.da,O A g c],Z 0]) (by simp[results,results206,go_sem,j,k,c2,c3]) rfl ⟨O A g c,rfl,?_⟩;have a:=((((b.ra w.heap.size 0 (Z m2.next) _ rfl).ra w.heap.size 1 (Z m2.check) _ rfl).ra w.heap.size 2 (Pa m2.da) _ rfl).ra w.heap.size 3 (O A g c) _ rfl);exact a.ya (A:=Ea (O A g c) m2.ia*na D d)
theorem WL{m:Fa}:He m oa=true:=by simp[He]
theorem II{m:Fa}{s:Bs}(h:s≠oa)(a:ji s=none):He m s=false:=by simp[He,h,a]
theorem JI{m:Fa}{s:Bs}{k:UInt8}{j:Nat}(h:s≠oa)(a:ji s=some (k,j)):He m s=((decide (k=116)||decide (k=98))&& !m.ia.flatten.contains j):=by simp[He,h,a]
theorem iF(D:Nat)(d:An.ja)(m:Fa)(v:Value)(h1:m.ia.length≤100000)(h2:m.ia.flatten.length≤100000):Tr prog 211 #[Da D,ag m v] (na D d*Ea v m.ia) (fun v':Value=>v') (fun v'=>ua 9 1 v' (Uc d.fa m).length (jh (Uc d.fa m))*(na D d*Ea v m.ia)):=by
 intro w o r h0;have I0:=TZ h0;have hW:=I0.Zi D d;have b5:=I0.Gx D d;have bn:d.names.length≤400:=by unfold ja.names;rw[zU];exact hW.many
 obtain⟨Oo,hO⟩:∃Oo,Uc d.fa m=Oo:=⟨_,rfl⟩;rw[hO];have aM:Oo=d.names.filter (He m):=hO.symm;have t67:=xv v m.ia h1 h2;obtain⟨fl,a8⟩:∃fl,m.ia.flatten=fl:=⟨_,rfl⟩;rw[a8]at t67 h2;have b9:=V a8;have t79:=eB D d;obtain⟨A,c,E,rfl⟩:∃A c E,v= .slice A E c:=by obtain⟨A,c,qs,h,_⟩:=I0.dr v m.ia;exact⟨A,c,qs.length,h⟩
 have av:∀ (x:Value) (j:Nat),Ud prog 239 #[x,.int .i64 j] (Ba 1 x fl.length (nv fl)) (.bool (fl.contains j)) (Ba 1 x fl.length (nv fl)):=fun x j=>Wq x fl j (by omega);obtain⟨i0,hi,al,an,aq⟩:=info_parts fQ;have I:=I0.Wa (.cells #[.int .i64 m.next,.int .i64 m.check,.int .u64 m.da,.slice A E c] 66) w.heap.size rfl;generalize bf:d.names=f at*;have HO:=V aM;have HN:=V b5;unfold ag;clear h0 hW b5 hO aM bf I0 a8;go_enter func211,ntmps211;go_upto_region 1 with(fail);have c3:=I.cells w.heap.size 3;go_wp2_with fail;refine Y.kc I t67 fun w' va I2=> ?_;obtain⟨_,G,K,rfl⟩:=I2.Cd va;go_wp2_with fail;refine Y.kc I2 t79 fun w' vn I3=> ?_;obtain⟨_,A3,c4,rfl⟩:=I3.Cd vn;have I4:Y w o r (ua 9 1 (.slice none 0 0) ([]:List Bs).length (jh [])*(ua 9 1 (.slice A3 f.length c4) f.length (jh f)*(ua 3 1 (.slice G fl.length K) fl.length (nv fl)*(na D d*Ea (.slice A E c) m.ia)))) _:=(I3.ya (A:=ua 9 1 (.slice A3 f.length c4) f.length (jh f)*(ua 3 1 (.slice G fl.length K) fl.length (nv fl)*(na D d*Ea (.slice A E c) m.ia)))).le (KZ (Re _) (MZ (j0 9 1) (JZ _)));clear I I2 I3 c3 t67 t79;go_wp2_with fail;go_loopw [6,18] (fun x2 x1 wr=>∃ (k:Nat) (acc:List Bs) (p:Option Addr) (c2:Nat),x1= .int .i64 k∧x2= .slice p acc.length c2∧k≤f.length∧acc.length≤k∧Hid ((f.take k).filter (He m)=acc)∧Y w o r (ua 9 1 (.slice p acc.length c2) acc.length (jh acc)*(ua 9 1 (.slice A3 f.length c4) f.length (jh f)*(ua 3 1 (.slice G fl.length K) fl.length (nv fl)*(na D d*Ea (.slice A E c) m.ia)))) wr) (fun _ x1 _=>f.length-(intOf x1).toNat);case atStart=>exact⟨0,[],none,0,rfl,rfl,WT _,WT _,V rfl,I4⟩
 case round=>
  obtain⟨k,acc,p,c2,rfl,rfl,hk,b0,HK,J⟩:=hrel;clear I4;by_cases aj:k<f.length
  ·have bc:(k:Int)<(f.length:Int):=by omega
   obtain⟨g,rfl,hc⟩:=J.Mc (A:=A3) (c:=c4) (n:=f.length) (xs:=jh f) (e:=9) (sz:=1) (by intro h;have:=Jq f;rw[h]at this;simp at this;omega);have Q:wr.cell? ⟨g,k,none⟩=some (.string (mk f[k])):=hc k _ (wB aj);have bm:=HN.out _ (XT aj);have t38:=kB f[k] (by omega);have b6:(f.take (k+1)).filter (He m)=acc++[f[k]].filter (He m):=by rw[MU,PT aj,nX,sW,HK.out]
   have z:=V b6;have hS:∀ (a1:Option Addr) (a6:Nat) (W:World) (s:Bs),Y w o r (ua 9 1 (.slice a1 (acc.length+1) a6) (acc.length+1) (jh acc++[.string (mk s)])*(ua 9 1 (.slice (some ⟨g,0,none⟩) f.length c4) f.length (jh f)*(ua 3 1 (.slice G fl.length K) fl.length (nv fl)*(na D d*Ea (.slice A E c) m.ia)))) W→Y w o r (ua 9 1 (.slice a1 (acc++[s]).length a6) (acc++[s]).length (jh (acc++[s]))*(ua 9 1 (.slice (some ⟨g,0,none⟩) f.length c4) f.length (jh f)*(ua 3 1 (.slice G fl.length K) fl.length (nv fl)*(na D d*Ea (.slice A E c) m.ia)))) W:=fun a1 a6 W s h=>by
    have e1:(acc++[s]).length=acc.length+1:=by simp
    have e2:jh (acc++[s])=jh acc++[.string (mk s)]:=by simp[jh]
    rw[e1,e2];exact h
   have N:=V b0;have a7:acc.length+1≤1000000000:=by omega
   have HA:=V a7;generalize f[k]=s at*;have HS:=V (fun a b c=>hS a b c s);clear hc b6 HK b0 a7 hS bm;by_cases F:s=oa
   ·subst F;have B:Hid (acc++[oa].filter (He m)=acc++[oa]):=V (by simp[WL]);have hb:(oa==[110,101,119])=true:=rfl;cases C:ji oa with
    |none=>
     rw[C]at t38;unfold Lk at t38;dsimp only at t38;clear C;go_wp2_with fail;refine J.kp t38 fun T l=> ?_;clear Q J t38;go_wp2_with (at_builtin;go_loud (refine Oa (v:=.slice p acc.length c2) [.string (mk oa)] 1 l rfl rfl underlying158 hi al an rfl rfl rfl rfl (by intro u hu;rw[lU.1 hu];rfl) HA.out (by rw[aq];omega) ?_);intro X c' U K4);go_roundw;case rel=>exact⟨k+1,acc++[oa],X,c',by go_num,by rw[CT];rfl,by omega,by rw[CT];exact aW N.out,by rw[z.out];exact B.out,HS.out _ _ _ K4.ya⟩
     case measure=>simp[intOf];omega
    |some q=>rw[Nz]at C;cases C
   ·have hb:(s==[110,101,119])=false:=by rw[ET];exact F
    cases C:ji s with
    |none=>
     have B:Hid (acc++[s].filter (He m)=acc):=V (by simp[II F C]);rw[C]at t38;unfold Lk at t38;dsimp only at t38;clear C F;go_wp2_with fail;refine J.kp t38 fun T l=> ?_;clear Q J t38;go_wp2_with fail;go_roundw;case rel=>exact⟨k+1,acc,p,c2,by go_num,rfl,by omega,by have:=N.out;omega,by rw[z.out];exact B.out,l.ya⟩
     case measure=>simp[intOf];omega
    |some q=>
     obtain⟨S,q2⟩:=q;have tc:=av (.slice G fl.length K) q2;rw[C]at t38;unfold Lk at t38;dsimp only at t38;have y:=JI (m:=m) F C;rw[b9.out]at y;have hle:∀W,Y w o r (ua 9 1 (.slice p acc.length c2) acc.length (jh acc)*(ua 9 1 (.slice (some ⟨g,0,none⟩) f.length c4) f.length (jh f)*(ua 3 1 (.slice G fl.length K) fl.length (nv fl)*(na D d*Ea (.slice A E c) m.ia)))) W→Calls prog 239 #[.slice G fl.length K,.int .i64 q2] W fun e w'=>e= .returned (.bool (fl.contains q2))∧Y w o r (ua 9 1 (.slice p acc.length c2) acc.length (jh acc)*(ua 9 1 (.slice (some ⟨g,0,none⟩) f.length c4) f.length (jh f)*(ua 3 1 (.slice G fl.length K) fl.length (nv fl)*(na D d*Ea (.slice A E c) m.ia)))) w':=fun W h=>h.Wu (wc _) (j5 _ _ _ _) tc;have H:=V hle;have hk:=S.toNat_lt;have R:(S=116)=(S.toNat=116):=by rw[eq_iff_iff];exact⟨fun h=>by rw[h];rfl,fun h=>Nq h⟩
     have ak:(S=98)=(S.toNat=98):=by rw[eq_iff_iff];exact⟨fun h=>by rw[h];rfl,fun h=>Nq h⟩
     simp only[R,ak]at y;generalize S.toNat=M at*;generalize fl.contains q2=cb at*;clear C F hle tc av R ak;by_cases t:M=116∨M=98
     ·have L:(decide (M=116)||decide (M=98))=true:=by rcases t with h|h<;>simp[h]
      rw[L,KX]at y;cases cb with
      |true=>
       have B:Hid (acc++[s].filter (He m)=acc):=V (by simp[y]);rcases t with rfl|rfl
       ·clear y L;go_wp2_with fail;refine J.kp t38 fun T l=> ?_;have i:=H.out _ l;clear Q J t38 H;go_wp2_with fail;refine i.mono ?_;rintro e U ⟨rfl,P⟩;clear i l;go_wp2_with fail;go_roundw;case rel=>exact⟨k+1,acc,p,c2,by go_num,rfl,by omega,by have:=N.out;omega,by rw[z.out];exact B.out,P.ya⟩
        case measure=>simp[intOf];omega
       ·clear y L;go_wp2_with fail;refine J.kp t38 fun T l=> ?_;have i:=H.out _ l;clear Q J t38 H;go_wp2_with fail;refine i.mono ?_;rintro e U ⟨rfl,P⟩;clear i l;go_wp2_with fail;go_roundw;case rel=>exact⟨k+1,acc,p,c2,by go_num,rfl,by omega,by have:=N.out;omega,by rw[z.out];exact B.out,P.ya⟩
        case measure=>simp[intOf];omega
      |false=>
       have B:Hid (acc++[s].filter (He m)=acc++[s]):=V (by simp[y]);rcases t with rfl|rfl
       ·clear y L;go_wp2_with fail;refine J.kp t38 fun T l=> ?_;have i:=H.out _ l;clear Q J t38 H;go_wp2_with fail;refine i.mono ?_;rintro e U ⟨rfl,P⟩;clear i l;go_wp2_with (at_builtin;go_loud (refine Oa (v:=.slice p acc.length c2) [.string (mk s)] 1 P rfl rfl underlying158 hi al an rfl rfl rfl rfl (by intro u hu;rw[lU.1 hu];rfl) HA.out (by rw[aq];omega) ?_);intro X c' U K4);go_roundw;case rel=>exact⟨k+1,acc++[s],X,c',by go_num,by rw[CT];rfl,by omega,by rw[CT];exact aW N.out,by rw[z.out];exact B.out,HS.out _ _ _ K4.ya⟩
        case measure=>simp[intOf];omega
       ·clear y L;go_wp2_with fail;refine J.kp t38 fun T l=> ?_;have i:=H.out _ l;clear Q J t38 H;go_wp2_with fail;refine i.mono ?_;rintro e U ⟨rfl,P⟩;clear i l;go_wp2_with (at_builtin;go_loud (refine Oa (v:=.slice p acc.length c2) [.string (mk s)] 1 P rfl rfl underlying158 hi al an rfl rfl rfl rfl (by intro u hu;rw[lU.1 hu];rfl) HA.out (by rw[aq];omega) ?_);intro X c' U K4);go_roundw;case rel=>exact⟨k+1,acc++[s],X,c',by go_num,by rw[CT];rfl,by omega,by rw[CT];exact aW N.out,by rw[z.out];exact B.out,HS.out _ _ _ K4.ya⟩
        case measure=>simp[intOf];omega
     ·have h1:M≠116:=fun h=>t (.inl h);have h2:M≠98:=fun h=>t (.inr h);rw[yU h1,yU h2,Bool.false_or,Bool.false_and]at y;have B:Hid (acc++[s].filter (He m)=acc):=V (by simp[y]);have b1:((M:Int)==116)=false:=by rw[ET];omega
      have b2:((M:Int)==98)=false:=by rw[ET];omega
      clear y H h1 h2 t;go_wp2_with fail;refine J.kp t38 fun T l=> ?_;clear Q J t38;go_wp2_with fail;go_roundw;case rel=>exact⟨k+1,acc,p,c2,by go_num,rfl,by omega,by have:=N.out;omega,by rw[z.out];exact B.out,l.ya⟩
      case measure=>simp[intOf];omega
  ·have bc:¬ ((k:Int)<(f.length:Int)):=by omega
   have b7:Oo=acc:=by rw[HO.out,←HK.out,YT (by omega)]
   subst b7;clear HK;go_wp2_with fail;go_ret;exact⟨.slice p Oo.length c2,rfl,J.ya⟩
theorem MH{d:An.ja}(n:d.Wf)(o:d.down=false){m:Fa}{k:Nat}(g:k<(Uc d.fa m).length)(u:(Ta ((Uc d.fa m).take k) d).1=0):((Ta ((Uc d.fa m).take k) d).2.delete (Uc d.fa m)[k]).1≠4:=by
 rcases xh ((Uc d.fa m).take k) n o with⟨_,a,_⟩|⟨v,_⟩
 ·have i:(Uc d.fa m).Nodup:=(Pb n.Db).sublist xW;have b:¬ (Uc d.fa m)[k]∈(Uc d.fa m).take k:=fun h=>by obtain⟨j,r,e⟩:=dV h;rw[OT]at r;rw[sX]at e;have:=(List.getElem_inj (h₀:=by omega) (h₁:=g) i).1 e;omega
  have q:=a.get _ b;obtain⟨⟨p,s,l⟩,_⟩:=Ah.1 (XT g);have t:Na (Uc d.fa m)[k] d.fa≠none:=fun h=>Bj.1 h p s l;unfold ja.delete;rw[a.down];cases c:Na (Uc d.fa m)[k] (Ta ((Uc d.fa m).take k) d).2.fa with
  |none=>rw[q]at c;exact absurd c t
  |some f=>simp only[KV,RX];split<;>simp
 ·omega
theorem YB(D:Nat)(d:An.ja)(m:Fa)(v:Value)(P:d.down=false)(h1:m.ia.length≤100000)(h2:m.ia.flatten.length≤100000):Ud prog 162 #[Da D,ag m v] (na D d*Ea v m.ia) (Z (Af m d).1) (na D (Af m d).2*Ea v m.ia):=by
 intro w o r X;have s:=TZ X;have N:=s.Zi D d;have G:=s.Gx D d;have t210:=UG D d P;have t211:=iF D d m v h1 h2;have y:=fun k hk h=>MH N P (m:=m) (k:=k) hk h;obtain⟨q,Q⟩:∃q,Af m d=q:=⟨_,rfl⟩;rw[Q];have K:q=Ta (Uc d.fa m) d:=Q.symm;have hlen:∀x∈Uc d.fa m,x.length≤12:=fun x hx=>by obtain⟨⟨p,hp,e⟩,_⟩:=Ah.1 hx;exact G x (by rw[←e];exact nU.2 ⟨p,hp,rfl⟩)
 have a7:(Uc d.fa m).length≤400:=by have h3:(Uc d.fa m).length≤(d.fa.map (·.1)).length:=DU _ _;rw[zU]at h3;exact KT h3 N.many
 generalize Uc d.fa m=b at*;obtain⟨A,c,j,rfl⟩:∃A c j,v=O A j c:=by obtain⟨A,c,qs,h,_⟩:=s.dr v m.ia;exact⟨A,c,qs.length,h⟩
 have I:=s.Wa (.cells #[Z m.next,Z m.check,Pa m.da,O A j c] 66) w.heap.size rfl;unfold ag at t211⊢;have HL:=V hlen;have T:=V y;have M:=V K;clear X N G s Q K hlen y P h1 h2;go_enter func162,ntmps162;go_upto_region 1 with(fail);generalize w.alloc (.cells #[Z m.next,Z m.check,Pa m.da,O A j c] 66)=W1 at*;go_wp2_with fail;refine Y.ka I t210 fun mm=> ?_;have J:=I.drewN mm;obtain⟨W,c1,c2,c3⟩:=J.c4 w.heap.size;go_wp2_with fail;refine Y.kc J t211 fun w' vn f=> ?_;obtain⟨_,B,c4,rfl⟩:=f.Cd vn;have U:Y w o r (Zs B b c4*(na D (Ta (b.take 0) d).2*Ea (O A j c) m.ia)) _:=f.ya (A:=Zs B b c4*(na D d*Ea (O A j c) m.ia));have u:(Ta (b.take 0) d).1=0:=rfl;clear I J f W c1 c2 c3 t210 t211;go_wp2_with fail;go_loopw [18] (fun R wr=>∃k:Nat,R=Z k∧k≤b.length∧Hid ((Ta (b.take k) d).1=0)∧Y w o r (Zs B b c4*(na D (Ta (b.take k) d).2*Ea (O A j c) m.ia)) wr) (fun R _=>b.length-(intOf R).toNat);case atStart=>exact⟨0,rfl,WT _,V u,U⟩
 case round=>
  obtain⟨k,rfl,hk,C,J⟩:=hrel;clear U u;by_cases l:k<b.length
  ·have a1:(k:Int)<(b.length:Int):=by omega
   obtain⟨g,rfl,hc⟩:=J.Mc (A:=B) (c:=c4) (n:=b.length) (xs:=jh b) (e:=9) (sz:=1) (by intro h;have:=Jq b;rw[h]at this;simp at this;omega);have W:wr.cell? ⟨g,k,none⟩=some (Ha b[k]):=hc k _ (wB l);have a6:=HL.out _ (XT l);have H:=T.out k l C.out;have t:=xl D (Ta (b.take k) d).2 b[k] (by omega);have z:Ta (b.take (k+1)) d=An.df b[k] (Ta (b.take k) d).2:=Qt l C.out;have F:An.df b[k] (Ta (b.take k) d).2=if((Ta (b.take k) d).2.delete b[k]).1=4 then(0,((Ta (b.take k) d).2.delete b[k]).2)else(Ta (b.take k) d).2.delete b[k]:=rfl
   rw[F,DT H]at z;generalize(Ta (b.take k) d).2.delete b[k]=q3 at*;obtain⟨a,d1⟩:=q3;dsimp only at*;have E:=V z;generalize b[k]=nk at*;clear z F a6 hc H T;by_cases hz:a=0
   ·subst hz;have L:Hid ((Ta (b.take (k+1)) d).1=0):=V (by rw[E.out]);have S:Hid ((Ta (b.take (k+1)) d).2=d1):=V (by rw[E.out]);go_wp2_with fail;refine J.k1 t fun w4 f=> ?_;go_wp2;go_roundw;case rel=>exact⟨k+1,by go_num,by omega,L,by rw[S.out];exact f.ya⟩
    case measure=>simp[intOf];omega
   ·have L:Hid (q=(a,d1)):=V (by rw[M.out,Pt (k:=k+1) (by rw[E.out];exact hz),E.out]);have n1:(((a:Nat):Int)==0)=false:=by rw[ET];omega
    go_wp2_with fail;refine J.k1 t fun w4 f=> ?_;go_wp2;go_ret;rw[L.out];exact⟨rfl,f.ya⟩
  ·have a1:¬ ((k:Int)<(b.length:Int)):=by omega
   have i:b.take k=b:=YT (by omega);rw[i]at J;have HZ:Hid (q.1=0):=V (by rw[M.out,←i];exact C.out);rw[←M.out]at J;clear i C;go_wp2;go_ret;rw[HZ.out];exact⟨rfl,J.ya⟩
def qe(n:Nat):Nat:=64+64*max 1 ((24*n+479)/480)
def Dl:Prop:=∀ (v:Value) (l:List qa) (rate:Nat),l.length≤70000→(∀e∈l,Iy e)→Tr prog 273 #[v,.float .f64 rate] (Ba 3 v l.length (xc l)) (fun f:Bs=>Ha f) (fun f=>aa.pure (f.length≤qe l.length)*Ba 3 v l.length (xc l))
theorem mC{n:Nat}(h:n≤70000):qe n≤300000:=by unfold qe;omega
theorem kJ(k:Nat)(s f:Bs)(d:An.ja):je k s f d=if d.free-s.length-f.length<6000 then(60,d)else if(An.lay (rb k) f d).1=0 then An.lay (Ra k) s (An.lay (rb k) f d).2 else An.lay (rb k) f d:=by unfold je;rw[eK]
theorem cO{k:Nat}(h:k≤999999):(Ra k==[])=false∧(rb k==[])=false:=by
 constructor
 ·rw[ET];intro e;have:=uh 116 h;unfold Ra at e;rw[e]at this;cases this
 ·rw[ET];intro e;have:=uh 98 h;unfold rb at e;rw[e]at this;cases this
theorem bN(hF:Dl)(D:Nat)(d:An.ja)(n:Nat)(v:Value)(l:List qa)(rate:Nat)(C:n≤999999)(R:l.length≤70000)(S:ub l=true)(y:∀e∈l,Iy e)(P:d.down=false):Tr prog 241 #[Da D,Z n,v,.float .f64 rate] (na D d*Ba 3 v l.length (xc l)) (fun f:Bs=>Z (je n (Tb l) f d).1) (fun f=>aa.pure (f.length≤qe l.length)*(na D (je n (Tb l) f d).2*Ba 3 v l.length (xc l))):=by
 intro w o r N;have I:=TZ N;have B:=I.Zi D d;have Q:0≤d.free∧d.free≤1048576:=by have h1:=B.cap;have h2:=B.Ia;unfold ja.free;omega
 have t151:=Kq n C;have t245:=Sw n C;have t271:=LP v l (by omega) y;unfold Wr at t271;rw[JT S]at t271;have t272:=fP D d P;have t273:=hF v l rate R y;have E:=tC D d;have T:=jo l;have aj:=mC R;obtain⟨a6,a7⟩:=cO C;obtain⟨_,A,c,rfl,_⟩:=I.sl v;have U:=fun f:Bs=>fun h:f.length≤100000000=>iL D d (rb n) f (qn n) h;have W:=fun d1=>iL D d1 (Ra n) (Tb l) (Xm n) (by omega);have b:=V (kJ n (Tb l));obtain⟨X,k⟩:∃X,je n (Tb l)=X:=⟨_,rfl⟩;rw[k]at b⊢;generalize Tb l=s at*;have ak:s.length≤1680012:=by omega
 obtain⟨fr,g⟩:∃fr,d.free=fr:=⟨_,rfl⟩;rw[g]at E Q;have G:=V g;have HA:=V U;have F:=V W;clear N B S y P hF T k U W g;go_enter func241,ntmps241;go_wp2_with fail;refine Y.kp I t151 fun w' H=> ?_;go_wp2_with fail;refine Y.kp H t245 fun w' J=> ?_;go_wp2_with fail;refine Y.k1 J t271 fun w' q=> ?_;go_wp2_with fail;refine Y.ka q t272 fun m=> ?_;have K:=q.drewN m;clear I H J q t151 t245 t271;go_wp2_with fail;refine Y.kc K t273 fun w' f L=> ?_;obtain⟨i,t⟩:=L.pure;go_wp2_with fail;refine Y.ka t E fun m2=> ?_;have u:=t.drewN m2;clear K L t t273 E t272;have a8:f.length≤300000:=by omega
 have al:IntKind.i64.wrap (fr-(s.length:Int))=fr-(s.length:Int):=RT _ (by omega);have an:IntKind.i64.wrap (fr-(s.length:Int)-(f.length:Int))=fr-(s.length:Int)-(f.length:Int):=RT _ (by omega);have e:=b.out f d;rw[G.out]at e;have p:=V i;by_cases j:fr-(s.length:Int)-(f.length:Int)<6000
 ·rw[JT j]at e;have a:=V e;clear e b i;go_wp2;go_ret;refine⟨f,by rw[a.out];rfl,?_⟩;rw[a.out];exact(u.ya (A:=na D d*Fg A l c)).le (RZ p.out)
 ·rw[DT j]at e;have t1:=HA.out f (by omega);generalize An.lay (rb n) f d=q1 at*;obtain⟨M,d1⟩:=q1;dsimp only at*;by_cases z:M=0
  ·subst z;rw[JT rfl]at e;have t2:=F.out d1;generalize An.lay (Ra n) s d1=q2 at*;obtain⟨a2,d2⟩:=q2;dsimp only at*;have a:=V e;clear e b i;go_wp2_with fail;refine u.k1 t1 fun w3 x=> ?_;go_wp2_with fail;refine x.k1 t2 fun w4 I9=> ?_;go_wp2;go_ret;refine⟨f,by rw[a.out];rfl,?_⟩;rw[a.out];exact(I9.ya (A:=na D d2*Fg A l c)).le (RZ p.out)
  ·rw[DT z]at e;have a:=V e;have n1:(((M:Nat):Int)==0)=false:=by rw[ET];omega
   clear e b i F;go_wp2_with fail;refine u.k1 t1 fun w3 x=> ?_;go_wp2;go_ret;refine⟨f,by rw[a.out];rfl,?_⟩;rw[a.out];exact(x.ya (A:=na D d1*Fg A l c)).le (RZ p.out)
end
end Go.Proofs.YteacbkflfafefaaGreatDoor
