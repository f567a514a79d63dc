/- Part 46 of 50 of the proof that TopViews returns true at every input: lemmas on the way; no condition. -/
import Derived.Test.YteacbkflfafefaaGreatDoorZ43
import Derived.Test.YteacbkflfafefaaGreatDoorZ44
namespace Go.Proofs.YteacbkflfafefaaGreatDoor
set_option linter.all false
set_option maxHeartbeats 4000000
set_option maxRecDepth 100000
section
open Go.RowKit An Go.ChangeShapes Go.WideShapes Go.ChangeAt Go.Proofs.Tryz
theorem QQ:(prog.info? 61).map (fun i=>(i.zero,i.size,i.bytes))=some (some (.agg #[.int .u8 0,.string ⟨#[]⟩,Z 0,Z 0,O none 0 0]),5,64):=by kernel_rfl
def Kr(e:Ev):Bool:=decide (300<e.Xi.length)||decide (300<e.data.length)
def eQ(st:Bs)(l:List Ev):Bool:=decide (300<st.length)||decide (20<l.length)||l.any Kr
theorem lO(g c:Nat)(y a b:Value)(st:Bs)(v:Value)(l:List Ev):Ud prog 15 #[O (some ⟨g,0,none⟩) 1 c,Z 1] (ba g 61 #[y,Ha st,a,b,v]*Ba 3 v l.length (vc l)) (.bool (eQ st l)) (ba g 61 #[y,Ha st,a,b,v]*Ba 3 v l.length (vc l)):=by
 intro w o G D;have I:=TZ D;obtain⟨_,A,ce,rfl,_⟩:=I.sl v;obtain⟨res,i⟩:∃res,eQ st l=res:=⟨_,rfl⟩;rw[i];have p:=V i;clear D i;have z:w.cell? ⟨g,1,none⟩=some (Ha st):=I.cells g 1;have c4:w.cell? ⟨g,4,none⟩=some (O A l.length ce):=I.cells g 4;by_cases d:300<st.length∨20<l.length
 ·have f:res=true:=by rw[←p.out];unfold eQ;rcases d with h|h<;>simp[h]
  subst f;by_cases q:300<st.length
  ·go_enter func15,ntmps15;go_wp2_with fail;go_loopw [5] (fun x wr=>wr=w∧x=Z 0) (fun x _=>1);case atStart=>exact⟨rfl,rfl⟩
   case round=>obtain⟨rfl,rfl⟩:=hrel;go_wp2;go_ret;exact⟨rfl,I⟩
  ·have N:20<l.length:=d.resolve_left q;clear d;go_enter func15,ntmps15;go_wp2_with fail;go_loopw [5] (fun x wr=>wr=w∧x=Z 0) (fun x _=>1);case atStart=>exact⟨rfl,rfl⟩
   case round=>obtain⟨rfl,rfl⟩:=hrel;go_wp2;go_ret;exact⟨rfl,I⟩
 ·have B:¬ (300<st.length):=fun h=>d (.inl h);have L:¬ (20<l.length):=fun h=>d (.inr h);have s:eQ st l=l.any Kr:=by unfold eQ;simp[B,L]
  rw[s]at p;clear d s;go_enter func15,ntmps15;go_wp2_with fail;go_loopw [5] (fun x wr=>∃k:Nat,k≤1∧x=Z k∧(k=0∨res=false)∧Y w o G (ba g 61 #[y,Ha st,a,b,O A l.length ce]*Qc A l ce) wr) (fun x _=>1-(intOf x).toNat);case atStart=>exact⟨0,WT _,rfl,.inl rfl,I⟩
  case round=>
   obtain⟨k,H,rfl,u,J⟩:=hrel;clear I z c4;by_cases t:k=1
   ·subst t;have f:res=false:=u.resolve_left (by decide);subst f;go_wp2;go_ret;exact⟨rfl,J⟩
   ·obtain rfl:k=0:=by omega
    clear u t H;have z:wr.cell? ⟨g,1,none⟩=some (Ha st):=J.cells g 1;have c4:wr.cell? ⟨g,4,none⟩=some (O A l.length ce):=J.cells g 4;go_wp2_with fail;clear z c4;go_loopw [6] (fun x wr=>∃j:Nat,j≤l.length∧x=Z j∧Hid ((l.take j).any Kr=false)∧Y w o G (ba g 61 #[y,Ha st,a,b,O A l.length ce]*Qc A l ce) wr) (fun x _=>l.length-(intOf x).toNat);case atStart=>exact⟨0,WT _,rfl,V rfl,J⟩
    case round=>
     obtain⟨j,P,rfl,C,K⟩:=hrel;clear J;have c4:wr.cell? ⟨g,4,none⟩=some (O A l.length ce):=K.cells g 4;by_cases n:j<l.length
     ·have F:(j:Int)<(l.length:Int):=by omega
      obtain⟨g2,M,rfl,_,r,E⟩:=K.we A ce l wi j n (by decide);have d0:=r _ rfl;have d1:=E 1 _ rfl;have m:Hid (Kr l[j]=true→res=true):=V fun h=>by rw[←p.out];exact bX.2 ⟨_,XT n,h⟩
      have Qe:Hid (Kr l[j]=false→(l.take (j+1)).any Kr=false):=V fun h=>by rw[rU n,List.any_append,C.out];simp[h]
      clear E r;generalize l[j]=e at*;by_cases d:300<e.Xi.length
      ·have f:res=true:=m.out (by unfold Kr;simp[d]);subst f;go_wp2;go_ret;exact⟨rfl,K⟩
      ·by_cases q:300<e.data.length
       ·have f:res=true:=m.out (by unfold Kr;simp[q]);subst f;go_wp2;go_ret;exact⟨rfl,K⟩
       ·have B:=V (Qe.out (by unfold Kr;simp[d,q]));go_wp2;go_roundw;case rel=>exact⟨j+1,by omega,by go_num,B,K⟩
        case measure=>simp[intOf];omega
     ·have F:¬ ((j:Int)<(l.length:Int)):=by omega
      have f:res=false:=by
       rw[←p.out];have:=C.out
       rwa [YT (by omega)]at this
      go_wp2;go_roundw;case rel=>exact⟨1,FT _,by go_num,.inr f,K⟩
      case measure=>simp[intOf]
structure gz where
 s:Hk
 ve:Value
 vk:Value
def oQ(q:gz):List Value:=[Z q.s.kind,Ha q.s.name,Z q.s.a,Z q.s.b,q.ve,q.vk,Ha q.s.text]
theorem Ap(q:gz):(oQ q).length=7:=rfl
def lA:List gz→aa
 |[]=>aa.emp
 |q::r=>Kc q.s q.ve q.vk*lA r
theorem Nw:∀ (l:List gz),aa.le (lA l) (lA l*lA l)
 |[]=>KZ (RZ trivial) (JZ _)
 |q::r=>by have a:aa.le (Kc q.s q.ve q.vk) (Kc q.s q.ve q.vk*Kc q.s q.ve q.vk):=KZ (MZ j1 j1) (KZ OZ (KZ (MZ (JZ _) (KZ PZ (KZ (MZ NZ (JZ _)) OZ))) PZ));exact KZ (MZ a (Nw r)) (KZ OZ (KZ (MZ (JZ _) (KZ PZ (KZ (MZ NZ (JZ _)) OZ))) PZ))
theorem mA:∀ (l:List gz) (i:Nat) (h:i<l.length),aa.le (lA l) (Kc l[i].s l[i].ve l[i].vk*lA l)
 |q::r,0,_=>KZ (Nw (q::r)) (MZ QZ (JZ _))
 |q::r,i+1,h=>KZ (Nw (q::r)) (MZ (KZ NZ (KZ QZ (KZ (mA r i (rV h)) QZ))) (JZ _))
abbrev Sf(A:Option Addr)(c:Nat)(l:List gz):aa:=Ba 7 (.slice A l.length c) l.length (l.flatMap oQ)*lA l
def CE(s:Hk):Bool:=eQ s.name s.vc||decide (300<s.text.length)||decide (60<s.Ga.length)
def kx(l:List gz)(n:Nat):Bool:=(l.any fun q=>CE q.s)||decide (n<l.length)
theorem IQ(A:Option Addr)(c:Nat)(l:List gz)(hl:l.length≤9223372036854775807)(d:Nat)(hm:d≤1000):Ud prog 4 #[O A l.length c,Z d] (Sf A c l) (.bool (kx l d)) (Sf A c l):=by
 intro w o z Q;have I:=TZ Q;obtain⟨res,k⟩:∃res,kx l d=res:=⟨_,rfl⟩;rw[k];have L:=V k;obtain⟨i0,hi,a1,a6,a7⟩:=info_parts QQ;clear Q k;go_enter func4,ntmps4;go_wp2_with fail;go_loopw [5] (fun x wr=>∃j:Nat,j≤l.length∧x=Z j∧Hid (((l.take j).any fun q=>CE q.s)=false)∧Y w o z (Sf A c l) wr) (fun x _=>l.length-(intOf x).toNat);case atStart=>exact⟨0,WT _,rfl,V rfl,I⟩
 case round=>
  obtain⟨j,hj,rfl,H,K⟩:=hrel;clear I;by_cases i:j<l.length
  ·have T:(j:Int)<(l.length:Int):=by omega
   obtain⟨g,off,rfl,_,R,n⟩:=K.we A c l Ap j i (by decide);have t:Y w o z (Kc l[j].s l[j].ve l[j].vk*Sf (some ⟨g,off,none⟩) c l) wr:=K.le (KZ (MZ (JZ _) (mA l j i)) (KZ PZ (KZ (MZ NZ (JZ _)) OZ)));have e:Hid (CE l[j].s=true→res=true):=V fun h=>by rw[←L.out];unfold kx;rw[bX.2 ⟨_,XT i,h⟩];rfl
   have Qe:Hid (CE l[j].s=false→((l.take (j+1)).any fun q=>CE q.s)=false):=V fun h=>by rw[rU i,List.any_append,H.out];simp[h]
   have W:=n 1 _ rfl;have c4:=n 4 _ rfl;have c5:=n 5 _ rfl;have c6:=n 6 _ rfl;clear n R K;generalize U:l[j]=q at*;have J:=V U;clear U;obtain⟨⟨kind,name,a,b,el,Ga,text⟩,ve,vk⟩:=q;dsimp only at*;obtain⟨_,r,ce,rfl,_⟩:=t.sl ve;have B:Y w o z (Ba 1 vk Ga.length (xf Ga)) wr:=t.ya;obtain⟨_,Ak,ck,rfl,_⟩:=B.sl vk;clear B;have t15:=fun g c=>lO g c (.int .u8 0) (Z 0) (Z 0) name (O r el.length ce) el;unfold CE at e Qe;dsimp only at e Qe;generalize eQ name el=gg at*;go_wp2_with fail;go_region;have F:=(t.Wa (.cells #[.int .u8 0,Ha name,Z 0,Z 0,O r el.length ce] 61) wr.heap.size rfl).drew;generalize(wr.alloc (.cells #[.int .u8 0,Ha name,Z 0,Z 0,O r el.length ce] 61)).drew=P at*;generalize wr.heap.size=r1 at*;clear t W c4 c5 c6;obtain⟨d0,d1,d2,d3,d4⟩:=F.c5 r1;go_wp2_with fail;have M:=F.Wa (.cells #[.int .u8 0,Ha name,Z 0,Z 0,O r el.length ce] 61) P.heap.size rfl;refine M.k1 (t15 P.heap.size 1) fun w3 N=> ?_;clear d0 d1 d2 d3 d4 F M;have m:Y w o z (Sf (some ⟨g,off,none⟩) c l) w3:=N.ya;obtain⟨X,G,C,_,D,y⟩:=m.we (some ⟨g,off,none⟩) c l Ap j i (by decide);have S:X=g∧G=off:=by injection C with h;injection h with u v;exact⟨u.symm,v.symm⟩
   obtain⟨rfl,rfl⟩:=S;rw[J.out]at D y;have c5:=y 5 _ rfl;have c6:=y 6 _ rfl;clear D y C N;dsimp only at c5 c6;cases gg with
   |true=>have f:res=true:=e.out rfl;subst f;go_wp2;go_ret;exact⟨rfl,m⟩
   |false=>
    by_cases u:300<text.length
    ·have f:res=true:=e.out (by simp[u]);subst f;go_wp2;go_ret;exact⟨rfl,m⟩
    ·by_cases v:60<Ga.length
     ·have f:res=true:=e.out (by simp[v]);subst f;go_wp2;go_ret;exact⟨rfl,m⟩
     ·have hs:=V (Qe.out (by simp[u,v]));go_wp2;go_roundw;case rel=>exact⟨j+1,by omega,by go_num,hs,m⟩
      case measure=>simp[intOf];omega
  ·have T:¬ ((j:Int)<(l.length:Int)):=by omega
   have f:res=decide (d<l.length):=by rw[←L.out];have:=H.out;rw[YT (by omega)]at this;unfold kx;rw[this];rfl
   by_cases E:d<l.length
   ·have p:res=true:=by rw[f];simpa using E
    clear f;subst p;go_wp2;go_ret;refine⟨?_,K⟩;first|rfl|(simp;omega)
   ·have p:res=false:=by rw[f];simpa using E
    clear f;subst p;go_wp2;go_ret;refine⟨?_,K⟩;first|rfl|(simp;omega)
theorem uB(d:An.ja)(n:Bs)(k:Int)(t:Bs):(d.Ek n k t).2.za=d.za:=by
 unfold ja.Ek;split
 ·rfl
 ·split
  ·rfl
  ·dsimp only;split<;>rfl
theorem oE(d:An.ja)(n:Bs)(k:Int):(d.Di n k).2.za=d.za:=by
 unfold ja.Di;split
 ·rfl
 ·split<;>rfl
def Kg(d:An.ja)(s:Hk):An.ja:=if s.kind=13 then(d.Ek s.name s.a s.text).2 else(d.Di s.name s.a).2
abbrev RS.KB(σ:RS)(s:Hk):RS:=⟨Kg σ.d s,σ.MB,σ.s,σ.K,σ.o⟩
section
theorem dS(W:Nat)(q:SP)(D rate da:Nat){σ:RS}(s:Hk)(hs:Gl s)(hk:s.kind=13∨s.kind=14)(Q R:Value):Tr prog 19 #[Da W,Of s Q R] (wA W q D rate da σ*Kc s Q R) BH (fun p=>aa.pure (p.q=q∧p.σ=RS.KB σ s)*(ua 58 5 p.v p.tl.length (Vb p.tl)*(wA W p.q D rate da p.σ*Kc s Q R))):=by
 intro w o r h0;have I:=TZ h0;have t24:=Kw W D (Yd σ.o q.S) (Pa da) (.float .f64 rate);have M:s.name.length≤1000:=KT hs.name (by decide);have t46:=zP D σ.d s.name s.a s.text M;have t47:=cS D σ.d s.name s.a M;have N:=uB σ.d s.name s.a s.text;have P:=oE σ.d s.name s.a;have F:s.kind=13→Kg σ.d s=(σ.d.Ek s.name s.a s.text).2:=fun h=>by unfold Kg;rw[JT h]
 have G:s.kind=14→Kg σ.d s=(σ.d.Di s.name s.a).2:=fun h=>by unfold Kg;rw[DT (by rw[h];decide)]
 obtain⟨kind,name,a,b,el,Ga,text⟩:=s;dsimp only at*;obtain⟨_,e,ce,rfl,_⟩:=I.sl Q;obtain⟨_,f,g,rfl,_⟩:=I.sl R;dsimp only at*;obtain⟨y,H⟩:=ju σ.o q.S;replace I:Y w o r (ba W 77 (Ug D (Yd σ.o q.S) da rate)*Zk q.S q.L q.X D rate da σ*(Qc e el ce*Xe f Ga g)) w:=I;rw[H]at I t24;have J:=(I.Wa (.cells #[Z kind,Ha name,Z a,Z b,O e el.length ce,O f Ga.length g,Ha text] 37) w.heap.size rfl).Wa (.cells #[Z 0,Z 0,O none 0 0] 71) (w.heap.size+1) (dc rfl);have T:=V H;clear h0 I H;unfold Of;dsimp only;have U:=V F;have a1:=V G;have a6:=V N;have a7:=V P;clear hs M F G N P;rcases hk with rfl|rfl
 ·clear t47;go_enter func19,ntmps19;go_upto_region 1 with(fail);generalize(w.alloc (.cells #[Z 13,Ha name,Z a,Z b,O e el.length ce,O f Ga.length g,Ha text] 37)).alloc (.cells #[Z 0,Z 0,O none 0 0] 71)=W1 at*;generalize w.heap.size+1=c at*;generalize w.heap.size=k at*;go_wp2_with fail;refine Y.ka J t24 fun m=> ?_;have t:=J.drewN m;clear J t24;generalize W1.drewN m=l at*;have c0:=t.cells k 0;have j:Y w o r (na D σ.d*(Uz q D rate da σ.d.za σ.o*(ba W 77 (Ug D (.pointer y) da rate)*(ba k 37 #[Z 13,Ha name,Z a,Z b,O e el.length ce,O f Ga.length g,Ha text]*(ba c 71 #[Z 0,Z 0,O none 0 0]*(Qc e el ce*Xe f Ga g)))))) l:=(t.ya (A:=Zk q.S q.L q.X D rate da σ*(ba W 77 (Ug D (.pointer y) da rate)*(ba k 37 #[Z 13,Ha name,Z a,Z b,O e el.length ce,O f Ga.length g,Ha text]*(ba c 71 #[Z 0,Z 0,O none 0 0]*(Qc e el ce*Xe f Ga g)))))).le (KZ (MZ Tm (JZ _)) OZ);clear t;have C:l.cell? ⟨W,0,none⟩=some (Da D):=j.cells W 0;have B:=j.cells k 1;have c2:=j.cells k 2;have c6:=j.cells k 6;have u0:=IT C;have u1:=IT B;have u2:=IT c2;have u6:=IT c6;go_upto_region 15 with(fail);refine Cb [0] [1,2,3,4,5,6,7,8,9] [10,11,12] (by kernel_rfl) (by kernel_rfl) (fun _ _ _ _ _ h=>h) ?_;simp only[QT,VT,MT,NT];dsimp only[Ub];go_simp;repeat (quiet_step (fail))
  refine fU ?_;first|(rintro _ ⟨i,rfl⟩)|(intro i)
  have n:=jU l i.d i.os;generalize Go.Sort.grow (redrawn l i.d) i.os=wq at*;clear i;have K:=j.below n;clear u0 u1 u2 u6 C c0 B c2 c6 j n;generalize hq:σ.d.Ek name a text=fq at*;obtain⟨x,fd⟩:=fq;dsimp only at*;go_wp2_with fail;refine K.k1 t46 fun w5 u=> ?_;obtain⟨k0,k1,k2⟩:=u.c3 c;obtain⟨f0,f1,f2⟩:=u.f3 c;go_wp2_with fail;refine ZT (v:=.agg #[Z x,Z 0,O none 0 0]) (by simp[results,results19,go_sem,k0,k1,k2]) rfl ⟨⟨x,0,[],O none 0 0,q,⟨fd,σ.MB,σ.s,σ.K,σ.o⟩⟩,rfl,?_⟩;have K9:=(((u.ra c 0 (Z x) _ rfl).ra c 1 (Z 0) _ rfl).ra c 2 (O none 0 0) _ rfl);have z:=(K9.ya (A:=na D fd*Uz q D rate da σ.d.za σ.o*(ba W 77 (Ug D (.pointer y) da rate)*(Qc e el ce*Xe f Ga g)))).le (KZ (MZ (Yx (σ:=⟨fd,σ.MB,σ.s,σ.K,σ.o⟩) a6.out) (JZ _)) (KZ PZ (MZ NZ (JZ _))));rw[←T.out]at z;have E:=U.out trivial;exact z.le (KZ yj (RZ ⟨rfl,by unfold RS.KB;rw[E]⟩))
 ·clear t46;go_enter func19,ntmps19;go_upto_region 1 with(fail);generalize(w.alloc (.cells #[Z 14,Ha name,Z a,Z b,O e el.length ce,O f Ga.length g,Ha text] 37)).alloc (.cells #[Z 0,Z 0,O none 0 0] 71)=W1 at*;generalize w.heap.size+1=c at*;generalize w.heap.size=k at*;go_wp2_with fail;refine Y.ka J t24 fun m=> ?_;have t:=J.drewN m;clear J t24;generalize W1.drewN m=l at*;have c0:=t.cells k 0;have j:Y w o r (na D σ.d*(Uz q D rate da σ.d.za σ.o*(ba W 77 (Ug D (.pointer y) da rate)*(ba k 37 #[Z 14,Ha name,Z a,Z b,O e el.length ce,O f Ga.length g,Ha text]*(ba c 71 #[Z 0,Z 0,O none 0 0]*(Qc e el ce*Xe f Ga g)))))) l:=(t.ya (A:=Zk q.S q.L q.X D rate da σ*(ba W 77 (Ug D (.pointer y) da rate)*(ba k 37 #[Z 14,Ha name,Z a,Z b,O e el.length ce,O f Ga.length g,Ha text]*(ba c 71 #[Z 0,Z 0,O none 0 0]*(Qc e el ce*Xe f Ga g)))))).le (KZ (MZ Tm (JZ _)) OZ);clear t;have C:l.cell? ⟨W,0,none⟩=some (Da D):=j.cells W 0;have B:=j.cells k 1;have c2:=j.cells k 2;have u0:=IT C;have u1:=IT B;have u2:=IT c2;go_upto_region 17 with(fail);refine Cb [0] [1,2,3,4,5,6,7] [8,9,10] (by kernel_rfl) (by kernel_rfl) (fun _ _ _ _ _ h=>h) ?_;simp only[QT,VT,MT,NT];dsimp only[Ub];go_simp;repeat (quiet_step (fail))
  refine fU ?_;first|(rintro _ ⟨i,rfl⟩)|(intro i)
  have n:=jU l i.d i.os;generalize Go.Sort.grow (redrawn l i.d) i.os=wq at*;clear i;have K:=j.below n;clear u0 u1 u2 C c0 B c2 j n;generalize hq:σ.d.Di name a=fq at*;obtain⟨x,fd⟩:=fq;dsimp only at*;go_wp2_with fail;refine K.k1 t47 fun w5 u=> ?_;obtain⟨k0,k1,k2⟩:=u.c3 c;obtain⟨f0,f1,f2⟩:=u.f3 c;go_wp2_with fail;refine ZT (v:=.agg #[Z x,Z 0,O none 0 0]) (by simp[results,results19,go_sem,k0,k1,k2]) rfl ⟨⟨x,0,[],O none 0 0,q,⟨fd,σ.MB,σ.s,σ.K,σ.o⟩⟩,rfl,?_⟩;have K9:=(((u.ra c 0 (Z x) _ rfl).ra c 1 (Z 0) _ rfl).ra c 2 (O none 0 0) _ rfl);have z:=(K9.ya (A:=na D fd*Uz q D rate da σ.d.za σ.o*(ba W 77 (Ug D (.pointer y) da rate)*(Qc e el ce*Xe f Ga g)))).le (KZ (MZ (Yx (σ:=⟨fd,σ.MB,σ.s,σ.K,σ.o⟩) a7.out) (JZ _)) (KZ PZ (MZ NZ (JZ _))));rw[←T.out]at z;have E:=a1.out trivial;exact z.le (KZ yj (RZ ⟨rfl,by unfold RS.KB;rw[E]⟩))
end
structure WS where
 W:Nat
 D:Nat
 q:SP
 σ:RS
theorem GR(cap da rate:Nat)(k:6000≤cap)(l:cap≤1048576)(a:da<18446744073709551616):Tr prog 17 #[Z cap,Pa da,.float .f64 rate] aa.emp (fun p:WS=> .tuple #[Da p.W,Z 0]) (fun p=>aa.pure (Ky da (sM cap) 0 p.σ)*wA p.W p.q p.D rate da p.σ):=by intro w o r j;have I:=TZ j;have t36:=qS cap l;have t37:=fun W D=>sH W D rate da (σ:=sM cap) (.pointer none) (tR k l) a (WT _) rfl;have m:(sM cap).d=An.ja.new cap:=rfl;have b:∀c σ',Ky da (sM cap) c σ'→c=0:=fun c σ' h=>(h.new rfl rfl).1;have s:=V b;rw[m]at t37;clear j a m b k;go_enter func17,ntmps17;go_wp2_with fail;refine I.kc t36 fun g D J=> ?_;clear I t36;have i:=J.Wa (.cells #[Da D,.pointer none,Pa da,.float .f64 rate] 77) g.heap.size rfl;go_wp2_with fail;refine(i.call (t37 g.heap.size D)).mono ?_;rintro e w2 ⟨⟨q,v,σ'⟩,rfl,K⟩;obtain⟨f,u⟩:=K.pure;have n:=s.out _ _ f;dsimp only at n;subst n;have t:=V f;clear f i J t37 K;generalize g.heap.size=W at*;go_wp2;go_ret2;exact⟨⟨W,D,q,σ'⟩,rfl,(u.ya (A:=wA W q D rate da σ')).le (RZ t.out)⟩
structure dE where
 R:Nat
 M:Nat
 W:Nat
 D:Nat
 q:SP
 σ:RS
 mq:MQ
 brk:Bool
abbrev Pk(p:dE)(rate da:Nat):aa:=ba p.R 41 #[Da p.W,Da p.M,.bool p.brk]*(wA p.W p.q p.D rate da p.σ*xj p.M (Ja p.σ.MB) (La p.σ.MB) (.int .i64 p.σ.s) p.mq)
theorem TJ(da rate a:Nat)(t:a≤65535)(b:da<18446744073709551616):Tr prog 6 #[.agg #[Pa da,.float .f64 rate,.int .u16 a]] aa.emp (fun p:dE=> .tuple #[Da p.R,.bool true]) (fun p=>aa.pure (Ky da (sM (6000+a*4)) 0 p.σ∧p.brk=false)*Pk p rate da):=by
 intro w o r m;have I:=TZ m;have t17:=GR (6000+a*4) da rate (by omega) (by omega) b;have E:IntKind.i64.wrap ((a:Int)*4)=(a:Int)*4:=RT _ (by omega);have F:IntKind.i64.wrap (6000+(a:Int)*4)=((6000+a*4:Nat):Int):=by rw[RT _ (by omega)];omega
 have c:∀σ',Ky da (sM (6000+a*4)) 0 σ'→σ'.MB=[]∧σ'.s=0:=fun σ' h=>by
  rcases h.st with⟨_,_,k,n,G,z,B⟩|⟨n,_⟩
  ·have:k=0:=by have:(sM (6000+a*4)).MB.length=0:=rfl;omega
   subst this;exact⟨z,B⟩
  ·cases n
 have g:=V c;have d:=I.Wa (.cells #[Pa da,.float .f64 rate,.int .u16 a] 27) w.heap.size rfl;obtain⟨x,y,c2⟩:=d.c3 w.heap.size;clear m c I;generalize C:6000+a*4=cap at*;go_enter func6,ntmps6;go_wp2_with fail;refine(d.call t17).mono ?_;rintro e w2 ⟨⟨W,D,q,σ⟩,rfl,J⟩;obtain⟨f,l⟩:=J.pure;obtain⟨m1,m2⟩:=g.out _ f;have u:=V f;have i:=V m1;have j:=V m2;have v:=(l.Wa (.cells #[O none 0 0,O none 0 0,Z 0] 50) w2.heap.size rfl).Wa (.cells #[Da W,Da w2.heap.size,.bool false] 41) (w2.heap.size+1) (dc rfl);clear f m1 m2 J l t17 d x y c2 g;go_wp2;go_ret2;refine⟨⟨w2.heap.size+1,w2.heap.size,W,D,q,σ,⟨none,0,none,0⟩,false⟩,rfl,?_⟩;have K:=v.ya (A:=ba (w2.heap.size+1) 41 #[Da W,Da w2.heap.size,.bool false]*(wA W q D rate da σ*ba w2.heap.size 50 #[O none 0 0,O none 0 0,Z 0]));refine K.le (KZ (MZ (JZ _) (MZ (JZ _) ?_)) (RZ ⟨u.out,rfl⟩));dsimp only;rw[i.out,j.out];refine KZ ?_ (RZ ⟨FT _,FT _⟩);exact KZ (KZ (RZ trivial) (KZ NZ (MZ (JZ _) (KZ (RZ trivial) (MZ (KZ (j0 58 5) c8) (KZ (j0 3 1) c8)))))) (JZ _)
structure WB where
 b:Bool
def Tp(n s:Bs):Prop:=n=Va∧(∃m,qg s=some m)∨n≠Va∧∃l,mf s=some l
theorem UP(R W D:Nat)(M F E:Value)(da rate:Nat)(d:An.ja)(n:Bs)(hn:n.length≤1000)(G:d.down=false):Tr prog 43 #[Da R,Ha n] (ba R 41 #[Da W,M,F]*(ba W 77 (Ug D E da rate)*na D d)) (fun q:WB=> .bool q.b) (fun q=>aa.pure (∀f,Na n d.fa=some f→Tp n f.data→q.b=true)*(ba R 41 #[Da W,M,F]*(ba W 77 (Ug D E da rate)*na D d))):=by
 intro w o r Q;have I:=TZ Q;have t39:=Yh W D E (Pa da) (.float .f64 rate);have t41:=Dn D d n hn;have C:=I.Zi D d;have c0:w.cell? ⟨R,0,none⟩=some (Da W):=I.cells R 0;unfold ja.size at t41;rw[G,DT (by simp)]at t41;cases k:Na n d.fa with
 |none=>
  rw[k]at t41;dsimp only at t41;clear Q C k G;go_enter func43,ntmps43;go_wp2_with fail;refine I.ka t39 fun m1=> ?_;have c:=I.drewN m1;go_wp2_with fail;refine c.ka t41 fun m2=> ?_;have g:=c.drewN m2;rw[NU]at g;go_wp2;go_ret;have hz:∀f:jc,(none:Option jc)=some f→Tp n f.data→false=true:=fun f k=>by cases k
  exact⟨⟨false⟩,rfl,g.le (RZ hz)⟩
 |some f=>
  rw[k]at t41;dsimp only at t41;have hlen:f.data.length≤1048576:=by have h1:=dg C.Db k;have:=C.Ia;have:=C.cap;omega
  have t42:=Bn D d n 0 f.data.length hn (by omega) (by omega);unfold ja.ze at t42;rw[G,DT (by simp),k]at t42;dsimp only at t42;rw[DT (by omega),show((f.data.drop (0:Int).toNat).take ((f.data.length:Nat):Int).toNat)=f.data by simp]at t42;dsimp only at t42;have t77:=tP f.data (by omega);have t78:=pP f.data (by omega);have u:∀q:Bool,(Tp n f.data→q=true)→∀f',some f=some f'→Tp n f'.data→q=true:=fun q h f' e=>by cases e;exact h
  have HP:=V u;generalize f.data=s at*;have aj:(⟨#[109,97,112]⟩:ByteArray)=mk [109,97,112]:=rfl;clear Q C k G u;have a6:∃B,(n==[109,97,112])=B∧(n !=[109,97,112])= !B∧(B=true↔n=Va):=⟨_,rfl,rfl,by unfold Va;simp⟩;obtain⟨B,a7,a8,P⟩:=a6;have N:=V P;clear P;cases B with
  |true=>
   have v:Hid (n=Va):=V (N.out.1 rfl);go_enter func43,ntmps43;go_wp2_with fail;refine I.ka t39 fun m1=> ?_;have c:=I.drewN m1;clear I c0;go_wp2_with fail;refine c.ka t41 fun m2=> ?_;have g:=c.drewN m2;rw[NU]at g;clear c t41 t39;go_wp2_with fail;refine g.k1 t42 fun w3 J=> ?_;clear g t42;go_wp2_with fail;refine((J.le (Re _)).call t77).mono ?_;rintro e w4 ⟨⟨v7,H⟩,rfl,K⟩;clear J t77;obtain⟨i,x⟩:=K.pure;clear K;go_wp2_with fail;refine((x.le (Re _)).call t78).mono ?_;rintro e S ⟨⟨U,X,xe,T,xk,xd,L⟩,rfl,K⟩;clear x t78;obtain⟨j,y⟩:=K.pure;clear K;dsimp only at i j;have z:=(y.Wa (.cells #[Z U,Z X,Pa xe,O T xk xd] 66) S.heap.size rfl).ya (A:=ba R 41 #[Da W,M,F]*(ba W 77 (Ug D E da rate)*na D d));clear y;have a:(Tp n s→(decide (L=0))=true):=fun h=>by
    rcases h with⟨_,m,hm⟩|⟨h,_⟩
    ·simpa using j m hm
    ·exact absurd v.out h
   have p:=V (HP.out _ a);clear i j a;by_cases t:L=0
   ·subst t;go_wp2;go_ret;exact⟨⟨true⟩,rfl,z.le (RZ p.out)⟩
   ·have a1:((L:Int)==0)=false:=by rw[ET];omega
    rw[yU t]at p;clear t;go_wp2;go_ret;exact⟨⟨false⟩,rfl,z.le (RZ p.out)⟩
  |false=>
   have v:Hid (n≠Va):=V (fun h=>by have:=N.out.2 h;cases this);go_enter func43,ntmps43;go_wp2_with fail;refine I.ka t39 fun m1=> ?_;have c:=I.drewN m1;clear I c0;go_wp2_with fail;refine c.ka t41 fun m2=> ?_;have g:=c.drewN m2;rw[NU]at g;clear c t41 t39;go_wp2_with fail;refine g.k1 t42 fun w3 J=> ?_;clear g t42;go_wp2_with fail;refine((J.le (Re _)).call t77).mono ?_;rintro e w4 ⟨⟨v7,H⟩,rfl,K⟩;clear J t77;obtain⟨i,x⟩:=K.pure;clear K;go_wp2_with fail;refine((x.le (Re _)).call t78).mono ?_;rintro e S ⟨⟨U,X,xe,T,xk,xd,L⟩,rfl,K⟩;clear x t78;obtain⟨j,y⟩:=K.pure;clear K;dsimp only at i j;have z:=(y.Wa (.cells #[Z U,Z X,Pa xe,O T xk xd] 66) S.heap.size rfl).ya (A:=ba R 41 #[Da W,M,F]*(ba W 77 (Ug D E da rate)*na D d));clear y;have a:(Tp n s→(decide (H=0))=true):=fun h=>by
    rcases h with⟨h,_⟩|⟨_,l,hl⟩
    ·exact absurd h v.out
    ·simpa using i l hl
   have p:=V (HP.out _ a);clear i j a;by_cases t:H=0
   ·subst t;go_wp2;go_ret;exact⟨⟨true⟩,rfl,z.le (RZ p.out)⟩
   ·have a1:((H:Int)==0)=false:=by rw[ET];omega
    rw[yU t]at p;clear t;go_wp2;go_ret;exact⟨⟨false⟩,rfl,z.le (RZ p.out)⟩
def ZD(da:Nat)(σ σ':RS):Prop:=σ'.Ok da∧σ'.MB=σ.MB∧σ'.s=σ.s∧σ'.K=σ.K∧σ'.d.cap=σ.d.cap∧σ'.o=σ.o
structure vT where
 b:Bool
 brk:Bool
 σ:RS
theorem Su{d:An.ja}(a:d.Wf)(s:Hk):An.Touch s.name d (Kg d s):=by
 unfold Kg;split
 ·exact xD a _ _ _
 ·exact TH a _ _
theorem OL{da:Nat}{σ:RS}(h:σ.Ok da):σ.d.Wf:=by
 cases a:σ.o with
 |none=>exact(h.shut a).wf
 |some x=>exact(h.live x a).1.wf
theorem ZD.refl{da:Nat}{σ:RS}(h:σ.Ok da):ZD da σ σ:=⟨h,rfl,rfl,rfl,rfl,rfl⟩
theorem ZD.Rw{da:Nat}{σ:RS}(h:σ.Ok da)(c:σ.K≤90){s:Hk}{k:Nat}(d:ji s.name=some (98,k)):ZD da σ (RS.KB σ s):=by obtain⟨a,b,_⟩:=du d;have t:=Su (OL h) s;rw[show s.name=rb k from b]at t;exact⟨h.Rw c a t,rfl,rfl,rfl,t.cap,rfl⟩
theorem ZD.file{da:Nat}{σ:RS}(h:σ.Ok da)(i:σ.K≤90)(e:σ.o=none){s:Hk}(n:s.name=Va∨∃k,ji s.name=some (116,k)) (j:∀f f',Na s.name σ.d.fa=some f→Na s.name (Kg σ.d s).fa=some f'→f'.data=f.data∨¬Tp s.name f'.data):ZD da σ (RS.KB σ s):=by
 have t:=Su (OL h) s;have g:=h.EB i e (n.imp id fun⟨k,p⟩=>let⟨a,b,_⟩:=du p;⟨k,a,b⟩) t fun f f' a b=>by
  rcases j f f' a b with h|h
  ·exact .inl h
  ·refine .inr ?_;unfold Tp at h;split
   ·rename_i hm;cases c:qg f'.data with
    |none=>rfl
    |some m=>exact absurd (.inl ⟨hm,m,c⟩) h
   ·rename_i hm;cases c:mf f'.data with
    |none=>rfl
    |some l=>exact absurd (.inr ⟨hm,l,c⟩) h
 refine⟨?_,rfl,rfl,rfl,t.cap,rfl⟩;unfold RS.KB;rw[e];exact g
theorem rd_facts{d:An.ja}(b:d.down=false)(a:d.Wf)(n:Bs):(d.size n).2≤1048576∧(∀f,Na n d.fa=some f→(d.ze n 0 (d.size n).2).2=f.data):=by
 unfold ja.size ja.ze;rw[b,DT (by simp)];cases c:Na n d.fa with
 |none=>exact⟨WT _,fun f h=>by cases h⟩
 |some f=>have e:=dg a.Db c;have g:=a.Ia;have i:=a.cap;dsimp only;refine⟨by omega,fun f' h=> ?_⟩;cases h;rw[DT (by simp),DT (by omega)];simp
abbrev dE.to(p:dE)(σ:RS)(brk:Bool):dE:={p with σ:=σ,brk:=brk}
theorem DM(p:dE)(rate da:Nat)(h:p.σ.Ok da)(hK:p.σ.K≤89)(ch:p.brk=false)(s:Hk)(hs:Gl s)(hk:s.kind=13∨s.kind=14)(U P:Value):Tr prog 18 #[Da p.R,Of s U P] (Pk p rate da*Kc s U P) (fun x:vT=> .bool x.b) (fun x=>aa.pure (x.brk=true∨ZD da p.σ x.σ)*(Pk (p.to x.σ x.brk) rate da*Kc s U P)):=by
 intro w o r h0;have I:=TZ h0;have t38:=kB s.name (KT hs.name (by decide));have t19:=dS p.W p.q p.D rate da (σ:=p.σ) s hs hk U P;have t8:=jl p.W p.D (Yd p.σ.o p.q.S) (Pa da) (.float .f64 rate);have t39:=Yh p.W p.D (Yd p.σ.o p.q.S) (Pa da) (.float .f64 rate);have a8:s.name.length≤1000:=KT hs.name (by decide);have hA:=fun k hp=>ZD.Rw (s:=s) (k:=k) h (by omega) hp;have hF:=fun y hn hb=>ZD.file (s:=s) h (by omega) y hn hb;have hR:=ZD.refl h;have aM:=OL h;obtain⟨R,M,W,D,q,σ,mq,brk⟩:=p;dsimp only at*;subst ch;have Ga:∀ (W':World),Y w o r (ba R 41 #[Da W,Da M,.bool false]*(wA W q D rate da σ*(xj M (Ja σ.MB) (La σ.MB) (Z σ.s) mq*Kc s U P))) W'→Y w o r (aa.pure (false=true∨ZD da σ σ)*(Pk ⟨R,M,W,D,q,σ,mq,false⟩ rate da*Kc s U P)) W':=fun W' hW=>hW.le (KZ (KZ (MZ (JZ _) PZ) PZ) (RZ (.inr hR)));have goes:∀ (W':World) (b:Bool),(b=true∨ZD da σ (RS.KB σ s))→Y w o r (ba R 41 #[Da W,Da M,.bool b]*(wA W q D rate da (RS.KB σ s)*(xj M (Ja σ.MB) (La σ.MB) (Z σ.s) mq*Kc s U P))) W'→Y w o r (aa.pure (b=true∨ZD da σ (RS.KB σ s))*(Pk ⟨R,M,W,D,q,RS.KB σ s,mq,b⟩ rate da*Kc s U P)) W':=fun W' b hb hW=>hW.le (KZ (KZ (MZ (JZ _) PZ) PZ) (RZ hb));have KP:=V Ga;have GO:=V goes;have HA:=V hA;have HF:=V hF;have c0:=V aM;clear h0 Ga goes hA hF hR aM h hs hk hK;have I0:Y w o r (ba R 41 #[Da W,Da M,.bool false]*(wA W q D rate da σ*(xj M (Ja σ.MB) (La σ.MB) (Z σ.s) mq*Kc s U P))) w:=I.le (KZ OZ (MZ (JZ _) OZ));have ak:∃kind name a b text,Of s U P= .agg #[Z kind,Ha name,Z a,Z b,U,P,Ha text]∧s.name=name:=⟨_,_,_,_,_,rfl,rfl⟩;obtain⟨kind,name,G,H,text,ak,cw⟩:=ak;obtain⟨_,z,ce,cx,_⟩:=I0.sl U;have c9:Y w o r (Ba 1 P s.Ga.length (xf s.Ga)) w:=I0.ya;obtain⟨_,B,E,cF,_⟩:=c9.sl P;rw[ak]at t19⊢;rw[cw]at t38 a8 HA HF;generalize xj M (Ja σ.MB) (La σ.MB) (Z σ.s) mq=MD at*;generalize Kc s U P=SA at*;clear I c9;generalize s.vc.length=ne at*;generalize s.Ga.length=F at*;subst cx;subst cF;have J:=I0.Wa (.cells #[Z kind,Ha name,Z G,Z H,O z ne ce,O B F E,Ha text] 37) w.heap.size rfl;clear I0;have cG:=V ak;clear ak;have ds:(⟨#[109,97,112]⟩:ByteArray)=mk [109,97,112]:=rfl;obtain⟨kk,nn,a1,cc,N⟩:∃ (kk:Nat) (nn:Int) (a1:Bool),Lk (ji name)= .tuple #[.int .u8 kk,Z nn,.bool a1]∧((a1=true∧kk=98∧∃k,ji name=some (98,k))∨((a1=false∨a1=true∧((kk:Int)==98)=false∧((kk:Int) !=116)=true)∧name≠Va)∨((a1=false∧(name !=[109,97,112])=false∧(name==[109,97,112])=true∨a1=true∧kk=116∧(name !=[109,97,112])=true∧(name==[109,97,112])=false)∧(name=Va∨∃k,ji name=some (116,k)))):=by
  cases hp:ji name with
  |none=>
   refine⟨0,0,false,rfl,.inr ?_⟩;by_cases hm:name=Va
   ·exact .inr ⟨.inl ⟨rfl,by rw[kV];exact hm,by rw[OV];exact hm⟩,.inl hm⟩
   ·exact .inl ⟨.inl rfl,hm⟩
  |some x=>
   obtain⟨k,n⟩:=x;have bn:name≠Va:=fun h=>by rw[h,Vu]at hp;cases hp
   refine⟨k.toNat,n,true,rfl,?_⟩;by_cases ca:k=98
   ·subst ca;exact .inl ⟨rfl,rfl,n,rfl⟩
   ·by_cases bc:k=116
    ·subst bc;exact .inr (.inr ⟨.inr ⟨rfl,rfl,by rw[CU];exact bn,by rw[ET];exact bn⟩,.inr ⟨n,rfl⟩⟩)
    ·exact .inr (.inl ⟨.inr ⟨rfl,by rw[ET];exact fun h=>ca (pX.1 (Int.ofNat_inj.1 h)),by rw[CU];exact fun h=>bc (pX.1 (Int.ofNat_inj.1 h))⟩,bn⟩)
 rw[cc]at t38;clear cc;rcases N with⟨rfl,rfl,k,cb⟩|⟨N,v⟩|⟨N,v⟩
 ·have HG:=V (HA.out k cb);clear cb HA HF t8 t39;go_enter func18,ntmps18;go_upto_region 1 with(fail);generalize w.alloc (.cells #[Z kind,Ha name,Z G,Z H,O z ne ce,O B F E,Ha text] 37)=W1 at*;generalize w.heap.size=g at*;have Q:=J.cells g 1;go_wp2_with fail;refine J.kp t38 fun w2 i=> ?_;clear Q J t38;have c:World.cell? _ ⟨R,0,none⟩=some (Da W):=YZ i R 0;obtain⟨b0,b1,b2,b3,b4,b5,b6⟩:=i.c7 g;have u:=IT c;have u0:=IT b0;have u1:=IT b1;have u2:=IT b2;have u3:=IT b3;have u4:=IT b4;have u5:=IT b5;have u6:=IT b6;go_wp2_with fail;refine Cb [0] [1,2,3,4] [5] (by kernel_rfl) (by kernel_rfl) (fun _ _ _ _ _ h=>h) ?_;simp only[QT,VT,MT,NT];dsimp only[Ub];go_simp;repeat (quiet_step (fail))
  refine fU ?_;first|(rintro _ ⟨T,rfl⟩)|(intro T)
  have aj:=jU w2 T.d T.os;generalize Go.Sort.grow (redrawn w2 T.d) T.os=wq at*;clear T;have K:=VZ i aj;clear u u0 u1 u2 u3 u4 u5 u6 c b0 b1 b2 b3 b4 b5 b6 aj;go_wp2_with fail;refine(K.call t19).mono ?_;rintro e w5 ⟨⟨ac,an,cp,av,aq,aσ⟩,rfl,K2⟩;obtain⟨⟨rfl,rfl⟩,K3⟩:=K2.pure;go_wp2;go_ret;exact⟨⟨true,false,RS.KB σ s⟩,rfl,GO.out _ false (.inr HG.out) K3.ya⟩
 ·have a6:(name !=[109,97,112])=true:=by rw[CU];exact v
  have a7:(name==[109,97,112])=false:=by rw[ET];exact v
  clear HA HF GO t19 v;cases y:σ.o with
  |some x=>
   have hv:Yd σ.o q.S=Da q.S:=by rw[y];rfl
   have t8:Pp prog 8 #[Da W] (ba W 77 #[Da D,Yd σ.o q.S,Pa da,.float .f64 rate]) (Da q.S):=fun w o r h=>hv▸t8 w o r h;clear hv y;rcases N with rfl|⟨rfl,k1,k2⟩;all_goals go_enter func18,ntmps18;go_upto_region 1 with(fail);generalize w.alloc (.cells #[Z kind,Ha name,Z G,Z H,O z ne ce,O B F E,Ha text] 37)=W1 at*;generalize w.heap.size=g at*;have Q:=J.cells g 1;go_wp2_with fail;refine J.kp t38 fun w2 i=> ?_;clear Q J t38;have c:w2.cell? ⟨R,0,none⟩=some (Da W):=i.cells R 0;go_wp2_with fail;refine i.ka t8 fun m3=> ?_;have j:=i.drewN m3;go_wp2;go_ret;exact⟨⟨false,false,σ⟩,rfl,KP.out _ j.ya⟩
  |none=>
   have hv:Yd σ.o q.S= .pointer none:=by rw[y];rfl
   have t8:Pp prog 8 #[Da W] (ba W 77 #[Da D,Yd σ.o q.S,Pa da,.float .f64 rate]) (.pointer none):=fun w o r h=>hv▸t8 w o r h;have L:Hid (wA W q D rate da σ=ba W 77 (Ug D (Yd σ.o q.S) da rate)*na D σ.d):=V (by show _*Zk _ _ _ _ _ _ _=_;unfold Zk;rw[y]);clear hv;have t40:=Gk D σ.d;cases t:σ.d.down with
   |true=>
    rw[t]at t40;clear t y;rcases N with rfl|⟨rfl,k1,k2⟩;all_goals
     go_enter func18,ntmps18;go_upto_region 1 with(fail);generalize w.alloc (.cells #[Z kind,Ha name,Z G,Z H,O z ne ce,O B F E,Ha text] 37)=W1 at*;generalize w.heap.size=g at*;have Q:=J.cells g 1;go_wp2_with fail;refine J.kp t38 fun w2 i=> ?_;clear Q J t38;have j:Y w o r (ba g 37 #[Z kind,Ha name,Z G,Z H,O z ne ce,O B F E,Ha text]*(ba R 41 #[Da W,Da M,.bool false]*((ba W 77 (Ug D (Yd σ.o q.S) da rate)*na D σ.d)*(MD*SA)))) w2:=by rw[←L.out];exact i
     clear i;have c:w2.cell? ⟨R,0,none⟩=some (Da W):=j.cells R 0;go_wp2_with fail;refine j.ka t8 fun m3=> ?_;have m:=j.drewN m3;clear j c t8;have c:(w2.drewN m3).cell? ⟨R,0,none⟩=some (Da W):=m.cells R 0;go_wp2_with fail;refine m.ka t39 fun m4=> ?_;have l:=m.drewN m4;rw[NU]at l;clear m c;have c:(w2.drewN (m3+m4)).cell? ⟨R,0,none⟩=some (Da W):=l.cells R 0;go_wp2_with fail;refine l.ka t40 fun m5=> ?_;have C:=l.drewN m5;rw[NU]at C;clear l c t40;go_wp2;go_ret;exact⟨⟨false,false,σ⟩,rfl,KP.out _ (by have X:=C.ya (A:=ba R 41 #[Da W,Da M,.bool false]*((ba W 77 (Ug D (Yd σ.o q.S) da rate)*na D σ.d)*(MD*SA)));rw[L.out];exact X)⟩
   |false=>
    rw[t]at t40;clear t y;rcases N with rfl|⟨rfl,k1,k2⟩;all_goals
     go_enter func18,ntmps18;go_upto_region 1 with(fail);generalize w.alloc (.cells #[Z kind,Ha name,Z G,Z H,O z ne ce,O B F E,Ha text] 37)=W1 at*;generalize w.heap.size=g at*;have Q:=J.cells g 1;go_wp2_with fail;refine J.kp t38 fun w2 i=> ?_;clear Q J t38;have j:Y w o r (ba g 37 #[Z kind,Ha name,Z G,Z H,O z ne ce,O B F E,Ha text]*(ba R 41 #[Da W,Da M,.bool false]*((ba W 77 (Ug D (Yd σ.o q.S) da rate)*na D σ.d)*(MD*SA)))) w2:=by rw[←L.out];exact i
     clear i;have c:w2.cell? ⟨R,0,none⟩=some (Da W):=j.cells R 0;go_wp2_with fail;refine j.ka t8 fun m3=> ?_;have m:=j.drewN m3;clear j c t8;have c:(w2.drewN m3).cell? ⟨R,0,none⟩=some (Da W):=m.cells R 0;go_wp2_with fail;refine m.ka t39 fun m4=> ?_;have l:=m.drewN m4;rw[NU]at l;clear m c;have c:(w2.drewN (m3+m4)).cell? ⟨R,0,none⟩=some (Da W):=l.cells R 0;go_wp2_with fail;refine l.ka t40 fun m5=> ?_;have C:=l.drewN m5;rw[NU]at C;clear l c t40;have b1:=C.cells g 1;go_wp2;go_ret;exact⟨⟨false,false,σ⟩,rfl,KP.out _ (by have X:=C.ya (A:=ba R 41 #[Da W,Da M,.bool false]*((ba W 77 (Ug D (Yd σ.o q.S) da rate)*na D σ.d)*(MD*SA)));rw[L.out];exact X)⟩
 ·cases y:σ.o with
  |some x=>
   have hv:Yd σ.o q.S=Da q.S:=by rw[y];rfl
   have t8:Pp prog 8 #[Da W] (ba W 77 #[Da D,Yd σ.o q.S,Pa da,.float .f64 rate]) (Da q.S):=fun w o r h=>hv▸t8 w o r h;clear hv y HA HF GO t19 v;rcases N with⟨rfl,a6,a7⟩|⟨rfl,rfl,a6,a7⟩;all_goals go_enter func18,ntmps18;go_upto_region 1 with(fail);generalize w.alloc (.cells #[Z kind,Ha name,Z G,Z H,O z ne ce,O B F E,Ha text] 37)=W1 at*;generalize w.heap.size=g at*;have Q:=J.cells g 1;go_wp2_with fail;refine J.kp t38 fun w2 i=> ?_;clear Q J t38;have c:w2.cell? ⟨R,0,none⟩=some (Da W):=i.cells R 0;go_wp2_with fail;refine i.ka t8 fun m3=> ?_;have j:=i.drewN m3;go_wp2;go_ret;exact⟨⟨false,false,σ⟩,rfl,KP.out _ j.ya⟩
  |none=>
   have hv:Yd σ.o q.S= .pointer none:=by rw[y];rfl
   have t8:Pp prog 8 #[Da W] (ba W 77 #[Da D,Yd σ.o q.S,Pa da,.float .f64 rate]) (.pointer none):=fun w o r h=>hv▸t8 w o r h;have L:Hid (wA W q D rate da σ=ba W 77 (Ug D (Yd σ.o q.S) da rate)*na D σ.d):=V (by show _*Zk _ _ _ _ _ _ _=_;unfold Zk;rw[y]);clear hv;have t40:=Gk D σ.d;have b7:=V (HF.out y v);cases t:σ.d.down with
   |true=>
    rw[t]at t40;clear t y HA HF GO t19 v b7;rcases N with⟨rfl,a6,a7⟩|⟨rfl,rfl,a6,a7⟩;all_goals
     go_enter func18,ntmps18;go_upto_region 1 with(fail);generalize w.alloc (.cells #[Z kind,Ha name,Z G,Z H,O z ne ce,O B F E,Ha text] 37)=W1 at*;generalize w.heap.size=g at*;have Q:=J.cells g 1;go_wp2_with fail;refine J.kp t38 fun w2 i=> ?_;clear Q J t38;have j:Y w o r (ba g 37 #[Z kind,Ha name,Z G,Z H,O z ne ce,O B F E,Ha text]*(ba R 41 #[Da W,Da M,.bool false]*((ba W 77 (Ug D (Yd σ.o q.S) da rate)*na D σ.d)*(MD*SA)))) w2:=by rw[←L.out];exact i
     clear i;have c:w2.cell? ⟨R,0,none⟩=some (Da W):=j.cells R 0;go_wp2_with fail;refine j.ka t8 fun m3=> ?_;have m:=j.drewN m3;clear j c t8;have c:(w2.drewN m3).cell? ⟨R,0,none⟩=some (Da W):=m.cells R 0;go_wp2_with fail;refine m.ka t39 fun m4=> ?_;have l:=m.drewN m4;rw[NU]at l;clear m c;have c:(w2.drewN (m3+m4)).cell? ⟨R,0,none⟩=some (Da W):=l.cells R 0;go_wp2_with fail;refine l.ka t40 fun m5=> ?_;have C:=l.drewN m5;rw[NU]at C;clear l c t40;go_wp2;go_ret;exact⟨⟨false,false,σ⟩,rfl,KP.out _ (by have X:=C.ya (A:=ba R 41 #[Da W,Da M,.bool false]*((ba W 77 (Ug D (Yd σ.o q.S) da rate)*na D σ.d)*(MD*SA)));rw[L.out];exact X)⟩
   |false=>
    rw[t]at t40;have t41:=Dn D σ.d name a8;obtain⟨f1,f2⟩:=rd_facts t c0.out name;have t42:=Bn D σ.d name 0 (σ.d.size name).2 a8 (by omega) (by omega);generalize(σ.d.size name).2=sz at*;generalize(σ.d.size name).1=ec at*;generalize(σ.d.ze name 0 sz).2=al at*;generalize(σ.d.ze name 0 sz).1=ed at*;have tm:=Su c0.out s;have bm:(Kg σ.d s).down=false:=tm.down.trans t;have bs:=Dn D (Kg σ.d s) name a8;obtain⟨g1,g2⟩:=rd_facts bm tm.wf name;have bt:=Bn D (Kg σ.d s) name 0 ((Kg σ.d s).size name).2 a8 (by omega) (by omega);generalize((Kg σ.d s).size name).2=cf at*;generalize((Kg σ.d s).size name).1=cT at*;generalize((Kg σ.d s).ze name 0 cf).2=now at*;generalize((Kg σ.d s).ze name 0 cf).1=dj at*;have t43:=UP R W D (Da M) (.bool false) (Yd σ.o q.S) da rate (Kg σ.d s) name a8 bm;have b9:Hid (wA W q D rate da (RS.KB σ s)=ba W 77 (Ug D (Yd σ.o q.S) da rate)*na D (Kg σ.d s)):=V (by show _*Zk _ _ _ _ _ _ _=_;unfold Zk RS.KB;rw[y]);have cn:=V g2;have cl:=V f2;clear t y HA HF v tm bm g2 f2;rcases N with⟨rfl,a6,a7⟩|⟨rfl,rfl,a6,a7⟩;all_goals
     go_enter func18,ntmps18;go_upto_region 1 with(fail);generalize w.alloc (.cells #[Z kind,Ha name,Z G,Z H,O z ne ce,O B F E,Ha text] 37)=W1 at*;generalize w.heap.size=g at*;have Q:=J.cells g 1;go_wp2_with fail;refine J.kp t38 fun w2 i=> ?_;clear Q J t38;have j:Y w o r (ba g 37 #[Z kind,Ha name,Z G,Z H,O z ne ce,O B F E,Ha text]*(ba R 41 #[Da W,Da M,.bool false]*((ba W 77 (Ug D (Yd σ.o q.S) da rate)*na D σ.d)*(MD*SA)))) w2:=by rw[←L.out];exact i
     clear i;have c:w2.cell? ⟨R,0,none⟩=some (Da W):=j.cells R 0;go_wp2_with fail;refine j.ka t8 fun m3=> ?_;have m:=j.drewN m3;clear j c t8;have c:(w2.drewN m3).cell? ⟨R,0,none⟩=some (Da W):=m.cells R 0;go_wp2_with fail;refine m.ka t39 fun m4=> ?_;have l:=m.drewN m4;rw[NU]at l;clear m c;have c:(w2.drewN (m3+m4)).cell? ⟨R,0,none⟩=some (Da W):=l.cells R 0;go_wp2_with fail;refine l.ka t40 fun m5=> ?_;have C:=l.drewN m5;rw[NU]at C;clear l c t40;have b1:=C.cells g 1;have c:(w2.drewN (m3+m4+m5)).cell? ⟨R,0,none⟩=some (Da W):=C.cells R 0;go_wp2_with fail;refine C.ka t39 fun m6=> ?_;have X:=C.drewN m6;rw[NU]at X;clear C b1 c;have b1:=X.cells g 1;go_wp2_with fail;refine X.ka t41 fun m7=> ?_;have K6:=X.drewN m7;rw[NU]at K6;clear X b1 t41;have b1:=K6.cells g 1;go_wp2_with fail;refine K6.k1 t42 fun w4 K7=> ?_;clear K6 b1 t42;have K8:Y w o r (ba g 37 #[Z kind,Ha name,Z G,Z H,O z ne ce,O B F E,Ha text]*(ba R 41 #[Da W,Da M,.bool false]*(wA W q D rate da σ*(MD*SA)))) w4:=by have K9:=K7.ya (A:=ba g 37 #[Z kind,Ha name,Z G,Z H,O z ne ce,O B F E,Ha text]*(ba R 41 #[Da W,Da M,.bool false]*((ba W 77 (Ug D (Yd σ.o q.S) da rate)*na D σ.d)*(MD*SA))));rw[L.out];exact K9
     clear K7;go_upto_region 10 with(fail);generalize w4=w2 at*;have c:World.cell? _ ⟨R,0,none⟩=some (Da W):=YZ K8 R 0;obtain⟨b0,b1,b2,b3,b4,b5,b6⟩:=K8.c7 g;have u:=IT c;have u0:=IT b0;have u1:=IT b1;have u2:=IT b2;have u3:=IT b3;have u4:=IT b4;have u5:=IT b5;have u6:=IT b6;go_wp2_with fail;refine Cb [0] [1,2,3,4] [5] (by kernel_rfl) (by kernel_rfl) (fun _ _ _ _ _ h=>h) ?_;simp only[QT,VT,MT,NT];dsimp only[Ub];go_simp;repeat (quiet_step (fail))
     refine fU ?_;first|(rintro _ ⟨T,rfl⟩)|(intro T)
     have aj:=jU w2 T.d T.os;generalize Go.Sort.grow (redrawn w2 T.d) T.os=wq at*;clear T;have K:=VZ K8 aj;clear u u0 u1 u2 u3 u4 u5 u6 c b0 b1 b2 b3 b4 b5 b6 aj;go_wp2_with fail;refine(K.call t19).mono ?_;rintro e w5 ⟨⟨ac,an,cp,av,aq,aσ⟩,rfl,L2⟩;obtain⟨⟨rfl,rfl⟩,L3⟩:=L2.pure;have L4:Y w o r (ba g 37 #[Z kind,Ha name,Z G,Z H,O z ne ce,O B F E,Ha text]*(ba R 41 #[Da W,Da M,.bool false]*((ba W 77 (Ug D (Yd σ.o aq.S) da rate)*na D (Kg σ.d s))*(MD*SA)))) w5:=by have L5:=L3.ya (A:=ba g 37 #[Z kind,Ha name,Z G,Z H,O z ne ce,O B F E,Ha text]*(ba R 41 #[Da W,Da M,.bool false]*(wA W aq D rate da (RS.KB σ s)*(MD*SA))));rw[←b9.out];exact L5
     clear K K8 L2 L3 t19;have b1:=L4.cells g 1;go_wp2_with fail;refine L4.ka bs fun m8=> ?_;have L5:=L4.drewN m8;clear L4 b1 bs;have b1:=L5.cells g 1;go_wp2_with fail;refine L5.k1 bt fun w6 L6=> ?_;clear L5 b1 bt;have b1:=L6.cells g 1;have c:w6.cell? ⟨R,0,none⟩=some (Da W):=L6.cells R 0;have e2:w6.cell? ⟨R,2,none⟩=some (.bool false):=L6.cells R 2;have f2:=L6.free R 2;by_cases hw:now=al
     ·have hq:ZD da σ (RS.KB σ s):=b7.out fun f f' h1 h2=> .inl (by rw[←cl.out f h1,←cn.out f' h2,hw]);have HQ:=V hq;have ct:(now !=al)=false:=by rw[kV];exact hw
      have cv:(now==al)=true:=by rw[OV];exact hw
      clear hq hw t43;go_wp2;go_ret;refine⟨⟨true,false,RS.KB σ s⟩,rfl,GO.out _ false (.inr HQ.out) ?_⟩;rw[b9.out];exact(L6.ra R 2 (.bool false) #[Da W,Da M,.bool false] rfl).ya
     ·have ct:(now !=al)=true:=by rw[CU];exact hw
      have cv:(now==al)=false:=by rw[ET];exact hw
      clear hw;go_wp2_with fail;refine(L6.call t43).mono ?_;rintro e w7 ⟨⟨bb⟩,rfl,L7⟩;obtain⟨bf,L8⟩:=L7.pure;dsimp only at bf;have hq:bb=true∨ZD da σ (RS.KB σ s):=by
       cases bb with
       |true=>exact .inl rfl
       |false=>exact .inr (b7.out fun f f' h1 h2=> .inr fun aM=>(by have:=bf f' h2 aM;cases this))
      have HQ:=V hq;clear hq bf L7 L6 b1 c e2 f2;have e2:w7.cell? ⟨R,2,none⟩=some (.bool false):=L8.cells R 2;have f2:=L8.free R 2;go_wp2;go_ret;refine⟨⟨true,bb,RS.KB σ s⟩,rfl,GO.out _ bb HQ.out ?_⟩;rw[b9.out];exact(L8.ra R 2 (.bool bb) #[Da W,Da M,.bool bb] rfl).ya
abbrev wK(W:Nat)(q:SP)(D rate da:Nat)(σ:RS):aa:=ba W 77 (Ug D (Yd σ.o q.S) da rate)*(na D σ.d*Uz q D rate da σ.d.za σ.o)
theorem um{W:Nat}{q:SP}{D rate da:Nat}{σ:RS}:aa.le (wA W q D rate da σ) (wK W q D rate da σ):=MZ (JZ _) Tm
theorem Mp{W:Nat}{q:SP}{D rate da:Nat}{σ:RS}:aa.le (wK W q D rate da σ) (wA W q D rate da σ):=MZ (JZ _) (Yx rfl)
structure MX where
 M:Nat
 mq:MQ
theorem wP{A:Option Addr}{c:Nat}(L:List An.yc):aa.le (Ic A L c) (Ic A L L.length):=by have h:=Vm (f:=bh) Ue (A:=A) (c:=c) (c':=L.length) (l:=L) (m:=L.length) (FT _);rw[UU]at h;exact h
theorem yM{A:Option Addr}{c:Nat}(L:List Nat):aa.le (jf A L c) (jf A L L.length):=by have h:=Vm (f:=iv) (sz:=1) (fun _=>rfl) (A:=A) (c:=c) (c':=L.length) (l:=L.map Int.ofNat) (m:=L.length) (by simp);rw[zU,←zU (f:=Int.ofNat),UU,zU]at h;exact h
theorem ax{A B:aa}(h:aa.le A (A*A))(k:aa.le B (B*B)):aa.le (A*B) ((A*B)*(A*B)):=KZ (MZ h k) (KZ OZ (KZ (MZ (JZ _) (KZ PZ (KZ (MZ NZ (JZ _)) OZ))) PZ))
theorem VQ{A B b f:Option Addr}{c d e g:Nat}{L:List An.yc}{a:List Nat}{s:Hk}:aa.le ((Ic A L c*jf B a d)*Kc s (O b s.vc.length e) (O f s.Ga.length g)) ((Ic A L L.length*(jf B a a.length*Qc b s.vc e))*((Ic A L c*jf B a d)*Kc s (O b s.vc.length e) (O f s.Ga.length g))):=KZ (ax (ax j1 j1) (ax j1 j1)) (MZ (KZ OZ (MZ (wP L) (MZ (yM a) QZ))) (JZ _))
theorem JJ(R:Nat)(s:Hk)(d e f:Option Addr)(i g j h n c:Nat):Pu prog 20 #[Da R,Of s (O d i g) (O e j h),.agg #[Z 61,Z 0,O f n c],.bool false] (.bool true):=by intro w;have J:=((ZZ w).Wa (.cells #[Z s.kind,Ha s.name,Z s.a,Z s.b,O d i g,O e j h,Ha s.text] 37) w.heap.size rfl).Wa (.cells #[Z 61,Z 0,O f n c] 71) (w.heap.size+1) (dc rfl);have hb:=J.Sc;unfold Of;clear J;go_enter func20,ntmps20;go_wp2;go_ret;exact⟨rfl,hb⟩
theorem KJ(R M W D:Nat)(q:SP)(rate da:Nat){σ σ':RS}(mq:MQ)(s:Hk)(hs:Gl s)(N vk:Value)(Av:Option Addr)(a1 cv n c:Nat)(hA:OB da σ s.name s.a s.vc n c σ')(hL:(Ja σ.MB).length≤10000)(hM:σ.MB.length≤10000)(aq:σ'.o=none∨σ'.d.down=false):Tr prog 20 #[Da R,Of s N vk,.agg #[Z c,Z n,O Av a1 cv],.bool true] (ba R 41 #[Da W,Da M,.bool false]*(wA W q D rate da σ'*(xj M (Ja σ.MB) (La σ.MB) (Z σ.s) mq*Kc s N vk))) (fun _:MX=> .bool true) (fun x=>ba R 41 #[Da W,Da x.M,.bool false]*(wA W q D rate da σ'*(xj x.M (Ja σ'.MB) (La σ'.MB) (Z σ'.s) x.mq*Kc s N vk))):=by
 intro w o r h0;have I:=TZ h0;have t39:=Yh W D (Yd σ'.o q.S) (Pa da) (.float .f64 rate);have t40:=Gk D σ'.d;obtain⟨hq,I1⟩:=I.pure;have I2:Y w o r (ba R 41 #[Da W,Da M,.bool false]*(wK W q D rate da σ'*(yl M mq (Ja σ.MB).length (La σ.MB).length (Z σ.s)*((Ic mq.A (Ja σ.MB) mq.c*jf mq.B (La σ.MB) mq.d)*Kc s N vk)))) w:=I1.le (MZ (JZ _) (MZ um OZ));have t49:=fun M2 N=>sI M2 σ.MB mq.A mq.B (Z σ.s) s.name s.a N s.vc hs.bb hL hM;have T:=yh σ.MB;have Q:=hA.st;have av:=hA.su;have p:=UC σ.MB s.name s.a s.vc;obtain⟨_,C,ce,rfl,_⟩:=I2.sl N;have a8:Y w o r (Ba 1 vk s.Ga.length (xf s.Ga)) w:=I2.ya;obtain⟨_,U,ck,rfl,_⟩:=a8.sl vk;have t49:=fun M2=>t49 M2 (O C s.vc.length ce);obtain⟨i0,bc,_⟩:=info_parts Po;obtain⟨i3,bf,_⟩:=info_parts Mi;have S1:∀w,(Instr.sliceAt 44 (O mq.A (Ja σ.MB).length mq.c) none (some (Z (Ja σ.MB).length)) (some (Z (Ja σ.MB).length))).run prog w= .ok (O mq.A (Ja σ.MB).length (Ja σ.MB).length) w:=fun w=>(cg (P:=prog) (w:=w) underlying44 bc _ _ mq.c 0 _ _ (WT _) (FT _) hq.1).2.1;have S2:∀w,(Instr.sliceAt 35 (O mq.B (La σ.MB).length mq.d) none (some (Z (La σ.MB).length)) (some (Z (La σ.MB).length))).run prog w= .ok (O mq.B (La σ.MB).length (La σ.MB).length) w:=fun w=>(cg (P:=prog) (w:=w) underlying35 bf _ _ mq.d 0 _ _ (WT _) (FT _) hq.2).2.1;have bn:=hq.1;have bs:=hq.2;have J:=(I2.Wa (.cells #[Z s.kind,Ha s.name,Z s.a,Z s.b,O C s.vc.length ce,O U s.Ga.length ck,Ha s.text] 37) w.heap.size rfl).Wa (.cells #[Z c,Z n,O Av a1 cv] 71) (w.heap.size+1) (dc rfl);have HM:=V T;have b6:=V p;have b5:=V Q;have a7:=V av;have b7:=V aq;unfold Of;clear h0 I I1 I2 a8 T p Q av aq hA hs hM;generalize aj:Ja σ.MB=L at*;generalize ak:La σ.MB=E at*;have a6:=V aj;have b9:=V ak;clear aj ak;go_enter func20,ntmps20;go_upto_region 3 with(fail);generalize(w.alloc (.cells #[Z s.kind,Ha s.name,Z s.a,Z s.b,O C s.vc.length ce,O U s.Ga.length ck,Ha s.text] 37)).alloc (.cells #[Z c,Z n,O Av a1 cv] 71)=X at*;generalize w.heap.size+1=r2 at*;generalize w.heap.size=r1 at*;have G:X.cell? ⟨R,1,none⟩=some (Da M):=J.cells R 1;have m0:X.cell? ⟨M,0,none⟩=some (O mq.A L.length mq.c):=J.cells M 0;have m1:X.cell? ⟨M,1,none⟩=some (O mq.B E.length mq.d):=J.cells M 1;have m2:X.cell? ⟨M,2,none⟩=some (Z σ.s):=J.cells M 2;have u1:=IT G;have v0:=IT m0;have v1:=IT m1;have v2:=IT m2;refine Cb [0,7,15,24,31,39,48] [1,2,3,4,5,6,8,9,10,11,12,13,14,16,17,18,19,20,21,22,23,25,26,27,28,29,30,32,33,34,35,36,37,38,40,41,42,43,44,45,46,47,49,50,51,52,53,54,55] [56,57] (by kernel_rfl) (by kernel_rfl) (fun _ _ _ _ _ h=>h) ?_;simp only[QT,VT,MT,NT];dsimp only[Ub];go_simp;repeat (quiet_step (fail))
 refine fU ?_;first|(rintro _ ⟨pq,rfl⟩)|(intro pq)
 have al:=jU X pq.d pq.os;generalize Go.Sort.grow (redrawn X pq.d) pq.os=wq at*;clear pq;have K:=J.below al;clear u1 v0 v1 v2 G m0 m1 m2 J al;have K1:=K.Wa (.cells #[O mq.A L.length L.length,O mq.B E.length E.length,Z σ.s] 50) wq.heap.size rfl;clear K;go_upto_region 4 with(fail);generalize wq.alloc (.cells #[O mq.A L.length L.length,O mq.B E.length E.length,Z σ.s] 50)=W2 at*;generalize wq.heap.size=k at*;have K2:=K1.le (MZ (JZ _) (MZ (JZ _) (MZ (JZ _) (MZ (JZ _) (MZ (JZ _) (MZ (JZ _) VQ))))));clear K1 S1 S2;have t49:=t49 k;have hx:=K2.cells r1 1;have bt:=K2.cells r1 2;have c0:=K2.cells r1 4;go_wp2_with fail;refine K2.kc t49 fun w4 x K3=> ?_;clear hx bt c0 K2 t49;have e0:w4.cell? ⟨R,0,none⟩=some (Da W):=K3.cells R 0;go_wp2_with fail;refine K3.ka t39 fun m1=> ?_;have K4:=K3.drewN m1;clear K3 e0 t39;go_wp2_with fail;refine K4.ka t40 fun m2=> ?_;have l:=K4.drewN m2;rw[NU]at l;clear K4 t40;obtain⟨b0,b1⟩:=l.c2 r2;have G:(w4.drewN (m1+m2)).cell? ⟨R,1,none⟩=some (Da M):=l.cells R 1;have f1:=l.free R 1;have stay:∀F,Y w o r (ba R 41 #[Da W,Da M,.bool false]*(wK W q D rate da σ'*(yl M mq L.length E.length (Z σ.s)*((Ic mq.A L mq.c*jf mq.B E mq.d)*Kc s (O C s.vc.length ce) (O U s.Ga.length ck))))) F→σ'.MB=σ.MB→Y w o r (ba R 41 #[Da W,Da M,.bool false]*(wA W q D rate da σ'*(xj M (Ja σ'.MB) (La σ'.MB) (Z σ'.s) mq*Kc s (O C s.vc.length ce) (O U s.Ga.length ck)))) F:=fun F hW e=>by rw[e,a7.out,a6.out,b9.out];exact hW.le (MZ (JZ _) (MZ Mp (KZ PZ (MZ (RZ ⟨bn,bs⟩) (JZ _)))))
 have fresh:∀F,Y w o r (ba R 41 #[Da W,Da k,.bool false]*(wK W q D rate da σ'*(xj k (Ja (Dm σ.MB s.name s.a s.vc)) (La (Dm σ.MB s.name s.a s.vc)) (Z σ.s) x*Kc s (O C s.vc.length ce) (O U s.Ga.length ck)))) F→Dm σ.MB s.name s.a s.vc=σ'.MB→Y w o r (ba R 41 #[Da W,Da k,.bool false]*(wA W q D rate da σ'*(xj k (Ja σ'.MB) (La σ'.MB) (Z σ'.s) x*Kc s (O C s.vc.length ce) (O U s.Ga.length ck)))) F:=fun F hW e=>by rw[a7.out,←e];exact hW.le (MZ (JZ _) (MZ Mp (JZ _)))
 have ST:=V stay;have FR:=V fresh;clear stay fresh;have t:∀y,σ'.o=some y→σ'.d.down=false:=fun y hy=>by
  rcases b7.out with h|h
  ·rw[h]at hy;cases hy
  ·exact h
 have g:SB σ.MB s.name s.a s.vc=if Fe σ.MB s.name s.a s.vc=0 then(Qf s.name (Ja σ.MB)).length else 0:=rfl
 have f:Dm σ.MB s.name s.a s.vc=if Fe σ.MB s.name s.a s.vc=0 then σ.MB++[Ff σ.MB s.name s.vc]else σ.MB:=rfl
 have Q:=b5.out;have p:=b6.out;generalize SB σ.MB s.name s.a s.vc=an at*;generalize Dm σ.MB s.name s.a s.vc=aM at*;generalize Fe σ.MB s.name s.a s.vc=ac at*;rcases Q with⟨h1,H,v,m,y,u⟩|⟨h1,⟨H,v,m,y,u⟩|⟨H,v,m,y,u⟩|⟨H,v,m,u,h6⟩⟩
 ·have z:=t y u;subst H;subst v;rw[DT h1]at g;subst g;have i:=V m;have t50:=Mk c (!σ'.d.down);rw[z]at t50⊢;have k1:((c:Int)==61)=false:=by rw[ET];omega
  have k2:((c:Int)==0)=false:=by rw[ET];omega
  have k3:(decide (c=60)||decide (c=61)&& !!false)=false:=by simp;omega
  rw[k3]at t50;clear h1 m u z t f p k3;go_wp2_with fail;refine(t50 _).mono ?_;rintro e w6 ⟨rfl,m3,rfl⟩;have j:=l.drewN m3;rw[NU]at j;clear b0 b1 G f1 l;obtain⟨b0,b1⟩:=j.c2 r2;go_wp2;go_ret;first|exact⟨⟨M,mq⟩,rfl,ST.out _ j.ya i.out⟩|exact⟨rfl,⟨M,mq⟩,ST.out _ j.ya i.out⟩
 ·have z:=t y u;subst h1 H v;have i:=V m;have t50:=Mk 60 (!σ'.d.down);rw[z]at t50⊢;clear m u z t f p g;go_wp2_with fail;refine(t50 _).mono ?_;rintro e w6 ⟨rfl,m3,rfl⟩;have j:=l.drewN m3;rw[NU]at j;clear b0 b1 G f1 l;obtain⟨b0,b1⟩:=j.c2 r2;go_wp2;go_ret;first|exact⟨⟨M,mq⟩,rfl,ST.out _ j.ya i.out⟩|exact⟨rfl,⟨M,mq⟩,ST.out _ j.ya i.out⟩
 ·have z:=t y u;subst h1 H;rw[JT rfl]at g f;rw[m.symm]at f;have i:=V f;rw[a6.out,←v]at g;subst g;have t50:=Mk 0 (!σ'.d.down);rw[z]at t50⊢;clear m u v z t f p;go_wp2_with fail;refine(t50 _).mono ?_;rintro e w6 ⟨rfl,m3,rfl⟩;have j:=l.drewN m3;rw[NU]at j;clear b0 b1 G f1 l;obtain⟨b0,b1⟩:=j.c2 r2;have G:(w4.drewN (m1+m2+m3)).cell? ⟨R,1,none⟩=some (Da M):=j.cells R 1;have f1:=j.free R 1;have bm:=j.ne R r2;go_wp2;go_ret;have K7:=(j.ra R 1 (Da k) #[Da W,Da k,.bool false] rfl);first|exact⟨⟨k,x⟩,rfl,FR.out _ K7.ya i.out⟩|exact⟨rfl,⟨k,x⟩,FR.out _ K7.ya i.out⟩
 ·subst h1 H v;rw[JT rfl]at g f;rw[m.symm]at f;have i:=V f;rw[h6];clear m u h6 t f p g;have bm:=l.ne R r2;go_wp2;go_ret;have K7:=(l.ra R 1 (Da k) #[Da W,Da k,.bool false] rfl);first|exact⟨⟨k,x⟩,rfl,FR.out _ K7.ya i.out⟩|exact⟨rfl,⟨k,x⟩,FR.out _ K7.ya i.out⟩
end
end Go.Proofs.YteacbkflfafefaaGreatDoor
