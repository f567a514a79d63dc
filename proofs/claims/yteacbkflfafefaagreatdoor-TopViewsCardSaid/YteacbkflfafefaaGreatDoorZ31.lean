/- Part 32 of 50 of the proof that TopViews returns true at every input: lemmas on the way; no condition. -/
import Derived.Test.YteacbkflfafefaaGreatDoorZ29
namespace Go.Proofs.YteacbkflfafefaaGreatDoor
set_option linter.all false
set_option maxHeartbeats 4000000
set_option maxRecDepth 100000
section
open Go.RowKit An Go.ChangeShapes Go.WideShapes Go.ChangeAt
def Ye:List Sq→List (List qa)→aa
 |[],[]=>aa.emp
 |q::qs,l::L=>aa.pure (q.2.1=l.length)*(Ba 3 (zp q) l.length (xc l)*Ye qs L)
 |_,_=>aa.pure False
theorem aa.uw{h:Array Obj}{o r:Td}:∀ {qs:List Sq} {L:List (List qa)},(Ye qs L).p h o r→qs.length=L.length
 |[],[],_=>rfl
 |q::qs,l::L,⟨_,_,_,_,_,⟨_,_,_,_,_,a,_⟩,_⟩=>by have:=aa.uw a;simp[this]
 |[],_::_,h=>h.1.elim
 |_::_,[],h=>h.1.elim
theorem aa.RC{h:Array Obj}{o r:Td}:∀ {qs:List Sq} {L:List (List qa)},(Ye qs L).p h o r→∀i (a:i<qs.length) (b:i<L.length),qs[i].2.1=L[i].length
 |[],[],_,i,a,_=>absurd a (NV _)
 |q::qs,l::L,⟨_,_,_,_,c,⟨_,_,_,_,_,b,_⟩,_⟩,i,a,d=>by
  cases i with
  |zero=>exact c.1
  |succ i=>exact aa.RC b i (by simpa using a) (by simpa using d)
 |[],_::_,h,_,_,_=>h.1.elim
 |_::_,[],h,_,_,_=>h.1.elim
theorem aa.le.sL:∀ (qs:List Sq) (L:List (List qa)) (i:Nat) (a:i<qs.length) (b:i<L.length),aa.le (Ye qs L) (Ba 3 (zp qs[i]) L[i].length (xc L[i]))
 |[],_,_,a,_=>absurd a (NV _)
 |_::_,[],_,_,b=>absurd b (NV _)
 |q::qs,l::L,0,_,_=>KZ NZ (KZ QZ QZ)
 |q::qs,l::L,i+1,a,b=>KZ NZ (KZ QZ (KZ NZ (KZ QZ (aa.le.sL qs L i (rV a) (rV b)))))
theorem aa.le.CG:∀ (a:List Sq) (c:List (List qa)) (b:List Sq) (d:List (List qa)),aa.le (Ye a c*Ye b d) (Ye (a++b) (c++d))
 |[],[],_,_=>aa.le.AQ
 |[],_::_,_,_=>aa.le.Lu
 |_::_,[],_,_=>aa.le.Lu
 |q::a,l::c,b,d=>KZ OZ (MZ (JZ _) (KZ OZ (MZ (JZ _) (aa.le.CG a c b d))))
theorem aa.le.Cx{qs:List Sq}{L:List (List qa)}{A:Option Addr}{c:Nat}{l:List qa}:aa.le (Ye qs L*Fg A l c) (Ye (qs++[(A,l.length,c)]) (L++[l])):=KZ (MZ (JZ _) (KZ (KZ (RZ trivial) NZ) (RZ (φ:=((A,l.length,c):Sq).2.1=l.length) rfl))) (aa.le.CG qs L [(A,l.length,c)] [l])
theorem aa.Ro.yT:∀ (qs:List Sq) (L:List (List qa)),(Ye qs L).Ro
 |[],[]=>o5 _
 |q::qs,l::L=>j7 (o5 _) (j7 (j5 _ _ _ _) (aa.Ro.yT qs L))
 |[],_::_=>o5 _
 |_::_,[]=>o5 _
end
section
open Go.RowKit An Go.ChangeShapes Go.WideShapes Go.ChangeAt Go.Proofs.Tryz
def bI:Option Nat→Int
 |none=> -1
 |some j=>j
def uR:Value→Nat
 |.slice _ n _=>n
 |_=>0
theorem YQ(n:Nat)(e:n≤1000000)(w:World):∃cs:Array Value,cs.toList=nv (List.replicate n 0)∧(Instr.makeSlice 35 (Z n) (Z n)).run prog w= .ok (O (some ⟨w.heap.size,0,none⟩) n n) (w.alloc (.cells cs 3)):=by obtain⟨i3,b,c,a,d⟩:=info_parts Mi;have h:=Go.run_makeSlice (P:=prog) (w:=w) 35 3 i3 _ underlying35 b c .i64 .i64 n n (by omega) (MY _) (by rw[a];omega) (by rw[d];omega) (by omega);simp only[gV]at h;refine⟨_,?_,h⟩;rw[a,wU];show(madeCells #[Z 0] n).toList=_;rw[toList_madeCells_one];simp[nv,iv,List.map_replicate,List.flatMap_replicate]
abbrev XC(v:Value)(qs:List Sq)(ls:List (List qa)):aa:=Ba 1 v qs.length (qs.flatMap me)*Ye qs ls
abbrev vI(ga n:Nat)(at':List Nat):aa:=ua 3 1 (.slice (some ⟨ga,0,none⟩) n n) n (nv at')
abbrev pN(A:Option Addr)(c:Nat)(a:List qa):aa:=Dk A a c
theorem fR(l:List Nat)(k i:Nat):(nv l).set k (Z (i:Nat))=nv (l.set k i):=by simp[fB,xf,List.map_set]
theorem Kv{α:Type}{x:List α}:∀ {l:List (List α)},x∈l→x.length≤l.flatten.length
 |[],h=>by cases h
 |a::r,h=>by
  rw[oV,CT];rcases dU.1 h with rfl|h
  ·omega
  ·have:=Kv h;omega
theorem QA{ls:List (List qa)}{at':List Nat}{k:Nat}(h:k<ls.length)(a:k<at'.length):Ag ls at' k=ls[k][at'[k]]? :=by simp[Ag,h,a]
theorem YC{l w:World}{i j:Td}{A:Option Addr}{c ga:Nat}{at':List Nat}{qs:List Sq}{ls:List (List qa)}{S R C:aa}(J:Y l i j S w)[F:Find (XC (O A qs.length c) qs ls) S R][G:Find (vI ga qs.length at') S C] {k:Nat} (h:k<qs.length) (p:k<ls.length) (u:k<at'.length):∃g off d f,A=some ⟨g,off,none⟩∧qs[k]=(d,ls[k].length,f)∧w.cell? ⟨g,off+k,none⟩=some (O d ls[k].length f)∧w.cell? ⟨ga,k,none⟩=some (Z at'[k])∧∀e,Ag ls at' k=some e→at'[k]<ls[k].length∧∃g2 a,d=some ⟨g2,a,none⟩∧w.cell? ⟨g2,a+at'[k]*3,none⟩=some (Pa e.Qa)∧w.cell? ⟨g2,a+at'[k]*3+1,none⟩=some (Z e.Qb)∧w.cell? ⟨g2,a+at'[k]*3+2,none⟩=some (Z e.pos):=by
 have r:Y l i j (XC (O A qs.length c) qs ls) w:=J.le (KZ F.split QZ);have B:Y l i j (vI ga qs.length at') w:=J.le (KZ G.split QZ);obtain⟨g,off,rfl,_,b,_⟩:=r.we A c qs vg k h (by decide);have s:Y l i j (Ye qs ls) w:=r.le (KZ NZ QZ);have z:qs[k].2.1=ls[k].length:=by obtain⟨I,K,E,_⟩:=s;exact aa.RC E k h p
 have m:=s.le (aa.le.sL qs ls k h p);have b:=b _ rfl;rw[wU]at b;generalize qs[k]=q at*;obtain⟨d,a2,f⟩:=q;dsimp only at z b;subst z;unfold zp at m;dsimp only at m;obtain⟨H,y,x⟩:=B.Mc (A:=some ⟨ga,0,none⟩) (c:=qs.length) (n:=qs.length) (xs:=nv at') (e:=3) (sz:=1) (by intro e;have:=Kk at';rw[e]at this;simp at this;omega);cases y;refine⟨g,off,d,f,rfl,rfl,b,x k _ (zh at' k u),fun e he=> ?_⟩;rw[QA p u]at he;obtain⟨v,D⟩:=ZU.1 he;obtain⟨g2,a,rfl,_,t,o⟩:=m.we d f ls[k] Ld at'[k] v (by decide);rw[D]at t o;exact⟨v,g2,a,rfl,t _ rfl,o 1 _ rfl,o 2 _ rfl⟩
theorem WC(v:Value)(qs:List Sq)(ls:List (List qa))(hn:ls.length≤1000)(hs:∀l∈ls,ub l=true)(hl:ls.flatten.length≤100000000):Tr prog 112 #[v] (XC v qs ls) (fun v':Value=>v') (fun v'=>ua 126 3 v' (Zc ls).length (xc (Zc ls))*XC v qs ls):=by
 intro w o r h0;have I:=TZ h0;have dt:qs.length=ls.length:=by obtain⟨o',r',hp,_⟩:=I.le (KZ NZ QZ);exact aa.uw hp
 obtain⟨_,A,c,rfl,_⟩:=I.sl v;obtain⟨i0,hi,hh,ho,hr⟩:=info_parts Pm;obtain⟨cs,e9,gl⟩:=YQ qs.length (by omega) w;have ed:=gl;rw[dt]at ed;have I1:=I.Wa (.cells cs 3) w.heap.size rfl;have hN:cs.size=qs.length:=by rw[←XW,e9,Kk,List.length_replicate]
 have I2:Y w o r (pN none 0 []*(vI w.heap.size qs.length (List.replicate ls.length 0)*XC (O A qs.length c) qs ls)) (w.alloc (.cells cs 3)):=by refine I1.le (KZ (MZ (j4 (e:=3) (sz:=1) (n:=qs.length) (c:=qs.length) (xs:=nv (List.replicate ls.length 0)) (FT _) (by omega) ?_) (JZ _)) (KZ (RZ trivial) (MZ (j0 126 3) (JZ _))));rw[e9,←dt,wU];exact YT (by rw[Kk,List.length_replicate];exact FT _)
 obtain⟨mg,ec⟩:∃mg,Zc ls=mg:=⟨_,rfl⟩;rw[ec];have e5:=V ec;have fq:=V (mN.start ls);have HS:=V hs;have HQ:=V dt;have k7:qs.length≤1000:=by omega
 generalize hP:w.heap.size=ga at*;clear h0 I I1 e9 hN ec hs hP dt ed;have hbound:∀out at',mN ls out at'→out.length≤ls.flatten.length:=fun out at' h=>Cq (yp h.ym) fun x hx=>by obtain⟨l,hR,hS⟩:=(h.mem x).2 (.inl hx);exact FV.2 ⟨l,hR,hS⟩
 have e4:=V hbound;have fc:Hid (∀k (h:k<ls.length),ls[k].length≤100000000):=V fun k h=>KT (Kv (XT h)) hl;generalize hG:ls.flatten.length=TT at*;clear hbound hG;go_enter func112,ntmps112;go_wp2_with fail;go_step3;go_wp2_with fail;go_step3;go_wp2_with fail;go_loopw [3] (fun m wr=>∃ (out:List qa) (T:Option Addr) (P:Nat) (at':List Nat),m=O T out.length P∧Hid (mN ls out at')∧Y w o r (pN T P out*(vI ga qs.length at'*XC (O A qs.length c) qs ls)) wr) (fun m _=>TT-uR m);case atStart=>exact⟨[],none,0,List.replicate ls.length 0,rfl,fq,I2⟩
 case round=>
  obtain⟨out,T,P,at',rfl,HM,J⟩:=hrel;clear I2 fq gl;have bf:=V HM.out.len;go_wp2_with fail;go_loopw [5,17] (fun x5 m wr=>∃ (k:Nat) (b:Option Nat),m=Z k∧x5=Z (bI b)∧k≤qs.length∧Hid (b=none→∀j,j<k→Ag ls at' j=none)∧Hid (∀j,b=some j→j<k∧∃e,Ag ls at' j=some e∧ez ls at' k e)∧Y w o r (pN T P out*(vI ga qs.length at'*XC (O A qs.length c) qs ls)) wr) (fun _ m _=>qs.length-(intOf m).toNat);case atStart=>exact⟨0,none,rfl,rfl,WT _,V (fun _ j h=>absurd h (NV _)),V (fun j h=>by simp at h),J⟩
  case round=>
   obtain⟨k,b,rfl,rfl,hk,a7,a8,K⟩:=hrel;clear J;by_cases dj:k<qs.length
   ·have cG:(k:Int)<(qs.length:Int):=by omega
    have C:k<ls.length:=by have:=HQ.out;omega
    have Q:k<at'.length:=by have:=bf.out;omega
    obtain⟨g,off,a1,c1,rfl,cf,x0,m,x2⟩:=YC (at':=at') (ls:=ls) (ga:=ga) (c:=c) (A:=A) K dj C Q;clear cf;have b9:Ag ls at' k=none→¬ ((at'[k]:Int)<(ls[k].length:Int)):=fun h=>by rw[QA C Q,KW]at h;omega
    go_upto_region 7 with(fail);clear x0;cases hd:Ag ls at' k with
    |none=>
     have hT:=b9 hd;generalize fr:bI b=bn at*;have hC:=V fr;clear fr;have n0:Hid (b=none→∀j,j<k+1→Ag ls at' j=none):=V fun h j hj=>by
      by_cases aM:j<k
      ·exact a7.out h j aM
      ·rw[show j=k by omega];exact hd
     have n1:Hid (∀j,b=some j→j<k+1∧∃e,Ag ls at' j=some e∧ez ls at' (k+1) e):=V fun j h=>by
      obtain⟨D,e,h2,R⟩:=a8.out j h;refine⟨by omega,e,h2,fun i hi y u=> ?_⟩;by_cases aq:i<k
      ·exact R i aq y u
      ·rw[show i=k by omega,hd]at u;cases u
     clear x2 b9 hd a7 a8;generalize at'[k]=ak at*;generalize ls[k].length=lk at*;refine Gb (fun W=>W.cell? ⟨ga,k,none⟩=some (Z ak)) (fun a b=>Below a.heap.size a b) [0,1,2,3,4,5,6,7,8,9,10,11,12,13,14,15,16,17,18,19,20,21,22,23,24,25,26,27,28,29,30] [] [] (fun w=>mU _ _) (fun _ _ _=>vb) (fun _ _ h hb=>Bb hb h) (by kernel_rfl) (by kernel_rfl) (fun _ _ _ _ _ h=>h) (show World.cell? _ _=_ from m) ?_;simp only[QT,VT,MT,NT];iterate 31 (first|(refine db (by rfl) (fun K d=> ?_);go_simp;refine d _ ?_;clear d K)|(refine gb (by rfl) (fun K d=> ?_);apply Exists.intro;refine⟨fun w hw=> ?_,?_⟩;(next=>(first|(go_simp;rfl)|(obtain m:=hw;go_simp;rfl)|(obtain m:=hw;go_simp;done)|(go_simp;(fail))|(obtain m:=hw;go_simp;(fail))));go_simp;refine d _ ?_;clear d K))
     refine Eb ?_;intro F f;unfold Sb;have z:=K.drew.below f;clear K m f;go_wp2;go_roundw;case rel=>exact⟨k+1,b,by go_num,by rw[hC.out],by omega,n0,n1,z⟩
     case measure=>simp[intOf];omega
    |some e=>
     obtain⟨cv,g2,B,rfl,G,H,L⟩:=x2 e hd;have hz:(at'[k]:Int)<(ls[k].length:Int):=by omega
     clear b9 x2;cases b with
     |none=>
      have n0:Hid (some k=none→∀j,j<k+1→Ag ls at' j=none):=V fun h=>by cases h
      have n1:Hid (∀j,some k=some j→j<k+1∧∃e,Ag ls at' j=some e∧ez ls at' (k+1) e):=V fun j h=>by
       cases h;refine⟨by omega,e,hd,fun i hi y u=> ?_⟩;by_cases aq:i<k
       ·rw[a7.out rfl i aq]at u;cases u
       ·rw[show i=k by omega,hd]at u;cases u;exact It _
      have b0:bI none<0:=by decide
      have k0:Hid (bI (some k)=(k:Int)):=V rfl;clear hd a7 a8 G H L cv;generalize at'[k]=ak at*;generalize ls[k].length=lk at*;generalize bI none=bn at*;refine Gb (fun W=>W.cell? ⟨ga,k,none⟩=some (Z ak)) (fun a b=>Below a.heap.size a b) [0,1,2,3,4,5,6,7,8,9,10,11,12,13,14,15,16,17,18,19,20,21,22,23,24,25,26,27,28,29,30] [] [] (fun w=>mU _ _) (fun _ _ _=>vb) (fun _ _ h hb=>Bb hb h) (by kernel_rfl) (by kernel_rfl) (fun _ _ _ _ _ h=>h) (show World.cell? _ _=_ from m) ?_;simp only[QT,VT,MT,NT];iterate 31 (first|(refine db (by rfl) (fun K d=> ?_);go_simp;refine d _ ?_;clear d K)|(refine gb (by rfl) (fun K d=> ?_);apply Exists.intro;refine⟨fun w hw=> ?_,?_⟩;(next=>(first|(go_simp;rfl)|(obtain m:=hw;go_simp;rfl)|(obtain m:=hw;go_simp;done)|(go_simp;(fail))|(obtain m:=hw;go_simp;(fail))));go_simp;refine d _ ?_;clear d K))
      refine Eb ?_;intro F f;unfold Sb;have z:=K.drew.below f;clear K m f;go_wp2;go_roundw;case rel=>exact⟨k+1,some k,by go_num,rfl,by omega,n0,n1,z⟩
      case measure=>simp[intOf];omega
     |some j=>
      obtain⟨aM,ej,al,U⟩:=a8.out j rfl;have cF:j<qs.length:=by omega
      have av:j<ls.length:=by omega
      have cc:j<at'.length:=by omega
      obtain⟨g',ep,a3,c3,hA,cf,M,p,X⟩:=YC (at':=at') (ls:=ls) (ga:=ga) (c:=c) (A:=some ⟨g,off,none⟩) K cF av cc;clear cf;cases hA;obtain⟨hI,g3,s,rfl,f0,f1,f2⟩:=X ej al;have hV:(at'[j]:Int)<(ls[j].length:Int):=by omega
      have k5:(j:Int)<(qs.length:Int):=by omega
      have t150:=Tt e ej;unfold bj at t150;have n0:∀i:Nat,Hid ((some i:Option Nat)=none→∀j,j<k+1→Ag ls at' j=none):=fun i=>V fun h=>by cases h
      have cb:bI (some j)=(j:Int):=rfl;rw[cb];have n1:de e ej=true→Hid (∀j,some k=some j→j<k+1∧∃e,Ag ls at' j=some e∧ez ls at' (k+1) e):=fun ck=>V fun i h=>by
       cases h;refine⟨by omega,e,hd,fun i hi y u=> ?_⟩;by_cases aq:i<k
       ·have R:=U i aq y u;cases h4:de y e with
        |false=>rfl
        |true=>rw[Lj h4 ck]at R;cases R
       ·rw[show i=k by omega,hd]at u;cases u;exact It _
      have n2:de e ej=false→Hid (∀i,some j=some i→i<k+1∧∃e,Ag ls at' i=some e∧ez ls at' (k+1) e):=fun ck=>V fun i h=>by
       cases h;refine⟨by omega,ej,al,fun i hi y u=> ?_⟩;by_cases aq:i<k
       ·exact U i aq y u
       ·rw[show i=k by omega,hd]at u;cases u;exact ck
      clear hd a7 a8 al U X cv hI cb;generalize at'[k]=ak at*;generalize ls[k].length=lk at*;generalize at'[j]=aj at*;generalize ls[j].length=lj at*;clear C Q cF av cc HM bf HS e4 e5;cases hc:de e ej with
      |true=>
       rw[hc]at t150;have n1:=n1 hc;clear n2 hc;refine Gb (fun W=>W.cell? ⟨ga,k,none⟩=some (Z ak)∧W.cell? ⟨ga,j,none⟩=some (Z aj)∧W.cell? ⟨g,off+j,none⟩=some (O (some ⟨g3,s,none⟩) lj c3)∧W.cell? ⟨g2,B+ak*3,none⟩=some (Pa e.Qa)∧W.cell? ⟨g2,B+ak*3+1,none⟩=some (Z e.Qb)∧W.cell? ⟨g2,B+ak*3+2,none⟩=some (Z e.pos)∧W.cell? ⟨g3,s+aj*3,none⟩=some (Pa ej.Qa)∧W.cell? ⟨g3,s+aj*3+1,none⟩=some (Z ej.Qb)∧W.cell? ⟨g3,s+aj*3+2,none⟩=some (Z ej.pos)) (fun a b=>Below a.heap.size a b) [0,1,2,3,4,5,6,7,8,9,10,11,12,13,14,15,16,17,18,19,20,21,22,23,24,25,26,27,28,29,30] [] [] (fun w=>mU _ _) (fun _ _ _=>vb) (fun _ _ ⟨D,h2,R,h4,h5,h6,h7,h8,h9⟩ hb=>⟨Bb hb D,Bb hb h2,Bb hb R,Bb hb h4,Bb hb h5,Bb hb h6,Bb hb h7,Bb hb h8,Bb hb h9⟩) (by kernel_rfl) (by kernel_rfl) (fun _ _ _ _ _ h=>h) ⟨m,p,M,G,H,L,f0,f1,f2⟩ ?_;simp only[QT,VT,MT,NT];iterate 31 (first|(refine db (by rfl) (fun K d=> ?_);go_simp;refine d _ ?_;clear d K)|(refine gb (by rfl) (fun K d=> ?_);apply Exists.intro;refine⟨fun w hw=> ?_,?_⟩;(next=>(first|(go_simp;rfl)|(obtain⟨m,p,M,G,H,L,f0,f1,f2⟩:=hw;go_simp;rfl)|(obtain⟨m,p,M,G,H,L,f0,f1,f2⟩:=hw;go_simp;done)|(go_simp;((go_at_call 150;exact t150 _)))|(obtain⟨m,p,M,G,H,L,f0,f1,f2⟩:=hw;go_simp;((go_at_call 150;exact t150 _)))));go_simp;refine d _ ?_;clear d K))
       refine Eb ?_;intro F f;unfold Sb;have z:=K.drew.below f;clear K m p M G H L f0 f1 f2 f;go_wp2;go_roundw;case rel=>exact⟨k+1,some k,by go_num,rfl,by omega,n0 k,n1,z⟩
       case measure=>simp[intOf];omega
      |false=>
       rw[hc]at t150;have n2:=n2 hc;clear n1 hc;refine Gb (fun W=>W.cell? ⟨ga,k,none⟩=some (Z ak)∧W.cell? ⟨ga,j,none⟩=some (Z aj)∧W.cell? ⟨g,off+j,none⟩=some (O (some ⟨g3,s,none⟩) lj c3)∧W.cell? ⟨g2,B+ak*3,none⟩=some (Pa e.Qa)∧W.cell? ⟨g2,B+ak*3+1,none⟩=some (Z e.Qb)∧W.cell? ⟨g2,B+ak*3+2,none⟩=some (Z e.pos)∧W.cell? ⟨g3,s+aj*3,none⟩=some (Pa ej.Qa)∧W.cell? ⟨g3,s+aj*3+1,none⟩=some (Z ej.Qb)∧W.cell? ⟨g3,s+aj*3+2,none⟩=some (Z ej.pos)) (fun a b=>Below a.heap.size a b) [0,1,2,3,4,5,6,7,8,9,10,11,12,13,14,15,16,17,18,19,20,21,22,23,24,25,26,27,28,29,30] [] [] (fun w=>mU _ _) (fun _ _ _=>vb) (fun _ _ ⟨D,h2,R,h4,h5,h6,h7,h8,h9⟩ hb=>⟨Bb hb D,Bb hb h2,Bb hb R,Bb hb h4,Bb hb h5,Bb hb h6,Bb hb h7,Bb hb h8,Bb hb h9⟩) (by kernel_rfl) (by kernel_rfl) (fun _ _ _ _ _ h=>h) ⟨m,p,M,G,H,L,f0,f1,f2⟩ ?_;simp only[QT,VT,MT,NT];iterate 31 (first|(refine db (by rfl) (fun K d=> ?_);go_simp;refine d _ ?_;clear d K)|(refine gb (by rfl) (fun K d=> ?_);apply Exists.intro;refine⟨fun w hw=> ?_,?_⟩;(next=>(first|(go_simp;rfl)|(obtain⟨m,p,M,G,H,L,f0,f1,f2⟩:=hw;go_simp;rfl)|(obtain⟨m,p,M,G,H,L,f0,f1,f2⟩:=hw;go_simp;done)|(go_simp;((go_at_call 150;exact t150 _)))|(obtain⟨m,p,M,G,H,L,f0,f1,f2⟩:=hw;go_simp;((go_at_call 150;exact t150 _)))));go_simp;refine d _ ?_;clear d K))
       refine Eb ?_;intro F f;unfold Sb;have z:=K.drew.below f;clear K m p M G H L f0 f1 f2 f;go_wp2;go_roundw;case rel=>exact⟨k+1,some j,by go_num,rfl,by omega,n0 j,n2,z⟩
       case measure=>simp[intOf];omega
   ·have cG:¬ ((k:Int)<(qs.length:Int)):=by omega
    have cT:k=ls.length:=by have:=HQ.out;omega
    cases b with
    |none=>
     have hv:mg=out:=by rw[←e5.out];exact(HM.out.stop fun j hj=>a7.out rfl j (by rw[cT];exact hj)).symm
     have b0:bI none<0:=by decide
     subst hv;clear a7 a8 HM bf e5 e4 HS cT;generalize bI none=bn at*;go_wp2;go_ret;exact⟨O T mg.length P,rfl,K.ya (A:=pN T P mg*XC (O A qs.length c) qs ls)⟩
    |some j=>
     obtain⟨aM,e,al,U⟩:=a8.out j rfl;rw[cT]at U;have cF:j<qs.length:=by omega
     have av:j<ls.length:=by omega
     have cc:j<at'.length:=by have:=bf.out;omega
     have cb:bI (some j)=(j:Int):=rfl;rw[cb];have an:¬ ((j:Int)<0):=by omega
     have Qe:=HM.out.step HS.out av al U;have hJ:=HM.out;obtain⟨g,off,a1,c1,rfl,cf,x0,m,x2⟩:=YC (at':=at') (ls:=ls) (ga:=ga) (c:=c) (A:=A) K cF av cc;clear cf;obtain⟨cv,g2,B,rfl,G,H,L⟩:=x2 e al;have hz:(at'[j]:Int)<(ls[j].length:Int):=by omega
     have ct:=V Qe;clear a7 a8 x2 Qe hJ U cG cT cb;go_upto_region 11 with(fail);generalize at'[j]=aj at*;generalize ls[j].length=lj at*;clear av cc cv;refine Gb (fun W=>W.cell? ⟨g,off+j,none⟩=some (O (some ⟨g2,B,none⟩) lj c1)∧W.cell? ⟨ga,j,none⟩=some (Z aj)∧W.cell? ⟨g2,B+aj*3,none⟩=some (Pa e.Qa)∧W.cell? ⟨g2,B+aj*3+1,none⟩=some (Z e.Qb)∧W.cell? ⟨g2,B+aj*3+2,none⟩=some (Z e.pos)) (fun a b=>Below a.heap.size a b) [0,1,2,3,4,5,6,7,8,9] [10] [11] (fun w=>mU _ _) (fun _ _ _=>vb) (fun _ _ ⟨D,h2,R,h4,h5⟩ hb=>⟨Bb hb D,Bb hb h2,Bb hb R,Bb hb h4,Bb hb h5⟩) (by kernel_rfl) (by kernel_rfl) (fun _ _ _ _ _ h=>h) ⟨x0,m,G,H,L⟩ ?_;simp only[QT,VT,MT,NT];iterate 10 (first|(refine db (by rfl) (fun K d=> ?_);go_simp;refine d _ ?_;clear d K)|(refine gb (by rfl) (fun K d=> ?_);apply Exists.intro;refine⟨fun w hw=> ?_,?_⟩;(next=>(first|(go_simp;rfl)|(obtain⟨x0,m,G,H,L⟩:=hw;go_simp;rfl)|(obtain⟨x0,m,G,H,L⟩:=hw;go_simp;done)|(go_simp;(fail))|(obtain⟨x0,m,G,H,L⟩:=hw;go_simp;(fail))));go_simp;refine d _ ?_;clear d K))
     refine Eb ?_;intro F f;refine ic (fun K9 fi=> ?_);go_simp;have an:Below F.heap.size F (F.alloc (.cells #[Pa 0,Z 0,Z 0] 126)):=iW (mU F.heap.size F) (FT _) _;refine fi _ _ ⟨Bb an (Bb f x0),Bb an (Bb f m),Bb an (Bb f G),Bb an (Bb f H),Bb an (Bb f L)⟩ ?_;intro w2 hg;have z:=((K.drew.below f).Wa (.cells #[Pa 0,Z 0,Z 0] 126) F.heap.size rfl).below hg;clear fi K9 K x0 m G H L f hg an;generalize F.heap.size=E at*;unfold Sb;obtain⟨c0,c1,c2⟩:=z.c3 E;obtain⟨f0,f1,f2⟩:=z.f3 E;go_upto_region 12 with(fail);have N:Y w o r (ba E 126 #[Pa e.Qa,Z e.Qb,Z e.pos]*(pN T P out*(vI ga qs.length at'*XC (O (some ⟨g,off,none⟩) qs.length c) qs ls))) _:=(((z.ra E 0 (Pa e.Qa) #[Pa e.Qa,Z 0,Z 0]).ra E 1 (Z e.Qb) #[Pa e.Qa,Z e.Qb,Z 0]).ra E 2 (Z e.pos) #[Pa e.Qa,Z e.Qb,Z e.pos]).ya;clear z c0 c1 c2 f0 f1 f2;generalize hH:((World.setCell _ ⟨E,0,none⟩ (Pa e.Qa)).setCell ⟨E,1,none⟩ (Z e.Qb)).setCell ⟨E,2,none⟩ (Z e.pos)=W3 at*;clear hH;have e6:∀i,i<ls.length→(My ls at' e)[i]? =some (if Ag ls at' i=some e then at'[i]?.getD 0+1 else at'[i]?.getD 0):=fun i hi=>by simp[My,hi]
     have e3:=V e6;clear e6;go_wp2_with fail;go_loopw [69] (fun m wr=>∃ (k:Nat) (t:List Nat),m=Z k∧k≤qs.length∧Hid (t.length=ls.length)∧Hid (∀i,i<ls.length→t[i]? =if i<k then(My ls at' e)[i]? else at'[i]?)∧Y w o r (ba E 126 #[Pa e.Qa,Z e.Qb,Z e.pos]*(pN T P out*(vI ga qs.length t*XC (O (some ⟨g,off,none⟩) qs.length c) qs ls))) wr) (fun m _=>qs.length-(intOf m).toNat);case atStart=>exact⟨0,at',rfl,WT _,bf,V fun i hi=>by rw[DT (NV _)],N⟩
     case round=>
      obtain⟨k,t,rfl,hk,bm,cl,K⟩:=hrel;clear N;by_cases dj:k<qs.length
      ·have cG:(k:Int)<(qs.length:Int):=by omega
       have C:k<ls.length:=by have:=HQ.out;omega
       have Q:k<t.length:=by rw[bm.out];exact C
       obtain⟨g',ep,a3,c3,hA,gr,x0,_,_⟩:=YC (at':=t) (ls:=ls) (ga:=ga) (c:=c) (A:=some ⟨g,off,none⟩) K dj C Q;cases hA;have hE:=V gr;clear gr;have e7:t[k]=at'[k]?.getD 0:=by have:=cl.out k C;rw[DT (by omega),PT Q]at this;rw[←this];rfl
       have bc:t.set k t[k]=t:=List.set_getElem_self Q;have jj:=V e7;have cw:∀i:Nat,(i=at'[k]?.getD 0∨(Ag ls at' k=some e∧i=at'[k]?.getD 0+1))→ls[k][i]? ≠some e→∀j,j<ls.length→(t.set k i)[j]? =if j<k+1 then(My ls at' e)[j]? else at'[j]? :=fun i hi ds j hj=>by
        rw[WX];by_cases aM:k=j
        ·subst aM;rw[JT rfl,JT Q,JT (by omega),e3.out k hj];rcases hi with rfl|⟨D,rfl⟩
         ·rw[DT];intro h;unfold Ag at h;rw[PT C]at h;exact ds h
         ·rw[JT D]
        ·rw[DT aM,cl.out j hj];by_cases D:j<k
         ·rw[JT D,JT (by omega)]
         ·rw[DT D,DT (by omega)]
       have bs:=V cw;have eo:∀i:Nat,(i=at'[k]?.getD 0∨(Ag ls at' k=some e∧i=at'[k]?.getD 0+1))→ls[k][i]? =some e→(Ag ls at' k=some e∧i=at'[k]?.getD 0):=fun i hi he=>by
        rcases hi with rfl|⟨D,rfl⟩
        ·refine⟨?_,rfl⟩;unfold Ag;rw[PT C];exact he
        ·unfold Ag at D;rw[PT C]at D;obtain⟨l1,l2⟩:=ZU.1 D;obtain⟨l3,l4⟩:=ZU.1 he;have h5:=(yX.1 (An.uc.1 (HS.out _ (XT C)))) _ _ l1 l3 (by omega);have hU:ls[k][at'[k]?.getD 0]=e:=l2;rw[hU,l4,It]at h5;cases h5
       have cp:=V eo;clear bc cw eo;go_wp2_with fail;clear x0;generalize gg:ls[k].length=lk at*;have cn:=V gg;clear gg;go_loopw [74] (fun x wr=>∃i:Nat,Hid (i=at'[k]?.getD 0∨(Ag ls at' k=some e∧i=at'[k]?.getD 0+1))∧Y w o r (ba E 126 #[Pa e.Qa,Z e.Qb,Z e.pos]*(pN T P out*(vI ga qs.length (t.set k i)*XC (O (some ⟨g,off,none⟩) qs.length c) qs ls))) wr) (fun _ wr=>lk-(intOf ((wr.cell? ⟨ga,k,none⟩).getD undef)).toNat);case atStart=>exact⟨t[k],V (.inl e7),by rw[List.set_getElem_self Q];exact K⟩
       case round=>
        obtain⟨i,HI,z⟩:=hrel;clear K e7;have ch:k<(t.set k i).length:=by rw[sV];exact Q
        obtain⟨g',ep,a4,c4,hA,ha,M,p,X⟩:=YC (at':=t.set k i) (ls:=ls) (ga:=ga) (c:=c) (A:=some ⟨g,off,none⟩) z dj C ch;cases hA;have b5:(t.set k i)[k]=i:=by simp
        rw[b5]at p;rw[cn.out,hE.out]at ha;cases ha;clear M;go_upto_region 15 with(fail);have cx:Ag ls (t.set k i) k=ls[k][i]? :=by rw[QA C ch,b5]
        rw[cx]at X;simp only[b5]at X;cases u:ls[k][i]? with
        |none=>
         have hT:¬ ((i:Int)<(lk:Int)):=by rw[KW,cn.out]at u;omega
         have HX:Hid (∀j,j<ls.length→(t.set k i)[j]? =if j<k+1 then(My ls at' e)[j]? else at'[j]?):=V (bs.out i HI.out (by rw[u];exact fun h=>by cases h));clear X cx u bs cp HI b5 ch;refine Gb (fun W=>W.cell? ⟨ga,k,none⟩=some (Z i)) (fun a b=>Below a.heap.size a b) [0,1,2,3,4,5,6,7,8,9,10,11,12,13,14,15,16,17] [] [] (fun w=>mU _ _) (fun _ _ _=>vb) (fun _ _ h hb=>Bb hb h) (by kernel_rfl) (by kernel_rfl) (fun _ _ _ _ _ h=>h) (show World.cell? _ _=_ from p) ?_;simp only[QT,VT,MT,NT];iterate 18 (first|(refine db (by rfl) (fun K d=> ?_);go_simp;refine d _ ?_;clear d K)|(refine gb (by rfl) (fun K d=> ?_);apply Exists.intro;refine⟨fun w hw=> ?_,?_⟩;(next=>(first|(go_simp;rfl)|(obtain p:=hw;go_simp;rfl)|(obtain p:=hw;go_simp;done)|(go_simp;(fail))|(obtain p:=hw;go_simp;(fail))));go_simp;refine d _ ?_;clear d K))
         refine Eb ?_;intro F f;unfold Sb;have N:=z.drew.below f;clear z p f;go_wp2;go_roundw;case rel=>exact⟨k+1,t.set k i,by go_num,by omega,V (by rw[sV];exact bm.out),HX,N⟩
         case measure=>simp[intOf];omega
        |some y=>
         obtain⟨ea,g3,s,rfl,f0,f1,f2⟩:=X y u;rw[cn.out]at ea;have k6:(i:Int)<(lk:Int):=by omega
         obtain⟨z0,S,z2⟩:=z.c3 E;by_cases b6:y=e
         ·obtain⟨fs,gf⟩:=cp.out i HI.out (b6▸u);have hD:Hid (i+1=at'[k]?.getD 0∨(Ag ls at' k=some e∧i+1=at'[k]?.getD 0+1)):=V (.inr ⟨fs,by rw[gf]⟩);have hq:=CA y e;rw[RU b6]at hq;have k4:i+1≤100000000:=by have:=fc.out k C;rw[cn.out]at this;omega
          have k2:Hid (i<lk):=V ea;have hf:=fun W (h:Y w o r (ba E 126 #[Pa e.Qa,Z e.Qb,Z e.pos]*(pN T P out*(vI ga qs.length (t.set k i)*XC (O (some ⟨g,off,none⟩) qs.length c) qs ls))) W)=>h.Nk (g:=ga) (c:=qs.length) (n:=qs.length) (xs:=nv (t.set k i)) (e:=3) (sz:=1) k (Z ((i:Int)+1));have fe:=V hf;have bc:(nv (t.set k i)).set k (Z ((i:Int)+1))=nv (t.set k (i+1)):=by rw[show((i:Int)+1)=((i+1:Nat):Int) by omega,fR,List.set_set]
          have ht:=V bc;clear X cx u bs cp HI b5 ch b6 fs gf hf bc;refine Gb (fun W=>W.cell? ⟨ga,k,none⟩=some (Z i)∧W.cell? ⟨g3,s+i*3,none⟩=some (Pa y.Qa)∧W.cell? ⟨g3,s+i*3+1,none⟩=some (Z y.Qb)∧W.cell? ⟨g3,s+i*3+2,none⟩=some (Z y.pos)∧W.cell? ⟨E,0,none⟩=some (Pa e.Qa)∧W.cell? ⟨E,1,none⟩=some (Z e.Qb)∧W.cell? ⟨E,2,none⟩=some (Z e.pos)) (fun a b=>Below a.heap.size a b) [0,1,2,3,4,5,6,7,8,9,10,11,12,13,14,15,16,17] [] [] (fun w=>mU _ _) (fun _ _ _=>vb) (fun _ _ ⟨D,h2,R,h4,h5,h6,h7⟩ hb=>⟨Bb hb D,Bb hb h2,Bb hb R,Bb hb h4,Bb hb h5,Bb hb h6,Bb hb h7⟩) (by kernel_rfl) (by kernel_rfl) (fun _ _ _ _ _ h=>h) ⟨p,f0,f1,f2,z0,S,z2⟩ ?_;simp only[QT,VT,MT,NT];iterate 18 (first|(refine db (by rfl) (fun K d=> ?_);go_simp;refine d _ ?_;clear d K)|(refine gb (by rfl) (fun K d=> ?_);apply Exists.intro;refine⟨fun w hw=> ?_,?_⟩;(next=>(first|(go_simp;rfl)|(obtain⟨p,f0,f1,f2,z0,S,z2⟩:=hw;go_simp;rfl)|(obtain⟨p,f0,f1,f2,z0,S,z2⟩:=hw;go_simp;done)|(go_simp;(fail))|(obtain⟨p,f0,f1,f2,z0,S,z2⟩:=hw;go_simp;(fail))));go_simp;refine d _ ?_;clear d K))
          refine Eb ?_;intro F f;unfold Sb;have N:=z.drew.below f;have u1:F.cell? ⟨ga,k,none⟩=some (Z i):=Bb f (show World.cell? _ _=_ from p);obtain⟨K4,u2⟩:=fe.out _ N;rw[ht.out]at K4;have m0:=eU (fun x:Option Value=>(intOf (x.getD undef)).toNat) p;have m1:(intOf (((F.setCell ⟨ga,k,none⟩ (Z ((i:Int)+1))).cell? ⟨ga,k,none⟩).getD undef)).toNat=i+1:=by obtain⟨g5,hO,hM⟩:=K4.Mc (A:=some ⟨ga,0,none⟩) (c:=qs.length) (n:=qs.length) (xs:=nv (t.set k (i+1))) (e:=3) (sz:=1) (by intro h;have:=Kk (t.set k (i+1));rw[h,sV]at this;simp at this;omega);cases hO;rw[hM k _ (zh _ k (by rw[sV];exact Q))];simp[intOf]
          have M0:=V m0;have M1:=V m1;clear z N p f0 f1 f2 z0 S z2 f fe m0 m1;go_wp2;go_roundw;case rel=>exact⟨i+1,hD,K4.ya⟩
          case measure=>have m0:=M0.out;have m1:=M1.out;rw[m0,m1];simp[intOf];omega
         ·have HX:Hid (∀j,j<ls.length→(t.set k i)[j]? =if j<k+1 then(My ls at' e)[j]? else at'[j]?):=V (bs.out i HI.out (by rw[u];exact fun h=>by cases h;exact b6 rfl));have hq:=CA y e;rw[yU b6]at hq;clear X cx u bs cp HI b5 ch ea b6;refine Gb (fun W=>W.cell? ⟨ga,k,none⟩=some (Z i)∧W.cell? ⟨g3,s+i*3,none⟩=some (Pa y.Qa)∧W.cell? ⟨g3,s+i*3+1,none⟩=some (Z y.Qb)∧W.cell? ⟨g3,s+i*3+2,none⟩=some (Z y.pos)∧W.cell? ⟨E,0,none⟩=some (Pa e.Qa)∧W.cell? ⟨E,1,none⟩=some (Z e.Qb)∧W.cell? ⟨E,2,none⟩=some (Z e.pos)) (fun a b=>Below a.heap.size a b) [0,1,2,3,4,5,6,7,8,9,10,11,12,13,14,15,16,17] [] [] (fun w=>mU _ _) (fun _ _ _=>vb) (fun _ _ ⟨D,h2,R,h4,h5,h6,h7⟩ hb=>⟨Bb hb D,Bb hb h2,Bb hb R,Bb hb h4,Bb hb h5,Bb hb h6,Bb hb h7⟩) (by kernel_rfl) (by kernel_rfl) (fun _ _ _ _ _ h=>h) ⟨p,f0,f1,f2,z0,S,z2⟩ ?_;simp only[QT,VT,MT,NT];iterate 18 (first|(refine db (by rfl) (fun K d=> ?_);go_simp;refine d _ ?_;clear d K)|(refine gb (by rfl) (fun K d=> ?_);apply Exists.intro;refine⟨fun w hw=> ?_,?_⟩;(next=>(first|(go_simp;rfl)|(obtain⟨p,f0,f1,f2,z0,S,z2⟩:=hw;go_simp;rfl)|(obtain⟨p,f0,f1,f2,z0,S,z2⟩:=hw;go_simp;done)|(go_simp;(fail))|(obtain⟨p,f0,f1,f2,z0,S,z2⟩:=hw;go_simp;(fail))));go_simp;refine d _ ?_;clear d K))
          refine Eb ?_;intro F f;unfold Sb;have N:=z.drew.below f;clear z p f0 f1 f2 z0 S z2 f;go_wp2;go_roundw;case rel=>exact⟨k+1,t.set k i,by go_num,by omega,V (by rw[sV];exact bm.out),HX,N⟩
          case measure=>simp[intOf];omega
      ·have cG:¬ ((k:Int)<(qs.length:Int)):=by omega
       have hL:t=My ls at' e:=by
        refine TX fun i=> ?_;by_cases hi:i<ls.length
        ·rw[cl.out i hi,JT (by have:=HQ.out;omega)]
        ·rw[KW.2 (by rw[bm.out];omega),KW.2 (by rw[ct.out.len];omega)]
       subst hL;have b7:=e4.out _ _ ct.out;rw[CT,cY]at b7;have ew:out.length+1≤1000000000:=by omega
       have HO:=V ew;have fb:=V b7;have eb:∀y∈out,y≠e:=fun y u h=>by
        have hQ:e∈jg ls at' j:=by rw[Ni al];simp
        have:=HM.out.low y u j (by have:=HQ.out;omega) e hQ;rw[h,It]at this;cases this
       clear cl bm e3 HS fc b7 al;go_upto_region 19 with(fail);rcases ud out with rfl|⟨q,y,rfl⟩
       ·refine Gb (fun _=>True) (fun a b=>Below a.heap.size a b) [0,1,2,3,4,5,6,7,8,9,10] [] [] (fun w=>mU _ _) (fun _ _ _=>vb) (fun _ _ _ _=>trivial) (by kernel_rfl) (by kernel_rfl) (fun _ _ _ _ _ h=>h) trivial ?_;simp only[QT,VT,MT,NT];iterate 11 (first|(refine db (by rfl) (fun K d=> ?_);go_simp;refine d _ ?_;clear d K)|(refine gb (by rfl) (fun K d=> ?_);apply Exists.intro;refine⟨fun w hw=> ?_,?_⟩;(next=>(first|(go_simp;rfl)|(obtain _:=hw;go_simp;rfl)|(obtain _:=hw;go_simp;done)|(go_simp;(fail))|(obtain _:=hw;go_simp;(fail))));go_simp;refine d _ ?_;clear d K))
        refine Eb ?_;intro F f;unfold Sb;have N:Y w o r (ba E 126 #[Pa e.Qa,Z e.Qb,Z e.pos]*(ua 126 3 (O T 0 P) 0 []*(vI ga qs.length (My ls at' e)*XC (O (some ⟨g,off,none⟩) qs.length c) qs ls))) F:=K.drew.below f;clear K f;obtain⟨c0,c1,c2⟩:=N.c3 E;obtain⟨f0,f1,f2⟩:=N.f3 E;go_wp2_with (at_builtin;go_loud (refine Oa (v:=O T 0 P) (Ku e) 1 N rfl rfl underlying137 hi hh ho rfl rfl rfl rfl (Im e) (by omega) (by rw[hr];omega) ?_);intro A' c' w6 K4);have K5:=K4.ya (A:=ua 126 3 (O A' (0+1) c') (0+1) ([]++Ku e)*(vI ga qs.length (My ls at' e)*XC (O (some ⟨g,off,none⟩) qs.length c) qs ls));go_roundw;case rel=>exact⟨[]++[e],A',c',My ls at' e,rfl,ct,K5⟩
        case measure=>have:=fb.out;simp at this;simp[uR];omega
       ·have KS:Y w o r (Fg T (q++[y]) P) wr:=(K.ya (A:=pN T P (q++[y]))).le c8;obtain⟨c9,a6,hF,_,e8,hc⟩:=KS.we T P (q++[y]) Ld q.length (by simp) (by decide);have fz:(q++[y])[q.length]'(by simp)=y:=by simp
        rw[fz]at e8 hc;have M:=e8 _ rfl;have p:=hc 1 _ rfl;have X:=hc 2 _ rfl;subst hF;have ds:=eb y (by simp);have hq:=CA y e;rw[yU ds]at hq;have z0:World.cell? _ _=some _:=K.cells E 0;have S:World.cell? _ _=some _:=K.cells E 1;have z2:World.cell? _ _=some _:=K.cells E 2;have en:(q++[y]).length=q.length+1:=by simp
        have k3:=V en;have hW:(q.length:Int)+1>0:=by omega
        have hX:IntKind.i64.wrap ((q.length:Int)+1-1)=(q.length:Int):=by rw[RT _ (by have:=HO.out;omega)];omega
        have hY:(q.length:Int)+1-1=(q.length:Int):=by omega
        have j2:IntKind.i64.wrap (q.length:Int)=(q.length:Int):=by rw[RT _ (by have:=HO.out;omega)]
        have ih:(q.length:Int)<(q.length:Int)+1:=by omega
        have z:Y w o r (ba E 126 #[Pa e.Qa,Z e.Qb,Z e.pos]*(ua 126 3 (O (some ⟨c9,a6,none⟩) (q.length+1) P) (q.length+1) (xc (q++[y]))*(vI ga qs.length (My ls at' e)*XC (O (some ⟨g,off,none⟩) qs.length c) qs ls))) wr:=by have h:=K;unfold pN Dk at h;rw[en]at h;exact h
        have hB:Hid (q.length+1+1≤1000000000):=V (by have:=HO.out;omega);clear eb hc e8 KS fz ds en K;refine Gb (fun W=>W.cell? ⟨c9,a6+q.length*3,none⟩=some (Pa y.Qa)∧W.cell? ⟨c9,a6+q.length*3+1,none⟩=some (Z y.Qb)∧W.cell? ⟨c9,a6+q.length*3+2,none⟩=some (Z y.pos)∧W.cell? ⟨E,0,none⟩=some (Pa e.Qa)∧W.cell? ⟨E,1,none⟩=some (Z e.Qb)∧W.cell? ⟨E,2,none⟩=some (Z e.pos)) (fun a b=>Below a.heap.size a b) [0,1,2,3,4,5,6,7,8,9,10] [] [] (fun w=>mU _ _) (fun _ _ _=>vb) (fun _ _ ⟨h2,R,h4,h5,h6,h7⟩ hb=>⟨Bb hb h2,Bb hb R,Bb hb h4,Bb hb h5,Bb hb h6,Bb hb h7⟩) (by kernel_rfl) (by kernel_rfl) (fun _ _ _ _ _ h=>h) ⟨M,p,X,z0,S,z2⟩ ?_;simp only[QT,VT,MT,NT];iterate 11 (first|(refine db (by rfl) (fun K d=> ?_);go_simp;refine d _ ?_;clear d K)|(refine gb (by rfl) (fun K d=> ?_);apply Exists.intro;refine⟨fun w hw=> ?_,?_⟩;(next=>(first|(go_simp;rfl)|(obtain⟨M,p,X,z0,S,z2⟩:=hw;go_simp;rfl)|(obtain⟨M,p,X,z0,S,z2⟩:=hw;go_simp;done)|(go_simp;(fail))|(obtain⟨M,p,X,z0,S,z2⟩:=hw;go_simp;(fail))));go_simp;refine d _ ?_;clear d K))
        refine Eb ?_;intro F f;unfold Sb;have N:=z.drew.below f;clear z M p X z0 S z2 f;obtain⟨c0,c1,c2⟩:=N.c3 E;obtain⟨f0,f1,f2⟩:=N.f3 E;go_wp2_with (at_builtin;go_loud (refine Oa (v:=O (some ⟨c9,a6,none⟩) (q.length+1) P) (Ku e) 1 N rfl rfl underlying137 hi hh ho rfl rfl rfl rfl (Im e) hB.out (by rw[hr];omega) ?_);intro A' c' w6 K4);have K5:=K4.ya (A:=ua 126 3 (O A' (q.length+1+1) c') (q.length+1+1) (xc (q++[y])++Ku e)*(vI ga qs.length (My ls at' e)*XC (O (some ⟨g,off,none⟩) qs.length c) qs ls));have el:(q++[y]++[e]).length=q.length+1+1:=by simp
        have ee:xc (q++[y]++[e])=xc (q++[y])++Ku e:=by simp[xc]
        rw[←el,←ee]at K5;go_roundw;case rel=>exact⟨q++[y]++[e],A',c',My ls at' e,by rw[el],ct,K5⟩
        case measure=>have:=fb.out;simp at this;simp[uR];omega
theorem pG:(prog.info? 137).map (fun i=>(i.zero,i.size,i.bytes))=some (some (O none 0 0),1,24):=by kernel_rfl
theorem Jr{l:List qa}(a:ub l=true)(h:Nat)(f t:Int):ub (ae l h f t)=true:=An.uc.2 ((An.uc.1 a).sublist xW)
theorem dx(l:List qa)(h:Nat)(f t:Int):(ae l h f t).length≤l.length:=DU _ _
def Vy(mem:List qa)(tl:Nat→List qa)(fl:List Nat)(h:Nat)(f t:Int)(k:Nat):List (List qa):=ae mem h f t::(fl.take k).map fun n=>ae (tl n) h f t
theorem ZI(mem:List qa)(tl:Nat→List qa){fl:List Nat}(h:Nat)(f t:Int){k:Nat}(a:k<fl.length):Vy mem tl fl h f t (k+1)=Vy mem tl fl h f t k++[ae (tl fl[k]) h f t]:=by unfold Vy;rw[MU,PT a,nX,tV];rfl
theorem Qs{α:Type}{B:Nat}:∀ {l:List (List α)},(∀x∈l,x.length≤B)→l.flatten.length≤l.length*B
 |[],_=>by simp
 |a::r,h=>by rw[oV,CT,UT,hZ];have:=Qs (l:=r) fun x b=>h x (TV _ b);have:=h a (iX ..);omega
theorem gN(X D rate:Nat)(m:Fa)(tl:Nat→List qa)(mem:List qa)(d:An.ja)(h:Nat)(fr to':Int)(hh:h<18446744073709551616)(cb: -9223372036854775808≤fr∧fr≤9223372036854775807)(j:Rd d m tl mem):Tr prog 69 #[Da X,Pa h,Z fr,Z to'] (Xd X D rate m tl mem*na D d) (fun v:Value=> .tuple #[v,Z 0]) (fun v=>ua 126 3 v (An.jk mem (An.ef m tl) h (max fr 0) (min to' 1073741824)).length (xc (An.jk mem (An.ef m tl) h (max fr 0) (min to' 1073741824)))*(Xd X D rate m tl mem*na D d)):=by
 intro w o r h0;have I0:=TZ h0;obtain⟨x,hx,I⟩:=I0.idx X D rate m tl mem;generalize ca:max fr 0=f at*;generalize cf:min to' 1073741824=t at*;have p:An.jk mem (An.ef m tl) h f t=Zc (Vy mem tl m.ia.flatten h f t m.ia.flatten.length):=by unfold An.jk Vy;rw[UU,CX];rfl
 obtain⟨E,hE⟩:∃E,An.jk mem (An.ef m tl) h f t=E:=⟨_,rfl⟩;rw[hE];rw[hE]at p;have bc:max f 0=f:=by omega
 have bn:min t 1073741824=t:=by omega
 have t65:=zr X (Da D) (Z m.next) (Z m.check) (Pa m.da) x.lv (.float .f64 rate) (.map (some x.M)) x.B;have t110:=CI x.B mem h f t (KT j.len (by omega)) j.ym;have t67:=xv x.lv m.ia (KT j.lv (by omega)) (KT j.fl (by omega));have hle:=Ik (X:=X) (D:=D) (rate:=rate) (tl:=tl) (mem:=mem) hx;have N:∀n T,n∈m.ia.flatten→(n,T)∈x.g→Tr prog 111 #[Da T,Pa h,Z f,Z t] (Od D tl x.g*na D d) (fun v:Value=> .tuple #[v,Z 0]) (fun v=>ua 126 3 v (ae (tl n) h f t).length (xc (ae (tl n) h f t))*(Od D tl x.g*na D d)):=fun n T hn W=>by have:=nJ T D n (tl n) d h f t hh ⟨by omega,by omega⟩ j.up (j.ko n hn);rw[bc,bn]at this;exact PL this W
 have P:=fun n hn=>(j.ko n hn).num;have y:∀k,∀l∈Vy mem tl m.ia.flatten h f t k,ub l=true∧l.length≤70000:=fun k l C=>by
  unfold Vy at C;rcases dU.1 C with rfl|C
  ·exact⟨Jr j.ym _ _ _,KT (dx _ _ _ _) j.len⟩
  ·obtain⟨n,hn,rfl⟩:=nU.1 C;have:=j.ko n (VV hn);exact⟨Jr this.ym _ _ _,KT (dx _ _ _ _) this.len⟩
 have ak:=j.fl;obtain⟨fl,av⟩:∃fl,m.ia.flatten=fl:=⟨_,rfl⟩;have aj:=hx.has;rw[av]at p t67 N P ak aj y;have b6:=V N;have HN:=V P;have HX:=V aj;have an:=V p;have b7:=V hx.nd;have al:=V y;obtain⟨i0,hi,bs,bt,c9⟩:=info_parts pG;have c6:w.cell? ⟨X,6,none⟩=some (Da x.B):=I.cells X 6;clear h0 I0 j av aj p N P hx hE y;go_enter func69,ntmps69;go_wp2_with fail;refine Y.ka I t65 fun mm=> ?_;have J:=I.drewN mm;clear I c6;generalize w.drewN mm=W1 at*;have c6:W1.cell? ⟨X,6,none⟩=some (Da x.B):=J.cells X 6;go_wp2_with fail;refine J.kc t110 fun w2 v0 R=> ?_;obtain⟨_,b,i,rfl⟩:=R.Cd v0;generalize aq:ae mem h f t=a at*;have K:=R.Wa (.cells #[O b a.length i] 137) w2.heap.size rfl;have K1:Y w o r (ua 137 1 (O (some ⟨w2.heap.size,0,none⟩) 1 1) 1 (([(b,a.length,i)]:List Sq).flatMap me)*(Ye [(b,a.length,i)] [a]*(ui X D rate m tl mem x*na D d))) (w2.alloc (.cells #[O b a.length i] 137)):=by have H:=K.ya (A:=Dk b a i*(ba w2.heap.size 137 #[O b a.length i]*(ui X D rate m tl mem x*na D d)));refine H.le (KZ (MZ (KZ c8 (KZ (Re _) (aa.le.Cx (qs:=[]) (L:=[])))) (MZ (j4 (e:=137) (sz:=1) (n:=1) (c:=1) (xs:=([(b,a.length,i)]:List Sq).flatMap me) (FT _) (by simp) rfl) (JZ _))) ?_);exact KZ PZ (KZ (MZ NZ (JZ _)) OZ)
 clear c6 J t110 t65 R K;have b0:Hid (Vy mem tl fl h f t 0=[a]):=V (by unfold Vy;rw[aq];rfl);clear aq;go_upto_region 5 with(fail);generalize w2.alloc (.cells #[O b a.length i] 137)=W3 at*;generalize w2.heap.size=gl at*;have c4:W3.cell? ⟨X,4,none⟩=some x.lv:=K1.cells X 4;go_wp2_with fail;refine K1.kc t67 fun w4 va H=> ?_;obtain⟨_,U,S,rfl⟩:=H.Cd va;have K3:Y w o r (ua 137 1 (O (some ⟨gl,0,none⟩) ([(b,a.length,i)]:List Sq).length 1) ([(b,a.length,i)]:List Sq).length (([(b,a.length,i)]:List Sq).flatMap me)*(Ye [(b,a.length,i)] [a]*(Hf U fl S*(ba X 131 (Lw D m rate x.lv x.B x.M)*(Ea x.lv m.ia*(gh x.B mem*(Ib prog 3 x.M (Rk (Sp x.g))*(Od D tl x.g*na D d)))))))) w4:=H.ya (A:=ua 137 1 (O (some ⟨gl,0,none⟩) 1 1) 1 (([(b,a.length,i)]:List Sq).flatMap me)*(Ye [(b,a.length,i)] [a]*(Hf U fl S*(ba X 131 (Lw D m rate x.lv x.B x.M)*(Ea x.lv m.ia*(gh x.B mem*(Ib prog 3 x.M (Rk (Sp x.g))*(Od D tl x.g*na D d))))))));have a1:∃ (q:Option Addr) (c2:Nat),O (some ⟨gl,0,none⟩) 1 1=O q ([(b,a.length,i)]:List Sq).length c2∧Y w o r (ua 137 1 (O q ([(b,a.length,i)]:List Sq).length c2) ([(b,a.length,i)]:List Sq).length (([(b,a.length,i)]:List Sq).flatMap me)*(Ye [(b,a.length,i)] [a]*(Hf U fl S*(ba X 131 (Lw D m rate x.lv x.B x.M)*(Ea x.lv m.ia*(gh x.B mem*(Ib prog 3 x.M (Rk (Sp x.g))*(Od D tl x.g*na D d)))))))) w4:=⟨some ⟨gl,0,none⟩,1,rfl,K3⟩;have HG:=V a1;clear c4 K1 H K3 t67 a1;go_wp2_with fail;go_loopw [10,37] (fun x0 x1 wr=>∃ (k:Nat) (qs:List Sq) (ls:List (List qa)) (q:Option Addr) (c2:Nat),x1=Z k∧x0=O q qs.length c2∧k≤fl.length∧qs.length=k+1∧Hid (Vy mem tl fl h f t k=ls)∧Y w o r (ua 137 1 (O q qs.length c2) qs.length (qs.flatMap me)*(Ye qs ls*(Hf U fl S*(ba X 131 (Lw D m rate x.lv x.B x.M)*(Ea x.lv m.ia*(gh x.B mem*(Ib prog 3 x.M (Rk (Sp x.g))*(Od D tl x.g*na D d)))))))) wr) (fun _ x1 _=>fl.length-(intOf x1).toNat);case atStart=>obtain⟨q,c2,h1,h2⟩:=HG.out;exact⟨0,[(b,a.length,i)],[a],q,c2,rfl,h1,WT _,rfl,b0,h2⟩
 case round=>
  obtain⟨k,qs,ls,q,c2,rfl,rfl,hk,a8,z,J⟩:=hrel;clear HG b0;by_cases a7:k<fl.length
  ·have bf:(k:Int)<(fl.length:Int):=by omega
   obtain⟨g,rfl,hc⟩:=J.Mc (A:=U) (c:=S) (n:=fl.length) (xs:=nv fl) (e:=3) (sz:=1) (by intro e;have:=Kk fl;rw[e]at this;simp at this;omega);have b9:wr.cell? ⟨g,k,none⟩=some (Z (fl[k]:Nat)):=hc k _ (zh fl k a7);have c7:wr.cell? ⟨X,7,none⟩=some (.map (some x.M)):=J.cells X 7;have s:=XT a7;obtain⟨T,W⟩:=HX.out _ s;have cc:=HN.out _ s;have a6:=(Az (t:=129) (e:=135) J x.M fl[k] (l:=Sp x.g) (by omega) underlying129 Mw).2;rw[px b7.out W]at a6;dsimp only at a6;have t111:=b6.out _ T s W;have hs:=ZI mem tl h f t a7;rw[z.out]at hs;have HS:=V hs;have HQ:=V a8;have bm:Hid (qs.length+1≤1000000000):=V (by omega);clear hc s W hs z a8;generalize fl[k]=n at*;generalize ae (tl n) h f t=F at*;go_wp2_with fail;refine J.kc t111 fun w5 v5 R=> ?_;obtain⟨_,G,c5,rfl⟩:=R.Cd v5;clear b9 c7 a6 J t111;go_wp2_with (at_builtin;go_loud (refine Oa (v:=O q qs.length c2) [O G F.length c5] 1 R rfl rfl underlying190 hi bs bt rfl rfl rfl rfl (by intro u hu;rw[lU.1 hu];rfl) bm.out (by rw[c9];omega) ?_);intro A' c' w6 K4);go_roundw;case rel=>
    refine⟨k+1,qs++[(G,F.length,c5)],ls++[F],A',c',by go_num,by rw[CT];rfl,by omega,by rw[CT,HQ.out];rfl,HS,?_⟩;have e1:(qs++[((G,F.length,c5):Sq)]).length=qs.length+1:=by simp
    have e2:(qs++[((G,F.length,c5):Sq)]).flatMap me=qs.flatMap me++[O G F.length c5]:=by simp[me]
    rw[e1,e2];have K5:=K4.ya (A:=Dk G F c5*(Ye qs ls*(ua 137 1 (O A' (qs.length+1) c') (qs.length+1) (qs.flatMap me++[O G F.length c5])*(Hf (some ⟨g,0,none⟩) fl S*(ba X 131 (Lw D m rate x.lv x.B x.M)*(Ea x.lv m.ia*(gh x.B mem*(Ib prog 3 x.M (Rk (Sp x.g))*(Od D tl x.g*na D d)))))))));exact(K5.le (KZ PZ (KZ (MZ (KZ NZ (KZ (MZ (JZ _) c8) aa.le.Cx)) (JZ _)) (KZ PZ (KZ (MZ NZ (JZ _)) OZ)))))
   case measure=>simp[intOf];omega
  ·have bf:¬ ((k:Int)<(fl.length:Int)):=by omega
   have aM:k=fl.length:=by omega
   have b5:E=Zc ls:=by rw[an.out,←aM,z.out]
   have Q:=al.out k;rw[z.out]at Q;have hlen:qs.length=ls.length:=by obtain⟨o',r',hp,_⟩:=J.le (KZ NZ (KZ QZ QZ));exact aa.uw hp
   have t112:=WC (O q qs.length c2) qs ls (by omega) (fun l C=>(Q l C).1) (KT (Qs (B:=70000) fun l C=>(Q l C).2) (by omega));rw[←b5]at t112;have K:=(J.ya (A:=ua 137 1 (O q qs.length c2) qs.length (qs.flatMap me)*(Ye qs ls*(ui X D rate m tl mem x*na D d)))).le (KZ (MZ c8 (JZ _)) PZ);clear J al Q b5 an z hlen aM a8;go_wp2_with fail;refine K.kc t112 fun w5 v5 H=> ?_;go_wp2;go_ret2;exact⟨v5,rfl,(H.ya (A:=(ui X D rate m tl mem x*na D d)*ua 126 3 v5 E.length (xc E))).le (KZ (MZ (MZ hle (JZ _)) (JZ _)) NZ)⟩
end
end Go.Proofs.YteacbkflfafefaaGreatDoor
