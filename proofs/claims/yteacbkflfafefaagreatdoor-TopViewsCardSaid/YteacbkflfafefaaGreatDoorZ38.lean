/- Part 39 of 50 of the proof that TopViews returns true at every input: lemmas on the way; no condition. -/
import Derived.Test.YteacbkflfafefaaGreatDoorZ34
import Derived.Test.YteacbkflfafefaaGreatDoorZ35
import Derived.Test.YteacbkflfafefaaGreatDoorZ36
namespace Go.Proofs.YteacbkflfafefaaGreatDoor
set_option linter.all false
set_option maxHeartbeats 1000000
set_option maxRecDepth 100000
section
open Go.RowKit An Go.ChangeShapes Go.WideShapes Go.ChangeAt Go.Proofs.Tryz
theorem An.Tc.rd{da K y:Nat}{d:An.ja}{bs:List Za}{P:Ma}{m:Fa}{tl:Nat→List qa}{mem:List qa}(h:Tc da K d bs P y m tl mem)(a:da<18446744073709551616)(e:K≤90):Rd d m tl mem:=by have c:=Dc.1 h.gi.valid;have b:=mi.1 c.2.2.1;exact⟨h.up,h.AS a e,h.ym,(h.JO a).1,b.1,b.2.1⟩
def VB(bs:List Za)(s:Bs)(fr to':Int):List An.yc:=(Qf s (Ja bs)).filter fun t=>decide (fr≤(t.Qb:Int)∧(t.Qb:Int)≤to')
theorem Gu(S L X D rate da:Nat)(st:Int)(x:OS){d:An.ja}{K:Nat}{bs:List Za}(a:Tc da K d bs x.P x.y x.m x.tl x.mem)(l:da<18446744073709551616)(U:K≤90)(ak:d.za=st)(s:Bs)(N:s.length≤100000000)(fr to':Int)(aj: -9223372036854775808≤fr∧fr≤9223372036854775807):Tr prog 32 #[Da S,.string (mk s),.int .i64 fr,.int .i64 to'] (Eh S L X D rate da st x d) (fun v:Value=> .tuple #[v,.int .i64 0]) (fun v=>ua 58 5 v (VB bs s fr to').length (Vb (VB bs s fr to'))*Eh S L X D rate da st x d):=by
 intro w o r h0;have I:=TZ h0;have t30:=PA da s l N;have t69:=gN X D rate x.m x.tl x.mem d (An.Qa da s) fr to' (An.br _ _ l) aj (a.rd l U);have u:=a.Kh s fr to';unfold An.Kh at u;obtain⟨E,G⟩:∃E,An.jk x.mem (An.ef x.m x.tl) (An.Qa da s) (max fr 0) (min to' 1073741824)=E:=⟨_,rfl⟩;rw[G]at t69 u;have H:∀e∈E,∃ (q:Nat×Bs) (b:Za) (i:Nat) (hi:i<b.vc.length),q∈ab x.P∧q.2=Sa b∧ow b∧e=⟨e.Qa,b.first+i,q.1⟩∧found x.P s e=(if b.stream=s then some ⟨s,b.first+i,b.vc[i]⟩else none):=by
  intro e he;rw[←G]at he;have p:=(a.Kn _).1 (An.Gq.1 he).1;obtain⟨k,W,i,hi,a8⟩:=a.holds.BQ.1 p;have bc:k<(ab x.P).length:=by rw[a.holds.ab];exact W
  refine⟨(ab x.P)[k],bs[k],i,hi,XT _,a.holds.at W,a.holds.ok _ (XT W),?_,?_⟩
  ·rw[a8]
  ·rw[a8];exact a.holds.found a.log.size W s hi
 have a1:∀ (e:qa) (q:Nat×Bs) (b:Za) (i:Nat) (hi:i<b.vc.length),q∈ab x.P→q.2=Sa b→ow b→Ud prog 70 #[Da S,bj ⟨e.Qa,b.first+i,q.1⟩,.string (mk s)] (Eh S L X D rate da st x d) (Mo (if b.stream=s then some ⟨s,b.first+i,b.vc[i]⟩else none)) (Eh S L X D rate da st x d):=fun e q b i hi F p h3=>fO S L X D rate da st x d a.up ak a.log q F b h3 p e.Qa i hi s;have t70:∀e∈E,Ud prog 70 #[Da S,.agg #[.int .u64 e.Qa,.int .i64 e.Qb,.int .i64 e.pos],.string (mk s)] (Eh S L X D rate da st x d) (Mo (found x.P s e)) (Eh S L X D rate da st x d):=fun e he=>by obtain⟨q,b,i,hi,F,p,h3,h4,h5⟩:=H e he;have:=a1 e q b i hi F p h3;rw[←h5]at this;rw[←h4]at this;exact this
 have hlen:E.length≤70000:=by
  have F:∀e∈E,e∈ld da (ab x.P):=fun e he=>by rw[←G]at he;exact(a.Kn _).1 (An.Gq.1 he).1
  have p:ub E=true:=by rw[←G];exact Ef _
  exact An.Ll a.holds a.log.size a.log.sub p F
 obtain⟨B,hB⟩:∃B,VB bs s fr to'=B:=⟨_,rfl⟩;rw[hB];have a6:E.filterMap (found x.P s)=B:=u.trans hB;have HB:=V a6;have aq:=V t70;obtain⟨i0,hi,b5,b6,b7⟩:=info_parts Po;generalize An.Qa da s=h at*;clear h0 G u H a1 t70 a6 hB a ak aj N l;have n:w.cell? ⟨S,1,none⟩=some (Da X):=I.cells S 1;have c2:w.cell? ⟨S,2,none⟩=some (.int .u64 da):=I.cells S 2;have q1:=IT n;have q2:=IT c2;go_enter func32,ntmps32;go_upto_region 1 with(fail);refine Hc [0,4,8,10,11] [1,2,3,5,6,7,9] 12 [13,14,15,16,17] (by kernel_rfl) (by kernel_rfl) (by rfl) (fun _ _ _ _ _ h=>h) ?_;simp only[QT,VT,MT,NT];dsimp only[Ub];go_simp;repeat (quiet_step ((go_at_call 30;refine gU (t30.pu _))))
 refine fU ?_;first|(rintro _ ⟨z,rfl⟩)|(intro z)
 have a7:=jU w z.d z.os;generalize Go.Sort.grow (redrawn w z.d) z.os=wq at*;clear z;intro K U;go_simp;have J:=I.below a7;clear q1 q2 n c2 I a7;refine J.kc t69 fun w2 v J2=> ?_;go_simp;refine U _ _ ?_;clear U K;repeat (quiet_step (fail))
 refine fU ?_;obtain⟨_,R,n,rfl⟩:=J2.Cd v;have K0:Y w o r (ua 58 5 (.slice none 0 0) 0 (Vb [])*(ua 126 3 (.slice R E.length n) E.length (xc E)*Eh S L X D rate da st x d)) w2:=(J2.ya (A:=ua 126 3 (.slice R E.length n) E.length (xc E)*Eh S L X D rate da st x d)).le (KZ (RZ trivial) (MZ (j0 58 5) (JZ _)));clear J J2 t30 t69;go_wp2_with fail;go_loopw [12,39] (fun b9 Q wr=>∃ (j:Nat) (acc:List An.yc) (A:Option Addr) (c:Nat),Q= .int .i64 j∧b9= .slice A acc.length c∧j≤E.length∧acc.length≤j∧Hid ((E.take j).filterMap (found x.P s)=acc)∧Y w o r (ua 58 5 (.slice A acc.length c) acc.length (Vb acc)*(ua 126 3 (.slice R E.length n) E.length (xc E)*Eh S L X D rate da st x d)) wr) (fun _ Q _=>E.length-(intOf Q).toNat);case atStart=>exact⟨0,[],none,0,rfl,rfl,WT _,FT _,V rfl,K0⟩
 case round=>
  obtain⟨j,acc,A,c,rfl,rfl,hj,av,HA,J⟩:=hrel;clear K0;by_cases M:j<E.length
  ·have b0:(j:Int)<(E.length:Int):=by omega
   obtain⟨g,off,rfl,_,al,hx⟩:=(J.le (KZ NZ (KZ QZ (KZ QZ c8)))).we R n E Ld j M (by decide);have x0:=al _ rfl;have x1:=hx 1 _ rfl;have x2:=hx 2 _ rfl;have hg:=PT M;have t70:=aq.out _ (XT M);have N:(E.take (j+1)).filterMap (found x.P s)=acc++((found x.P s E[j]).toList):=by rw[MU,hg,List.filterMap_append,HA.out];cases hf:found x.P s E[j]<;>simp[hf]
   have HS:=V N;have aM:Hid (acc.length+1≤1000000000):=V (by omega);clear al hx N HA hg;generalize E[j]=e at*;generalize found x.P s e=f at*;have K:=J.Wa (.cells #[.int .u64 e.Qa,.int .i64 e.Qb,.int .i64 e.pos] 126) wr.heap.size rfl;go_upto_region 8 with(fail);generalize wr.alloc (.cells #[.int .u64 e.Qa,.int .i64 e.Qb,.int .i64 e.pos] 126)=W1 at*;generalize wr.heap.size=r1 at*;obtain⟨y0,y1,y2⟩:=K.c3 r1;clear x0 x1 x2 J;cases f with
   |none=>
    unfold Mo OM at t70;dsimp only at t70;go_wp2_with fail;refine(K.Fm t70).mono ?_;rintro e' w5 ⟨rfl,C⟩;have T:=C.alloc (.cells #[.string ⟨#[]⟩,.int .i64 0,.string ⟨#[]⟩,.string ⟨#[]⟩,.float .f64 0] 58);clear y0 y1 y2 K C t70;go_wp2_with fail;go_roundw;case rel=>exact⟨j+1,acc,A,c,by go_num,rfl,by omega,by omega,V (by rw[HS.out];simp),T.ya⟩
    case measure=>simp[intOf];omega
   |some t=>
    unfold Mo dw bh at t70;dsimp only at t70;go_wp2_with fail;refine(K.Fm t70).mono ?_;rintro e' w5 ⟨rfl,C⟩;clear y0 y1 y2 K t70;have T:=C.Wa (.cells #[.string (mk t.stream),.int .i64 t.Qb,.string (mk t.ev.Xi),.string (mk t.ev.data),.float .f64 t.ev.w] 58) w5.heap.size rfl;go_upto_region 12 with(fail);generalize w5.alloc (.cells #[.string (mk t.stream),.int .i64 t.Qb,.string (mk t.ev.Xi),.string (mk t.ev.data),.float .f64 t.ev.w] 58)=W6 at*;generalize w5.heap.size=r5 at*;obtain⟨z0,z1,z2,z3,z4⟩:=T.c5 r5;clear C;go_wp2_with (at_builtin;go_loud (refine Oa (v:=.slice A acc.length c) (bh t) 1 T rfl rfl underlying44 hi b5 b6 rfl rfl rfl rfl (uo t) aM.out (by rw[b7];omega) ?_);intro A' c' w6 K4);go_roundw;case rel=>exact⟨j+1,acc++[t],A',c',by go_num,by rw[CT];rfl,by omega,by rw[CT];exact aW av,V (by rw[HS.out];rfl),by
     have e1:(acc++[t]).length=acc.length+1:=by simp
     have e2:Vb (acc++[t])=Vb acc++bh t:=by simp[Vb]
     rw[e1,e2];exact K4.ya⟩
    case measure=>simp[intOf];omega
  ·have b0:¬ ((j:Int)<(E.length:Int)):=by omega
   have an:acc=B:=by rw[←HB.out,←HA.out,YT (by omega)]
   subst an;go_wp2_with fail;go_ret2;exact⟨.slice A acc.length c,rfl,J.ya⟩
def ah(s:Bs):Nat:=if ad s then 0 else 2
def Pr(bs:List Za)(s:Bs):Int:=if ad s then((Qf s (Ja bs)).length:Int)-1 else-1
theorem DE(mem:List qa)(ls:List (List qa))(h:Nat)(u:Int): -1≤An.Zf mem ls h u:=CZ (zx mem h u) (An.Xk ls h u _).1
theorem tB(S L X D rate da:Nat)(st:Int)(x:OS){d:An.ja}{K:Nat}{bs:List Za}(b:Tc da K d bs x.P x.y x.m x.tl x.mem)(a:da<18446744073709551616)(hK:K≤90)(l:d.za=st)(s:Bs)(F:s.length≤100000000):Ud prog 12 #[Da S,Ha s] (Eh S L X D rate da st x d) (.tuple #[Z (Pr bs s),Z (ah s)]) (Eh S L X D rate da st x d):=by
 intro w o r B;have I:=TZ B;have t25:=Wm S L X (Pa da);have t29:=BD s (by omega);have t30:=PA da s a F;unfold Pr ah;have k:=b.rd a hK;cases g:ad s with
 |false=>rw[g]at t29;clear B;simp only[KV,RX];go_enter func12,ntmps12;go_wp2_with fail;refine Y.ka I t25 fun m=> ?_;have J:=I.drewN m;clear I;go_wp2_with fail;refine J.kp t29.pu fun w' f=> ?_;go_wp2;go_ret2;exact⟨rfl,f⟩
 |true=>
  rw[g]at t29;simp only[dZ];obtain⟨h,hh⟩:∃h,An.Qa da s=h:=⟨_,rfl⟩;rw[hh]at t30;have j:h<18446744073709551616:=hh▸An.br _ _ a;have key:∀u:Int,uv bs s u→u≤1073741824→ -2≤u→∃v:Int,Ud prog 31 #[Da X,Pa h,Z u] (Xd X D rate x.m x.tl x.mem*na D d) (.tuple #[Z v,Z 0]) (Xd X D rate x.m x.tl x.mem*na D d)∧ -1≤v∧v≤max (-1) u∧(v<0→((Qf s (Ja bs)).length:Int)-1= -1)∧(0≤v→(VB bs s v v≠[]→v=((Qf s (Ja bs)).length:Int)-1)∧(VB bs s v v=[]→uv bs s (v-1))):=by
   intro u hu h1 h2;have t31:=XP X D rate x.m x.tl x.mem d h u j k;rw[show min u 1073741824=u by omega]at t31;refine⟨_,t31,DE _ _ _ _,b.xO,fun C=> ?_,fun C=>⟨fun E=> ?_,fun E=> ?_⟩⟩
   ·rw[←hh]at C;rw[b.nI hu C];rfl
   ·have:=b.oI hu (by rw[hh,b.Kh];exact E);rw[hh]at this;exact this
   ·have:=b.mI hu (by rw[hh,b.Kh];exact E);rw[hh]at this;exact this
  have p:uv bs s 1073741824:=fun t ht=>by have:=b.wu (Rm.1 ht).1;omega
  have t32:=fun v G=>Gu S L X D rate da st x b a hK l s F v v G;have Q:=V key;have T:=V p;have a1:=V t32;obtain⟨N,hN⟩:∃N,((Qf s (Ja bs)).length:Int)-1=N:=⟨_,rfl⟩;rw[hN]at Q⊢;clear B g key p t32 k b a hh j l F hN;have c2:w.cell? ⟨S,2,none⟩=some (Pa da):=I.cells S 2;go_enter func12,ntmps12;go_wp2_with fail;refine Y.ka I t25 fun m=> ?_;have J:=I.drewN m;clear I c2;go_wp2_with fail;refine J.kp t29.pu fun w1 f=> ?_;have c2:w1.cell? ⟨S,2,none⟩=some (Pa da):=f.cells S 2;clear J t29 t25;go_wp2_with fail;refine f.kp t30.pu fun w2 W=> ?_;have K0:Y w o r (Eh S L X D rate da st x d) w2:=W;clear f W t30 c2;go_wp2_with fail;go_loopw [7] (fun H wr=>∃u:Int,H=Z u∧Hid (uv bs s u)∧u≤1073741824∧ -2≤u∧Y w o r (Eh S L X D rate da st x d) wr) (fun H _=>(intOf H+3).toNat);case atStart=>exact⟨1073741824,rfl,T,by omega,by omega,K0⟩
  case round=>
   obtain⟨u,rfl,hu,h1,h2,K⟩:=hrel;clear K0 T;obtain⟨v,t31,v1,v2,v3,v4⟩:=Q.out u hu.out h1 h2;have c1:wr.cell? ⟨S,1,none⟩=some (Da X):=K.cells S 1;have H3:=V v3;have M:=V v4;clear v3 v4 hu;go_wp2_with fail;refine K.k1 t31 fun w3 z=> ?_;clear K t31 c1;by_cases G:v<0
   ·have e:=H3.out G;go_wp2;go_ret2;exact⟨by rw[e];rfl,z.ya⟩
   ·have t32:=a1.out v (by omega);go_wp2_with fail;refine z.kc t32 fun w4 vv i=> ?_;obtain⟨_,A,c,rfl⟩:=i.Cd vv;clear z t32;by_cases hb:VB bs s v v=[]
    ·have q:=(M.out (by omega)).2 hb;have a6:¬ ((VB bs s v v).length:Int)>0:=by rw[hb];simp
     have U:=V q;have a7:IntKind.i64.wrap (v-1)=v-1:=RT _ (by omega);clear q;go_wp2;go_roundw;case rel=>exact⟨v-1,rfl,U,by omega,by omega,i.ya⟩
     case measure=>simp[intOf];omega
    ·have hlen:0<(VB bs s v v).length:=xV.2 hb;have e:=(M.out (by omega)).1 hb;have R:=V e;have K4:Y w o r (Eh S L X D rate da st x d) w4:=i.ya;clear e hb i;generalize(VB bs s v v).length=n at*;have a6:(n:Int)>0:=by omega
     go_wp2;go_ret2;exact⟨by rw[←R.out];rfl,K4⟩
def Qp(bs:List Za)(s:Bs)(fr n:Int):List An.yc:=if pc s fr n=0 then Tg (Qf s (Ja bs)) fr.toNat n.toNat else []
def Vp(bs:List Za)(s:Bs)(fr n:Int):List An.yc:=if pc s fr n=0 then Bh (Qf s (Ja bs)) fr.toNat n else []
theorem An.Tc.QG{da K y:Nat}{d:An.ja}{bs:List Za}{P:Ma}{m:Fa}{tl:Nat→List qa}{mem:List qa}(h:Tc da K d bs P y m tl mem)(s:Bs):(Qf s (Ja bs)).length≤1073741824:=by
 cases c:(Qf s (Ja bs)).length with
 |zero=>omega
 |succ n=>have a:=h.qj.MF s n (by omega);have b:=h.wu (Rm.1 (XT (l:=Qf s (Ja bs)) (n:=n) (by omega))).1;omega
theorem Rr{s:Bs}{fr n:Int}(h:pc s fr n=0):ad s=true∧0≤fr∧1≤n:=by
 unfold pc at h;split at h
 ·cases h
 ·rename_i a;simp only[lZ,Bool.not_eq_false,Int.not_lt]at a;exact a
theorem yj{S:aa}:aa.le S (ua 58 5 (O none 0 0) ([]:List An.yc).length (Vb [])*S):=KZ (RZ trivial) (MZ (j0 58 5) (JZ _))
theorem yz(S L X D rate da:Nat)(st:Int)(x:OS){d:An.ja}{K:Nat}{bs:List Za}(b:Tc da K d bs x.P x.y x.m x.tl x.mem)(a:da<18446744073709551616)(q:K≤90)(p:d.za=st)(s:Bs)(z:s.length≤100000000)(fr n:Int)(M:n≤9223372036854775807):Tr prog 13 #[Da S,Ha s,Z fr,Z n] (Eh S L X D rate da st x d) (fun v:Value=> .tuple #[v,Z (pc s fr n)]) (fun v=>ua 58 5 v (Qp bs s fr n).length (Vb (Qp bs s fr n))*Eh S L X D rate da st x d):=by
 intro w o r j;have I:=TZ j;have t33:=YL S L X (Pa da) s fr n (by omega);clear j;by_cases f:pc s fr n=0
 ·obtain⟨C,G,H⟩:=Rr f;have hF:Qp bs s fr n=Tg (Qf s (Ja bs)) fr.toNat n.toNat:=by unfold Qp;rw[JT f]
  rw[f]at t33⊢;by_cases u:fr>1073741824
  ·have g:Qp bs s fr n=[]:=by
    rw[hF];unfold Tg;have:(Qf s (Ja bs)).filter (fun t=>decide (fr.toNat≤t.Qb))=[]:=WU.2 fun t B=>by have:=b.wu (Rm.1 B).1;simp;omega
    rw[this];exact List.take_nil
   rw[g];clear hF g b a;go_enter func13,ntmps13;go_wp2_with fail;refine Y.ka I t33 fun m=> ?_;go_wp2;go_ret2;exact⟨O none 0 0,rfl,(I.drewN m).le yj⟩
  ·have hb:VB bs s fr (fr+min n 1073741824-1)=Qp bs s fr n:=by rw[hF,←IK (b.qj.runs s) (b.QG s) fr.toNat n.toNat (by omega)];unfold VB;apply lW;intro t _;rw[eX];omega
   have t32:=Gu S L X D rate da st x b a q p s z fr (fr+min n 1073741824-1) (by omega);rw[hb]at t32;have l:1≤min n 1073741824∧min n 1073741824≤1073741824:=by omega
   obtain⟨e,h⟩:∃e,min n 1073741824=e:=⟨_,rfl⟩;rw[h]at l t32;have E:IntKind.i64.wrap (fr+e)=fr+e:=(il ⟨by omega,by omega⟩).1;have F:IntKind.i64.wrap (fr+e-1)=fr+e-1:=(il ⟨by omega,by omega⟩).1;clear hF hb b a;go_enter func13,ntmps13;go_wp2_with fail;refine Y.ka I t33 fun m=> ?_;have J:=I.drewN m;clear I;go_wp2_with fail;refine J.kc t32 fun w2 v i=> ?_;obtain⟨_,A,c,rfl⟩:=i.Cd v;go_wp2;go_ret2;exact⟨O A (Qp bs s fr n).length c,rfl,i.ya⟩
 ·have hF:Qp bs s fr n=[]:=by unfold Qp;rw[DT f]
  rw[hF];obtain⟨c,k⟩:∃c,pc s fr n=c:=⟨_,rfl⟩;rw[k]at f t33⊢;have N:(((c:Nat):Int)==0)=false:=by rw[ET];omega
  have Q:((c:Int) !=0)=true:=by rw[CU];omega
  clear hF b a;go_enter func13,ntmps13;go_wp2_with fail;refine Y.ka I t33 fun m=> ?_;go_wp2;go_ret2;exact⟨O none 0 0,rfl,(I.drewN m).le yj⟩
end
section
open Go.RowKit An Go.ChangeShapes Go.WideShapes Go.ChangeAt Go.Proofs.Tryz
theorem ry:∀ (l:List An.yc) (i:Nat) (t:An.yc),(((((Vb l).set (i*5) (Ha t.stream)).set (i*5+1) (Z t.Qb)).set (i*5+2) (Ha t.ev.Xi)).set (i*5+3) (Ha t.ev.data)).set (i*5+4) (.float .f64 t.ev.w)=Vb (l.set i t)
 |[],_,_=>by simp[Vb]
 |a::r,0,t=>by simp[Vb,bh]
 |a::r,i+1,t=>by
  have h:=ry r i t;have e:∀ (b:An.yc) (q:List An.yc),Vb (b::q)=bh b++Vb q:=fun b q=>rfl;rw[List.set_cons_succ,e,e,←h];have s:∀ (x:List Value) (k:Nat) (u:Value),(bh a++x).set (5+k) u=bh a++x.set k u:=fun x k u=>by rw[dY _ _ (by rw[Ue];omega),Ue];congr 2;omega
  rw[show(i+1)*5=5+i*5 by omega,s,show 5+i*5+1=5+(i*5+1) by omega,s,show 5+i*5+2=5+(i*5+2) by omega,s,show 5+i*5+3=5+(i*5+3) by omega,s,show 5+i*5+4=5+(i*5+4) by omega,s]
section
variable {w0 w:World}{o0 r0:Td}{S R:aa}{n c:Nat}{l:List An.yc}
theorem Y.CB(h:Y w0 o0 r0 S w){A:Option Addr}[k:Gd (O A n c) S 58 5 n (Vb l) R]{i:Nat}(hi:i<l.length):∃g,A=some ⟨g,0,none⟩∧w.cell? ⟨g,i*5,none⟩=some (Ha l[i].stream)∧w.cell? ⟨g,i*5+1,none⟩=some (Z l[i].Qb)∧w.cell? ⟨g,i*5+2,none⟩=some (Ha l[i].ev.Xi)∧w.cell? ⟨g,i*5+3,none⟩=some (Ha l[i].ev.data)∧w.cell? ⟨g,i*5+4,none⟩=some (.float .f64 l[i].ev.w):=by obtain⟨g,d,a⟩:=h.Mc (A:=A) (c:=c) (n:=n) (xs:=Vb l) (e:=58) (sz:=5) (by intro e;have:=FF l;rw[e]at this;simp at this;omega);have b:∀j,j<5→(Vb l)[i*5+j]? =(bh l[i])[j]? :=fun j f=>vh Ue l i j hi f;exact⟨g,d,a _ _ (b 0 (by decide)),a _ _ (b 1 (by decide)),a _ _ (b 2 (by decide)),a _ _ (b 3 (by decide)),a _ _ (b 4 (by decide))⟩
theorem Y.Iw(h:Y w0 o0 r0 S w){g:Nat}[k:Gd (O (some ⟨g,0,none⟩) n c) S 58 5 n (Vb l) R](i:Nat)(t:An.yc):Y w0 o0 r0 (ua 58 5 (O (some ⟨g,0,none⟩) n c) n (Vb (l.set i t))*R) (((((w.setCell ⟨g,i*5,none⟩ (Ha t.stream)).setCell ⟨g,i*5+1,none⟩ (Z t.Qb)).setCell ⟨g,i*5+2,none⟩ (Ha t.ev.Xi)).setCell ⟨g,i*5+3,none⟩ (Ha t.ev.data)).setCell ⟨g,i*5+4,none⟩ (.float .f64 t.ev.w)):=by rw[←ry];exact((((((h.Nk (g:=g) (c:=c) (n:=n) (i*5) (Ha t.stream)).1).Nk (g:=g) (c:=c) (n:=n) (i*5+1) (Z t.Qb)).1).Nk (g:=g) (c:=c) (n:=n) (i*5+2) (Ha t.ev.Xi)).1.Nk (g:=g) (c:=c) (n:=n) (i*5+3) (Ha t.ev.data)).1.Nk (g:=g) (c:=c) (n:=n) (i*5+4) (.float .f64 t.ev.w)|>.1
theorem Y.De(h:Y w0 o0 r0 S w){g:Nat}[k:Gd (O (some ⟨g,0,none⟩) n c) S 58 5 n (Vb l) R](i:Nat):w.frozen? ⟨g,i,none⟩=false:=(h.Nk (g:=g) (c:=c) (n:=n) i (Z 0)).2
end
theorem po:∀ {bs:List Za},(∀b∈bs,ow b)→(Ja bs).length≤8*bs.length
 |[],_=>FT _
 |b::r,h=>by have d:=po (bs:=r) fun x a=>h x (.tail _ a);have e:=(Hd (h b (.head _)).check).2.2.2.1;have f:=bk b;show(Kf b++Ja r).length≤_;rw[CT,UT];omega
structure xJ(l cur:List An.yc)(i:Nat):Prop where
 len:cur.length=l.length
 get:∀k,k<l.length→cur[k]? =if k<i∨l.length-1-i<k then l[l.length-1-k]? else l[k]?
theorem xJ.start(l:List An.yc):xJ l l 0:=⟨rfl,fun k a=>by rw[DT (by omega)]⟩
theorem xJ.step{l a:List An.yc}{i:Nat}(h:xJ l a i)(hi:2*i+1<l.length)(j:i<a.length)(m:l.length-1-i<a.length):xJ l ((a.set i a[l.length-1-i]).set (l.length-1-i) a[i]) (i+1):=by
 refine⟨by rw[sV,sV];exact h.len,fun k o=> ?_⟩;have p:=h.len;have e:=h.get i (by omega);have f:=h.get (l.length-1-i) (by omega);rw[DT (by omega),PT j]at e;rw[DT (by omega),PT m]at f;rw[WX,sV];by_cases b:l.length-1-i=k
 ·rw[JT b,JT (by omega),JT (by omega),e];congr 1;omega
 ·rw[DT b,WX];by_cases d:i=k
  ·rw[JT d,JT (by omega),JT (by omega),f];congr 1;omega
  ·rw[DT d,h.get k o];by_cases g:k<i∨l.length-1-i<k
   ·rw[JT g,JT (by omega)]
   ·rw[DT g,DT (by omega)]
theorem xJ.done{l a:List An.yc}{i:Nat}(h:xJ l a i)(hi:l.length≤2*i+1):a=l.reverse:=by
 apply TX;intro k;by_cases b:k<l.length
 ·rw[h.get k b,List.getElem?_reverse b];split
  ·rfl
  ·congr 1;omega
 ·rw[dW (by rw[h.len];omega),dW (by rw[EV];omega)]
theorem YI(A:Option Addr)(c:Nat)(l:List An.yc)(W:l.length≤1000000000):Ud prog 34 #[O A l.length c] (Zg A l c) (.tuple #[]) (ua 58 5 (O A l.length c) l.length (Vb l.reverse)):=by
 intro w o r p;have I:=TZ p;clear p;go_enter func34,ntmps34;go_wp2_with fail;go_loopw [2,3] (fun e x wr=>∃ (i:Nat) (cur:List An.yc),e=Z i∧x=Z ((l.length:Int)-1-i)∧i≤l.length∧Hid (xJ l cur i)∧Y w o r (ua 58 5 (O A l.length c) l.length (Vb cur)) wr) (fun e _ _=>l.length-(intOf e).toNat);case atStart=>exact⟨0,l,rfl,by simp,WT _,V (xJ.start l),I⟩
 case round=>
  obtain⟨i,cur,rfl,rfl,hi,f,J⟩:=hrel;clear I;have s:=f.out.len;by_cases v:2*i+1<l.length
  ·have C:(i:Int)<(l.length:Int)-1-i:=by omega
   obtain⟨j,B⟩:∃j,l.length-1-i=j:=⟨_,rfl⟩;have u:((l.length:Int)-1-i)=(j:Int):=by omega
   have q:i<cur.length:=by omega
   have z:j<cur.length:=by omega
   obtain⟨g,rfl,X,x1,e,x,x4⟩:=J.CB (A:=A) (c:=c) (n:=l.length) (l:=cur) q;obtain⟨g2,t,y0,y1,y2,y3,y4⟩:=J.CB (A:=some ⟨g,0,none⟩) (c:=c) (n:=l.length) (l:=cur) z;cases t;have d:=f.out.step v q (by omega);simp only[B]at d;have m:=V d;have U:(j:Int)<(l.length:Int):=by omega
   have Q:i≠j:=by omega
   have T:(i:Int)<(l.length:Int):=by omega
   have D:=J.De (g:=g) (c:=c) (n:=l.length) (l:=cur) (i*5);have K:=J.De (g:=g) (c:=c) (n:=l.length) (l:=cur) (j*5);have E:=J.De (g:=g) (c:=c) (n:=l.length) (l:=cur) (i*5+1);have L:=J.De (g:=g) (c:=c) (n:=l.length) (l:=cur) (j*5+1);have F:=J.De (g:=g) (c:=c) (n:=l.length) (l:=cur) (i*5+2);have M:=J.De (g:=g) (c:=c) (n:=l.length) (l:=cur) (j*5+2);have G:=J.De (g:=g) (c:=c) (n:=l.length) (l:=cur) (i*5+3);have N:=J.De (g:=g) (c:=c) (n:=l.length) (l:=cur) (j*5+3);have H:=J.De (g:=g) (c:=c) (n:=l.length) (l:=cur) (i*5+4);have P:=J.De (g:=g) (c:=c) (n:=l.length) (l:=cur) (j*5+4);generalize cur[i]=a at*;generalize cur[j]=b at*;clear d s;rw[u]at*;go_upto_region 3 with(fail);refine qi [0,1,2,3,4,5,8,9] [6,7,10,11,12] [13,14,15] (by kernel_rfl) (by kernel_rfl) (fun _ _ _ _ _ h=>h) ?_;simp only[QT,VT,MT,NT];dsimp only[Ub];go_simp;repeat (quiet_step (fail))
   refine fU ?_;first|(rintro _ ⟨nq,rfl⟩)|(intro nq)
   go_wp2_with fail;have y:=((J.drewN nq).Iw (g:=g) (c:=c) (n:=l.length) (l:=cur) i b).Iw (g:=g) (c:=c) (n:=l.length) (l:=cur.set i b) j a;go_roundw;case rel=>exact⟨i+1,(cur.set i b).set j a,rfl,by congr 1;omega,by omega,m,y.ya⟩
   case measure=>simp[intOf];omega
  ·have C:¬ (i:Int)<(l.length:Int)-1-i:=by omega
   have k:=f.out.done (by omega);subst k;go_wp2;go_end0;exact⟨rfl,J⟩
theorem Pw(S L X D rate da:Nat)(st:Int)(x:OS){d:An.ja}{K:Nat}{bs:List Za}(b:Tc da K d bs x.P x.y x.m x.tl x.mem)(a:da<18446744073709551616)(q:K≤90)(j:d.za=st)(s:Bs)(u:s.length≤100000000)(fr n:Int)(Q:n≤9223372036854775807)(N:fr≤9223372036854775807):Tr prog 14 #[Da S,Ha s,Z fr,Z n] (Eh S L X D rate da st x d) (fun v:Value=> .tuple #[v,Z (pc s fr n)]) (fun v=>ua 58 5 v (Vp bs s fr n).length (Vb (Vp bs s fr n))*Eh S L X D rate da st x d):=by
 intro w o r h;have I:=TZ h;have t33:=YL S L X (Pa da) s fr n (by omega);clear h;by_cases e:pc s fr n=0
 ·obtain⟨z,E,F⟩:=Rr e;have hb:(VB bs s (fr-n+1) fr).reverse=Vp bs s fr n:=by unfold Vp VB;rw[JT e,←dK];congr 2;funext t;rw[eX];omega
  have hlen:(VB bs s (fr-n+1) fr).length≤1000000000:=by unfold VB;have G:=DU (fun t=>decide (fr-n+1≤(t.Qb:Int)∧(t.Qb:Int)≤fr)) (Qf s (Ja bs));have H:(Qf s (Ja bs)).length≤(Ja bs).length:=DU _ _;have M:(Ja bs).length≤8*bs.length:=po b.holds.ok;have p:=ar b.log.size;rw[b.holds.len]at p;have:=b.log.sub;omega
  have t32:=Gu S L X D rate da st x b a q j s u (fr-n+1) fr (by omega);have t34:=fun A c=>YI A c (VB bs s (fr-n+1) fr) hlen;rw[hb]at t34;have f:(Vp bs s fr n).length=(VB bs s (fr-n+1) fr).length:=by rw[←hb,EV]
  rw[e]at t33⊢;have B:IntKind.i64.wrap (fr-n)=fr-n:=RT _ (by omega);have C:IntKind.i64.wrap (fr-n+1)=fr-n+1:=RT _ (by omega);unfold Zg at t34;rw[←f]at t32 t34;clear hb b a hlen f e;go_enter func14,ntmps14;go_wp2_with fail;refine Y.ka I t33 fun m=> ?_;have J:=I.drewN m;clear I;go_wp2_with fail;refine J.kc t32 fun w2 v g=> ?_;obtain⟨_,A,c,rfl⟩:=g.Cd v;go_wp2_with fail;refine g.k1 (t34 A c) fun W k=> ?_;go_wp2;go_ret2;exact⟨O A (Vp bs s fr n).length c,rfl,k.ya⟩
 ·have hF:Vp bs s fr n=[]:=by unfold Vp;rw[DT e]
  rw[hF];obtain⟨c,i⟩:∃c,pc s fr n=c:=⟨_,rfl⟩;rw[i]at e t33⊢;have T:(((c:Nat):Int)==0)=false:=by rw[ET];omega
  have U:((c:Int) !=0)=true:=by rw[CU];omega
  clear hF b a;go_enter func14,ntmps14;go_wp2_with fail;refine Y.ka I t33 fun m=> ?_;go_wp2;go_ret2;exact⟨O none 0 0,rfl,(I.drewN m).le yj⟩
end
section
open Go.RowKit An Go.ChangeShapes Go.WideShapes Go.ChangeAt Go.Proofs.Tryz
theorem QM{b:Za}{i:Nat}(h:i<b.vc.length):(Kf b)[i]? =some ⟨b.stream,b.first+i,b.vc[i]⟩:=by unfold Kf;rw[VX,List.getElem?_zipIdx,PT h];simp
theorem Lp{b:Za}{i:Nat}(h:i<b.vc.length):(Kf b).take (i+1)=(Kf b).take i++[⟨b.stream,b.first+i,b.vc[i]⟩]:=by rw[MU,QM h];rfl
theorem py{bs:List Za}{k:Nat}(h:k<bs.length):Ja (bs.take (k+1))=Ja (bs.take k)++Kf bs[k]:=by rw[MU,PT h,Mq];simp[Ja]
theorem vQ(S L X D rate da:Nat)(st:Int)(x:OS){d:An.ja}{K:Nat}{bs:List Za}(f:Tc da K d bs x.P x.y x.m x.tl x.mem)(b5:d.za=st):Tr prog 9 #[Da S] (Eh S L X D rate da st x d) (fun v:Value=> .tuple #[v,.int .i64 0]) (fun v=>ua 58 5 v (Ja bs).length (Vb (Ja bs))*Eh S L X D rate da st x d):=by
 intro w o r h0;have I:=TZ h0;obtain⟨F,hF⟩:∃F,ab x.P=F:=⟨_,rfl⟩;have aj:(ab x.P).filter (fun q=>decide (0≤q.1))=F:=by rw[hF];exact wV.2 fun q _=>by simp
 obtain⟨av,aM⟩:=PG f.log.size aj;have ak:F.length=bs.length:=by rw[←hF];exact f.holds.ab
 have Q:∀k (h:k<F.length) (h2:k<bs.length),F[k].2=Sa bs[k]∧ow bs[k]∧F[k].1+F[k].2.length+12≤819200:=by intro k h h2;subst hF;refine⟨f.holds.at h2,f.holds.ok _ (XT h2),?_⟩;have h1:=(yf x.P 0 f.log.size (ab x.P)[k] (XT h)).2;have:=f.log.sub;omega
 have t26:=fun pos hp=>zG L D st x.P d x.y f.up b5 f.log pos hp;have t25:=Wm S L X (.int .u64 da);have hlen:∀k i,(Ja (bs.take k)).length+i≤1000000+i:=fun k i=>by have h5:(Ja (bs.take k)).length≤8*(bs.take k).length:=po fun b hb=>f.holds.ok b (VV hb);have h6:=ar f.log.size;rw[f.holds.len]at h6;have:=f.log.sub;rw[OT]at h5;omega
 obtain⟨i0,hi,ds,dt,e0⟩:=info_parts Po;have c9:=V t26;have bn:=V Q;have ch:=V aM;have cf:=V hlen;have a8:=V av;have a7:=V ak;clear h0 hF aj av aM ak Q t26 hlen f b5;go_enter func9,ntmps9;go_wp2_with fail;refine Y.ka I t25 fun m=> ?_;have z:Y w o r (ua 58 5 (.slice none 0 0) 0 (Vb [])*Eh S L X D rate da st x d) (w.drewN m):=(I.drewN m).le yj;clear I t25;go_wp2_with fail;go_loopw [4,5] (fun x4 x5 wr=>∃ (k pos:Nat) (A:Option Addr) (c:Nat) (acc:List An.yc),x5= .int .i64 pos∧x4= .slice A acc.length c∧k≤F.length∧pos≤1000000000∧Hid (Mg x.P pos=F[k]?)∧Hid (acc=Ja (bs.take k))∧Y w o r (ua 58 5 (.slice A acc.length c) acc.length (Vb acc)*Eh S L X D rate da st x d) wr) (fun _ x5 _=>1000000001-(intOf x5).toNat);case atStart=>exact⟨0,0,none,0,[],rfl,rfl,WT _,WT _,a8,V rfl,z⟩
 case round=>
  obtain⟨k,pos,A,c,acc,rfl,rfl,hk,bt,E,n,J⟩:=hrel;clear z a8;have c0:wr.cell? ⟨S,0,none⟩=some (Da L):=J.cells S 0;have t26:=c9.out pos bt;rw[E.out]at t26;by_cases N:k<F.length
  ·have B:=PT N;rw[B]at t26;have an:k<bs.length:=by have:=a7.out;omega
   obtain⟨dj,hb,cG⟩:=bn.out k N an;have b0:=ch.out k N;have cT:pos≤F[k].1:=by have h1:=E.out;rw[B]at h1;have:=eZ h1;simpa using this
   have R:=py an;rw[←n.out]at R;have cv:=cf.out k 0;rw[←n.out]at cv;generalize F[k]=q at*;generalize bs[k]=b at*;obtain⟨q1,q2⟩:=q;dsimp only at*;subst dj;have e6:=Ej hb;have t27:=iE (Sa b) (by omega);rw[Hl hb]at t27;have t27:Tr prog 27 #[.string (mk (Sa b))] aa.emp (fun v=> .tuple #[bV b v,.int .i64 0]) (fun v=>Ba 3 v b.vc.length (vc b.vc)):=t27;have G:=Hd hb.check;have h8:=G.2.2.2.1;have e7:=G.2.2.2.2.1;have a1:q1+(Sa b).length+12≤1000000000:=by omega
   have bm:Hid (Mg x.P (q1+(Sa b).length+12)=F[k+1]?):=V b0;have e4:pos<q1+(Sa b).length+12:=by omega
   have s:∀i (h:i<b.vc.length),(Kf b).take (i+1)=(Kf b).take i++[⟨b.stream,b.first+i,b.vc[i]⟩]:=fun i h=>Lp h;have b6:(Kf b).take b.vc.length=Kf b:=YT (by rw[bk];exact FT _);have b7:∀i,i≤b.vc.length→((Kf b).take i).length=i:=fun i h=>by rw[OT,bk];omega
   have b9:∀i,i<b.vc.length→IntKind.i64.wrap ((b.first:Int)+i)=(b.first:Int)+i:=fun i hi=>(il ⟨by omega,by omega⟩).1;have cp:=V R;have ck:=V s;have cl:=V b6;have cn:=V b7;have ct:=V b9;clear R s b6 b7 b9 G b0 hb B cG cT E n;generalize Kf b=T at*;obtain⟨a,j,be⟩:=b;dsimp only at*;unfold bu at t26;dsimp only at t26;generalize e8:q1+(Sa ⟨a,j,be⟩).length+12=c1 at*;generalize Sa ⟨a,j,be⟩=p at*;unfold bV at t27;dsimp only at t27;go_wp2_with fail;refine J.k1 t26 fun w5 J2=> ?_;clear J t26 c0;go_wp2_with fail;refine((J2.le (Re _)).call t27).mono ?_;rintro e w6 ⟨v5,rfl,J3⟩;obtain⟨_,l,c5,rfl,_⟩:=J3.sl v5;have J4:=J3.Wa (.cells #[.string (mk a),.int .i64 j,.slice l be.length c5] 85) w6.heap.size rfl;clear J2 J3 t27;go_upto_region 11 with(fail);generalize w6.alloc (.cells #[.string (mk a),.int .i64 j,.slice l be.length c5] 85)=W7 at*;generalize w6.heap.size=U at*;have z:Y w o r (ua 58 5 (.slice A (acc++T.take 0).length c) (acc++T.take 0).length (Vb (acc++T.take 0))*(aa.wm U 85 #[.string (mk a),.int .i64 j,.slice l be.length c5]*(Ba 3 (.slice l be.length c5) be.length (vc be)*Eh S L X D rate da st x d))) W7:=by have h:Y w o r (ua 58 5 (.slice A acc.length c) acc.length (Vb acc)*(aa.wm U 85 #[.string (mk a),.int .i64 j,.slice l be.length c5]*(Ba 3 (.slice l be.length c5) be.length (vc be)*Eh S L X D rate da st x d))) W7:=J4.ya;rw[IW,EU];exact h
   have t:Value.slice A acc.length c= .slice A (acc++T.take 0).length c:=by rw[IW,EU]
   have C:=V t;clear J4 t;have c2:=z.cells U 2;generalize wr=wq at*;go_wp2_with fail;go_loopw [4,44] (fun x4 W wr=>∃ (i:Nat) (A:Option Addr) (c:Nat),W= .int .i64 i∧x4= .slice A (acc++T.take i).length c∧i≤be.length∧Y w o r (ua 58 5 (.slice A (acc++T.take i).length c) (acc++T.take i).length (Vb (acc++T.take i))*(aa.wm U 85 #[.string (mk a),.int .i64 j,.slice l be.length c5]*(Ba 3 (.slice l be.length c5) be.length (vc be)*Eh S L X D rate da st x d))) wr) (fun _ W _=>be.length-(intOf W).toNat);case atStart=>exact⟨0,A,c,rfl,C.out,WT _,z⟩
   case round=>
    obtain⟨i,A,c,rfl,rfl,cw,J⟩:=hrel;clear z c2 C;by_cases M:i<be.length
    ·have cF:(i:Int)<(be.length:Int):=by omega
     have e5:=ct.out i M;obtain⟨g,off,rfl,_,bc,hx⟩:=J.we l c5 be wi i M (by decide);have z0:=bc _ rfl;have z1:=hx 1 _ rfl;have z2:=hx 2 _ rfl;have s:=ck.out i M;have aq:(acc++T.take i).length+1≤1000000000:=by rw[CT,cn.out i cw];omega
     have cc:=V aq;have e1:acc++T.take (i+1)=(acc++T.take i)++[⟨a,j+i,be[i]⟩]:=by rw[s,iU]
     have a6:=V e1;clear bc hx s aq e1;generalize be[i]=ev at*;generalize acc++T.take i=ac at*;have K:=J.Wa (.cells #[.string (mk ev.Xi),.string (mk ev.data),.float .f64 ev.w] 56) wr.heap.size rfl;go_upto_region 16 with(fail);generalize wr.alloc (.cells #[.string (mk ev.Xi),.string (mk ev.data),.float .f64 ev.w] 56)=W8 at*;generalize wr.heap.size=r2 at*;obtain⟨d0,d1⟩:=K.c2 U;obtain⟨y0,y1,y2⟩:=K.c3 r2;clear z0 z1 z2 J;go_wp2_with (at_builtin;go_loud (refine Oa (v:=.slice A ac.length c) [.string (mk a),.int .i64 ((j:Int)+i),.string (mk ev.Xi),.string (mk ev.data),.float .f64 ev.w] 1 K rfl rfl underlying44 hi ds dt rfl rfl rfl rfl (by intro u hu;simp only[dU,nV,SW]at hu;rcases hu with rfl|rfl|rfl|rfl|rfl<;>rfl) cc.out (by rw[e0];omega) ?_);intro A' c' w6 K4);go_roundw;case rel=>
      refine⟨i+1,A',c',by go_num,by rw[a6.out,CT];rfl,by omega,?_⟩;have e2:(ac++[(⟨a,j+i,ev⟩:An.yc)]).length=ac.length+1:=by simp
      have e3:Vb (ac++[⟨a,j+i,ev⟩])=Vb ac++[.string (mk a),.int .i64 ((j:Int)+i),.string (mk ev.Xi),.string (mk ev.data),.float .f64 ev.w]:=by unfold Vb;rw[XU,List.flatMap_singleton];rfl
      rw[a6.out,e2,e3];exact K4.ya
     case measure=>simp[intOf];omega
    ·have cF:¬ ((i:Int)<(be.length:Int)):=by omega
     have cx:i=be.length:=by omega
     subst cx;have H:acc++T.take be.length=Ja (bs.take (k+1)):=by rw[cl.out,cp.out]
     have cb:=V H;clear H;generalize acc++T.take be.length=ac at*;go_wp2_with fail;go_roundw;case rel=>exact⟨k+1,c1,A,c,ac,rfl,rfl,by omega,a1,bm,cb,J.ya⟩
     case measure=>simp[intOf];omega
  ·have B:F[k]? =none:=dW (by omega);rw[B]at t26;have al:acc=Ja bs:=by rw[n.out,YT (by have:=a7.out;omega)]
   unfold bu at t26;dsimp only at t26;have ca:=V al;clear B al;go_wp2_with fail;refine J.k1 t26 fun w5 J2=> ?_;go_wp2_with fail;go_ret2;refine⟨.slice A acc.length c,rfl,?_⟩;rw[←ca.out];exact J2.ya
end
section
open Go.RowKit An Go.ChangeShapes Go.WideShapes Go.ChangeAt
def Zk(S L X D rate da:Nat)(σ:RS):aa:=match σ.o with
 |none=>na D σ.d
 |some x=>Eh S L X D rate da σ.d.za x σ.d
structure jN(da:Nat)(σ σ':RS)(up:Prop)(dn:Prop):Prop where
 ok:σ'.Ok da
 mb:σ'.MB=σ.MB
 k:σ'.K≤σ.K+1
 cap:σ'.d.cap=σ.d.cap
 st:(∃x,σ'.o=some x)∧up∨σ'.o=none∧σ'.d.down=true∧σ'.s=σ.s∧dn
def Lf(n:Nat):Nat:=Wh (8*n) (qe (8*n))
theorem Nr{a b:Nat}(h:a≤b):qe a≤qe b:=by unfold qe;omega
theorem An.zm.mono{σ:RS}{u b n:Nat}{e f a f':Bool}(h:zm σ u n e f)(o:u≤b)(l:a=true→e=true)(m:f'=true→f=true):zm σ b n a f':=by obtain⟨x,c,d,g,i,j,k⟩:=h;exact⟨x,c,d,KT g o,i,fun h=>j (l h),fun h=>k (m h)⟩
theorem An.uj.less{P:Ma}{y s a:Nat}(h:uj P y s)(e:a≤s):uj P y a:=let⟨b,c,d⟩:=h;⟨b,c,KT e d⟩
section
variable {da:Nat}{σ:RS}{x:OS}
theorem rO(h:σ.Ok da)(j:da<18446744073709551616)(H:σ.K≤89)(E:σ.o=some x)(S L X D rate:Nat){f:Bs}(I:f.length≤qe x.mem.length):∃σ',jN da σ σ' ((yd x.P x.m x.mem f σ.d).1=0∧σ'.s=σ.MB.length∨(yd x.P x.m x.mem f σ.d).1=60∧σ'.s=σ.s) ((yd x.P x.m x.mem f σ.d).1=60∨(yd x.P x.m x.mem f σ.d).1=61)∧(∀u n g,zm σ u n true g→n<40→u+Lf σ.MB.length+6000≤σ.d.cap→(yd x.P x.m x.mem f σ.d).1=0∧zm σ' (u+Lf σ.MB.length) (n+1) false true)∧aa.le (ba S 82 #[Da L,Da X,Pa da]*(YA L D σ.d.za x.P (zc x.P σ.d).1*(Xd X D rate (Nl (yd x.P x.m x.mem f σ.d).1 x.P x.m x.mem) (Ps (yd x.P x.m x.mem f σ.d).1 x.m x.tl x.mem) (Ol (yd x.P x.m x.mem f σ.d).1 x.mem)*na D (yd x.P x.m x.mem f σ.d).2))) (Zk S L X D rate da σ'):=by
 obtain⟨r,_⟩:=h.live x E;have C:x.mem.length≤8*σ.MB.length:=r.zw r.ym fun z c=>(r.xc z).1 (.inl c);have J:f.length≤qe (8*σ.MB.length):=KT I (Nr C);have F:Wh (8*σ.MB.length) f.length≤Lf σ.MB.length:=by unfold Lf Wh;omega
 rcases h.index j H E f with⟨w,a,e,i,l,y',p,y⟩|⟨w,a,e,i,l⟩
 ·obtain⟨A,B⟩:=p.live _ rfl;generalize M:yd x.P x.m x.mem f σ.d=q at*;by_cases c:q.1=0
  ·refine⟨_,⟨p,rfl,FT _,i,.inl ⟨⟨_,rfl⟩,.inl ⟨c,rfl⟩⟩⟩,fun u n g b t hu=> ?_,?_⟩
   ·obtain⟨k,a2⟩:=y u n g b t (by omega);exact⟨k,An.zm.mono a2 (by omega) (fun h=>h) (fun h=>h)⟩
   ·rw[a,ij (by decide)];show aa.le _ (Eh S L X D rate da q.2.za _ q.2);rw[e];exact JZ _
  ·have v:q.1=60:=l.resolve_left c;refine⟨⟨q.2,σ.MB,σ.s,σ.K+1,some ⟨x.P,y',Nl q.1 x.P x.m x.mem,Ps q.1 x.m x.tl x.mem,Ol q.1 x.mem⟩⟩,⟨RS.Ok.mk' p.many h.ok h.sure A (An.uj.less B h.sure),rfl,FT _,i,.inl ⟨⟨_,rfl⟩,.inr ⟨v,rfl⟩⟩⟩,fun u n g b t hu=> ?_,?_⟩
   ·obtain⟨k,_⟩:=y u n g b t (by omega);exact absurd k c
   ·rw[a,ij (by decide)];show aa.le _ (Eh S L X D rate da q.2.za _ q.2);rw[e];exact JZ _
 ·refine⟨_,⟨l,rfl,FT _,e,.inr ⟨rfl,w,rfl,i⟩⟩,fun u n g b _ _=> ?_,?_⟩
  ·obtain⟨N,_,G,_⟩:=b;rw[G]at a;cases a
  ·exact KZ NZ (KZ QZ (KZ NZ (KZ QZ (KZ NZ QZ))))
theorem XO(h:σ.Ok da)(b:da<18446744073709551616)(H:σ.K≤89)(y:σ.o=some x)(S L X D rate:Nat)(k:Int){f:Bs}(I:f.length≤qe (Zc ((Wl x.m k).map x.tl)).length):∃σ',jN da σ σ' (σ'.s=σ.s∧((Dd x.m x.tl k f σ.d).1=0∨(Dd x.m x.tl k f σ.d).1=60∨(Dd x.m x.tl k f σ.d).1=4∨(Dd x.m x.tl k f σ.d).1=2∧(k<0∨5≤k))) ((Dd x.m x.tl k f σ.d).1=60∨(Dd x.m x.tl k f σ.d).1=61)∧(∀u n e,zm σ u n e true→k=0→u+Lf σ.MB.length+6000≤σ.d.cap→(Dd x.m x.tl k f σ.d).1=0∧zm σ' (u+Lf σ.MB.length) (n+1) false false)∧aa.le (ba S 82 #[Da L,Da X,Pa da]*(Fc L D σ.d.za x.P*(Xd X D rate (Vl (Rf x.m x.tl k f σ.d).1 x.m k) (Zt (Rf x.m x.tl k f σ.d).1 x.m x.tl k) x.mem*na D (Dd x.m x.tl k f σ.d).2))) (Zk S L X D rate da σ'):=by
 obtain⟨q,_⟩:=h.live x y;have w:(Zc ((Wl x.m k).map x.tl)).length≤8*σ.MB.length:=q.zw (Ef _) fun z N=>by
  obtain⟨l,M,A⟩:=Fi.1 N;obtain⟨j,a,rfl⟩:=nU.1 M;refine(q.xc z).1 (.inr ⟨j,?_,A⟩);unfold Wl at a;rcases Wo (k:=k) (Dc.1 q.gi.valid).2.2.1 with⟨e,_⟩|⟨e,_⟩|⟨e,_⟩
  ·rw[e]at a;cases a
  ·rw[e]at a;cases a
  ·rw[e]at a;dsimp only at a;rw[kU]at a;cases r:x.m.ia[k.toNat]? with
   |none=>rw[r]at a;cases a
   |some z=>rw[r]at a;exact FV.2 ⟨z,AV r,a⟩
 have Q:f.length≤qe (8*σ.MB.length):=KT I (Nr w);have B:Wh (8*σ.MB.length) f.length≤Lf σ.MB.length:=by unfold Lf Wh;omega
 rcases h.merge b H y k f with⟨t,c,g,i,F,G⟩|⟨t,v,c,g,i⟩
 ·refine⟨_,⟨F,rfl,FT _,g,.inl ⟨⟨_,rfl⟩,rfl,i⟩⟩,fun u n e p J hu=> ?_,?_⟩
  ·obtain⟨C,a2⟩:=G u n e p J (by omega);exact⟨C,An.zm.mono a2 (by omega) (fun h=>h) (fun h=>h)⟩
  ·show aa.le _ (Eh S L X D rate da (Dd x.m x.tl k f σ.d).2.za _ (Dd x.m x.tl k f σ.d).2);rw[c];exact JZ _
 ·refine⟨_,⟨i,rfl,FT _,c,.inr ⟨rfl,t,rfl,g⟩⟩,fun u n e p _ _=> ?_,?_⟩
  ·obtain⟨R,_,E,_⟩:=p;rw[E]at v;cases v
  ·exact KZ NZ (KZ QZ (KZ NZ (KZ QZ (KZ NZ QZ))))
theorem eO(h:σ.Ok da)(b:da<18446744073709551616)(j:σ.K≤89)(k:σ.o=some x)(S L X D rate:Nat):∃σ',jN da σ σ' ((zc x.P σ.d).1=0∧σ'.s=σ.MB.length) ((zc x.P σ.d).1=61)∧aa.le (ba S 82 #[Da L,Da X,Pa da]*(YA L D σ.d.za x.P (zc x.P σ.d).1*(Xd X D rate x.m x.tl x.mem*na D (zc x.P σ.d).2))) (Zk S L X D rate da σ'):=by
 rcases h.flush b j k with⟨a,c,f,e,_,_,y',_,i⟩|⟨a,c,f,e,g⟩
 ·refine⟨_,⟨i,rfl,fV _,e,.inl ⟨⟨_,rfl⟩,a,rfl⟩⟩,?_⟩;rw[a,ij (by decide)];show aa.le _ (Eh S L X D rate da (zc x.P σ.d).2.za _ (zc x.P σ.d).2);rw[c];exact JZ _
 ·refine⟨_,⟨g,rfl,fV _,e,.inr ⟨rfl,c,rfl,a⟩⟩,?_⟩;exact KZ NZ (KZ QZ (KZ NZ (KZ QZ (KZ NZ QZ))))
end
end
section
open Go.RowKit An Go.ChangeShapes Go.WideShapes Go.ChangeAt Go.Proofs.Tryz
section
variable(S L X D rate da:Nat){σ:RS}{x:OS}
theorem wM(h:σ.Ok da)(a:da<18446744073709551616)(k:σ.K≤89)(f:σ.o=some x):Tr prog 86 #[Da S] (Eh S L X D rate da σ.d.za x σ.d) (fun p:Nat×RS=>Z p.1) (fun p=>aa.pure (jN da σ p.2 (p.1=0∧p.2.s=σ.MB.length) (p.1=61))*Zk S L X D rate da p.2):=by intro w o r e;have I:=TZ e;have t25:=Wm S L X (Pa da);obtain⟨b,_⟩:=h.live x f;have t132:=rC L D σ.d.za x.P σ.d b.up rfl b.log.sub b.log.size;obtain⟨σ',g,hle⟩:=eO h a k f S L X D rate;have j:=V g;have c:=V hle;generalize zc x.P σ.d=q at*;obtain⟨i,d1⟩:=q;dsimp only at*;clear e h b g hle a;have l:w.cell? ⟨S,0,none⟩=some (Da L):=I.cells S 0;go_enter func86,ntmps86;go_wp2_with fail;refine Y.ka I t25 fun m=> ?_;have J:=I.drewN m;clear I;go_wp2_with fail;refine J.k1 t132 fun w2 K=> ?_;go_wp2;go_ret;exact⟨(i,σ'),rfl,(K.ya (A:=ba S 82 #[Da L,Da X,Pa da]*(YA L D σ.d.za x.P i*(Xd X D rate x.m x.tl x.mem*na D d1)))).le (KZ c.out (RZ j.out))⟩
theorem xM(hF:Dl)(h:σ.Ok da)(a:da<18446744073709551616)(C:σ.K≤89)(H:σ.o=some x):Tr prog 87 #[Da S] (Eh S L X D rate da σ.d.za x σ.d) (fun p:Nat×RS=>Z p.1) (fun p=>aa.pure (jN da σ p.2 (p.1=0∧p.2.s=σ.MB.length∨p.1=60∧p.2.s=σ.s) (p.1=60∨p.1=61)∧∀u n g,zm σ u n true g→n<40→u+Lf σ.MB.length+6000≤σ.d.cap→p.1=0∧zm p.2 (u+Lf σ.MB.length) (n+1) false true)*Zk S L X D rate da p.2):=by
 intro w o r B;have I:=TZ B;have t25:=Wm S L X (Pa da);obtain⟨E,F⟩:=h.live x H;have t133:=sJ hF X D L rate σ.d.za E a F C rfl;have he:=fun f=>rO h a C H S L X D rate (f:=f);have t:=V he;obtain⟨fl,l⟩:∃fl,(fun f=>yd x.P x.m x.mem f σ.d)=fl:=⟨_,rfl⟩;have e:∀f,yd x.P x.m x.mem f σ.d=fl f:=fun f=>tZ l f;simp only[e]at t133 t;clear B h E he a F l e;have j:w.cell? ⟨S,0,none⟩=some (Da L):=I.cells S 0;go_enter func87,ntmps87;go_wp2_with fail;refine Y.ka I t25 fun m=> ?_;have J:=I.drewN m;clear I j;generalize w.drewN m=i at*;have j:i.cell? ⟨S,0,none⟩=some (Da L):=J.cells S 0;have z:i.cell? ⟨S,1,none⟩=some (Da X):=J.cells S 1;have R:=IT j;have c:=IT z;go_upto_region 3 with(fail);refine Cb [0,4] [1,2,3,5,6,7] [8,9] (by kernel_rfl) (by kernel_rfl) (fun _ _ _ _ _ h=>h) ?_;simp only[QT,VT,MT,NT];dsimp only[Ub];go_simp;repeat (quiet_step (fail))
 refine fU ?_;first|(rintro _ ⟨b,rfl⟩)|(intro b)
 have k:=jU i b.d b.os;generalize Go.Sort.grow (redrawn i b.d) b.os=T at*;clear b;have K:=J.below k;clear R c j z J k;go_wp2_with fail;refine K.kc t133 fun w2 f y=> ?_;obtain⟨G,Q⟩:=y.pure;obtain⟨σ',M,hb,hle⟩:=t.out f G;have N:=V (And.intro M hb);have v:=V hle;clear M hb hle K y t133 t G;generalize fl f=q at*;obtain⟨c,d1⟩:=q;dsimp only at*;go_wp2;go_ret;exact⟨(c,σ'),rfl,(Q.ya (A:=ba S 82 #[Da L,Da X,Pa da]*(YA L D σ.d.za x.P (zc x.P σ.d).1*(Xd X D rate (Nl c x.P x.m x.mem) (Ps c x.m x.tl x.mem) (Ol c x.mem)*na D d1)))).le (KZ v.out (RZ N.out))⟩
theorem AM(hF:Dl)(h:σ.Ok da)(a:da<18446744073709551616)(t:σ.K≤89)(B:σ.o=some x)(k:Int)(G: -9223372036854775808≤k∧k≤9223372036854775807):Tr prog 88 #[Da S,Z k] (Eh S L X D rate da σ.d.za x σ.d) (fun p:Nat×RS=>Z p.1) (fun p=>aa.pure (jN da σ p.2 (p.2.s=σ.s∧(p.1=0∨p.1=60∨p.1=4∨p.1=2∧(k<0∨5≤k))) (p.1=60∨p.1=61)∧∀u n e,zm σ u n e true→k=0→u+Lf σ.MB.length+6000≤σ.d.cap→p.1=0∧zm p.2 (u+Lf σ.MB.length) (n+1) false false)*Zk S L X D rate da p.2):=by intro w o r l;have I:=TZ l;have t25:=Wm S L X (Pa da);obtain⟨v,y⟩:=h.live x B;have t134:=tJ hF X D rate v a y t k G;have he:=fun f=>XO h a t B S L X D rate k (f:=f);have g:=V he;obtain⟨fl,c⟩:∃fl,(fun f=>Dd x.m x.tl k f σ.d)=fl:=⟨_,rfl⟩;have b:∀f,Dd x.m x.tl k f σ.d=fl f:=fun f=>tZ c f;simp only[b]at t134 g;clear l h v he a y c b;have M:w.cell? ⟨S,1,none⟩=some (Da X):=I.cells S 1;go_enter func88,ntmps88;go_wp2_with fail;refine Y.ka I t25 fun m=> ?_;have J:=I.drewN m;clear I;go_wp2_with fail;refine J.kc t134 fun w2 f j=> ?_;obtain⟨z,F⟩:=j.pure;obtain⟨σ',C,hb,hle⟩:=g.out f z;have E:=V (And.intro C hb);have i:=V hle;clear C hb hle J j t134 g z;generalize fl f=q at*;obtain⟨H,d1⟩:=q;dsimp only at*;go_wp2;go_ret;exact⟨(H,σ'),rfl,(F.ya (A:=ba S 82 #[Da L,Da X,Pa da]*(Fc L D σ.d.za x.P*(Xd X D rate (Vl (Rf x.m x.tl k f σ.d).1 x.m k) (Zt (Rf x.m x.tl k f σ.d).1 x.m x.tl k) x.mem*na D d1)))).le (KZ i.out (RZ E.out))⟩
end
end
end Go.Proofs.YteacbkflfafefaaGreatDoor
