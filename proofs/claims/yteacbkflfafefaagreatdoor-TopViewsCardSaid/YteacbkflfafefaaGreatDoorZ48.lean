/- Part 49 of 50 of the proof that TopViews returns true at every input: lemmas on the way; no condition. -/
import Derived.Test.YteacbkflfafefaaGreatDoorZ45
namespace Go.Proofs.YteacbkflfafefaaGreatDoor
set_option linter.all false
set_option maxHeartbeats 4000000
set_option maxRecDepth 100000
section
open Go.RowKit An Go.ChangeShapes Go.WideShapes Go.ChangeAt Go.Proofs.Tryz
theorem KL(M:Nat)(A:Option Addr)(c:Nat)(x y:Value)(L:List An.yc)(hL:L.length≤1000000)(st:Bs)(a:st.length≤1000000000)(fr n:Int)(B:fr≤9223372036854775807):Tr prog 51 #[Da M,.string (mk st),.int .i64 fr,.int .i64 n,.bool true] (aa.wm M 50 #[.slice A L.length c,x,y]*Ba 5 (.slice A L.length c) L.length (Vb L)) (fun v:Value=> .tuple #[v,.int .i64 (pc st fr n)]) (fun v=>ua 58 5 v (oA L st fr n).length (Vb (oA L st fr n))*(aa.wm M 50 #[.slice A L.length c,x,y]*Ba 5 (.slice A L.length c) L.length (Vb L))):=by
 intro w o r P;have I:=TZ P;have t91:=Xu st a;have t11:=Xn M A c x y L hL st;have hl:=Og st L;unfold oA;obtain⟨i0,hi,ak,al,an⟩:=info_parts Po;by_cases d:ad st=false∨fr<0∨n<1
 ·have e:pc st fr n=2:=by unfold pc;rw[JT d]
  rw[e,DT (by decide)];have K:=I.le (KZ (RZ trivial) (MZ (j0 58 5) (JZ _)));clear P e t11 I;cases b:ad st with
  |false=>rw[b]at t91;clear b d;go_enter func51,ntmps51;go_wp2_with fail;refine(t91 _).mono ?_;rintro e Q ⟨rfl,m,rfl⟩;go_wp2_with fail;go_ret2;exact⟨.slice none 0 0,rfl,K.drewN m⟩
  |true=>
   rw[b]at t91 d;by_cases h1:fr<0
   ·clear b d;go_enter func51,ntmps51;go_wp2_with fail;refine(t91 _).mono ?_;rintro e Q ⟨rfl,m,rfl⟩;go_wp2_with fail;go_ret2;exact⟨.slice none 0 0,rfl,K.drewN m⟩
   ·have h2:n<1:=by rcases d with h|h|h;cases h;exact absurd h h1;exact h
    clear b d;go_enter func51,ntmps51;go_wp2_with fail;refine(t91 _).mono ?_;rintro e Q ⟨rfl,m,rfl⟩;go_wp2_with fail;go_ret2;exact⟨.slice none 0 0,rfl,K.drewN m⟩
 ·have e:pc st fr n=0:=by unfold pc;rw[DT d]
  rw[e,JT rfl];have b:ad st=true:=by
   cases h:ad st with
   |true=>rfl
   |false=>exact absurd (.inl h) d
  have G:0≤fr:=by omega
  have hn:1≤n:=by omega
  rw[b]at t91;obtain⟨f,rfl⟩:=DY G;have b7:¬ (n<1):=by omega
  rw[gV];have S:=V B;have aq:=V hn;clear B;generalize Qf st L=l at*;have b6:l.length≤1000000:=by omega
  clear P e d b G hn hl;go_enter func51,ntmps51;go_wp2_with fail;refine(t91 _).mono ?_;rintro e Q ⟨rfl,m,rfl⟩;have U:=I.drewN m;clear I t91;go_wp2_with fail;refine U.kc t11 fun w2 v J=> ?_;obtain⟨_,q,u,rfl⟩:=J.Cd v;have N:Y w o r (ua 58 5 (.slice none 0 0) (Bh (l.drop (l.length-0)) f n).length (Vb (Bh (l.drop (l.length-0)) f n))*(Ba 5 (.slice q l.length u) l.length (Vb l)*(aa.wm M 50 #[.slice A L.length c,x,y]*Ba 5 (.slice A L.length c) L.length (Vb L)))) w2:=by
   have hz:Bh (l.drop (l.length-0)) f n=[]:=by unfold Bh;simp
   rw[hz];have J0:=J.ya (A:=ua 58 5 (.slice q l.length u) l.length (Vb l)*(aa.wm M 50 #[.slice A L.length c,x,y]*Ba 5 (.slice A L.length c) L.length (Vb L)));exact(J0.le (MZ c8 (JZ _))).le (KZ (RZ trivial) (MZ (j0 58 5) (JZ _)))
  have C:(Bh (l.drop (l.length-0)) f n).length=0:=by unfold Bh;simp
  have T:=V C;clear U t11 J C;go_wp2_with fail;go_loopw [13,14] (fun v i wr=>∃ (k:Nat) (p:Option Addr) (c2:Nat) (acc:List An.yc),k≤l.length∧i= .int .i64 k∧v= .slice p acc.length c2∧Hid (acc=Bh (l.drop (l.length-k)) f n)∧Y w o r (ua 58 5 (.slice p acc.length c2) acc.length (Vb acc)*(Ba 5 (.slice q l.length u) l.length (Vb l)*(aa.wm M 50 #[.slice A L.length c,x,y]*Ba 5 (.slice A L.length c) L.length (Vb L)))) wr) (fun _ i _=>l.length-(intOf i).toNat);case atStart=>exact⟨0,none,0,Bh (l.drop (l.length-0)) f n,WT _,rfl,by rw[T.out],V rfl,by rw[T.out]at N⊢;exact N⟩
  case round=>
   obtain⟨k,p,c2,acc,hk,rfl,rfl,s,J⟩:=hrel;clear N;by_cases a6:k<l.length
   ·have H:l.length-1-k<l.length:=by omega
    obtain⟨j,X⟩:∃j,l.length-1-k=j:=⟨_,rfl⟩;have W:Y w o r (Ba 5 (.slice q l.length u) l.length (Vb l)) wr:=J.le (KZ NZ (KZ QZ QZ));have a:=jF (f:=f) (n:=n) a6;simp only[X]at a H;obtain⟨g,off,rfl,_,F,z⟩:=W.we q u l Ue j H (by decide);have c0:=F _ rfl;have av:=z 1 _ rfl;have aM:=z 2 _ rfl;have c3:=z 3 _ rfl;have c4:=z 4 _ rfl;rw[←s.out]at a;have b0:acc.length≤k:=by rw[s.out];unfold Bh;refine KT (DU _ _) ?_;rw[EV,cU];omega
    have a1:(k:Int)<(l.length:Int):=by omega
    have E:acc.length+1≤1000000000:=by omega
    have R:=V E;have b5:(l.length:Int)-1-k=(j:Int):=by omega
    have bf:IntKind.i64.wrap (j:Int)=j:=RT _ (by omega);clear z F E s W;generalize l[j]=t at*;clear X;have a7:=uo t;have b9:=Ue t;by_cases b:t.Qb≤f∧(f:Int)-t.Qb<n
    ·rw[JT b]at a;have D:=V a;obtain⟨a8,bc⟩:=b;have b1:(t.Qb:Int)≤(f:Int):=by omega
     have aj:IntKind.i64.wrap ((f:Int)-t.Qb)=(f:Int)-t.Qb:=RT _ (by have:=S.out;omega);clear a;go_wp2_with (at_builtin;go_loud (refine Oa (v:=.slice p acc.length c2) (bh t) 1 J rfl rfl underlying44 hi ak al rfl rfl rfl rfl a7 R.out (by rw[an];omega) ?_);intro A' c' w6 K4);go_roundw;case rel=>
      refine⟨k+1,A',c',acc++[t],by omega,by go_num,by rw[CT];rfl,V D.out.symm,?_⟩;have e1:(acc++[t]).length=acc.length+1:=by simp
      rw[e1,Fk];exact K4
     case measure=>simp[intOf];omega
    ·rw[DT b]at a;have D:=V a;clear a;by_cases a8:t.Qb≤f
     ·have b1:(t.Qb:Int)≤(f:Int):=by omega
      have b2:¬ ((f:Int)-t.Qb<n):=by omega
      have aj:IntKind.i64.wrap ((f:Int)-t.Qb)=(f:Int)-t.Qb:=RT _ (by have:=S.out;omega);clear b;go_wp2_with fail;go_roundw;case rel=>exact⟨k+1,p,c2,acc,by omega,by go_num,rfl,V D.out.symm,J⟩
      case measure=>simp[intOf];omega
     ·have b1:¬ ((t.Qb:Int)≤(f:Int)):=by omega
      clear b;go_wp2_with fail;go_roundw;case rel=>exact⟨k+1,p,c2,acc,by omega,by go_num,rfl,V D.out.symm,J⟩
      case measure=>simp[intOf];omega
   ·have a1:¬ ((k:Int)<(l.length:Int)):=by omega
    have he:acc=Bh l f n:=by rw[s.out,show l.length-k=0 by omega,FW]
    have HE:=V he;clear he s;go_wp2_with fail;go_ret2;refine⟨.slice p acc.length c2,rfl,?_⟩;rw[←HE.out];exact J.ya
theorem pR(R:Nat)(s:Hk)(d e f:Option Addr)(i g j h c:Nat)(x:Int):Pu prog 21 #[Da R,Of s (O d i g) (O e j h),.agg #[Z 61,Z x,O f 0 c],.bool false] (.bool true):=by intro w;have J:=((ZZ w).Wa (.cells #[Z s.kind,Ha s.name,Z s.a,Z s.b,O d i g,O e j h,Ha s.text] 37) w.heap.size rfl).Wa (.cells #[Z 61,Z x,O f 0 c] 71) (w.heap.size+1) (dc rfl);have hb:=J.Sc;unfold Of;clear J;go_enter func21,ntmps21;go_wp2;go_ret;exact⟨rfl,hb⟩
theorem jO{MB:List Za}{s:Bs}{fr n:Int}{t:An.yc}(h:t∈MA (Ja MB) s fr n):t∈Ja MB:=by
 unfold MA at h;split at h
 ·unfold Tg at h;exact(Rm.1 (vU.1 (VV h)).1).1
 ·cases h
theorem IN{MB:List Za}{s:Bs}{fr n:Int}{t:An.yc}(h:t∈oA (Ja MB) s fr n):t∈Ja MB:=by
 unfold oA at h;split at h
 ·unfold Bh at h;exact(Rm.1 (DX.1 (vU.1 h).1)).1
 ·cases h
theorem KM{a:List Za}(e:∀b∈a,ow b):∀t∈Ja a,t.ev.w<18446744073709551616:=fun t f=>by obtain⟨b,c,d⟩:=cX.1 f;obtain⟨i,hi,rfl⟩:=wo.1 d;exact(e b c).ws _ (XT hi)
theorem iO{L:List An.yc}{s:Bs}{fr n:Int}:(MA L s fr n).length≤L.length:=by
 unfold MA;split
 ·unfold Tg;exact KT (List.length_take_le' _ _) (KT (DU _ _) (Og _ _))
 ·exact WT _
theorem GN{L:List An.yc}{s:Bs}{fr n:Int}:(oA L s fr n).length≤L.length:=by
 unfold oA;split
 ·unfold Bh;exact KT (DU _ _) (by rw[EV];exact Og _ _)
 ·exact WT _
def ZP(d:List Za)(s:Hk)(c:Nat)(n:Int)(tl:List An.yc):Prop:=(s.kind=2∧n=0∧c=pc s.name s.a s.b∧tl=MA (Ja d) s.name s.a s.b)∨(s.kind=3∧n=0∧c=pc s.name s.a s.b∧tl=oA (Ja d) s.name s.a s.b)∨(s.kind=4∧tl=[]∧c=ah s.name∧n=gL (Ja d) s.name)∨(s.kind=5∧n=0∧c=0∧tl=Ja d)
theorem qR(R M:Nat)(W:Value)(e:List Za)(hb:∀b∈e,ow b)(D:Value)(mq:MQ)(s:Hk)(X:Gl s)(ve T:Value)(f:Option Addr)(g c:Nat)(n:Int)(tl:List An.yc)(hA:ZP e s c n tl)(hL:(Ja e).length≤10000):Ud prog 21 #[Da R,Of s ve T,.agg #[Z c,Z n,O f tl.length g],.bool true] (ba R 41 #[W,Da M,.bool false]*(xj M (Ja e) (La e) D mq*(Ic f tl g*Kc s ve T))) (.bool true) (ba R 41 #[W,Da M,.bool false]*(xj M (Ja e) (La e) D mq*(Ic f tl g*Kc s ve T))):=by
 intro w o r h0;have I:=TZ h0;obtain⟨hq,I1⟩:=I.pure;have U:Hid (∀W',Y w o r (ba R 41 #[W,Da M,.bool false]*((yl M mq (Ja e).length (La e).length D*(Ic mq.A (Ja e) mq.c*jf mq.B (La e) mq.d))*(Ic f tl g*Kc s ve T))) W'→Y w o r (ba R 41 #[W,Da M,.bool false]*(xj M (Ja e) (La e) D mq*(Ic f tl g*Kc s ve T))) W'):=V fun W' hW=>hW.le (MZ (JZ _) (MZ (RZ hq) (JZ _)));have hw:=KM hb;have x:=KT X.name (show 300≤1000000000 by decide);have t51:=LL M mq.A mq.c (O mq.B (La e).length mq.d) D (Ja e) (by omega) s.name x s.a s.b;have q:=KL M mq.A mq.c (O mq.B (La e).length mq.d) D (Ja e) (by omega) s.name x s.a s.b X.a.2;have t52:=SO M mq.A mq.c (O mq.B (La e).length mq.d) D (Ja e) (by omega) s.name x;have t10:∀ (B:Option Addr) (d:Nat),tl.length≤1000000→(∀t∈tl,t.ev.w<18446744073709551616)→Ud prog 10 #[O f tl.length g,O B tl.length d] (Ic f tl g*Ic B tl d) (.bool true) (Ic f tl g*Ic B tl d):=fun B d l m=>by
  have:=oH f B g d tl tl l l m m
  rwa [RU rfl]at this
 have f1:=iO (L:=Ja e) (s:=s.name) (fr:=s.a) (n:=s.b);have f2:=GN (L:=Ja e) (s:=s.name) (fr:=s.a) (n:=s.b);have g1:∀t∈MA (Ja e) s.name s.a s.b,t.ev.w<18446744073709551616:=fun t ht=>hw t (jO ht);have g2:∀t∈oA (Ja e) s.name s.a s.b,t.ev.w<18446744073709551616:=fun t ht=>hw t (IN ht);obtain⟨_,H,ce,rfl,_⟩:=I1.sl ve;have a6:Y w o r (Ba 1 T s.Ga.length (xf s.Ga)) w:=I1.ya;obtain⟨_,N,Q,rfl,_⟩:=a6.sl T;have J:=(I1.Wa (.cells #[Z s.kind,Ha s.name,Z s.a,Z s.b,O H s.vc.length ce,O N s.Ga.length Q,Ha s.text] 37) w.heap.size rfl).Wa (.cells #[Z c,Z n,O f tl.length g] 71) (w.heap.size+1) (dc rfl);unfold Of;clear h0 I I1 a6 hq;rcases hA with⟨l,m,C,k⟩|⟨l,m,C,k⟩|⟨l,m,C,k⟩|⟨l,m,C,k⟩
 ·have t10:=fun B d=>t10 B d (by rw[k];omega) (by rw[k];exact g1);rw[←C,←k]at t51;rw[l]at J⊢;subst m;clear l C k q t52 f1 f2 g1 g2 hw x X hL hb;go_enter func21,ntmps21;go_upto_region 6 with(fail);generalize(w.alloc (.cells #[Z _,Ha s.name,Z s.a,Z s.b,O H s.vc.length ce,O N s.Ga.length Q,Ha s.text] 37)).alloc (.cells #[Z _,Z _,O f tl.length g] 71)=j at*;generalize w.heap.size+1=p at*;generalize w.heap.size=G at*;obtain⟨F,b1,b2⟩:=J.c3 G;have z:j.cell? ⟨R,1,none⟩=some (Da M):=J.cells R 1;have u1:=IT b1;have u2:=IT b2;have u4:=IT z;have m0:j.cell? ⟨M,0,none⟩=some (O mq.A (Ja e).length mq.c):=J.cells M 0;obtain⟨d0,d1,d2⟩:=J.c3 p;go_wp2_with fail;have b3:=J.cells G 3;have u3:=IT b3;refine Hc [0] [1,2,3,4,5,6,7,8,9] 10 [11,12,13,14,15] (by kernel_rfl) (by kernel_rfl) (by rfl) (fun _ _ _ _ _ h=>h) ?_;simp only[QT,VT,MT,NT];dsimp only[Ub];go_simp;repeat (quiet_step (fail))
  refine fU ?_;first|(rintro _ ⟨i,rfl⟩)|(intro i)
  have u:=jU j i.d i.os;generalize Go.Sort.grow (redrawn j i.d) i.os=wq at*;clear i;intro K S;go_simp;have K:=J.below u;clear u1 u2 u3 u4 F b1 b2 b3 z J u;refine K.kc t51 fun w5 v y=> ?_;obtain⟨_,A9,c9,rfl⟩:=y.Cd v;clear K t51;go_simp;refine S _ _ ?_;clear S K;repeat (quiet_step (fail))
  refine fU ?_;have P:Y w o r (Zg A9 tl c9*(ba p 71 #[Z c,Z 0,O f tl.length g]*(Ic f tl g*(ba R 41 #[W,Da M,.bool false]*(yl M mq (Ja e).length (La e).length D*(Ic mq.A (Ja e) mq.c*(jf mq.B (La e) mq.d*Kc s (O H s.vc.length ce) (O N s.Ga.length Q)))))))) w5:=y.ya;have E:=P.le (MZ c8 (JZ _));clear y P;obtain⟨F,b1,b2⟩:=E.c3 p;have t10:=t10 A9 c9;go_wp2_with fail;refine E.k1 t10 fun w6 K5=> ?_;go_wp2;go_ret;exact⟨rfl,U.out _ K5.ya⟩
 ·have t10:=fun B d=>t10 B d (by rw[k];omega) (by rw[k];exact g2);rw[←C,←k]at q;rw[l]at J⊢;subst m;clear l C k t51 t52 f1 f2 g1 g2 hw x X hL hb;go_enter func21,ntmps21;go_upto_region 6 with(fail);generalize(w.alloc (.cells #[Z _,Ha s.name,Z s.a,Z s.b,O H s.vc.length ce,O N s.Ga.length Q,Ha s.text] 37)).alloc (.cells #[Z _,Z _,O f tl.length g] 71)=j at*;generalize w.heap.size+1=p at*;generalize w.heap.size=G at*;obtain⟨F,b1,b2⟩:=J.c3 G;have z:j.cell? ⟨R,1,none⟩=some (Da M):=J.cells R 1;have u1:=IT b1;have u2:=IT b2;have u4:=IT z;have m0:j.cell? ⟨M,0,none⟩=some (O mq.A (Ja e).length mq.c):=J.cells M 0;obtain⟨d0,d1,d2⟩:=J.c3 p;go_wp2_with fail;have b3:=J.cells G 3;have u3:=IT b3;refine Hc [0] [1,2,3,4,5,6,7,8,9] 10 [11,12,13,14,15] (by kernel_rfl) (by kernel_rfl) (by rfl) (fun _ _ _ _ _ h=>h) ?_;simp only[QT,VT,MT,NT];dsimp only[Ub];go_simp;repeat (quiet_step (fail))
  refine fU ?_;first|(rintro _ ⟨i,rfl⟩)|(intro i)
  have u:=jU j i.d i.os;generalize Go.Sort.grow (redrawn j i.d) i.os=wq at*;clear i;intro K S;go_simp;have K:=J.below u;clear u1 u2 u3 u4 F b1 b2 b3 z J u;refine K.kc q fun w5 v y=> ?_;obtain⟨_,A9,c9,rfl⟩:=y.Cd v;clear K q;go_simp;refine S _ _ ?_;clear S K;repeat (quiet_step (fail))
  refine fU ?_;have P:Y w o r (Zg A9 tl c9*(ba p 71 #[Z c,Z 0,O f tl.length g]*(Ic f tl g*(ba R 41 #[W,Da M,.bool false]*(yl M mq (Ja e).length (La e).length D*(Ic mq.A (Ja e) mq.c*(jf mq.B (La e) mq.d*Kc s (O H s.vc.length ce) (O N s.Ga.length Q)))))))) w5:=y.ya;have E:=P.le (MZ c8 (JZ _));clear y P;obtain⟨F,b1,b2⟩:=E.c3 p;have t10:=t10 A9 c9;go_wp2_with fail;refine E.k1 t10 fun w6 K5=> ?_;go_wp2;go_ret;exact⟨rfl,U.out _ K5.ya⟩
 ·have aj:Ud prog 10 #[O f tl.length g,O none 0 0] (Ic f tl g*Ba 5 (O none 0 0) 0 (Vb [])) (.bool true) (Ic f tl g*Ba 5 (O none 0 0) 0 (Vb [])):=by have:=t10 none 0 (by rw[m];simp) (by rw[m];intro t ht;cases ht);rw[m]at this⊢;exact this
  rw[←C,←k]at t52;rw[l]at J⊢;clear l m C k t51 q t10 f1 f2 g1 g2 hw x X hL hb;go_enter func21,ntmps21;go_upto_region 6 with(fail);generalize(w.alloc (.cells #[Z _,Ha s.name,Z s.a,Z s.b,O H s.vc.length ce,O N s.Ga.length Q,Ha s.text] 37)).alloc (.cells #[Z _,Z _,O f tl.length g] 71)=j at*;generalize w.heap.size+1=p at*;generalize w.heap.size=G at*;obtain⟨F,b1,b2⟩:=J.c3 G;have z:j.cell? ⟨R,1,none⟩=some (Da M):=J.cells R 1;have u1:=IT b1;have u2:=IT b2;have u4:=IT z;have m0:j.cell? ⟨M,0,none⟩=some (O mq.A (Ja e).length mq.c):=J.cells M 0;obtain⟨d0,d1,d2⟩:=J.c3 p;go_wp2_with fail;refine Hc [0] [1,2,3,4,5] 6 [7,8,9,10,11] (by kernel_rfl) (by kernel_rfl) (by rfl) (fun _ _ _ _ _ h=>h) ?_;simp only[QT,VT,MT,NT];dsimp only[Ub];go_simp;repeat (quiet_step (fail))
  refine fU ?_;first|(rintro _ ⟨i,rfl⟩)|(intro i)
  have u:=jU j i.d i.os;generalize Go.Sort.grow (redrawn j i.d) i.os=wq at*;clear i;intro K S;go_simp;have K:=J.below u;clear u1 u2 u4 F b1 b2 z J u;refine K.k1 t52 fun w5 y=> ?_;clear K t52;go_simp;refine S _ _ ?_;clear S K;repeat (quiet_step (fail))
  refine fU ?_;have a7:=y.ya (A:=ba p 71 #[Z c,Z n,O f tl.length g]*(Ic f tl g*(ba R 41 #[W,Da M,.bool false]*(yl M mq (Ja e).length (La e).length D*(Ic mq.A (Ja e) mq.c*(jf mq.B (La e) mq.d*Kc s (O H s.vc.length ce) (O N s.Ga.length Q)))))));have P:=a7.le (KZ (RZ trivial) (MZ (KZ (j0 58 5) c8) (JZ _)));clear y a7;obtain⟨F,b1,b2⟩:=P.c3 p;have a1:Ud prog 10 #[O f tl.length g,O none 0 0] (Ic f tl g*Ba 5 (O none 0 0) 0 []) (.bool true) (Ic f tl g*Ba 5 (O none 0 0) 0 []):=aj;go_wp2_with fail;refine P.k1 a1 fun w6 E=> ?_;go_wp2;go_ret;exact⟨rfl,U.out _ E.ya⟩
 ·have a8:Ud prog 10 #[O f tl.length g,O mq.A (Ja e).length mq.c] (Ic f tl g*Ic mq.A (Ja e) mq.c) (.bool true) (Ic f tl g*Ic mq.A (Ja e) mq.c):=by rw[←k];exact t10 mq.A mq.c (by rw[k];omega) (by rw[k];exact hw)
  rw[l]at J⊢;subst m C;clear l k t51 q t52 t10 f1 f2 g1 g2 hw x X hL hb;go_enter func21,ntmps21;go_upto_region 6 with(fail);generalize(w.alloc (.cells #[Z _,Ha s.name,Z s.a,Z s.b,O H s.vc.length ce,O N s.Ga.length Q,Ha s.text] 37)).alloc (.cells #[Z _,Z _,O f tl.length g] 71)=j at*;generalize w.heap.size+1=p at*;generalize w.heap.size=G at*;obtain⟨F,b1,b2⟩:=J.c3 G;have z:j.cell? ⟨R,1,none⟩=some (Da M):=J.cells R 1;have u1:=IT b1;have u2:=IT b2;have u4:=IT z;have m0:j.cell? ⟨M,0,none⟩=some (O mq.A (Ja e).length mq.c):=J.cells M 0;obtain⟨d0,d1,d2⟩:=J.c3 p;go_wp2_with fail;refine J.k1 a8 fun w6 E=> ?_;go_wp2;go_ret;exact⟨rfl,U.out _ E.ya⟩
end
end Go.Proofs.YteacbkflfafefaaGreatDoor
