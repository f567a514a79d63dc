/- Part 50 of 50 of the proof that TopViews returns true at every input: lemmas on the way; no condition. -/
import Derived.Test.YteacbkflfafefaaGreatDoorZ46
import Derived.Test.YteacbkflfafefaaGreatDoorZ47
import Derived.Test.YteacbkflfafefaaGreatDoorZ48
namespace Go.Proofs.YteacbkflfafefaaGreatDoor
set_option linter.all false
set_option maxHeartbeats 40000000
set_option maxRecDepth 100000
section
open Go.RowKit An Go.ChangeShapes Go.WideShapes Go.ChangeAt Go.Proofs.Tryz
structure rN where
 M:Nat
 q:SP
 σ:RS
 mq:MQ
 brk:Bool
def zH(da:Nat)(σ:RS)(s:Hk)(x:rN):Prop:=((s.kind=13∨s.kind=14)∧(x.brk=true∨ZD da σ x.σ))∨((s.kind≠13∧s.kind≠14)∧x.brk=false∧∃c n tl,bE da σ s c n tl x.σ)
abbrev vA(R W D rate da:Nat)(σ:RS)(s:Hk)(ve vk:Value)(x:rN):aa:=aa.pure (zH da σ s x)*(Pk ⟨R,x.M,W,D,x.q,x.σ,x.mq,x.brk⟩ rate da*Kc s ve vk)
section
variable {da:Nat}{σ σ':RS}{s:Hk}{c:Nat}{n:Int}{tl:List An.yc}
theorem Io(h:bE da σ s c n tl σ')(b:¬ (9≤s.kind∧s.kind≤14)){x:OS}(a:σ.o=some x):yH da σ s c n tl σ':=by
 rcases h with⟨h,_⟩|⟨h,_⟩|⟨h,_⟩|⟨_,h⟩
 ·omega
 ·omega
 ·omega
 ·rcases h with⟨h,_⟩|⟨_,h⟩
  ·rw[a]at h;cases h
  ·exact h
theorem Jo(h:bE da σ s c n tl σ')(d:¬ (9≤s.kind∧s.kind≤14))(b:σ.o=none):σ'=σ∧c=61∧n=0∧tl=[]:=by
 rcases h with⟨h,_⟩|⟨h,_⟩|⟨h,_⟩|⟨_,h⟩
 ·omega
 ·omega
 ·omega
 ·rcases h with⟨_,h⟩|⟨⟨x,a⟩,_⟩
  ·exact h
  ·rw[b]at a;cases a
theorem xK(h:bE da σ s c n tl σ')(f:¬ (9≤s.kind∧s.kind≤14))(i:s.kind<1∨8<s.kind){x:OS}(g:σ.o=some x):σ'=σ∧c=2∧n=0∧tl=[]:=by rcases Io h f g with⟨h,_⟩|⟨h,_⟩|⟨h,_⟩|⟨h,_⟩|⟨h,_⟩|⟨h,_⟩|⟨h,_⟩|⟨h,_⟩|⟨_,a,b,d,e⟩;all_goals first|omega|exact⟨a,e,b,d⟩
theorem aG(h:bE da σ s c n tl σ')(l:s.kind=1){x:OS}(f:σ.o=some x)(k:σ.d.down=false):tl=[]∧∃m:Nat,n=m∧OB da σ s.name s.a s.vc m c σ'∧(σ'.o=none∨σ'.d.down=false):=by have b:=Io h (by omega) f;have e:=b.dn k ⟨x,f⟩;rcases b with⟨_,g,m,i,j⟩|⟨h,_⟩|⟨h,_⟩|⟨h,_⟩|⟨h,_⟩|⟨h,_⟩|⟨h,_⟩|⟨h,_⟩|⟨h,_⟩;all_goals first|omega|exact⟨g,m,i,j,e.elim (fun h=> .inr h.2) (fun h=> .inl h.1)⟩
theorem Gt(h:bE da σ s c n tl σ')(g:2≤s.kind∧s.kind≤5){x:OS}(f:σ.o=some x):σ'=σ∧ZP σ.MB s c n tl:=by
 rcases Io h (by omega) f with⟨h,_⟩|⟨h,a,b,d,e⟩|⟨h,a,b,d,e⟩|⟨h,a,b,d,e⟩|⟨h,a,b,d,e⟩|⟨h,_⟩|⟨h,_⟩|⟨h,_⟩|⟨h,_⟩
 ·omega
 ·exact⟨a,.inl ⟨h,b,d,e⟩⟩
 ·exact⟨a,.inr (.inl ⟨h,b,d,e⟩)⟩
 ·exact⟨a,.inr (.inr (.inl ⟨h,b,d,e⟩))⟩
 ·exact⟨a,.inr (.inr (.inr ⟨h,b,d,e⟩))⟩
 all_goals omega
theorem pE(h:bE da σ s c n tl σ')(i:6≤s.kind∧s.kind≤8){x:OS}(g:σ.o=some x):σ'.MB=σ.MB∧mT s σ.MB σ.s c σ'.s σ'.d.down:=by
 rcases Io h (by omega) g with⟨h,_⟩|⟨h,_⟩|⟨h,_⟩|⟨h,_⟩|⟨h,_⟩|⟨h,_,_,e⟩|⟨h,_,_,e,_⟩|⟨h,_,_,e,_⟩|⟨h,_⟩
 ·omega
 ·omega
 ·omega
 ·omega
 ·omega
 ·refine⟨e.mb,.inl h,?_,?_⟩
  ·rcases e.st with⟨_,b,a⟩|⟨_,_,b,a⟩
   ·exact .inl ⟨b,by omega,a⟩
   ·exact .inr ⟨.inl (by omega),b⟩
  ·rcases e.st with⟨_,b,a⟩|⟨_,f,b,a⟩
   ·exact .inl b
   ·exact .inr (.inr (.inr ⟨a,f⟩))
 ·refine⟨e.mb,.inr (.inl h),?_,?_⟩
  ·rcases e.st with⟨_,⟨b,a⟩|⟨b,a⟩⟩|⟨_,_,b,a⟩
   ·exact .inl ⟨b,by omega,a⟩
   ·exact .inr ⟨.inl (by omega),a⟩
   ·exact .inr ⟨.inl (by omega),b⟩
  ·rcases e.st with⟨_,⟨b,a⟩|⟨b,a⟩⟩|⟨_,f,b,a|a⟩
   ·exact .inl b
   ·exact .inr (.inr (.inl ⟨b,by omega⟩))
   ·exact .inr (.inr (.inl ⟨a,by omega⟩))
   ·exact .inr (.inr (.inr ⟨a,f⟩))
 ·refine⟨e.mb,.inr (.inr h),?_,?_⟩
  ·rcases e.st with⟨_,b,_⟩|⟨_,_,b,_⟩
   ·exact .inr ⟨.inr h,b⟩
   ·exact .inr ⟨.inr h,b⟩
  ·rcases e.st with⟨_,b,a|a|a|a⟩|⟨_,f,b,a|a⟩
   ·exact .inl a
   ·exact .inr (.inr (.inl ⟨a,by omega⟩))
   ·exact .inr (.inl ⟨h,.inl a⟩)
   ·exact .inr (.inl ⟨h,.inr a⟩)
   ·exact .inr (.inr (.inl ⟨a,by omega⟩))
   ·exact .inr (.inr (.inr ⟨a,f⟩))
 ·omega
theorem qz(h:bE da σ s c n tl σ')(d:s.kind=9):n=0∧Ky da (RS.off σ) c σ':=by
 rcases h with⟨_,a,_,b⟩|⟨h,_⟩|⟨h,_⟩|⟨h,_⟩
 ·exact⟨a,b⟩
 all_goals omega
theorem yK(h:bE da σ s c n tl σ')(e:s.kind=10∨s.kind=11):σ'.o=none∧σ'.MB=σ.MB∧σ'.s=σ.s:=by
 rcases h with⟨h,_⟩|⟨_,_,a,b,d,_⟩|⟨h,_⟩|⟨h,_⟩
 ·omega
 ·exact⟨a,b,d⟩
 all_goals omega
theorem vK(h:bE da σ s c n tl σ')(d:s.kind=12):σ'.MB=σ.MB∧σ'.s=σ.s:=by
 rcases h with⟨h,_⟩|⟨h,_⟩|⟨_,_,_,a,b,_⟩|⟨h,_⟩
 ·omega
 ·omega
 ·exact⟨a,b⟩
 ·omega
variable {w w':World}{o r:Td}{R M W D rate:Nat}{q':SP}{mq:MQ}{MD SA:aa}{ve vk:Value}
theorem Ft(a:Kc s ve vk=SA)(b:s.kind≠13∧s.kind≠14)(d:bE da σ s c n tl σ') (h:Y w o r (ba R 41 #[Da W,Da M,.bool false]*(wA W q' D rate da σ'*(xj M (Ja σ'.MB) (La σ'.MB) (Z σ'.s) mq*SA))) w'):Y w o r (aa.pure (zH da σ s ⟨M,q',σ',mq,false⟩)*(Pk ⟨R,M,W,D,q',σ',mq,false⟩ rate da*Kc s ve vk)) w':=by subst a;exact h.le (KZ (KZ (MZ (JZ _) PZ) PZ) (RZ (.inr ⟨b,rfl,c,n,tl,d⟩)))
theorem cq(a:xj M (Ja σ.MB) (La σ.MB) (Z σ.s) mq=MD)(b:Kc s ve vk=SA)(d:σ'.MB=σ.MB)(e:σ'.s=σ.s)(f:s.kind≠13∧s.kind≠14)(g:bE da σ s c n tl σ') (h:Y w o r (ba R 41 #[Da W,Da M,.bool false]*(wA W q' D rate da σ'*(MD*SA))) w'):Y w o r (aa.pure (zH da σ s ⟨M,q',σ',mq,false⟩)*(Pk ⟨R,M,W,D,q',σ',mq,false⟩ rate da*Kc s ve vk)) w':=by rw[←a,←d,←e]at h;exact Ft b f g h
end
section
theorem YS(hF:Dl)(R M W:Nat)(q:SP)(D rate da:Nat){σ:RS}(mq:MQ)(h:σ.Ok da)(a7:da<18446744073709551616)(H:σ.K≤89)(s:Hk)(hs:Gl s)(hk:s.kind≠13∧s.kind≠14)(ve vk:Value):Tr prog 7 #[Da R,Of s ve vk] (Pk ⟨R,M,W,D,q,σ,mq,false⟩ rate da*Kc s ve vk) (fun _:rN=> .bool true) (vA R W D rate da σ s ve vk):=by
 intro w o r h0;have I:=TZ h0;have t8:=jl W D (Yd σ.o q.S) (Pa da) (.float .f64 rate);have t19:=XS hF W q D rate da h a7 H s hs hk ve vk;have I0:Y w o r (ba R 41 #[Da W,Da M,.bool false]*(wA W q D rate da σ*(xj M (Ja σ.MB) (La σ.MB) (Z σ.s) mq*Kc s ve vk))) w:=I.le (KZ OZ (MZ (JZ _) OZ));obtain⟨_,N,ce,rfl,_⟩:=I0.sl ve;have ak:Y w o r (Ba 1 vk s.Ga.length (xf s.Ga)) w:=I0.ya;obtain⟨_,P,Q,rfl,_⟩:=ak.sl vk;obtain⟨ne,aM⟩:∃n,s.vc.length=n:=⟨_,rfl⟩;obtain⟨U,aT⟩:∃n,s.Ga.length=n:=⟨_,rfl⟩;rw[aM,aT]at t19 I0⊢;obtain⟨g,name,sa,sb,text,aj,aq⟩:∃g name sa sb text,Of s (O N ne ce) (O P U Q)= .agg #[Z g,.string name,Z sa,Z sb,O N ne ce,O P U Q,.string text]∧s.kind=g:=⟨_,_,_,_,_,rfl,rfl⟩;rw[aj]at t19⊢;have J:=I0.Wa (.cells #[Z g,.string name,Z sa,Z sb,O N ne ce,O P U Q,.string text] 37) w.heap.size rfl;have bf:σ.MB.length≤89:=KT h.many H;have HL:=V (show(Ja σ.MB).length≤10000 from KT (po h.ok) (by omega));have HM:=V (show σ.MB.length≤10000 by omega);have c0:(g==13)=false:=by rw[ET];omega
 have c1:(g==14)=false:=by rw[ET];omega
 have HS:=V hs;have a8:=V h;have HK:=V aq;have a1:=V aj;have b9:=V (show g=1∨(g=2∨g=3∨g=4∨g=5)∨(g=6∨g=7∨g=8)∨g=9∨(g=10∨g=11)∨g=12∨(g<1∨14<g) by omega);have G:=V (show s.kind≠13∧s.kind≠14 from hk);generalize al:xj M (Ja σ.MB) (La σ.MB) (Z σ.s) mq=MD at J;generalize an:Kc s (O N ne ce) (O P U Q)=SA at*;have F:=V al;have j:=V an;obtain⟨mo,av,bm⟩:∃mo,Yd σ.o q.S= .pointer mo∧(σ.o=none∧mo=none∨(∃x,σ.o=some x)∧mo=some ⟨q.S,0,none⟩):=by
  cases B:σ.o with
  |none=>exact⟨_,rfl,.inl ⟨rfl,rfl⟩⟩
  |some x=>exact⟨_,rfl,.inr ⟨⟨x,rfl⟩,rfl⟩⟩
 have t8:Pp prog 8 #[Da W] (ba W 77 #[Da D,Yd σ.o q.S,Pa da,.float .f64 rate]) (.pointer mo):=fun w o r h=>av▸t8 w o r h;clear h0 I I0 ak aM aT aj aq hs h a7 H hk bf al an av;rcases bm with⟨B,rfl⟩|⟨B,rfl⟩;rotate_left;have HX:=V B;rotate_left;have HC:=V B;all_goals
  clear B;go_enter func7,ntmps7;go_upto_region 1 with(fail);generalize w.alloc (.cells #[Z g,.string name,Z sa,Z sb,O N ne ce,O P U Q,.string text] 37)=W1 at*;generalize w.heap.size=f at*;have e0:World.cell? _ ⟨R,0,none⟩=some (Da W):=YZ J R 0;go_wp2_with fail;refine J.ka t8 fun m=> ?_;have J1:=J.drewN m;clear J e0 t8;generalize W1.drewN m=W2 at*;have b0:=J1.cells f 0;go_upto_region 5 with(fail);have e0:W2.cell? ⟨R,0,none⟩=some (Da W):=YZ J1 R 0;have b1:=J1.cells f 1;have b2:=J1.cells f 2;have b3:=J1.cells f 3;have b4:=J1.cells f 4;have b5:=J1.cells f 5;have b6:=J1.cells f 6;refine Ey (fun X=>X.cell? ⟨R,0,none⟩=some (Da W)∧X.cell? ⟨f,0,none⟩=some (Z g)∧X.cell? ⟨f,1,none⟩=some (.string name)∧X.cell? ⟨f,2,none⟩=some (Z sa)∧X.cell? ⟨f,3,none⟩=some (Z sb)∧X.cell? ⟨f,4,none⟩=some (O N ne ce)∧X.cell? ⟨f,5,none⟩=some (O P U Q)∧X.cell? ⟨f,6,none⟩=some (.string text)) (fun a b=>Below a.heap.size a b) [0,1,2,3,4] 5 6 7 (fun w=>mU _ _) (fun _ _ _=>vb) (fun _ _ ⟨h,h0,h1,h2,h3,h4,h5,h6⟩ hb=>⟨Bb hb h,Bb hb h0,Bb hb h1,Bb hb h2,Bb hb h3,Bb hb h4,Bb hb h5,Bb hb h6⟩) (by kernel_rfl) (by kernel_rfl) (by rfl) (by rfl) (by rfl) (fun _ _ _ _ _ h=>h) ⟨e0,b0,b1,b2,b3,b4,b5,b6⟩ ?_;simp only[QT,VT,MT,NT];iterate 5 (first|(refine db (by rfl) (fun K H=> ?_);go_simp;refine H _ ?_;clear H K)|(refine gb (by rfl) (fun K H=> ?_);apply Exists.intro;refine⟨fun w hw=> ?_,?_⟩;(next=>(first|(go_simp;rfl)|(obtain⟨e0,b0,b1,b2,b3,b4,b5,b6⟩:=hw;go_simp;rfl)|(obtain⟨e0,b0,b1,b2,b3,b4,b5,b6⟩:=hw;go_simp;done)));go_simp;refine H _ ?_;clear H K))
  refine Eb ?_;intro w1 b7;have J2:=J1.drew.below b7;clear b7 J1 e0 b0 b1 b2 b3 b4 b5 b6;refine⟨OF (fun K H=> ?_),ic (fun K H=> ?_)⟩;rotate_left;have z:=Y.Wa J2 (.cells #[Z 0,Z 0,O none 0 0] 71) (w1).heap.size rfl;go_simp;refine H _ _ ⟨z.cells R 0,z.cells f 0,z.cells f 1,z.cells f 2,z.cells f 3,z.cells f 4,z.cells f 5,z.cells f 6⟩ (fun w4 a6=> ?_);clear H K;have K6:=z.below a6;clear a6 z J2;generalize(w1).heap.size=u at*;unfold Sb;go_wp2_with fail;refine(K6.call t19).mono ?_;rintro e w3 ⟨⟨c,n,tl,v,q',σ'⟩,rfl,K3⟩;obtain⟨hr,K4⟩:=K3.pure;dsimp only at hr;obtain⟨_,Av,cv,hv⟩:=K4.Cd v;dsimp only at hv;subst hv;dsimp only at K4;have l:=V hr;unfold BH;dsimp only;have K6:Y w o r (ba u 71 #[Z 0,Z 0,O none 0 0]*((Zg Av tl cv*(ba R 41 #[Da W,Da M,.bool false]*(wA W q' D rate da σ'*(MD*(SA*ba f 37 #[Z g,.string name,Z sa,Z sb,O N ne ce,O P U Q,.string text]))))))) _:=K4.ya;clear K3 K4 t19 hr;rotate_left;go_simp;refine(J2.call t19).mono ?_;rintro e w3 ⟨⟨c,n,tl,v,q',σ'⟩,rfl,K3⟩;obtain⟨hr,K4⟩:=K3.pure;dsimp only at hr;obtain⟨_,Av,cv,hv⟩:=K4.Cd v;dsimp only at hv;subst hv;dsimp only at K4;have l:=V hr;unfold BH;dsimp only;have K4:Y w o r ((Zg Av tl cv*(ba R 41 #[Da W,Da M,.bool false]*(wA W q' D rate da σ'*(MD*(SA*ba f 37 #[Z g,.string name,Z sa,Z sb,O N ne ce,O P U Q,.string text])))))) _:=K4.ya;clear K3 J2 t19 hr;refine H _ _ ?_;clear H K;refine ic (fun K H=> ?_);have z:=Y.Wa K4 (.cells #[Z 0,Z 0,O none 0 0] 71) (w3).heap.size rfl;go_simp;refine H _ _ ⟨z.cells R 0,z.cells f 0,z.cells f 1,z.cells f 2,z.cells f 3,z.cells f 4,z.cells f 5,z.cells f 6⟩ (fun w4 a6=> ?_);clear H K;have K6:=z.below a6;clear a6 z K4;generalize(w3).heap.size=u at*;unfold Sb
 all_goals
  obtain⟨f0,f1,f2⟩:=K6.f3 u;obtain⟨d0,d1,d2⟩:=K6.c3 u;go_upto_region 6 with(fail);have d:Y w o r (ba u 71 #[Z c,Z n,O Av tl.length cv]*((Zg Av tl cv*(ba R 41 #[Da W,Da M,.bool false]*(wA W q' D rate da σ'*(MD*(SA*ba f 37 #[Z g,.string name,Z sa,Z sb,O N ne ce,O P U Q,.string text]))))))) _:=(((K6.ra u 0 (Z c) _ rfl).ra u 1 (Z n) _ rfl).ra u 2 (O Av tl.length cv) _ rfl);clear f0 f1 f2 d0 d1 d2 K6;generalize World.setCell (World.setCell (World.setCell _ ⟨u,0,none⟩ (Z c)) ⟨u,1,none⟩ (Z n)) ⟨u,2,none⟩ (O Av tl.length cv)=W9 at*;rcases b9.out with rfl|hk|hk|rfl|hk|rfl|hk
  ·first
    |have B:=HC.out;obtain⟨i,t,C,T⟩:=Jo l.out (by have:=HK.out;omega) B;have i:=i.symm;subst i t C T;dsimp only[List.length_nil]at d⊢;have E:=JJ R s N P Av ne ce U Q 0 cv;rw[a1.out]at E;obtain⟨b0,b1,b2,b3,b4,b5,b6⟩:=d.c7 f;obtain⟨d0,d1,d2⟩:=d.c3 u;go_wp2_with fail;refine d.kp E fun w5 L=> ?_;go_wp2;go_ret;have p:=L.ya (A:=ba R 41 #[Da W,Da M,.bool false]*(wA W q' D rate da σ*(MD*SA)));exact⟨⟨M,q',σ,mq,false⟩,rfl,cq F.out j.out rfl rfl G.out l.out p⟩
    |obtain⟨x,B⟩:=HX.out;obtain⟨i,nn,t,C,T⟩:=aG l.out HK.out B (a8.out.live x B).1.up;have E:=KJ R M W D q' rate da (σ:=σ) (σ':=σ') mq s HS.out (O N ne ce) (O P U Q) Av tl.length cv nn c C HL.out HM.out T;rw[a1.out,j.out]at E;subst t;clear i C T B;obtain⟨b0,b1,b2,b3,b4,b5,b6⟩:=d.c7 f;obtain⟨d0,d1,d2⟩:=d.c3 u;go_wp2_with fail;rw[←F.out]at d;refine d.kc E fun w5 y L=> ?_;go_wp2;go_ret;have p:=L.ya (A:=ba R 41 #[Da W,Da y.M,.bool false]*(wA W q' D rate da σ'*(xj y.M (Ja σ'.MB) (La σ'.MB) (Z σ'.s) y.mq*SA)));exact⟨⟨y.M,q',σ',y.mq,false⟩,rfl,Ft j.out G.out l.out p⟩
  ·rcases hk with rfl|rfl|rfl|rfl;all_goals first
    |have B:=HC.out;obtain⟨i,t,C,T⟩:=Jo l.out (by have:=HK.out;omega) B;have i:=i.symm;subst i t C T;dsimp only[List.length_nil]at d⊢;have E:=pR R s N P Av ne ce U Q cv 0;rw[a1.out]at E;obtain⟨b0,b1,b2,b3,b4,b5,b6⟩:=d.c7 f;obtain⟨d0,d1,d2⟩:=d.c3 u;go_wp2_with fail;refine d.kp E fun w5 L=> ?_;go_wp2;go_ret;have p:=L.ya (A:=ba R 41 #[Da W,Da M,.bool false]*(wA W q' D rate da σ*(MD*SA)));exact⟨⟨M,q',σ,mq,false⟩,rfl,cq F.out j.out rfl rfl G.out l.out p⟩
    |obtain⟨x,B⟩:=HX.out;obtain⟨i,t⟩:=Gt l.out (by have:=HK.out;omega) B;have i:=i.symm;subst i;have E:=qR R M (Da W) σ.MB a8.out.ok (Z σ.s) mq s HS.out (O N ne ce) (O P U Q) Av cv c n tl t HL.out;rw[a1.out,j.out]at E;obtain⟨b0,b1,b2,b3,b4,b5,b6⟩:=d.c7 f;obtain⟨d0,d1,d2⟩:=d.c3 u;rw[←F.out]at d;have bc:=d.le (KZ (KZ PZ (KZ (MZ NZ (JZ _)) OZ)) (MZ c8 (JZ _)));clear d;go_wp2_with fail;refine bc.k1 E fun w5 L=> ?_;go_wp2;go_ret;have p:=L.ya (A:=ba R 41 #[Da W,Da M,.bool false]*(wA W q' D rate da σ*(xj M (Ja σ.MB) (La σ.MB) (Z σ.s) mq*SA)));exact⟨⟨M,q',σ,mq,false⟩,rfl,Ft j.out G.out l.out p⟩
  ·rcases hk with rfl|rfl|rfl;all_goals first
    |have B:=HC.out;obtain⟨i,t,C,T⟩:=Jo l.out (by have:=HK.out;omega) B;have i:=i.symm;subst i t C T;dsimp only[List.length_nil]at d⊢;have E:=qK R s N P Av ne ce U Q cv 0 0;rw[a1.out]at E;obtain⟨b0,b1,b2,b3,b4,b5,b6⟩:=d.c7 f;obtain⟨d0,d1,d2⟩:=d.c3 u;go_wp2_with fail;refine d.kp E fun w5 L=> ?_;go_wp2;go_ret;have p:=L.ya (A:=ba R 41 #[Da W,Da M,.bool false]*(wA W q' D rate da σ*(MD*SA)));exact⟨⟨M,q',σ,mq,false⟩,rfl,cq F.out j.out rfl rfl G.out l.out p⟩
    |obtain⟨x,B⟩:=HX.out;obtain⟨i,t⟩:=pE l.out (by have:=HK.out;omega) B;have E:=rK R M W D q' rate da σ.MB σ.s σ'.s (σ':=σ') mq s (O N ne ce) (O P U Q) Av tl.length cv c n t;rw[a1.out,j.out]at E;obtain⟨b0,b1,b2,b3,b4,b5,b6⟩:=d.c7 f;obtain⟨d0,d1,d2⟩:=d.c3 u;go_wp2_with fail;rw[←F.out]at d;refine d.k1 E fun w5 L=> ?_;go_wp2;go_ret;have p:=L.ya (A:=ba R 41 #[Da W,Da M,.bool false]*(wA W q' D rate da σ'*(xj M (Ja σ.MB) (La σ.MB) (Z σ'.s) mq*SA)));rw[←i]at p;exact⟨⟨M,q',σ',mq,false⟩,rfl,Ft j.out G.out l.out p⟩
  ·obtain⟨i,t⟩:=qz l.out HK.out;subst i;rcases t.st with⟨C,⟨x,T⟩,k,e5,e6,e7,e8⟩|⟨C,T,e5,e6,e7⟩
   ·subst C;obtain⟨b0,b1,b2,b3,b4,b5,b6⟩:=d.c7 f;obtain⟨d0,d1,d2⟩:=d.c3 u;go_wp2_with fail;have E:=iR R M W D q' rate da σ.MB σ.s mq s (O N ne ce) (O P U Q) Av tl.length cv 0 T t.ok a8.out.ok k e5 e6 e7 e8 HL.out HM.out;rw[j.out]at E;rw[←F.out]at d;refine d.kc E fun w5 y L=> ?_;go_wp2;go_ret;have p:=L.ya (A:=ba R 41 #[Da W,Da y.M,.bool false]*(wA W q' D rate da σ'*(xj y.M (Ja σ'.MB) (La σ'.MB) (Z σ'.s) y.mq*SA)));exact⟨⟨y.M,q',σ',y.mq,false⟩,rfl,Ft j.out G.out l.out p⟩
   ·subst C;obtain⟨b0,b1,b2,b3,b4,b5,b6⟩:=d.c7 f;obtain⟨d0,d1,d2⟩:=d.c3 u;go_wp2_with fail;refine d.k1 (gR R M W D q' rate da (MD*SA) Av tl.length cv 0 T e5) fun w5 L=> ?_;go_wp2;go_ret;have p:=L.ya (A:=ba R 41 #[Da W,Da M,.bool false]*(wA W q' D rate da σ'*(MD*SA)));exact⟨⟨M,q',σ',mq,false⟩,rfl,cq F.out j.out e6 e7 G.out l.out p⟩
  ·obtain⟨i,t,C⟩:=yK l.out (by have:=HK.out;omega);have t8:=jl W D (Yd σ'.o q'.S) (Pa da) (.float .f64 rate);have hv:Yd σ'.o q'.S= .pointer none:=by rw[i];rfl
   have t8:Pp prog 8 #[Da W] (ba W 77 #[Da D,Yd σ'.o q'.S,Pa da,.float .f64 rate]) (.pointer none):=fun w o r h=>hv▸t8 w o r h;obtain⟨b0,b1,b2,b3,b4,b5,b6⟩:=d.c7 f;obtain⟨d0,d1,d2⟩:=d.c3 u;have e0:W9.cell? ⟨R,0,none⟩=some (Da W):=YZ d R 0;rcases hk with rfl|rfl;all_goals go_wp2_with fail;refine d.ka t8 fun m5=> ?_;have L:=d.drewN m5;go_wp2;go_ret;have p:=L.ya (A:=ba R 41 #[Da W,Da M,.bool false]*(wA W q' D rate da σ'*(MD*SA)));exact⟨⟨M,q',σ',mq,false⟩,rfl,cq F.out j.out t C G.out l.out p⟩
  ·obtain⟨t,C⟩:=vK l.out HK.out;obtain⟨b0,b1,b2,b3,b4,b5,b6⟩:=d.c7 f;obtain⟨d0,d1,d2⟩:=d.c3 u;go_wp2;go_ret;have p:=d.ya (A:=ba R 41 #[Da W,Da M,.bool false]*(wA W q' D rate da σ'*(MD*SA)));exact⟨rfl,⟨M,q',σ',mq,false⟩,cq F.out j.out t C G.out l.out p⟩
  ·have hq:¬ (9≤s.kind∧s.kind≤14)∧(s.kind<1∨8<s.kind):=by have:=HK.out;omega
   have q1:(g==1)=false:=by rw[ET];omega
   have q2:(g==2)=false:=by rw[ET];omega
   have q3:(g==3)=false:=by rw[ET];omega
   have q4:(g==4)=false:=by rw[ET];omega
   have q5:(g==5)=false:=by rw[ET];omega
   have q6:(g==6)=false:=by rw[ET];omega
   have q7:(g==7)=false:=by rw[ET];omega
   have q8:(g==8)=false:=by rw[ET];omega
   have q9:(g==9)=false:=by rw[ET];omega
   have bn:(g==10)=false:=by rw[ET];omega
   have bs:(g==11)=false:=by rw[ET];omega
   have bt:(g==12)=false:=by rw[ET];omega
   clear hk;have HQ:=V hq;clear hq;obtain⟨b0,b1,b2,b3,b4,b5,b6⟩:=d.c7 f;obtain⟨d0,d1,d2⟩:=d.c3 u;first
    |obtain⟨i,t,C,T⟩:=Jo l.out HQ.out.1 HC.out;have i:=i.symm;subst i t C T;go_wp2;go_ret;have p:=d.ya (A:=ba R 41 #[Da W,Da M,.bool false]*(wA W q' D rate da σ*(MD*SA)));exact⟨rfl,⟨M,q',σ,mq,false⟩,cq F.out j.out rfl rfl G.out l.out p⟩
    |obtain⟨x,B⟩:=HX.out;obtain⟨i,t,C,T⟩:=xK l.out HQ.out.1 HQ.out.2 B;have i:=i.symm;subst i t C T;go_wp2;go_ret;have p:=d.ya (A:=ba R 41 #[Da W,Da M,.bool false]*(wA W q' D rate da σ*(MD*SA)));exact⟨rfl,⟨M,q',σ,mq,false⟩,cq F.out j.out rfl rfl G.out l.out p⟩
end
end
section
open Go.RowKit An Go.ChangeShapes Go.WideShapes Go.ChangeAt Go.Proofs.Tryz
theorem ZS(R M W:Nat)(q:SP)(D rate da:Nat){σ:RS}(mq:MQ)(h:σ.Ok da)(G:σ.K≤89)(s:Hk)(P:Gl s)(z:s.kind=13∨s.kind=14)(c a:Value):Tr prog 7 #[Da R,Of s c a] (Pk ⟨R,M,W,D,q,σ,mq,false⟩ rate da*Kc s c a) (fun _:rN=> .bool true) (vA R W D rate da σ s c a):=by
 intro w o r F;have I:=TZ F;have t8:=jl W D (Yd σ.o q.S) (Pa da) (.float .f64 rate);have t18:=DM ⟨R,M,W,D,q,σ,mq,false⟩ rate da h G rfl s P z c a;have y:Y w o r (ba R 41 #[Da W,Da M,.bool false]*(wA W q D rate da σ*(xj M (Ja σ.MB) (La σ.MB) (Z σ.s) mq*Kc s c a))) w:=I.le (KZ OZ (MZ (JZ _) OZ));obtain⟨_,d,ce,rfl,_⟩:=y.sl c;have k:Y w o r (Ba 1 a s.Ga.length (xf s.Ga)) w:=y.ya;obtain⟨_,e,f,rfl,_⟩:=k.sl a;obtain⟨ne,t⟩:∃n,s.vc.length=n:=⟨_,rfl⟩;obtain⟨g,u⟩:∃n,s.Ga.length=n:=⟨_,rfl⟩;rw[t,u]at t18 I⊢;obtain⟨b,name,i,j,text,v,H⟩:∃b name i j text,Of s (O d ne ce) (O e g f)= .agg #[Z b,.string name,Z i,Z j,O d ne ce,O e g f,.string text]∧s.kind=b:=⟨_,_,_,_,_,rfl,rfl⟩;rw[v]at t18⊢;have J:=I.Wa (.cells #[Z b,.string name,Z i,Z j,O d ne ce,O e g f,.string text] 37) w.heap.size rfl;have Q:=V z;have L:b=13∨b=14:=by omega
 obtain⟨mo,p⟩:=ju σ.o q.S;have t8:Pp prog 8 #[Da W] (ba W 77 #[Da D,Yd σ.o q.S,Pa da,.float .f64 rate]) (.pointer mo):=fun w o r h=>p▸t8 w o r h;generalize l:Kc s (O d ne ce) (O e g f)=SA at*;have B:=V l;clear F I y k t u v H P h G z p l;rcases L with rfl|rfl;all_goals go_enter func7,ntmps7;go_upto_region 1 with(fail);generalize w.alloc (.cells #[Z _,.string name,Z i,Z j,O d ne ce,O e g f,.string text] 37)=W1 at*;generalize w.heap.size=r1 at*;have e0:World.cell? _ ⟨R,0,none⟩=some (Da W):=YZ J R 0;go_wp2_with fail;refine J.ka t8 fun m=> ?_;have C:=J.drewN m;clear J e0 t8;generalize W1.drewN m=W2 at*;obtain⟨b0,b1,b2,b3,b4,b5,b6⟩:=C.c7 r1;go_wp2_with fail;refine C.kc t18 fun w3 x U=> ?_;obtain⟨N,X⟩:=U.pure;have T:=V N;clear N;go_wp2;go_ret;refine⟨(⟨M,q,x.σ,mq,x.brk⟩:rN),rfl,?_⟩;have E:=X.ya (A:=Pk ⟨R,M,W,D,q,x.σ,mq,x.brk⟩ rate da*SA);rw[←B.out]at E;exact E.le (RZ (.inl ⟨Q.out,T.out⟩))
theorem xT(hF:Dl)(R M W:Nat)(q:SP)(D rate da:Nat){σ:RS}(mq:MQ)(h:σ.Ok da)(c:da<18446744073709551616)(d:σ.K≤89)(s:Hk)(e:Gl s)(a b:Value):Tr prog 7 #[Da R,Of s a b] (Pk ⟨R,M,W,D,q,σ,mq,false⟩ rate da*Kc s a b) (fun _:rN=> .bool true) (vA R W D rate da σ s a b):=by
 by_cases f:s.kind=13∨s.kind=14
 ·exact ZS R M W q D rate da mq h d s e f a b
 ·exact YS hF R M W q D rate da mq h c d s e (by omega) a b
end
section
open Go.RowKit An
def bL:Ev:=⟨[116],[],4607182418800017408⟩
def To:List Hk:=[⟨1,[97], -1,0,[bL],[],[]⟩,⟨1,[98], -1,0,[bL],[],[]⟩,⟨7,[],0,0,[],[],[]⟩,⟨1,[98],0,0,[bL],[],[]⟩,⟨7,[],0,0,[],[],[]⟩,⟨8,[],0,0,[],[],[]⟩,⟨4,[97],0,0,[],[],[]⟩,⟨2,[98],0,9,[],[],[]⟩,⟨11,[],0,0,[],[],[]⟩,⟨9,[],0,0,[],[],[]⟩,⟨5,[],0,0,[],[],[]⟩]
def oN:List Za:=[⟨[97],0,[bL]⟩,⟨[98],0,[bL]⟩,⟨[98],1,[bL]⟩]
theorem fL:∀s∈To,Gl s:=by
 have c:vJ bL:=⟨by decide,by decide,by decide⟩;have a:∀x:Int, -1≤x→x≤9→QF x:=fun x d f=>⟨by omega,by omega⟩;intro s b;simp only[To,dU,nV,SW]at b;rcases b with rfl|rfl|rfl|rfl|rfl|rfl|rfl|rfl|rfl|rfl|rfl;all_goals refine⟨by decide,by decide,a _ (by decide) (by decide),a _ (by decide) (by decide),by decide,?_,by decide⟩
 all_goals (intro e he;first|(cases he;exact c)|cases he)
 all_goals (rename_i h;cases h)
def pT(σ:RS):Nat→Prop
 |0=>σ.MB=[]∧zm σ 0 0 false false
 |1=>σ.MB=oN.take 1∧zm σ 2024 0 true false
 |2=>σ.MB=oN.take 2∧zm σ 4048 0 true false
 |3=>σ.MB=oN.take 2∧zm σ 4762 1 false true
 |4=>σ.MB=oN∧zm σ 6786 1 true true
 |5=>σ.MB=oN∧σ.s=3∧zm σ 7756 2 false true
 |6=>σ.MB=oN∧σ.s=3∧zm σ 8726 3 false false
 |7=>σ.MB=oN∧σ.s=3∧zm σ 8726 3 false false
 |8=>σ.MB=oN∧σ.s=3∧zm σ 8726 3 false false
 |9=>σ.MB=oN∧σ.s=3∧σ.o=none∧BC 0 σ 3
 |_=>σ.MB=oN∧∃x,σ.o=some x∧x.m.next=3
structure wJ(j:Nat)(σ:RS):Prop where
 ok:σ.Ok 0
 cap:σ.d.cap=42000
 k:σ.K≤j+1
 st:pT σ j
theorem On{σ:RS}{u n:Nat}{e f:Bool}(h:zm σ u n e f):∃x,σ.o=some x:=let⟨x,h,_⟩:=h;⟨x,h⟩
theorem bT:Lf 2=714:=by decide
theorem kS:Lf 3=970:=by decide
theorem TA{j:Nat}{σ σ':RS}{s:Hk}{c:Nat}{n:Int}{tl:List An.yc}{u i:Nat}{e f:Bool}(z:j≤20)(h:wJ j σ)(o:zm σ u i e f)(A:u≤20000)(t:s.kind=1)(l:Fe σ.MB s.name s.a s.vc=0)(v:bE 0 σ s c n tl σ'):(σ'.Ok 0∧σ'.d.cap=42000∧σ'.K≤j+1+1)∧σ'.MB=σ.MB++[Ff σ.MB s.name s.vc]∧zm σ' (u+2024) i true f:=by
 obtain⟨x,p⟩:=On o;obtain⟨_,m,_,g,_⟩:=aG v t p (h.ok.live x p).1.up;have r:=h.cap;have y:=h.k;obtain⟨w,q⟩:=g.PS u i e f o (by omega) l (by omega);refine⟨⟨g.ok,by rw[g.cap,r],by have:=g.k;omega⟩,?_,q⟩;rcases g.st with⟨b,_⟩|⟨_,⟨b,_⟩|⟨_,_,b,_⟩|⟨b,_⟩⟩
 ·exact absurd l b
 ·omega
 ·exact b
 ·omega
theorem yx{j:Nat}{σ σ':RS}(h:wJ j σ)(e:σ'=σ)(a:pT σ (j+1)):wJ (j+1) σ':=by subst e;exact⟨h.ok,h.cap,IY h.k,a⟩
theorem wJ.step{j:Nat}{σ σ':RS}{s:Hk}{c:Nat}{n:Int}{tl:List An.yc}(h:wJ j σ)(b:To[j]? =some s)(l:bE 0 σ s c n tl σ'):wJ (j+1) σ':=by
 have a:=h.st;have t:=h.cap;have B:=h.k
 match j,b,a with
 |0,b,a=>obtain rfl:=VU b.symm;obtain⟨d,f⟩:=a;obtain⟨⟨o,a2,a3⟩,a4,a5⟩:=TA (by decide) h f (by decide) rfl (by rw[d];decide) l;exact⟨o,a2,a3,by rw[a4,d];rfl,a5⟩
 |1,b,a=>obtain rfl:=VU b.symm;obtain⟨d,f⟩:=a;obtain⟨⟨o,a2,a3⟩,a4,a5⟩:=TA (by decide) h f (by decide) rfl (by rw[d];decide) l;exact⟨o,a2,a3,by rw[a4,d];rfl,a5⟩
 |2,b,a=>
  obtain rfl:=VU b.symm;obtain⟨d,f⟩:=a;obtain⟨x,i⟩:=On f;rcases Io l (by decide) i with⟨h,_⟩|⟨h,_⟩|⟨h,_⟩|⟨h,_⟩|⟨h,_⟩|⟨h,_⟩|⟨_,_,_,g,m⟩|⟨h,_⟩|⟨h,_⟩;case inr.inr.inr.inr.inr.inr.inl=>
   have r:σ.MB.length=2:=by rw[d];rfl
   rw[r,bT]at m;obtain⟨_,b2⟩:=m _ _ _ f (by decide) (by omega);exact⟨g.ok,by rw[g.cap,t],by have:=g.k;omega,by rw[g.mb,d],b2⟩
  all_goals (exfalso;revert h;decide)
 |3,b,a=>obtain rfl:=VU b.symm;obtain⟨d,f⟩:=a;obtain⟨⟨o,a2,a3⟩,a4,a5⟩:=TA (by decide) h f (by decide) rfl (by rw[d];decide) l;exact⟨o,a2,a3,by rw[a4,d];rfl,a5⟩
 |4,b,a=>
  obtain rfl:=VU b.symm;obtain⟨d,f⟩:=a;obtain⟨x,i⟩:=On f;rcases Io l (by decide) i with⟨h,_⟩|⟨h,_⟩|⟨h,_⟩|⟨h,_⟩|⟨h,_⟩|⟨h,_⟩|⟨_,_,_,g,m⟩|⟨h,_⟩|⟨h,_⟩;case inr.inr.inr.inr.inr.inr.inl=>
   have r:σ.MB.length=3:=by rw[d];rfl
   rw[r,kS]at m;obtain⟨b1,b2⟩:=m _ _ _ f (by decide) (by omega);refine⟨g.ok,by rw[g.cap,t],by have:=g.k;omega,by rw[g.mb,d],?_,b2⟩;rcases g.st with⟨_,⟨_,e⟩|⟨e,_⟩⟩|⟨_,_,_,e⟩
   ·rw[e,r]
   ·omega
   ·omega
  all_goals (exfalso;revert h;decide)
 |5,b,a=>
  obtain rfl:=VU b.symm;obtain⟨d,p,f⟩:=a;obtain⟨x,i⟩:=On f;rcases Io l (by decide) i with⟨h,_⟩|⟨h,_⟩|⟨h,_⟩|⟨h,_⟩|⟨h,_⟩|⟨h,_⟩|⟨h,_⟩|⟨_,_,_,g,m⟩|⟨h,_⟩;case inr.inr.inr.inr.inr.inr.inr.inl=>
   have r:σ.MB.length=3:=by rw[d];rfl
   rw[r,kS]at m;obtain⟨b1,b2⟩:=m _ _ _ f rfl (by omega);refine⟨g.ok,by rw[g.cap,t],by have:=g.k;omega,by rw[g.mb,d],?_,b2⟩;rcases g.st with⟨_,e,_⟩|⟨_,_,e,_⟩
   ·rw[e,p]
   ·rw[e,p]
  all_goals (exfalso;revert h;decide)
 |6,b,a=>obtain rfl:=VU b.symm;obtain⟨x,i⟩:=On a.2.2;exact yx h (Gt l (by decide) i).1 a
 |7,b,a=>obtain rfl:=VU b.symm;obtain⟨x,i⟩:=On a.2.2;exact yx h (Gt l (by decide) i).1 a
 |8,b,a=>
  obtain rfl:=VU b.symm;obtain⟨d,p,f⟩:=a;rcases l with⟨h,_⟩|⟨_,o,a2,a3,a4,a5,u,v⟩|⟨h,_⟩|⟨h,_⟩
  ·exfalso;revert h;decide
  ·exact⟨o,by rw[u,t],by omega,by rw[a3,d],by rw[a4,p],a2,v rfl _ _ _ _ f (by decide)⟩
  ·exfalso;revert h;decide
  ·exfalso;revert h;decide
 |9,b,a=>
  obtain rfl:=VU b.symm;obtain⟨d,p,w,y⟩:=a;obtain⟨_,q⟩:=qz l rfl;have e:RS.off σ=σ:=by cases σ;cases w;rfl
  rw[e]at q;obtain⟨b1,b2⟩:=q.PS 3 y;refine⟨q.ok,by rw[q.cap,t],by have:=q.k;omega,?_,b2⟩;rcases q.st with⟨_,_,k,k1,C,z,_⟩|⟨A,_⟩
  ·rw[z,d];rw[p]at k1;exact YT k1
  ·omega
 |10,b,a=>obtain rfl:=VU b.symm;obtain⟨d,x,i,f⟩:=a;exact yx h (Gt l (by decide) i).1 ⟨d,x,i,f⟩
 |k+11,b,_=>cases b
theorem kI{σ:RS}(h:Ky 0 (sM 42000) 0 σ):wJ 0 σ:=by
 obtain⟨_,a⟩:=h.new rfl rfl;refine⟨h.ok,h.cap,h.k,?_,a⟩;rcases h.st with⟨_,_,k,_,_,b,_⟩|⟨e,_⟩
 ·rw[b];exact List.take_nil
 ·cases e
theorem vO{σ:RS}(h:wJ 11 σ):(Ja σ.MB).length=3∧∃x,σ.o=some x∧x.m.next=3:=by obtain⟨a,b⟩:=h.st;exact⟨by rw[a];decide,b⟩
end
section
open Go.RowKit An Go.ChangeShapes Go.WideShapes Go.ChangeAt Go.Proofs.Tryz
theorem cQ(hF:Dl)(R M W:Nat)(q:SP)(D rate da:Nat){σ:RS}(mq:MQ)(h:σ.Ok da)(a:da<18446744073709551616)(f:σ.K≤89)(A:Option Addr)(c:Nat)(l:List gz)(j:Nat)(g:j<l.length)(i:Gl l[j].s):Tr prog 7 #[Da R,Of l[j].s l[j].ve l[j].vk] (Pk ⟨R,M,W,D,q,σ,mq,false⟩ rate da*Sf A c l) (fun _:rN=> .bool true) (fun x=>aa.pure (zH da σ l[j].s x)*(Pk ⟨R,x.M,W,D,x.q,x.σ,x.mq,x.brk⟩ rate da*Sf A c l)):=by intro w o r b;have I:=(TZ b).le (A:=Pk ⟨R,M,W,D,q,σ,mq,false⟩ rate da*Kc l[j].s l[j].ve l[j].vk*Sf A c l) (KZ (MZ (JZ _) (KZ (MZ (JZ _) (mA l j g)) (KZ PZ (KZ (MZ NZ (JZ _)) OZ)))) PZ);refine(I.call (xT hF R M W q D rate da mq h a f _ i _ _)).mono ?_;rintro e w' ⟨x,he,d⟩;exact⟨x,he,d.le (KZ OZ (MZ (JZ _) (MZ QZ (JZ _))))⟩
def kv(e:Nat)(s:Hk):gz:=⟨s,match s.vc with|[]=>O none 0 0|_=>O (some ⟨e,0,none⟩) 1 1,O none 0 0⟩
def kl(e:Nat):List gz:=To.map (kv e)
theorem mS(e j:Nat)(h:j<(kl e).length):Gl (kl e)[j].s∧To[j]? =some (kl e)[j].s:=by
 have b:j<To.length:=h;have a:(kl e)[j].s=To[j]:=by simp[kl,kv]
 exact⟨a▸fL _ (XT b),a▸PT b⟩
theorem lS(e:Nat):∀f:List Hk,(∀s∈f,s.Ga=[]∧(s.vc=[]∨s.vc=[bL]))→aa.le (Ba 3 (O (some ⟨e,0,none⟩) 1 1) 1 (vc [bL])) (lA (f.map (kv e)))
 |[],_=>l7
 |⟨k,i,a,b,el,kp,tx⟩::r,h=>by
  obtain⟨c,d⟩:=h _ (.head _);dsimp only at c d;subst c;refine KZ j1 (MZ ?_ (lS e r fun s g=>h s (.tail _ g)));rcases d with rfl|rfl
  ·exact KZ (RZ trivial) (MZ Lx (KZ l7 Lx))
  ·exact KZ (KZ (RZ trivial) NZ) (MZ (JZ _) Lx)
theorem DC:∀s∈To,s.Ga=[]∧(s.vc=[]∨s.vc=[bL]):=by decide
theorem RQ(hF:Dl):Ud prog 5 #[] aa.emp (.bool true) aa.emp:=by
 intro w o r h0;have I:=TZ h0;have t6:Tr prog 6 #[.agg #[Pa 0,.float .f64 0,.int .u16 9000]] aa.emp (fun p:dE=> .tuple #[Da p.R,.bool true]) (fun p=>aa.pure (Ky 0 (sM 42000) 0 p.σ∧p.brk=false)*Pk p 0 0):=TJ 0 0 9000 (by decide) (by decide);clear h0;go_enter func5,ntmps5;go_wp2_with fail;refine(I.call t6).mono ?_;rintro e i ⟨⟨R,M,W,D,q,σ,mq,brk⟩,rfl,J⟩;obtain⟨⟨hp,hb⟩,J1⟩:=J.pure;dsimp only at hp hb;subst hb;have HK:Hid (wJ 0 σ):=V (kI hp);clear hp J I t6;go_upto_region 6 with(fail);have J2:=(J1.Wa (.cells #[.string ⟨#[116]⟩,.string ⟨#[]⟩,.float .f64 4607182418800017408] 56) i.heap.size rfl).Wa (.cells ((kl i.heap.size).flatMap oQ).toArray 37) (i.heap.size+1) (dc rfl);change Code.wp _ _ _ _ (World.alloc (World.alloc i (.cells #[.string ⟨#[116]⟩,.string ⟨#[]⟩,.float .f64 4607182418800017408] 56)) (.cells ((kl i.heap.size).flatMap oQ).toArray 37));generalize(i.alloc (.cells #[.string ⟨#[116]⟩,.string ⟨#[]⟩,.float .f64 4607182418800017408] 56)).alloc (.cells ((kl i.heap.size).flatMap oQ).toArray 37)=W2 at*;generalize i.heap.size=e at*;have z:=zg Ap (kl e);have J3:Y w o r (Pk ⟨R,M,W,D,q,σ,mq,false⟩ 0 0*Sf (some ⟨e+1,0,none⟩) 11 (kl e)) W2:=(J2.ya (A:=Pk ⟨R,M,W,D,q,σ,mq,false⟩ 0 0*(ba (e+1) 37 ((kl e).flatMap oQ).toArray*ba e 56 #[.string ⟨#[116]⟩,.string ⟨#[]⟩,.float .f64 4607182418800017408]))).le (MZ (JZ _) (MZ (KZ (j4 (sz:=7) (FT 11) (by rw[zV,z];exact FT _) (YT (by rw[z];exact FT _))) c8) (KZ (KZ (j4 (sz:=3) (n:=1) (c:=1) (xs:=vc [bL]) (FT _) (FT _) rfl) c8) (lS e To DC))));clear J2 J1 z;go_wp2_with fail;go_loopw [5] (fun x wr=>∃ (j F:Nat) (b:SP) (σ':RS) (E:MQ),j≤11∧x=Z j∧Hid (wJ j σ')∧Y w o r (Pk ⟨R,F,W,D,b,σ',E,false⟩ 0 0*Sf (some ⟨e+1,0,none⟩) 11 (kl e)) wr) (fun x _=>11-(intOf x).toNat);case atStart=>exact⟨0,M,q,σ,mq,WT _,rfl,HK,J3⟩
 case round=>
  obtain⟨j,F,b,σ',E,hj,rfl,l,K⟩:=hrel;clear J3 HK;by_cases a7:j<11
  ·have B:j<(kl e).length:=a7;obtain⟨g,off,hA,_,H,u⟩:=K.we (some ⟨e+1,0,none⟩) 11 (kl e) Ap j B (by decide);have a1:g=e+1∧off=0:=by injection hA with h;injection h with h1 h2;exact⟨h1.symm,h2.symm⟩
   obtain⟨rfl,rfl⟩:=a1;have c0:=H _ rfl;have c1:=u 1 _ rfl;have c2:=u 2 _ rfl;have c3:=u 3 _ rfl;have c4:=u 4 _ rfl;have c5:=u 5 _ rfl;have c6:=u 6 _ rfl;obtain⟨P,C⟩:=mS e j B;have f:=l.out.ok;have hk:=l.out.k;have t7:=cQ hF R F W b D 0 0 E f (by decide) (by omega) (some ⟨e+1,0,none⟩) 11 (kl e) j B P;have Q:Hid (∀x:rN,zH 0 σ' (kl e)[j].s x→x.brk=false∧wJ (j+1) x.σ):=V fun x y=>by
    rcases y with⟨y,_⟩|⟨_,hb,_,_,_,hd⟩
    ·exfalso;have a6:=AV C;revert y;revert a6;generalize(kl e)[j].s=s;revert s;decide
    ·exact⟨hb,l.out.step C hd⟩
   unfold Of at t7;clear u H P C f hk hA l;rw[BU]at c0 c1 c2 c3 c4 c5 c6;generalize(kl e)[j]=sv at*;go_wp2_with fail;refine(K.call t7).mono ?_;rintro U w3 ⟨x,rfl,a⟩;obtain⟨y,t⟩:=a.pure;obtain⟨hb,hn⟩:=Q.out x y;rw[hb]at t;have HN:=V hn;clear y hb hn Q K a c0 c1 c2 c3 c4 c5 c6 t7;go_wp2;go_roundw;case rel=>exact⟨j+1,x.M,x.q,x.σ,x.mq,by omega,by go_num,HN,t.ya⟩
   case measure=>simp[intOf];omega
  ·obtain rfl:j=11:=by omega
   obtain⟨h3,x,G,T⟩:=vO l.out;have f:=l.out.ok;have t16:=fun L X=>vD b.S L X D 0 0 f G σ'.d.za;have N:∀v,ag x.m v= .agg #[Z 3,Z x.m.check,Pa x.m.da,v]:=fun v=>by unfold ag;rw[T];rfl
   simp only[N]at t16;have e8:Yd σ'.o b.S=Da b.S:=by rw[G];rfl
   have t8:=jl W D (Da b.S) (Pa 0) (.float .f64 0);obtain⟨_,K0⟩:=K.pure;have a:=K0.via (Ew (D:=D) (rate:=0) (da:=0) (q:=b) G);dsimp only at a;rw[e8,h3]at a;have m0:=a.cells F 0;have r1:=a.cells R 1;have r0:=a.cells R 0;clear h3 f G T N K K0 l e8;go_wp2_with fail;refine(a.ask t8).mono ?_;rintro U w3 ⟨rfl,n1,rfl⟩;have t:=a.drewN n1;clear a m0 r1 r0;have r0:=t.cells R 0;generalize wr.drewN n1=w3 at*;go_wp2_with fail;refine(t.ask t8).mono ?_;rintro U w4 ⟨rfl,n2,rfl⟩;have K3:=t.drewN n2;clear t r0;generalize w3.drewN n2=w4 at*;go_wp2_with fail;refine(K3.call (t16 b.L b.X)).mono ?_;rintro U w5 ⟨⟨v1,v2,v3⟩,rfl,K4⟩;have a8:(Instr.field 66 (.agg #[Z 3,Z x.m.check,Pa x.m.da,O v1 v2 v3]) 0).run prog w5= .ok (Z 3) w5:=by kernel_rfl
   go_wp2;go_ret;exact⟨rfl,K4.le l7⟩
end
section
open Go.RowKit An Go.ChangeShapes Go.WideShapes Go.ChangeAt Go.Proofs.Tryz
theorem zQ{da:Nat}{σ:RS}{s:Hk}{x:rN}(h:σ.Ok da)(d:zH da σ s x)(b:x.brk=false):x.σ.Ok da∧x.σ.K≤σ.K+1:=by
 rcases d with⟨_,a|a⟩|⟨_,_,c,n,tl,a⟩
 ·rw[b]at a;cases a
 ·exact⟨a.1,by rw[a.2.2.2.1];exact fV _⟩
 ·have up:x.σ=σ→x.σ.Ok da∧x.σ.K≤σ.K+1:=fun e=>by rw[e];exact⟨h,fV _⟩
  rcases a with⟨_,_,_,a⟩|⟨_,a,_,_,_,k,_⟩|⟨_,a,_,_,_,k,_⟩|⟨_,⟨_,e,_⟩|⟨_,a⟩⟩
  ·exact⟨a.ok,a.k⟩
  ·exact⟨a,by omega⟩
  ·exact⟨a,by omega⟩
  ·exact up e
  ·rcases a with⟨_,_,m,_,a⟩|⟨_,e,_⟩|⟨_,e,_⟩|⟨_,e,_⟩|⟨_,e,_⟩|⟨_,_,_,a⟩|⟨_,_,_,a,_⟩|⟨_,_,_,a,_⟩|⟨_,e,_⟩
   ·exact⟨a.ok,a.k⟩
   ·exact up e
   ·exact up e
   ·exact up e
   ·exact up e
   ·exact⟨a.ok,a.k⟩
   ·exact⟨a.ok,a.k⟩
   ·exact⟨a.ok,a.k⟩
   ·exact up e
theorem JK{l:List gz}(h:kx l 50=false)(g:∀q∈l,QF q.s.a∧QF q.s.b∧∀e∈q.s.vc,e.w<18446744073709551616):l.length≤50∧∀i (hi:i<l.length),Gl l[i].s:=by unfold kx at h;rw[OW,pV,List.any_eq_false]at h;refine⟨by omega,fun i hi=> ?_⟩;have hm:=XT hi;have d:=h.1 _ hm;obtain⟨k,hb,hw⟩:=g _ hm;generalize l[i].s=s at*;unfold CE eQ at d;simp only[PU,bU,lZ,bX,kZ,not_and]at d;obtain⟨⟨⟨⟨m,n⟩,j⟩,o⟩,p⟩:=d;refine⟨by omega,by omega,k,hb,by omega,fun e he=> ?_,by omega⟩;have f:=j e he;unfold Kr at f;simp only[PU,bU,lZ]at f;exact⟨by omega,by omega,hw e he⟩
section
variable {MB:List Za}{nm:Bs}
theorem qw(a:ad nm=true){fr n:Int}(b:0≤fr)(d:1≤n):pc nm fr n=0:=by
 unfold pc;rw[DT];rw[a];rintro(h|h|h)
 ·cases h
 ·omega
 ·omega
theorem GQ(d:nh MB)(b:ad nm=true){n a:Nat}(e:1≤n):Qp MB nm (a:Int) (n:Int)=((Qf nm (Ja MB)).drop a).take n:=by unfold Qp;rw[JT (qw b (by omega) (by omega))];unfold Tg;rw[gV,gV,(d.runs nm).Zq,yY]
theorem wQ(d:nh MB)(b:ad nm=true){n a:Nat}(f:1≤n)(e:a<(Qf nm (Ja MB)).length):Vp MB nm ((Qf nm (Ja MB)).length-1-a) (n:Int)=((Qf nm (Ja MB)).reverse.drop a).take n:=by unfold Vp;rw[JT (qw b (by omega) (by omega)),←PI (d.runs nm) e];congr 1;omega
end
theorem aA{α:Type}(l:List α)(a n:Nat):l.take a++(l.drop a).take n=l.take (a+n):=List.take_add.symm
theorem Y.known{w0 w:World}{o0 r0:Td}{S:aa}(h:Y w0 o0 r0 S w)(hF:Dl):Calls prog 5 #[] w fun e w'=>e= .returned (.bool true)∧Y w0 o0 r0 S w':=by have a:Y w0 o0 r0 (aa.emp*S) w:=h.le (RZ trivial);exact(a.Fm (RQ hF)).mono fun e w' ⟨a,b⟩=>⟨a,b.le (KZ NZ QZ)⟩
theorem Y.emp{w0 w:World}{o0 r0:Td}{S:aa}(h:Y w0 o0 r0 S w):Y w0 o0 r0 (aa.emp*S) w:=h.le (RZ trivial)
theorem Y.nameAt{w0 w:World}{o0 r0:Td}{S R:aa}{g a c i:Nat}{l:List gz}(h:Y w0 o0 r0 S w)[k:Find (Sf (some ⟨g,a,none⟩) c l) S R](hi:i<l.length):w.cell? ⟨g,a+i*7+1,none⟩=some (Ha l[i].s.name):=by
 obtain⟨g2,b,j,_,_,m⟩:=(h.ya (A:=Sf (some ⟨g,a,none⟩) c l)).we (some ⟨g,a,none⟩) c l Ap i hi (by decide);have d:g=g2∧a=b:=by injection j with h;injection h with e f;exact⟨e,f⟩
 obtain⟨rfl,rfl⟩:=d;exact m 1 _ rfl
theorem eA(A B:Option Addr)(c d:Nat)(l:List An.yc)(a:l.length≤1000000)(b:∀t∈l,t.ev.w<18446744073709551616):Ud prog 10 #[O A l.length c,O B l.length d] (Ic A l c*Ic B l d) (.bool true) (Ic A l c*Ic B l d):=by
 have h:=oH A B c d l l a a b b
 rwa [RU rfl]at h
theorem qy(a b:List An.yc):Vb (a++b)=Vb a++Vb b:=by simp[Vb]
abbrev DB(R M W D da rate:Nat)(q:SP)(mq:MQ)(σ:RS)(x:OS)(A:Option Addr)(c:Nat)(l:List gz):aa:=Eh q.S q.L q.X D rate da σ.d.za x σ.d*(ba R 41 #[Da W,Da M,.bool false]*(ba W 77 #[Da D,Da q.S,Pa da,.float .f64 rate]*(yl M mq (Ja σ.MB).length (La σ.MB).length (Z σ.s)*(Ic mq.A (Ja σ.MB) mq.c*(jf mq.B (La σ.MB) mq.d*Sf A c l)))))
section
variable {w0 w:World}{o0 r0:Td}{R M W D da rate:Nat}{q:SP}{mq:MQ}{σ:RS}{x:OS}{A:Option Addr}{c:Nat}{l:List gz}
theorem Y.CS(h:Y w0 o0 r0 (Pk ⟨R,M,W,D,q,σ,mq,false⟩ rate da*Sf A c l) w)(b:σ.o=some x):((Ja σ.MB).length≤mq.c∧(La σ.MB).length≤mq.d)∧Y w0 o0 r0 (DB R M W D da rate q mq σ x A c l) w:=by obtain⟨f,e⟩:=h.pure;have a:=e.via (Ew (D:=D) (rate:=rate) (da:=da) (q:=q) b);dsimp only at a;rw[show Yd σ.o q.S=Da q.S by rw[b];rfl]at a;exact⟨f,a.ya⟩
theorem Y.AR(h:Y w0 o0 r0 (DB R M W D da rate q mq σ x A c l) w)(a:σ.o=some x)(f:(Ja σ.MB).length≤mq.c∧(La σ.MB).length≤mq.d):Y w0 o0 r0 (Pk ⟨R,M,W,D,q,σ,mq,false⟩ rate da*Sf A c l) w:=by
 have b:=h.ya (A:=ba R 41 #[Da W,Da M,.bool false]*(ba W 77 #[Da D,Da q.S,Pa da,.float .f64 rate]*Eh q.S q.L q.X D rate da σ.d.za x σ.d*(yl M mq (Ja σ.MB).length (La σ.MB).length (Z σ.s)*(Ic mq.A (Ja σ.MB) mq.c*jf mq.B (La σ.MB) mq.d)))*Sf A c l);have e:Yd σ.o q.S=Da q.S:=by rw[a];rfl
 unfold Pk wA Ug;dsimp only;rw[e];exact b.le (MZ (MZ (JZ _) (MZ (MZ (JZ _) (qB a)) (RZ f))) (JZ _))
end
end
section
open Go.RowKit An Go.ChangeShapes Go.WideShapes Go.ChangeAt Go.Proofs.Tryz
theorem kT(hF:Dl)(A:Option Addr)(c:Nat)(l:List gz)(hl:l.length≤9223372036854775807)(bn:∀q∈l,QF q.s.a∧QF q.s.b∧∀e∈q.s.vc,e.w<18446744073709551616)(da rate U a1:Nat)(bt:U≤65535)(a7:da<18446744073709551616)(fr:a1≤255):Ud prog 3 #[.slice A l.length c,.agg #[.int .u64 da,.float .f64 rate,.int .u16 U],.int .u8 a1] (Sf A c l) (.bool true) (Sf A c l):=by
 intro w o r h0;have I:=TZ h0;have t4:=IQ A c l hl 50 (by decide);have I1:=I.Wa (.cells #[.int .u64 da,.float .f64 rate,.int .u16 U] 27) w.heap.size rfl;cases hg:kx l 50 with
 |true=>rw[hg]at t4;clear h0 hg I bn hl a7;go_enter func3,ntmps3;go_upto_region 1 with(fail);generalize w.alloc (.cells #[.int .u64 da,.float .f64 rate,.int .u16 U] 27)=W1 at*;go_wp2_with fail;refine I1.k1 t4 fun w2 J=> ?_;go_wp2_with fail;refine(J.known hF).mono ?_;rintro e w3 ⟨rfl,J2⟩;go_wp2_with fail;go_ret;exact⟨rfl,J2.ya⟩
 |false=>
  obtain⟨fz,Q⟩:=JK hg bn;rw[hg]at t4;have e7:=V Q;have t6:=TJ da rate U bt a7;have HN:=V a7;obtain⟨m6,eo⟩:∃m,a1 % 6=m:=⟨_,rfl⟩;have e1:Int.tmod (a1:Int) 6=(m6:Int):=by rw[cV (by omega)];omega
  have e2:IntKind.i64.wrap (a1:Int)=(a1:Int):=RT _ (by omega);have e3:IntKind.i64.wrap (1+(m6:Int))=((1+m6:Nat):Int):=by rw[RT _ (by omega)];omega
  have cx:1≤1+m6:=by omega
  have hA:1+m6≤6:=by omega
  generalize 1+m6=n at*;clear h0 hg I bn hl a7 Q eo;go_enter func3,ntmps3;go_upto_region 1 with(fail);generalize w.alloc (.cells #[.int .u64 da,.float .f64 rate,.int .u16 U] 27)=W1 at*;generalize w.heap.size=B at*;go_wp2_with fail;refine I1.k1 t4 fun w2 J=> ?_;obtain⟨b0,b1,b2⟩:=J.c3 B;clear I1 t4;go_wp2_with fail;refine(J.emp.call t6).mono ?_;rintro e w3 ⟨⟨R,M,W,D,q,σ,mq,brk⟩,rfl,K⟩;obtain⟨⟨hp,hb⟩,K1⟩:=K.pure;dsimp only at hp hb;subst hb;have HO:Hid (σ.Ok da∧σ.K≤0+1):=V ⟨hp.ok,hp.k⟩;have P:Y w o r (Pk ⟨R,M,W,D,q,σ,mq,false⟩ rate da*Sf A c l) w3:=K1.ya;clear hp K K1 J t6 b0 b1 b2;go_wp2_with fail;go_loopw [10] (fun x wr=>∃ (i M:Nat) (q:SP) (σ:RS) (mq:MQ),i≤l.length∧x= .int .i64 i∧Hid (σ.Ok da∧σ.K≤i+1)∧Y w o r (Pk ⟨R,M,W,D,q,σ,mq,false⟩ rate da*Sf A c l) wr) (fun x _=>l.length-(intOf x).toNat);case atStart=>exact⟨0,M,q,σ,mq,WT _,rfl,HO,P⟩
  case round=>
   clear P HO;obtain⟨i,M1,q1,σ1,fe,hi,rfl,HO,K⟩:=hrel;by_cases a8:i<l.length
   ·have hs:=e7.out i a8;have cv:σ1.K≤89:=by have:=HO.out.2;omega
    have t7:=cQ hF R M1 W q1 D rate da fe HO.out.1 HN.out cv A c l i a8 hs;obtain⟨g,off,rfl,_,ch,hc⟩:=K.we A c l Ap i a8 (by decide);have c0:=ch _ rfl;have c1:=hc 1 _ rfl;have c2:=hc 2 _ rfl;have c3:=hc 3 _ rfl;have c4:=hc 4 _ rfl;have c5:=hc 5 _ rfl;have c6:=hc 6 _ rfl;have ej:(i:Int)<(l.length:Int):=by omega
    have ak:=hs.name;have cb:=V ak;unfold Of at t7;clear hc ch hs ak;go_wp2_with fail;refine K.kc t7 fun w4 x K1=> ?_;obtain⟨hx,P⟩:=K1.pure;have HX:=V hx;clear hx K K1 t7 c0 c1 c2 c3 c4 c5 c6;obtain⟨M2,p,f,C,brk⟩:=x;dsimp only at HX P;have r2:w4.cell? ⟨R,2,none⟩=some (.bool brk):=P.cells R 2;cases brk with
    |true=>go_wp2_with fail;refine(P.known hF).mono ?_;rintro e w5 ⟨rfl,J2⟩;go_wp2_with fail;go_ret;exact⟨rfl,J2.ya⟩
    |false=>
     obtain⟨al,ct⟩:=zQ HO.out.1 HX.out rfl;dsimp only at al ct;have a6:Hid (f.Ok da∧f.K≤(i+1)+1):=V ⟨al,by have:=HO.out.2;omega⟩;clear al ct HX HO cv;have t8:=jl W D (Yd f.o p.S) (.int .u64 da) (.float .f64 rate);have r0:w4.cell? ⟨R,0,none⟩=some (Da W):=P.cells R 0;cases ho:f.o with
     |none=>
      have e8:Yd f.o p.S= .pointer none:=by rw[ho];rfl
      have fi:Pp prog 8 #[Da W] (aa.wm W 77 (Ug D (Yd f.o p.S) da rate)) (.pointer none):=by rw[e8]at t8⊢;exact t8
      clear ho e8 t8;go_wp2_with fail;refine P.ka fi fun n1=> ?_;go_wp2_with fail;go_roundw;case rel=>exact⟨i+1,M2,p,f,C,by omega,by go_num,a6,(P.drewN n1).ya⟩
      case measure=>simp[intOf];omega
     |some x=>
      obtain⟨hq,K4⟩:=P.ya.CS (R:=R) (M:=M2) (W:=W) (D:=D) (da:=da) (rate:=rate) (q:=p) (mq:=C) (σ:=f) (A:=some ⟨g,off,none⟩) (c:=c) (l:=l) ho;have hL:=(a6.out.1.live x ho).1;have aj:f.K≤90:=by have:=a6.out.2;omega
      have ep:=po a6.out.1.ok;have ew:=a6.out.1.many;have hz:(Ja f.MB).length≤1000:=by omega
      have bs:=KM a6.out.1.ok;obtain⟨E,bm⟩:∃E,l[i].s.name=E:=⟨_,rfl⟩;have ak:=cb.out;rw[bm]at ak;have t8:=jl W D (Da p.S) (.int .u64 da) (.float .f64 rate);have t9:=vQ p.S p.L p.X D rate da f.d.za x hL rfl;have t10:=fun A c=>eA A C.A c C.c (Ja f.MB) (by omega) bs;have t11:=Xn M2 C.A C.c (.slice C.B (La f.MB).length C.d) (.int .i64 f.s) (Ja f.MB) (by omega) E;have t12:=tB p.S p.L p.X D rate da f.d.za x hL HN.out aj rfl E (by omega);have eb:=Og E (Ja f.MB);have b6:=fun A B c d=>eA A B c d (Qf E (Ja f.MB)) (by omega) (fun t ht=>bs t (vU.1 ht).1);have t13:ad E=true→∀a:Nat,Tr prog 13 #[Da p.S,.string (mk E),.int .i64 a,.int .i64 n] (Eh p.S p.L p.X D rate da f.d.za x f.d) (fun v:Value=> .tuple #[v,.int .i64 0]) (fun v=>ua 58 5 v (((Qf E (Ja f.MB)).drop a).take n).length (Vb (((Qf E (Ja f.MB)).drop a).take n))*Eh p.S p.L p.X D rate da f.d.za x f.d):=fun N a=>by
       have h:=yz p.S p.L p.X D rate da f.d.za x hL HN.out aj rfl E (by omega) (a:Int) (n:Int) (by omega)
       rwa [qw N (by omega) (by omega),GQ hL.qj N cx]at h
      have t14:ad E=true→∀a:Nat,a<(Qf E (Ja f.MB)).length→Tr prog 14 #[Da p.S,.string (mk E),.int .i64 (((Qf E (Ja f.MB)).length:Int)-1-a),.int .i64 n] (Eh p.S p.L p.X D rate da f.d.za x f.d) (fun v:Value=> .tuple #[v,.int .i64 0]) (fun v=>ua 58 5 v (((Qf E (Ja f.MB)).reverse.drop a).take n).length (Vb (((Qf E (Ja f.MB)).reverse.drop a).take n))*Eh p.S p.L p.X D rate da f.d.za x f.d):=fun N a ha=>by
       have h:=Pw p.S p.L p.X D rate da f.d.za x hL HN.out aj rfl E (by omega) (((Qf E (Ja f.MB)).length:Int)-1-a) (n:Int) (by omega) (by omega)
       rwa [qw N (by omega) (by omega),wQ hL.qj N cx ha]at h
      unfold Pr ah at t12;have b7:=V t13;have b9:=V t14;have c9:Hid (∀W',Y w o r (DB R M2 W D da rate p C f x (some ⟨g,off,none⟩) c l) W'→Y w o r (Pk ⟨R,M2,W,D,p,f,C,false⟩ rate da*Sf (some ⟨g,off,none⟩) c l) W'):=V fun W' h=>h.AR ho hq;have aq:=V bm;have hr:(Qf E (Ja f.MB)).length≤1000:=by omega
      generalize ec:Qf E (Ja f.MB)=z at*;clear hq hL aj ep ew bs ak eb t13 t14 ho P r0 ec bm cb;have r0:w4.cell? ⟨R,0,none⟩=some (Da W):=K4.cells R 0;go_wp2_with fail;refine K4.ka t8 fun n1=> ?_;have K5:=K4.drewN n1;clear r0 r2 K4;generalize w4.drewN n1=w5 at*;go_wp2_with fail;refine K5.kc t9 fun w6 va K6=> ?_;obtain⟨_,Aa,ca,rfl⟩:=K6.Cd va;have cf:=K6.via (c8 (e:=58) (sz:=5) (v:=.slice Aa (Ja f.MB).length ca) (n:=(Ja f.MB).length) (xs:=Vb (Ja f.MB)));have r1:w6.cell? ⟨R,1,none⟩=some (Da M2):=K6.cells R 1;have m0:w6.cell? ⟨M2,0,none⟩=some (.slice C.A (Ja f.MB).length C.c):=K6.cells M2 0;clear K5 K6 t8 t9;go_wp2_with fail;refine cf.k1 (t10 Aa ca) fun w7 K7=> ?_;have K8:Y w o r (DB R M2 W D da rate p C f x (some ⟨g,off,none⟩) c l) w7:=K7.ya;clear cf K7 r1 m0 t10;have r1:w7.cell? ⟨R,1,none⟩=some (Da M2):=K8.cells R 1;have cn:w7.cell? ⟨g,off+i*7+1,none⟩=some (.string (mk E)):=aq.out▸K8.nameAt (c:=c) a8;go_upto_region 20 with(fail);refine qi [0,4,5] [1,2,3,6,7,8] [9,10] (by kernel_rfl) (by kernel_rfl) (fun _ _ _ _ _ h=>h) ?_;simp only[QT,VT,MT,NT];dsimp only[Ub];go_simp;repeat (quiet_step (fail))
      refine fU ?_;first|(rintro _ ⟨nq,rfl⟩)|(intro nq)
      have K9:=K8.drewN nq;generalize w7.drewN nq=w8 at*;clear K8 r1 cn;go_wp2_with fail;refine K9.kc t11 fun w9 vw bc=> ?_;obtain⟨_,Aw,cw,rfl⟩:=bc.Cd vw;have aM:Y w o r (ua 58 5 (.slice Aw z.length cw) z.length (Vb z)*DB R M2 W D da rate p C f x (some ⟨g,off,none⟩) c l) w9:=bc.ya;have cn:w9.cell? ⟨g,off+i*7+1,none⟩=some (.string (mk E)):=aq.out▸aM.nameAt (c:=c) a8;have hH:IntKind.i64.wrap ((z.length:Int)-1)=(z.length:Int)-1:=RT _ (by omega);clear K9 bc t11;cases N:ad E with
      |false=>
       rw[N]at t12;have t12:Ud prog 12 #[Da p.S,.string (mk E)] (Eh p.S p.L p.X D rate da f.d.za x f.d) (.tuple #[.int .i64 (-1),.int .i64 2]) (Eh p.S p.L p.X D rate da f.d.za x f.d):=t12;clear N;go_wp2_with fail;refine aM.k1 t12 fun dt b5=> ?_;go_wp2_with fail;go_roundw;case rel=>exact⟨i+1,M2,p,f,C,by omega,by go_num,a6,c9.out _ b5.ya⟩
       case measure=>simp[intOf];omega
      |true=>
       rw[N]at t12;have t12:Ud prog 12 #[Da p.S,.string (mk E)] (Eh p.S p.L p.X D rate da f.d.za x f.d) (.tuple #[.int .i64 ((z.length:Int)-1),.int .i64 0]) (Eh p.S p.L p.X D rate da f.d.za x f.d):=t12;have t13:=b7.out N;have t14:=b9.out N;have av:=V t14;clear N b7 b9 t14;go_wp2_with fail;refine aM.k1 t12 fun dt b5=> ?_;have cc:Y w o r (ua 58 5 (.slice none 0 0) (z.take 0).length (Vb (z.take 0))*(ua 58 5 (.slice none 0 0) (z.reverse.take 0).length (Vb (z.reverse.take 0))*(ua 58 5 (.slice Aw z.length cw) z.length (Vb z)*DB R M2 W D da rate p C f x (some ⟨g,off,none⟩) c l))) dt:=(b5.ya (A:=ua 58 5 (.slice Aw z.length cw) z.length (Vb z)*DB R M2 W D da rate p C f x (some ⟨g,off,none⟩) c l)).le (KZ (KZ (RZ trivial) (MZ (j0 58 5) (JZ _))) (KZ (RZ trivial) (MZ (j0 58 5) (JZ _))));clear aM b5 cn t12;obtain⟨i0,cp,cT,dj,ds⟩:=info_parts Po;go_wp2_with fail;go_loopw [18,19,20] (fun v1 v2 y wr=>∃ (a:Nat) (H u:List An.yc) (A1 A2:Option Addr) (c1 c2:Nat),y= .int .i64 a∧v1= .slice A1 H.length c1∧v2= .slice A2 u.length c2∧a≤z.length+6∧Hid (H=z.take a∧u=z.reverse.take a)∧Y w o r (ua 58 5 (.slice A1 H.length c1) H.length (Vb H)*(ua 58 5 (.slice A2 u.length c2) u.length (Vb u)*(ua 58 5 (.slice Aw z.length cw) z.length (Vb z)*DB R M2 W D da rate p C f x (some ⟨g,off,none⟩) c l))) wr) (fun _ _ y _=>z.length+6-(intOf y).toNat);case atStart=>exact⟨0,z.take 0,z.reverse.take 0,none,none,0,0,rfl,rfl,rfl,WT _,V ⟨rfl,rfl⟩,cc⟩
       case round=>
        obtain⟨a,H,u,A1,A2,c1,c2,rfl,rfl,rfl,ha,HP,J⟩:=hrel;clear cc;by_cases e6:a<z.length
        ·have ed:(a:Int)<(z.length:Int):=by omega
         have t14:=av.out a e6;have hI:IntKind.i64.wrap ((z.length:Int)-1-a)=(z.length:Int)-1-a:=RT _ (by omega);have Q:∀F G:List An.yc,F=(z.drop a).take n→G=(z.reverse.drop a).take n→H++F=z.take (a+n)∧u++G=z.reverse.take (a+n):=fun F G h1 h2=>⟨by rw[h1,HP.out.1];exact aA _ _ _,by rw[h2,HP.out.2];exact aA _ _ _⟩;have e9:((z.drop a).take n).length≤1000:=by rw[OT];omega
         have ea:((z.reverse.drop a).take n).length≤1000:=by rw[OT];omega
         have hB:H.length≤1000:=by rw[HP.out.1,OT];omega
         have hC:u.length≤1000:=by rw[HP.out.2,OT,EV];omega
         have an:=t13 a;have HS:=V Q;obtain⟨F,hF⟩:∃F,(z.drop a).take n=F:=⟨_,rfl⟩;obtain⟨G,hG⟩:∃G,(z.reverse.drop a).take n=G:=⟨_,rfl⟩;rw[hF]at an e9;rw[hG]at t14 ea;have HR:Hid (H++F=z.take (a+n)∧u++G=z.reverse.take (a+n)):=V (HS.out F G hF.symm hG.symm);have cn:wr.cell? ⟨g,off+i*7+1,none⟩=some (.string (mk E)):=aq.out▸J.nameAt (c:=c) a8;clear Q hF hG HP HS;go_wp2_with fail;refine J.kc an fun fq vF J1=> ?_;obtain⟨_,AF,cF,rfl⟩:=J1.Cd vF;clear cn;have cn:fq.cell? ⟨g,off+i*7+1,none⟩=some (.string (mk E)):=aq.out▸J1.nameAt (c:=c) a8;clear J an;go_wp2_with fail;refine J1.kc t14 fun hQ vG J2=> ?_;obtain⟨_,AG,cG,rfl⟩:=J2.Cd vG;have J3:=(J2.via (c8 (e:=58) (sz:=5) (v:=.slice AF F.length cF) (n:=F.length) (xs:=Vb F))).via (c8 (e:=58) (sz:=5) (v:=.slice AG G.length cG) (n:=G.length) (xs:=Vb G));clear J1 J2 t14 cn;go_wp2_with (first
          |(at_builtin;go_loud (refine kf (v:=.slice A1 H.length c1) (m:=F.length) (news:=Vb F) J3 rfl rfl underlying44 cp cT dj rfl rfl (J3.En (.slice AF F.length cF) underlying44 (ft F) (by decide)) (by unfold maxLen;omega) (by rw[ds];omega) ?_);intro v1 hR J4;obtain⟨_,B1,d1,rfl⟩:=J4.Cd v1;clear J3)
          |(at_builtin;go_loud (refine kf (v:=.slice A2 u.length c2) (m:=G.length) (news:=Vb G) J4 rfl rfl underlying44 cp cT dj rfl rfl (J4.En (.slice AG G.length cG) underlying44 (ft G) (by decide)) (by unfold maxLen;omega) (by rw[ds];omega) ?_);intro v2 hS J5;obtain⟨_,B2,d2,rfl⟩:=J5.Cd v2;clear J4));go_roundw;case rel=>have e4:(H++F).length=H.length+F.length:=CT;have e5:(u++G).length=u.length+G.length:=CT;refine⟨a+n,H++F,u++G,B1,B2,d1,d2,by go_num,by rw[e4],by rw[e5],by omega,HR,?_⟩;rw[e4,e5,qy,qy];exact J5.ya
         case measure=>simp[intOf];omega
        ·have ed:¬ ((a:Int)<(z.length:Int)):=by omega
         obtain⟨h1,h2⟩:=HP.out;rw[YT (by omega)]at h1;rw[YT (by rw[EV];omega)]at h2;have h3:u.reverse=z:=by rw[h2,QW]
         have h4:u.length=z.length:=by rw[h2,EV]
         have H3:=V h3;subst h1;have hD:u.length≤1000:=by omega
         clear h2 h3 h4 HP av t13;go_wp2_with fail;go_loopw [25] (fun y wr=>∃ (k:Nat) (cur:List An.yc),y= .int .i64 k∧k≤u.length∧Hid (xJ u cur k)∧Y w o r (ua 58 5 (.slice A2 u.length c2) u.length (Vb cur)*(ua 58 5 (.slice A1 H.length c1) H.length (Vb H)*(ua 58 5 (.slice Aw H.length cw) H.length (Vb H)*DB R M2 W D da rate p C f x (some ⟨g,off,none⟩) c l))) wr) (fun y _=>u.length-(intOf y).toNat);case atStart=>exact⟨0,u,rfl,WT _,V (xJ.start u),J.ya⟩
         case round=>
          obtain⟨k,cur,rfl,hk,HS,K⟩:=hrel;have ck:=HS.out.len;obtain⟨hf,cl⟩:∃h,u.length/2=h:=⟨_,rfl⟩;have fb:Int.tdiv (u.length:Int) 2=(hf:Int):=by rw[PV (by omega)];omega
          have fc:(u.length:Int)/2=(hf:Int):=by omega
          have hE:IntKind.i64.wrap (hf:Int)=(hf:Int):=RT _ (by omega);by_cases ga:k<hf
          ·have en:(k:Int)<(hf:Int):=by omega
           obtain⟨j,hj⟩:∃j,u.length-1-k=j:=⟨_,rfl⟩;have hJ:IntKind.i64.wrap ((u.length:Int)-1)=(u.length:Int)-1:=RT _ (by omega);have hK:IntKind.i64.wrap ((u.length:Int)-1-k)=(j:Int):=by rw[RT _ (by omega)];omega
           have hM:(u.length:Int)-1-k=(j:Int):=by omega
           have hN:wrap64 ((u.length:Int)-1)=(u.length:Int)-1:=UW _ (by omega);have hO:wrap64 ((u.length:Int)-1-k)=(j:Int):=by rw[UW _ (by omega)];omega
           have hP:IntKind.i64.wrap (j:Int)=(j:Int):=RT _ (by omega);have h1:k<cur.length:=by omega
           have h2:j<cur.length:=by omega
           obtain⟨T,rfl,x0,x1,x2,x3,x4⟩:=K.CB (A:=A2) (c:=c2) (n:=u.length) (l:=cur) h1;obtain⟨g2,ee,y0,y1,y2,y3,y4⟩:=K.CB (A:=some ⟨T,0,none⟩) (c:=c2) (n:=u.length) (l:=cur) h2;cases ee;have Q:=HS.out.step (by omega) h1 (by omega);simp only[hj]at Q;have e0:=V Q;have hy:(j:Int)<(u.length:Int):=by omega
           have hv:k≠j:=by omega
           have fs:(k:Int)<(u.length:Int):=by omega
           have gf:=K.De (g:=T) (c:=c2) (n:=u.length) (l:=cur) (k*5);have h8:=K.De (g:=T) (c:=c2) (n:=u.length) (l:=cur) (j*5);have gg:=K.De (g:=T) (c:=c2) (n:=u.length) (l:=cur) (k*5+1);have h9:=K.De (g:=T) (c:=c2) (n:=u.length) (l:=cur) (j*5+1);have gl:=K.De (g:=T) (c:=c2) (n:=u.length) (l:=cur) (k*5+2);have hd:=K.De (g:=T) (c:=c2) (n:=u.length) (l:=cur) (j*5+2);have h6:=K.De (g:=T) (c:=c2) (n:=u.length) (l:=cur) (k*5+3);have hh:=K.De (g:=T) (c:=c2) (n:=u.length) (l:=cur) (j*5+3);have h7:=K.De (g:=T) (c:=c2) (n:=u.length) (l:=cur) (k*5+4);have hn:=K.De (g:=T) (c:=c2) (n:=u.length) (l:=cur) (j*5+4);generalize cur[k]=ta at*;generalize cur[j]=tb at*;clear Q ck cl J HS;go_upto_region 37 with(fail);refine Ih [0,1,2,3,4,5,6,7,8,9,10,11,12,13,16,17] [14,15,18,19] [20,21,22,23] (by kernel_rfl) (by kernel_rfl) (fun _ _ _ _ _ h=>h) ?_;simp only[QT,VT,MT,NT];repeat (refine Exists.intro _ ⟨.inl ⟨by rfl,fun w=>(by go_simp;rfl)⟩,?_⟩;(try go_simp))
           dsimp only[ni];go_simp;repeat (quiet_step (fail))
           refine fU ?_;first|(rintro _ ⟨nq,rfl⟩)|(intro nq)
           go_wp2_with fail;have P:=((K.drewN nq).Iw (g:=T) (c:=c2) (n:=u.length) (l:=cur) k tb).Iw (g:=T) (c:=c2) (n:=u.length) (l:=cur.set k tb) j ta;go_roundw;case rel=>exact⟨k+1,(cur.set k tb).set j ta,by go_num,by omega,e0,P.ya⟩
           case measure=>simp[intOf];omega
          ·have en:¬ ((k:Int)<(hf:Int)):=by omega
           have bf:=HS.out.done (by omega);rw[H3.out]at bf;subst bf;have h5:u.length=cur.length:=by rw[←H3.out,EV]
           rw[h5]at K fb fc⊢;have K3:=((K.via (c8 (e:=58) (sz:=5) (v:=.slice A2 cur.length c2) (n:=cur.length) (xs:=Vb cur))).via (c8 (e:=58) (sz:=5) (v:=.slice A1 cur.length c1) (n:=cur.length) (xs:=Vb cur))).via (c8 (e:=58) (sz:=5) (v:=.slice Aw cur.length cw) (n:=cur.length) (xs:=Vb cur));clear J K h5 HS ck H3 cl;go_wp2_with fail;refine K3.k1 (b6 A1 Aw c1 cw) fun hT K4=> ?_;go_wp2_with fail;refine K4.k1 (b6 A2 Aw c2 cw) fun hU K5=> ?_;go_wp2_with fail;go_roundw;case rel=>exact⟨i+1,M2,p,f,C,by omega,by go_num,a6,c9.out _ K5.ya⟩
           case measure=>simp[intOf];omega
   ·have ej:¬ ((i:Int)<(l.length:Int)):=by omega
    clear HO;go_wp2_with fail;refine(K.known hF).mono ?_;rintro e w4 ⟨rfl,P⟩;go_wp2_with fail;go_ret;exact⟨rfl,P.ya⟩
end
end Go.Proofs.YteacbkflfafefaaGreatDoor
