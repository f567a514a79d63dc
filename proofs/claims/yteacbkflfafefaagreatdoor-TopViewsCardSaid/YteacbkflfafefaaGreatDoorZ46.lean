/- Part 47 of 50 of the proof that TopViews returns true at every input: lemmas on the way; no condition. -/
import Derived.Test.YteacbkflfafefaaGreatDoorZ45
namespace Go.Proofs.YteacbkflfafefaaGreatDoor
set_option linter.all false
set_option maxHeartbeats 16000000
set_option maxRecDepth 100000
section
open Go.RowKit An Go.ChangeShapes Go.WideShapes Go.ChangeAt Go.Proofs.Tryz
theorem qK(R:Nat)(s:Hk)(d e f:Option Addr)(i g j h c n:Nat)(x:Int):Pu prog 22 #[Da R,Of s (O d i g) (O e j h),.agg #[Z 61,Z x,O f n c],.bool false] (.bool true):=by intro w;have J:=((ZZ w).Wa (.cells #[Z s.kind,Ha s.name,Z s.a,Z s.b,O d i g,O e j h,Ha s.text] 37) w.heap.size rfl).Wa (.cells #[Z 61,Z x,O f n c] 71) (w.heap.size+1) (dc rfl);have hb:=J.Sc;unfold Of;clear J;go_enter func22,ntmps22;go_wp2;go_ret;exact⟨rfl,hb⟩
structure mT(s:Hk)(MB:List Za)(su:Nat)(c su':Nat)(dn:Bool):Prop where
 kind:s.kind=6∨s.kind=7∨s.kind=8
 sure:(c=0∧s.kind≠8∧su'=MB.length)∨((c≠0∨s.kind=8)∧su'=su)
 code:c=0∨(s.kind=8∧(c=4∨c=2∧(s.a<0∨5≤s.a)))∨(c=60∧s.kind≠6)∨(c=61∧dn=true)
theorem rK(R M W D:Nat)(q:SP)(rate da:Nat)(g:List Za)(X k:Nat){σ':RS}(mq:MQ)(s:Hk)(C x:Value)(Av:Option Addr)(U t c:Nat)(n:Int)(hA:mT s g X c k σ'.d.down):Ud prog 22 #[Da R,Of s C x,.agg #[Z c,Z n,O Av U t],.bool true] (ba R 41 #[Da W,Da M,.bool false]*(wA W q D rate da σ'*(xj M (Ja g) (La g) (Z X) mq*Kc s C x))) (.bool true) (ba R 41 #[Da W,Da M,.bool false]*(wA W q D rate da σ'*(xj M (Ja g) (La g) (Z k) mq*Kc s C x))):=by
 intro w o r h0;have I:=TZ h0;have t39:=Yh W D (Yd σ'.o q.S) (Pa da) (.float .f64 rate);have t40:=Gk D σ'.d;obtain⟨hq,I1⟩:=I.pure;have I2:Y w o r (ba R 41 #[Da W,Da M,.bool false]*(wK W q D rate da σ'*(yl M mq (Ja g).length (La g).length (Z X)*((Ic mq.A (Ja g) mq.c*jf mq.B (La g) mq.d)*Kc s C x)))) w:=I1.le (MZ (JZ _) (MZ um OZ));have t53:=kj M (O mq.A (Ja g).length mq.c) mq.B (La g).length mq.d (Z X);have fin:∀f,Y w o r (ba R 41 #[Da W,Da M,.bool false]*(wK W q D rate da σ'*(yl M mq (Ja g).length (La g).length (Z k)*((Ic mq.A (Ja g) mq.c*jf mq.B (La g) mq.d)*Kc s C x)))) f→Y w o r (ba R 41 #[Da W,Da M,.bool false]*(wA W q D rate da σ'*(xj M (Ja g) (La g) (Z k) mq*Kc s C x))) f:=fun f hW=>hW.le (MZ (JZ _) (MZ Mp (KZ PZ (MZ (RZ hq) (JZ _)))));have HF:=V fin;obtain⟨_,Ae,ce,rfl,_⟩:=I2.sl C;have a1:Y w o r (Ba 1 x s.Ga.length (xf s.Ga)) w:=I2.ya;obtain⟨_,Ak,ck,rfl,_⟩:=a1.sl x;have J:=(I2.Wa (.cells #[Z s.kind,Ha s.name,Z s.a,Z s.b,O Ae s.vc.length ce,O Ak s.Ga.length ck,Ha s.text] 37) w.heap.size rfl).Wa (.cells #[Z c,Z n,O Av U t] 71) (w.heap.size+1) (dc rfl);unfold Of;clear h0 I I1 I2 a1 hq fin;obtain⟨hk,Q,N⟩:=hA;have a8:=yh g;obtain⟨up,T⟩:∃b,(!σ'.d.down)=b:=⟨_,rfl⟩;rw[T]at t40;have G:=(Mk c up).pu;have P:σ'.d.down=true→up=false:=fun h=>by rw[←T,h];rfl
 obtain⟨b8,k8⟩:∃b,(s.kind==8)=b:=⟨_,rfl⟩;obtain⟨b9,k9⟩:∃b,(s.kind !=8)=b:=⟨_,rfl⟩;obtain⟨b6,k6⟩:∃b,(s.kind !=6)=b:=⟨_,rfl⟩;have a7:(c=0∧b8=false∧b9=true∧k=(La g).length)∨k=X∧(b8=true∧b9=false∧b6=true∧(c=0∨c=4∨c=2∧s.a<0∨c=2∧5≤s.a∧¬s.a<0∨c=60∨c=61∧up=false)∨b8=false∧b9=true∧(c=60∧b6=true∨c=61∧up=false)):=by
  rw[←k8,←k9,←k6];by_cases v:s.kind=8
  ·rcases Q with⟨_,h,_⟩|⟨_,h⟩
   ·exact absurd v h
   refine .inr ⟨h,.inl ⟨by rw[v];rfl,by rw[v];rfl,by rw[v];rfl,?_⟩⟩;rcases N with h|⟨_,h|⟨h,l⟩⟩|⟨h,_⟩|⟨h,l⟩
   ·exact .inl h
   ·exact .inr (.inl h)
   ·by_cases u:s.a<0
    ·exact .inr (.inr (.inl ⟨h,u⟩))
    ·exact .inr (.inr (.inr (.inl ⟨h,by omega,u⟩)))
   ·exact .inr (.inr (.inr (.inr (.inl h))))
   ·exact .inr (.inr (.inr (.inr (.inr ⟨h,P l⟩))))
  ·have h1:(s.kind==8)=false:=by rw[ET];exact v
   have l:(s.kind !=8)=true:=by rw[CU];exact v
   rcases Q with⟨h,_,u⟩|⟨h,u⟩
   ·exact .inl ⟨h,h1,l,by omega⟩
   refine .inr ⟨u,.inr ⟨h1,l,?_⟩⟩;rcases N with p|⟨p,_⟩|⟨p,h5⟩|⟨p,h5⟩
   ·exact absurd p (h.resolve_right v)
   ·exact absurd p v
   ·exact .inl ⟨p,by rw[CU];exact h5⟩
   ·exact .inr ⟨p,P h5⟩
 clear hk Q N a8 T P;rcases a7 with⟨rfl,rfl,rfl,rfl⟩|⟨rfl,⟨rfl,rfl,rfl,rfl|rfl|⟨rfl,l⟩|⟨rfl,l,u⟩|rfl|⟨rfl,rfl⟩⟩|⟨rfl,rfl,⟨rfl,rfl⟩|⟨rfl,rfl⟩⟩⟩;all_goals
  go_enter func22,ntmps22;go_upto_region 3 with(fail);generalize(w.alloc (.cells #[Z s.kind,Ha s.name,Z s.a,Z s.b,O Ae s.vc.length ce,O Ak s.Ga.length ck,Ha s.text] 37)).alloc (.cells #[Z _,Z n,O Av U t] 71)=i at*;generalize w.heap.size+1=r2 at*;generalize w.heap.size=z at*;have y:=J.cells z 0;have b2:=J.cells z 2;have d0:=J.cells r2 0;have e1:i.cell? ⟨R,1,none⟩=some (Da M):=J.cells R 1;go_wp2_with fail;first|(refine(J.Fm t53).mono ?_;rintro e i ⟨rfl,J⟩)|skip
  clear y b2 d0 e1 t53;have y:World.cell? i ⟨z,0,none⟩=some (Z s.kind):=YZ J z 0;have b2:World.cell? i ⟨z,2,none⟩=some (Z s.a):=YZ J z 2;obtain⟨t,d0,aj⟩:∃t,World.cell? i ⟨r2,0,none⟩=some t∧t=Z _:=⟨_,YZ J r2 0,rfl⟩;have H:World.cell? i ⟨R,0,none⟩=some (Da W):=YZ J R 0;try go_wp2_with fail
  have E:∀f,Below (World.heap i).size i f→Calls prog 39 #[Da W] f fun e w'=>e= .returned (Da D)∧Below f.heap.size f w':=fun f hb=>(XZ (VZ J hb) t39).mono fun e w' ⟨h,m,hm⟩=>⟨h,hm▸below_drewN _ _⟩;have F:∀f,Below (World.heap i).size i f→Calls prog 40 #[Da D] f fun e w'=>e= .returned (.bool _)∧Below f.heap.size f w':=fun f hb=>(XZ (VZ J hb) t40).mono fun e w' ⟨h,m,hm⟩=>⟨h,hm▸below_drewN _ _⟩;refine Gb (fun f=>f.cell? ⟨z,0,none⟩=some (Z s.kind)∧f.cell? ⟨r2,0,none⟩=some t∧f.cell? ⟨R,0,none⟩=some (Da W)∧Below (World.heap i).size i f) (fun a b=>Below a.heap.size a b) [0,1,2,3,4,5,6,7,8,9,10,11,12,13,14,15,16,17,18,19,20,21,22,23,24,25,26,27] [] [] (fun w=>mU _ _) (fun _ _ _=>vb) (fun _ _ ⟨h1,l,u,p⟩ hb=>⟨Bb hb h1,Bb hb l,Bb hb u,vb p hb⟩) (by kernel_rfl) (by kernel_rfl) (fun _ _ _ _ _ h=>h) ⟨y,d0,H,Ig _⟩ ?_;simp only[QT,VT,MT,NT];iterate 28 (first|(refine db (by rfl) (fun K L=> ?_);go_simp;refine L _ ?_;clear L K)|(refine gb (by rfl) (fun K L=> ?_);apply Exists.intro;refine⟨fun w hw=> ?_,?_⟩;(next=>(first|(go_simp;rfl)|(obtain⟨y,d0,H,j⟩:=hw;go_simp;rfl)|(obtain⟨y,d0,H,j⟩:=hw;go_simp;done)|(go_simp;((first|(go_at_call 39;exact E _ j)|(go_at_call 40;exact F _ j)|(go_at_call 50;exact G _))))|(obtain⟨y,d0,H,j⟩:=hw;go_simp;((first|(go_at_call 39;exact E _ j)|(go_at_call 40;exact F _ j)|(go_at_call 50;exact G _))))));go_simp;refine L _ ?_;clear L K))
  refine Eb ?_;intro w1 a6;unfold Sb;have K5:=VZ (Y.drew J) a6;clear E F G y b2 d0 H a6;go_wp2;go_ret;exact⟨rfl,HF.out _ K5.ya⟩
end
end Go.Proofs.YteacbkflfafefaaGreatDoor
