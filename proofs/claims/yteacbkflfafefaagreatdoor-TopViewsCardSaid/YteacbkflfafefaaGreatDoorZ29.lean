/- Part 30 of 50 of the proof that TopViews returns true at every input: lemmas on the way; no condition. -/
import Derived.Test.YteacbkflfafefaaGreatDoorZ26
namespace Go.Proofs.YteacbkflfafefaaGreatDoor
set_option linter.all false
set_option maxHeartbeats 800000
set_option maxRecDepth 100000
section
open Go.RowKit An Go.ChangeShapes Go.WideShapes Go.ChangeAt Go.Proofs.Tryz
structure Rd(d:An.ja)(m:Fa)(tl:Nat→List qa)(mem:List qa):Prop where
 up:d.down=false
 ko:∀n∈m.ia.flatten,iz d n (tl n)
 ym:ub mem=true
 len:mem.length≤70000
 lv:m.ia.length≤5
 fl:m.ia.flatten.length≤40
def Sl(mem:List qa)(tl:Nat→List qa)(fl:List Nat)(h:Nat)(u:Int)(k:Nat):Int:=((fl.take k).map tl).foldl (fun v l=>max v (An.zd l h u)) (An.zd mem h u)
theorem zx(l:List qa)(h:Nat)(u:Int): -1≤An.zd l h u:=by unfold An.zd;split<;>omega
theorem ME(mem:List qa)(tl:Nat→List qa)(fl:List Nat)(h:Nat)(u:Int)(k:Nat): -1≤Sl mem tl fl h u k:=CZ (zx mem h u) (An.Xk _ h u _).1
theorem IC(mem:List qa)(tl:Nat→List qa){fl:List Nat}(h:Nat)(u:Int){k:Nat}(a:k<fl.length):Sl mem tl fl h u (k+1)=max (Sl mem tl fl h u k) (An.zd (tl fl[k]) h u):=by unfold Sl;rw[MU,PT a,nX,tV,UX];rfl
theorem Fz(l:List qa)(h:Nat)(u:Int):∃ (e:qa) (q:Bool),di (Rg l h u)= .tuple #[.agg #[Pa e.Qa,Z e.Qb,Z e.pos],.bool q]∧Rj (Rg l h u)= .tuple #[.agg #[Pa e.Qa,Z e.Qb,Z e.pos],.bool q,Z 0]∧An.zd l h u=if q then(e.Qb:Int)else-1:=by
 unfold An.zd;cases Rg l h u with
 |none=>exact⟨⟨0,0,0⟩,false,rfl,rfl,rfl⟩
 |some e=>exact⟨e,true,rfl,rfl,rfl⟩
theorem XP(X D rate:Nat)(m:Fa)(tl:Nat→List qa)(mem:List qa)(d:An.ja)(h:Nat)(upto:Int)(hh:h<18446744073709551616)(i:Rd d m tl mem):Ud prog 31 #[Da X,Pa h,Z upto] (Xd X D rate m tl mem*na D d) (.tuple #[Z (An.Zf mem (An.ef m tl) h (min upto 1073741824)),Z 0]) (Xd X D rate m tl mem*na D d):=by
 intro w o r h0;have I0:=TZ h0;obtain⟨x,N,I⟩:=I0.idx X D rate m tl mem;generalize av:min upto 1073741824=u at*;have a:An.Zf mem (An.ef m tl) h u=Sl mem tl m.ia.flatten h u m.ia.flatten.length:=by unfold Sl;rw[UU];rfl
 obtain⟨E,hE⟩:∃E,An.Zf mem (An.ef m tl) h u=E:=⟨_,rfl⟩;rw[hE];rw[hE]at a;have t65:=zr X (Da D) (Z m.next) (Z m.check) (Pa m.da) x.lv (.float .f64 rate) (.map (some x.M)) x.B;have t66:=TO x.B mem h u (KT i.len (by omega)) i.ym;have t67:=xv x.lv m.ia (KT i.lv (by omega)) (KT i.fl (by omega));have hle:=Ik (X:=X) (D:=D) (rate:=rate) (tl:=tl) (mem:=mem) N;have p:∀n T,n∈m.ia.flatten→(n,T)∈x.g→Ud prog 68 #[Da T,Pa h,Z u] (Od D tl x.g*na D d) (Rj (Rg (tl n) h (min u 1073741824))) (Od D tl x.g*na D d):=fun n T hn z=>aP (IP T D n (tl n) d h u hh i.up (i.ko n hn)) z;have L:min u 1073741824=u:=by omega
 rw[L]at p;have j:=fun n hn=>(i.ko n hn).num;have H:=i.fl;obtain⟨fl,R⟩:∃fl,m.ia.flatten=fl:=⟨_,rfl⟩;have G:=N.has;rw[R]at a t67 p j H G;have a6:=V p;have HN:=V j;have HX:=V G;have a8:=V a;have a7:=V N.nd;have S:Sl mem tl fl h u 0=An.zd mem h u:=by unfold Sl;rw[IW];rfl
 have c6:w.cell? ⟨X,6,none⟩=some (Da x.B):=I.cells X 6;clear h0 I0 i R G a p j N hE;go_enter func31,ntmps31;go_wp2_with fail;refine Y.ka I t65 fun mm=> ?_;have J:=I.drewN mm;clear I c6;generalize w.drewN mm=W1 at*;have c6:W1.cell? ⟨X,6,none⟩=some (Da x.B):=J.cells X 6;obtain⟨q,q0,W,_,U⟩:=Fz mem h u;rw[W]at t66;have P:=V U;go_wp2_with fail;refine J.k1 t66 fun w2 v=> ?_;have K:=v.Wa (.cells #[Pa q.Qa,Z q.Qb,Z q.pos] 126) w2.heap.size rfl;clear c6 J t66 t65 W U v;go_upto_region 6 with(fail);generalize w2.alloc (.cells #[Pa q.Qa,Z q.Qb,Z q.pos] 126)=W3 at*;have y:=K.cells w2.heap.size 1;cases q0;all_goals
  have b:Z (Sl mem tl fl h u 0)=Z (An.zd mem h u):=by rw[S]
  rw[P.out]at b;have Q:=V b;have K1:Y w o r (ui X D rate m tl mem x*na D d) W3:=K.ya;have c4:W3.cell? ⟨X,4,none⟩=some x.lv:=K1.cells X 4;clear b S P K;go_upto_region 8 with(fail);clear y;go_wp2_with fail;refine K1.kc t67 fun w4 va K2=> ?_;obtain⟨_,A1,y,rfl⟩:=K2.Cd va;have K3:Y w o r (Hf A1 fl y*(ba X 131 (Lw D m rate x.lv x.B x.M)*(Ea x.lv m.ia*(gh x.B mem*(Ib prog 3 x.M (Rk (Sp x.g))*(Od D tl x.g*na D d)))))) w4:=K2.ya;clear c4 K1 K2 t67;go_wp2_with fail;go_loopw [8,40] (fun x8 x1 wr=>∃k:Nat,x1=Z k∧x8=Z (Sl mem tl fl h u k)∧k≤fl.length∧Y w o r (Hf A1 fl y*(ba X 131 (Lw D m rate x.lv x.B x.M)*(Ea x.lv m.ia*(gh x.B mem*(Ib prog 3 x.M (Rk (Sp x.g))*(Od D tl x.g*na D d)))))) wr) (fun _ x1 _=>fl.length-(intOf x1).toNat);case atStart=>exact⟨0,rfl,Q.out.symm,WT _,K3⟩
  case round=>
   obtain⟨k,rfl,rfl,hk,J⟩:=hrel;clear K3 Q;by_cases F:k<fl.length
   ·have ak:(k:Int)<(fl.length:Int):=by omega
    obtain⟨g,rfl,hc⟩:=J.Mc (A:=A1) (c:=y) (n:=fl.length) (xs:=nv fl) (e:=3) (sz:=1) (by intro e;have:=Kk fl;rw[e]at this;simp at this;omega);have c0:wr.cell? ⟨g,k,none⟩=some (Z (fl[k]:Nat)):=hc k _ (zh fl k F);have c7:wr.cell? ⟨X,7,none⟩=some (.map (some x.M)):=J.cells X 7;have f:=XT F;obtain⟨T,z⟩:=HX.out _ f;have aq:=HN.out _ f;have C:=(Az (t:=129) (e:=135) J x.M fl[k] (l:=Sp x.g) (by omega) underlying129 Mw).2;rw[px a7.out z]at C;dsimp only at C;have t68:=a6.out _ T f z;obtain⟨s,q1,_,a1,b⟩:=Fz (tl fl[k]) h u;rw[a1]at t68;have hs:=IC mem tl h u F;have an:=ME mem tl fl h u k;rw[b]at hs;have HS:=V hs;clear hc f z a1 b hs;generalize fl[k]=n at*;generalize Sl mem tl fl h u k=lk at*;go_wp2_with fail;refine J.k1 t68 fun w5 v=> ?_;have K:=v.Wa (.cells #[Pa s.Qa,Z s.Qb,Z s.pos] 126) w5.heap.size rfl;clear c0 c7 C J t68 v;go_upto_region 14 with(fail);generalize w5.alloc (.cells #[Pa s.Qa,Z s.Qb,Z s.pos] 126)=W6 at*;have d1:=K.cells w5.heap.size 1;cases q1 with
    |true=>
     go_wp2;go_roundw;case rel=>exact⟨k+1,by go_num,by rw[HS.out];rfl,by omega,K.ya⟩
     case measure=>simp[intOf];omega
    |false=>
     have al:max lk (-1)=lk:=by omega
     have HM:=V al;go_wp2;go_roundw;case rel=>exact⟨k+1,by go_num,by rw[HS.out];exact eU _ HM.out.symm,by omega,K.ya⟩
     case measure=>simp[intOf];omega
   ·have ak:¬ ((k:Int)<(fl.length:Int)):=by omega
    have aj:k=fl.length:=by omega
    subst aj;rw[←a8.out];go_wp2;go_ret2;exact⟨rfl,(J.ya (A:=ui X D rate m tl mem x*na D d)).le (MZ hle (JZ _))⟩
end
end Go.Proofs.YteacbkflfafefaaGreatDoor
