/- TopViews: the law over every input, its row without the card. -/
import Derived.Test.YteacbkflfafefaaGreatDoorZ49
import Derived.Test.YteacbkflfafefaaGreatDoorTie
import Derived.Test.YteacbkflfafefaaGreatDoorCards
namespace Go.Proofs.YteacbkflfafefaaGreatDoor
set_option linter.all false
set_option maxRecDepth 100000
namespace topViews
section
open Go.ChangeShapes Go.WideShapes Go.ChangeAt Go.RowKit Go.Lib Go.Proofs.Tryz
theorem VJ{w w':World}{r:Td}{S:aa}(h:Y w (fun _=>False) r S w'):Below w.heap.size w w':=by obtain⟨b,c,_,hu⟩:=h;exact⟨hu.os,hu.tape,hu.output,hu.size,fun k a=>hu.Ie k a fun h=>h⟩
theorem own:ownKnob prog.godebug=none:=by kernel_rfl
theorem laidOut:laidOutB prog=true:=by kernel_rfl
theorem lifted(os:Os)(g:os.Started)(H:Type)(enc:TypeId×Value→H):ReturnsInHanded {} Tryz.checked os 3 .any (fun w args=>(Rows.topViewsSpec.pre enc prog Tryz.f3 [] false w args∧laidMetH prog Rows.topViewsRow.laid w)∧sizedMet enc prog Tryz.f3 (OpenSpec.ofChange Rows.topViewsSpec) false w args) (Rows.topViewsSpec.post enc prog Tryz.f3 false true false false):=by
 refine returnsInHanded_of_change_and (C:=Tryz.checked) (X:=fun w _=>laidMetH prog Rows.topViewsRow.laid w) (fun _ _ _ hh h=>h.of_heap hh) own g (by kernel_rfl) func3 (ChangeSpec.witness_shaped (enc:=enc) (C:=Tryz.checked) (os:=os) (X:=fun w _=>laidMetH prog Rows.topViewsRow.laid w) false (World.laidAll prog os Rows.topViewsRow.laid) #[O none 0 0,.agg #[Pa 0,.float .f64 0,.int .u16 0],.int .u8 0] 8 (World.laidAll_os _ _ _) (World.shaped_of_ZipB (by kernel_rfl) (by kernel_rfl)) (by kernel_rfl) (by kernel_rfl) (by kernel_rfl) (by rw[MakeChecks.laidMetH_plain _ _ _ (by kernel_rfl)];exact laidMet_laidAll _ (by kernel_rfl) (by kernel_rfl))) ?_;intro W base args J gs before d B _ _ _ _;have a:∀ (j:Nat) t v,Tryz.f3.params[j]? =some t→args[j]? =some v→Value.okWide prog W .any base t v:=d;have s:=B;obtain⟨p,q,o,L,rfl,_,_⟩:=B;have z:DataW.TrodAll enc prog W 0 (fun _=>true) true Tryz.f3.params.toList args.toList J p:=o;rw[Tryz.params3]at z a;obtain⟨v0,aj,d0,a6,P,q0,I,rfl,rfl,u,S⟩:=trodAll_cons z;obtain⟨v1,ak,d1,a7,Q,q1,rfl,rfl,rfl,k1,T⟩:=trodAll_cons S;obtain⟨v2,al,d2,a8,R,q2,rfl,rfl,rfl,y,U⟩:=trodAll_cons T;obtain⟨rfl,rfl,rfl⟩:=trodAll_nil U;obtain rfl:args=#[v0,v1,v2]:=by cases args;simp_all
 obtain⟨rfl,rfl⟩:=trodVars_none L;have E:∀x∈P,x.block<W.heap.size:=by obtain⟨m,hm⟩:=u;exact DataW.trod_lt m _ _ _ hm
 have F:∀x∈Q,x.block<W.heap.size:=by obtain⟨m,hm⟩:=k1;exact DataW.trod_lt m _ _ _ hm
 have G:∀x∈R,x.block<W.heap.size:=by obtain⟨m,hm⟩:=y;exact DataW.trod_lt m _ _ _ hm
 obtain⟨A,c,l,rfl,M,D,r,N⟩:=fF (okWide_slice underlying22 (a 0 22 v0 rfl rfl)) u;obtain⟨a1,rfl,_⟩:=okWide_struct underlying27 (a 1 27 v1 rfl rfl);obtain⟨da,rate,room,K,k,i⟩:=eF k1;rw[K]at s k1⊢;obtain⟨size,rfl,n⟩:=cP (okWide_int underlying5 (a 2 5 v2 rfl rfl)) y;clear o d a;refine(kT iS A c l M D da rate room size i k n W (fun _=>False) r N).mono fun e W' ⟨he,hi⟩=> ?_;have b:=VJ hi;subst he;exact⟨_,rfl,_,_,_,[],_,[],s,trodAll_mk1 (shut_bool underlying4 _),(trodAll_cons_mk (Below.trod laidOut (by kernel_rfl) (vX (by kernel_rfl)) u b E) (trodAll_cons_mk (Below.trod laidOut (by kernel_rfl) (vX (by kernel_rfl)) k1 b F) (trodAll_cons_mk (Below.trod laidOut (by kernel_rfl) (vX (by kernel_rfl)) y b G) trodAll_mk0))),rfl,b.frame _,fun h=>by cases h⟩
theorem over:Rows.topViewsRow.holds Tryz.pinned (OpenSpec.ofChange Rows.topViewsSpec):=OpenClaim.holds_of_wide 3 Tryz.f3 rfl rfl rfl rfl rfl rfl rfl ⟨rfl,rfl,rfl,rfl,rfl⟩ rfl rfl rfl rfl rfl (by kernel_rfl) func3 facts (vX (by kernel_rfl)) (by unfold Func.isWrapper;first|(rw[JT (by decide+kernel)];kernel_rfl)|(rw[DT (by decide+kernel)];exact⟨rfl,rfl⟩)) (fun os started H enc _=>lifted os started H enc)
end
end topViews
end Go.Proofs.YteacbkflfafefaaGreatDoor
