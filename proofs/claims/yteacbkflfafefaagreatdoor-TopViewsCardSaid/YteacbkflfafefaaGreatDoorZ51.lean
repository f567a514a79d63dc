/- TopViews returns true at every input that its type allows; the arguments are left as they were. The conditions are the given card. -/
import Derived.Test.YteacbkflfafefaaGreatDoorZ50
import Derived.Test.YteacbkflfafefaaGreatDoorTie
import Derived.Test.YteacbkflfafefaaGreatDoorCards
namespace Go.Proofs.YteacbkflfafefaaGreatDoor
set_option linter.all false
set_option maxRecDepth 100000
namespace topViews
section
open Go.ChangeShapes Go.WideShapes Go.ChangeAt Go.RowKit Go.Lib Go.Proofs.Tryz
theorem proved:Rows.TopViewsCardSaid:=Claim7.holds_tied_plain_at .later [] [.data,.pinned] true (true, "39dbda7807e4ad3abee55a679955e1981db8b707096a943a844425d623421f46") false over (fun _ h=>by cases h) (by as_aux_lemma=>kernel_rfl) (fun _ h=>by cases h) topViews_row_tie rfl ⟨rfl,rfl⟩ (by as_aux_lemma=>kernel_rfl) rfl (fun f fn d b=>by
   obtain rfl:f=3:=VU ((show prog.funcNamed "annalist/annalisttop.TopViews" =some 3 by as_aux_lemma=>kernel_rfl).symm.trans d)|>.symm;obtain rfl:fn=Tryz.f3:=(VU (func3.symm.trans b)).symm;exact⟨by as_aux_lemma=>kernel_rfl,fun j t c=>by
    rw[Tryz.params3]at c;have hm:t∈[22,27,5]:=by simpa using Array.mem_of_getElem? c
    have a:([22,27,5].all fun u=> !prog.wantsStandIn u)=true:=by as_aux_lemma=>kernel_rfl
    exact(show prog.wantsStandIn t=false by simpa using GU.1 a t hm)⟩)
  (by as_aux_lemma=>kernel_rfl)
#print axioms proved
end
end topViews
end Go.Proofs.YteacbkflfafefaaGreatDoor
