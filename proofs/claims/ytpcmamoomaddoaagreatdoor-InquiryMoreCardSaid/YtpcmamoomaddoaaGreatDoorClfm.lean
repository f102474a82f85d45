import Derived.Test.YtpcmamoomaddoaaGreatDoorRows
import Derived.WalkKit
import Derived.ProofKit
import Derived.JoinedCond
set_option maxRecDepth 100000
set_option maxHeartbeats 32000000
namespace Go.Proofs.YtpcmamoomaddoaaGreatDoor
open Go.ChangeShapes Go.WideShapes Go.ChangeAt Go.RowKit
theorem namem:Tryz.pinned.checked.prog.funcNamed Rows.inquiryMoreRow.func=some 5:=by kernel_rfl
theorem closedm:joinedFacts Tryz.pinned.checked.prog 5 Tryz.f5 (OpenSpec.ofChange Rows.inquiryMoreSpec).bare Rows.inquiryMoreRow=true:=by kernel_rfl
theorem instm:Tryz.f5.isInstance Tryz.pinned.checked.prog Rows.inquiryMoreRow.origin Rows.inquiryMoreRow.targs:=of_decide_eq_true (by kernel_rfl)
theorem wrapm:Tryz.f5.isWrapper Tryz.pinned.checked.prog Rows.inquiryMoreRow.wrapper Rows.inquiryMoreRow.mainSum:=by
 unfold Func.isWrapper;first|(rw[if_pos (by decide +kernel)];kernel_rfl)|(rw[if_neg (by decide +kernel)];exact⟨rfl,rfl⟩)
end Go.Proofs.YtpcmamoomaddoaaGreatDoor
