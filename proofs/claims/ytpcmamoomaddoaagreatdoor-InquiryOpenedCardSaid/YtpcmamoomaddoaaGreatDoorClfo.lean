import Derived.Test.YtpcmamoomaddoaaGreatDoorRows
import Derived.WalkKit
import Derived.ProofKit
import Derived.JoinedCond
set_option maxRecDepth 100000
set_option maxHeartbeats 32000000
namespace Go.Proofs.YtpcmamoomaddoaaGreatDoor
open Go.ChangeShapes Go.WideShapes Go.ChangeAt Go.RowKit
theorem nameo:Tryz.pinned.checked.prog.funcNamed Rows.inquiryOpenedRow.func=some 6:=by kernel_rfl
theorem closedo:joinedFacts Tryz.pinned.checked.prog 6 Tryz.f6 (OpenSpec.ofChange Rows.inquiryOpenedSpec).bare Rows.inquiryOpenedRow=true:=by kernel_rfl
theorem insto:Tryz.f6.isInstance Tryz.pinned.checked.prog Rows.inquiryOpenedRow.origin Rows.inquiryOpenedRow.targs:=of_decide_eq_true (by kernel_rfl)
theorem wrapo:Tryz.f6.isWrapper Tryz.pinned.checked.prog Rows.inquiryOpenedRow.wrapper Rows.inquiryOpenedRow.mainSum:=by
 unfold Func.isWrapper;first|(rw[if_pos (by decide +kernel)];kernel_rfl)|(rw[if_neg (by decide +kernel)];exact⟨rfl,rfl⟩)
end Go.Proofs.YtpcmamoomaddoaaGreatDoor
