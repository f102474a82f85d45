/- The law InquiryCounts: the closed facts of its row. -/
import Derived.Test.YtpcmamoomaddoaaGreatDoorRows
import Derived.WalkKit
import Derived.ProofKit
import Derived.JoinedCond
namespace Go.Proofs.YtpcmamoomaddoaaGreatDoor
open Go.ChangeShapes Go.WideShapes Go.ChangeAt Go.RowKit
theorem namei:Tryz.pinned.checked.prog.funcNamed Rows.inquiryCountsRow.func=some 4:=by kernel_rfl
set_option maxRecDepth 100000 in
theorem closedi:joinedFacts Tryz.pinned.checked.prog 4 Tryz.f4 (OpenSpec.ofChange Rows.inquiryCountsSpec).bare Rows.inquiryCountsRow=true:=by kernel_rfl
theorem insti:Tryz.f4.isInstance Tryz.pinned.checked.prog Rows.inquiryCountsRow.origin Rows.inquiryCountsRow.targs:=of_decide_eq_true (by kernel_rfl)
theorem wrapi:Tryz.f4.isWrapper Tryz.pinned.checked.prog Rows.inquiryCountsRow.wrapper Rows.inquiryCountsRow.mainSum:=by
 unfold Func.isWrapper;first|(rw [if_pos (by decide +kernel)];kernel_rfl)|(rw [if_neg (by decide +kernel)];exact ⟨rfl,rfl⟩)
end Go.Proofs.YtpcmamoomaddoaaGreatDoor
