/-
  NARROWER THAN 'FOR EVERY INPUT', by the rows' own cells (each row's printed sentence says how): InquiryAccounts: laid · InquiryCounts: laid · InquiryMore: laid · InquiryOpened: laid.
  DERIVED. THE GIVEN ROWS OF THIS SEAT. 4 by the template 'for every input the law returns true; each argument reads behind the call as it read before'; 0 by the template 'total and deterministic' (their statements: YtpcmamoomaddoaaGreatDoorTotals.lean).
  GIVEN WITH THE SEED: the statements are not yours to turn. If you find one false, say at which input.
  Laid BY PROGRAM, IN A SANDBOX (cutbox-rows.mjs): the forced cells as the released guide's own fill.sh prints them over the translation 6c39ff913c1f072a… (all of the seat's roots in one cut). By AI agents, Wed Nov 11 2026. No macro, syntax, notation, axiom, sorry.
-/
import Derived.Test.YtpcmamoomaddoaaGreatDoorChecked
import GoSem.Claim
import GoSem.ClaimJoined
import GoSem.ClaimMapViews
import Derived.JoinedTies
import Derived.KernelRfl
namespace Go.Proofs.YtpcmamoomaddoaaGreatDoor
/- THE CELL 'sum', in the pinned program and in every row, IS THE sha256 OF THE DUMP (.gsa) THAT YtpcmamoomaddoaaGreatDoorProg.lean LOADS. Nothing in Lean hashes anything: it is a label: what it is worth is what the hold of that sum in a sandbox is worth. -/
noncomputable def Tryz.pinned : Pinned := { name := "ytpcmamoomaddoaagreatdoor", sum := "6c39ff913c1f072ab3f0823cd2f36359d6d8a4747db0b33e46be51c53022cbd3", checked := Tryz.checked }
namespace Rows
def none {H : Type} : Left H := { results := [], args := [] }

/- WHAT THE LISTED PACKAGE-LEVEL VARIABLES READ AS WHEN THE CALL BEGINS. Each datum BY PROGRAM (the guide's laid-datum.mjs) off the statement by which the dump's own 'gosem.cut.vars' lays the variable. In a bare row this is a premise. The card (YtpcmamoomaddoaaGreatDoorCards.lean) ties it to the program's text. -/
def laid_cloak_base_signs {H : Type} : DataW H := .agg [.lit (.string [46, 46]), .lit (.string [33, 61]), .lit (.string [60, 61]), .lit (.string [62, 61]), .lit (.string [40]), .lit (.string [41]), .lit (.string [123]), .lit (.string [125]), .lit (.string [44]), .lit (.string [59]), .lit (.string [58]), .lit (.string [46]), .lit (.string [61]), .lit (.string [60]), .lit (.string [62]), .lit (.string [43]), .lit (.string [45]), .lit (.string [42]), .lit (.string [47])]
def laid_cloak_ask_reserved {H : Type} : DataW H := .slice [.lit (.string [113, 117, 101, 115, 116, 105, 111, 110]), .lit (.string [97, 110, 100]), .lit (.string [111, 114]), .lit (.string [110, 111, 116]), .lit (.string [97, 116]), .lit (.string [108, 101, 97, 115, 116]), .lit (.string [111, 102]), .lit (.string [105, 110])] []

/-- 'cloaklaw10.InquiryAccounts': WHATEVER THE INPUT: true; the input reads as it did. -/
def inquiryAccountsSpec : ChangeSpec := { name := "inquiryAccounts", fn := fun _ => fun
  | [d1, d2, d3, d4] => { results := [.lit (.bool true)], args := [d1, d2, d3, d4] }
  | _ => none }
def inquiryAccountsRow : OpenClaim := { program := "ytpcmamoomaddoaagreatdoor", sum := "6c39ff913c1f072ab3f0823cd2f36359d6d8a4747db0b33e46be51c53022cbd3", func := "cloak/cloaklaw10.InquiryAccounts", spec := "inquiryAccounts", inPlace := ["internal/bytealg.IndexByteString", "internal/bytealg.IndexString"], unfollowed := true, recurses := true, named := ["internal/bytealg.MaxLen", "cloak/ask.reserved", "cloak/base.signs"], plainKeys := false, apart := false, laid := [("cloak/base.signs", laid_cloak_base_signs), ("cloak/ask.reserved", laid_cloak_ask_reserved)] }
def InquiryAccountsSaid : Prop := inquiryAccountsRow.holds Tryz.pinned (OpenSpec.ofChange inquiryAccountsSpec)

/-- ITS FALSE NEIGHBOUR: 'it returns false'. Refute it at one input. -/
def inquiryAccountsWrong : ChangeSpec := { name := "inquiryAccounts", fn := fun _ => fun
  | [d1, d2, d3, d4] => { results := [.lit (.bool false)], args := [d1, d2, d3, d4] }
  | _ => none }
def InquiryAccountsWrongFalsely : Prop := inquiryAccountsRow.holds Tryz.pinned (OpenSpec.ofChange inquiryAccountsWrong)

/-- 'cloaklaw10.InquiryCounts': WHATEVER THE INPUT: true; the input reads as it did. -/
def inquiryCountsSpec : ChangeSpec := { name := "inquiryCounts", fn := fun _ => fun
  | [d1, d2, d3, d4] => { results := [.lit (.bool true)], args := [d1, d2, d3, d4] }
  | _ => none }
def inquiryCountsRow : OpenClaim := { program := "ytpcmamoomaddoaagreatdoor", sum := "6c39ff913c1f072ab3f0823cd2f36359d6d8a4747db0b33e46be51c53022cbd3", func := "cloak/cloaklaw10.InquiryCounts", spec := "inquiryCounts", inPlace := ["internal/bytealg.IndexByteString", "internal/bytealg.IndexString"], unfollowed := true, recurses := true, named := ["internal/bytealg.MaxLen", "cloak/ask.reserved", "cloak/base.signs"], plainKeys := false, apart := false, laid := [("cloak/base.signs", laid_cloak_base_signs), ("cloak/ask.reserved", laid_cloak_ask_reserved)] }
def InquiryCountsSaid : Prop := inquiryCountsRow.holds Tryz.pinned (OpenSpec.ofChange inquiryCountsSpec)

/-- ITS FALSE NEIGHBOUR: 'it returns false'. Refute it at one input. -/
def inquiryCountsWrong : ChangeSpec := { name := "inquiryCounts", fn := fun _ => fun
  | [d1, d2, d3, d4] => { results := [.lit (.bool false)], args := [d1, d2, d3, d4] }
  | _ => none }
def InquiryCountsWrongFalsely : Prop := inquiryCountsRow.holds Tryz.pinned (OpenSpec.ofChange inquiryCountsWrong)

/-- 'cloaklaw10.InquiryMore': WHATEVER THE INPUT: true; the input reads as it did. -/
def inquiryMoreSpec : ChangeSpec := { name := "inquiryMore", fn := fun _ => fun
  | [d1, d2, d3, d4, d5, d6] => { results := [.lit (.bool true)], args := [d1, d2, d3, d4, d5, d6] }
  | _ => none }
def inquiryMoreRow : OpenClaim := { program := "ytpcmamoomaddoaagreatdoor", sum := "6c39ff913c1f072ab3f0823cd2f36359d6d8a4747db0b33e46be51c53022cbd3", func := "cloak/cloaklaw10.InquiryMore", spec := "inquiryMore", inPlace := ["internal/bytealg.IndexByteString", "internal/bytealg.IndexString"], unfollowed := true, recurses := true, named := ["internal/bytealg.MaxLen", "cloak/ask.reserved", "cloak/base.signs"], plainKeys := false, apart := false, laid := [("cloak/base.signs", laid_cloak_base_signs), ("cloak/ask.reserved", laid_cloak_ask_reserved)] }
def InquiryMoreSaid : Prop := inquiryMoreRow.holds Tryz.pinned (OpenSpec.ofChange inquiryMoreSpec)

/-- ITS FALSE NEIGHBOUR: 'it returns false'. Refute it at one input. -/
def inquiryMoreWrong : ChangeSpec := { name := "inquiryMore", fn := fun _ => fun
  | [d1, d2, d3, d4, d5, d6] => { results := [.lit (.bool false)], args := [d1, d2, d3, d4, d5, d6] }
  | _ => none }
def InquiryMoreWrongFalsely : Prop := inquiryMoreRow.holds Tryz.pinned (OpenSpec.ofChange inquiryMoreWrong)

/-- 'cloaklaw10.InquiryOpened': WHATEVER THE INPUT: true; the input reads as it did. -/
def inquiryOpenedSpec : ChangeSpec := { name := "inquiryOpened", fn := fun _ => fun
  | [d1, d2, d3, d4, d5] => { results := [.lit (.bool true)], args := [d1, d2, d3, d4, d5] }
  | _ => none }
def inquiryOpenedRow : OpenClaim := { program := "ytpcmamoomaddoaagreatdoor", sum := "6c39ff913c1f072ab3f0823cd2f36359d6d8a4747db0b33e46be51c53022cbd3", func := "cloak/cloaklaw10.InquiryOpened", spec := "inquiryOpened", inPlace := ["internal/bytealg.IndexByteString", "internal/bytealg.IndexString"], unfollowed := true, recurses := true, named := ["internal/bytealg.MaxLen", "cloak/ask.reserved", "cloak/base.signs"], plainKeys := false, apart := false, laid := [("cloak/base.signs", laid_cloak_base_signs), ("cloak/ask.reserved", laid_cloak_ask_reserved)] }
def InquiryOpenedSaid : Prop := inquiryOpenedRow.holds Tryz.pinned (OpenSpec.ofChange inquiryOpenedSpec)

/-- ITS FALSE NEIGHBOUR: 'it returns false'. Refute it at one input. -/
def inquiryOpenedWrong : ChangeSpec := { name := "inquiryOpened", fn := fun _ => fun
  | [d1, d2, d3, d4, d5] => { results := [.lit (.bool false)], args := [d1, d2, d3, d4, d5] }
  | _ => none }
def InquiryOpenedWrongFalsely : Prop := inquiryOpenedRow.holds Tryz.pinned (OpenSpec.ofChange inquiryOpenedWrong)

/- THE SECOND FORM. 'bulk': how many values and letters a reading holds, each counted each time it is reached (what is shared counts as often as it is met; a slice's spare places count too). A statement '..UptoSaid' is the law's where the arguments, and the package variables that the reading takes, are together of bulk at most 1048576: NARROWER than '..Said'. Prove '..Said' where nothing that the law and all that it calls make is longer than what came in: it says more and counts as full. Else prove '..UptoSaid'. A law counts once. -/
mutual
def uptoBulk {H : Type} : DataW H → Nat
  | .lit (.string bytes) => bytes.length + 1
  | .lit _ => 1
  | .nil => 1
  | .ptr d => uptoBulk d + 1
  | .slice elems spare => uptoBulkAll elems + uptoBulkAll spare + 1
  | .agg parts => uptoBulkAll parts + 1
  | .iface _ d => uptoBulk d + 1
  | .map entries => uptoBulkEntries entries + 1
  | .held _ => 1
def uptoBulkAll {H : Type} : List (DataW H) → Nat
  | [] => 0
  | d :: r => uptoBulk d + uptoBulkAll r
def uptoBulkEntries {H : Type} : List (Lit × DataW H) → Nat
  | [] => 0
  | x :: r => uptoBulkEntry x + uptoBulkEntries r
def uptoBulkEntry {H : Type} : Lit × DataW H → Nat
  | (.string bytes, d) => bytes.length + uptoBulk d + 1
  | (_, d) => uptoBulk d + 1
 end
def uptoSmall : (H : Type) → List (DataW H) → Bool := fun _ ds => decide (uptoBulkAll ds ≤ 1048576)
def OpenSpec.upto (s : _root_.Go.ChangeSpec) : _root_.Go.OpenSpec := { _root_.Go.OpenSpec.ofChange s with cond := some uptoSmall }

/-- 'cloaklaw10.InquiryAccounts', WHERE WHAT IT READS IS OF BULK AT MOST 1048576: true; the input reads as it did. -/
def inquiryAccountsUptoRow : OpenClaim := { program := "ytpcmamoomaddoaagreatdoor", sum := "6c39ff913c1f072ab3f0823cd2f36359d6d8a4747db0b33e46be51c53022cbd3", func := "cloak/cloaklaw10.InquiryAccounts", spec := "inquiryAccounts", inPlace := ["internal/bytealg.IndexByteString", "internal/bytealg.IndexString"], unfollowed := true, recurses := true, named := ["internal/bytealg.MaxLen", "cloak/ask.reserved", "cloak/base.signs"], plainKeys := false, apart := false, laid := [("cloak/base.signs", laid_cloak_base_signs), ("cloak/ask.reserved", laid_cloak_ask_reserved)], narrowed := true }
def InquiryAccountsUptoSaid : Prop := inquiryAccountsUptoRow.holds Tryz.pinned (OpenSpec.upto inquiryAccountsSpec)

/-- 'cloaklaw10.InquiryCounts', WHERE WHAT IT READS IS OF BULK AT MOST 1048576: true; the input reads as it did. -/
def inquiryCountsUptoRow : OpenClaim := { program := "ytpcmamoomaddoaagreatdoor", sum := "6c39ff913c1f072ab3f0823cd2f36359d6d8a4747db0b33e46be51c53022cbd3", func := "cloak/cloaklaw10.InquiryCounts", spec := "inquiryCounts", inPlace := ["internal/bytealg.IndexByteString", "internal/bytealg.IndexString"], unfollowed := true, recurses := true, named := ["internal/bytealg.MaxLen", "cloak/ask.reserved", "cloak/base.signs"], plainKeys := false, apart := false, laid := [("cloak/base.signs", laid_cloak_base_signs), ("cloak/ask.reserved", laid_cloak_ask_reserved)], narrowed := true }
def InquiryCountsUptoSaid : Prop := inquiryCountsUptoRow.holds Tryz.pinned (OpenSpec.upto inquiryCountsSpec)

/-- 'cloaklaw10.InquiryMore', WHERE WHAT IT READS IS OF BULK AT MOST 1048576: true; the input reads as it did. -/
def inquiryMoreUptoRow : OpenClaim := { program := "ytpcmamoomaddoaagreatdoor", sum := "6c39ff913c1f072ab3f0823cd2f36359d6d8a4747db0b33e46be51c53022cbd3", func := "cloak/cloaklaw10.InquiryMore", spec := "inquiryMore", inPlace := ["internal/bytealg.IndexByteString", "internal/bytealg.IndexString"], unfollowed := true, recurses := true, named := ["internal/bytealg.MaxLen", "cloak/ask.reserved", "cloak/base.signs"], plainKeys := false, apart := false, laid := [("cloak/base.signs", laid_cloak_base_signs), ("cloak/ask.reserved", laid_cloak_ask_reserved)], narrowed := true }
def InquiryMoreUptoSaid : Prop := inquiryMoreUptoRow.holds Tryz.pinned (OpenSpec.upto inquiryMoreSpec)

/-- 'cloaklaw10.InquiryOpened', WHERE WHAT IT READS IS OF BULK AT MOST 1048576: true; the input reads as it did. -/
def inquiryOpenedUptoRow : OpenClaim := { program := "ytpcmamoomaddoaagreatdoor", sum := "6c39ff913c1f072ab3f0823cd2f36359d6d8a4747db0b33e46be51c53022cbd3", func := "cloak/cloaklaw10.InquiryOpened", spec := "inquiryOpened", inPlace := ["internal/bytealg.IndexByteString", "internal/bytealg.IndexString"], unfollowed := true, recurses := true, named := ["internal/bytealg.MaxLen", "cloak/ask.reserved", "cloak/base.signs"], plainKeys := false, apart := false, laid := [("cloak/base.signs", laid_cloak_base_signs), ("cloak/ask.reserved", laid_cloak_ask_reserved)], narrowed := true }
def InquiryOpenedUptoSaid : Prop := inquiryOpenedUptoRow.holds Tryz.pinned (OpenSpec.upto inquiryOpenedSpec)

end Rows
end Go.Proofs.YtpcmamoomaddoaaGreatDoor
