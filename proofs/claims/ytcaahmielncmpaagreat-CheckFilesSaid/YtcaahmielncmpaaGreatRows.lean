/-
  NARROWER THAN 'FOR EVERY INPUT', by the rows' own cells (each row's printed sentence says how): RuleExact: loops · CheckExact: loops · CheckFiles: loops.
  DERIVED. THE GIVEN ROWS OF THIS SEAT. 3 by the template 'for every input the law returns true; each argument reads behind the call as it read before'; 0 by the template 'total and deterministic' (their statements: YtcaahmielncmpaaGreatTotals.lean).
  GIVEN WITH THE SEED: the statements are not yours to turn. If you find one false, say at which input.
  Laid BY PROGRAM, IN A SANDBOX (cutbox-rows.mjs): the forced cells as the released guide's own fill.sh prints them over the translation e6bb88972ba4a7e8… (all of the seat's roots in one cut). By AI agents, Wed Nov 11 2026. No macro, syntax, notation, axiom, sorry.
-/
import Derived.Test.YtcaahmielncmpaaGreatChecked
import GoSem.Claim
import GoSem.ClaimJoined
import GoSem.ClaimMapViews
import Derived.JoinedTies
import Derived.KernelRfl
namespace Go.Proofs.YtcaahmielncmpaaGreat
/- THE CELL 'sum', in the pinned program and in every row, IS THE sha256 OF THE DUMP (.gsa) THAT YtcaahmielncmpaaGreatProg.lean LOADS. Nothing in Lean hashes anything: it is a label: what it is worth is what the hold of that sum in a sandbox is worth. -/
noncomputable def Tryz.pinned : Pinned := { name := "ytcaahmielncmpaagreat", sum := "e6bb88972ba4a7e84e608cc0fcf9630e6d4426916b46339761a6b092dc590653", checked := Tryz.checked }
namespace Rows
def none {H : Type} : Left H := { results := [], args := [] }

/-- 'transhiplaw15.RuleExact': WHATEVER THE INPUT: true; the input reads as it did. -/
def ruleExactSpec : ChangeSpec := { name := "ruleExact", fn := fun _ => fun
  | [d1, d2, d3, d4] => { results := [.lit (.bool true)], args := [d1, d2, d3, d4] }
  | _ => none }
def ruleExactRow : OpenClaim := { program := "ytcaahmielncmpaagreat", sum := "e6bb88972ba4a7e84e608cc0fcf9630e6d4426916b46339761a6b092dc590653", func := "tranship/transhiplaw15.RuleExact", spec := "ruleExact", unfollowed := true, recurses := true, loops := true, apart := false }
def RuleExactSaid : Prop := ruleExactRow.holds Tryz.pinned (OpenSpec.ofChange ruleExactSpec)

/-- ITS FALSE NEIGHBOUR: 'it returns false'. Refute it at one input. -/
def ruleExactWrong : ChangeSpec := { name := "ruleExact", fn := fun _ => fun
  | [d1, d2, d3, d4] => { results := [.lit (.bool false)], args := [d1, d2, d3, d4] }
  | _ => none }
def RuleExactWrongFalsely : Prop := ruleExactRow.holds Tryz.pinned (OpenSpec.ofChange ruleExactWrong)

/-- 'transhiplaw16.CheckExact': WHATEVER THE INPUT: true; the input reads as it did. -/
def checkExactSpec : ChangeSpec := { name := "checkExact", fn := fun _ => fun
  | [d1, d2, d3] => { results := [.lit (.bool true)], args := [d1, d2, d3] }
  | _ => none }
def checkExactRow : OpenClaim := { program := "ytcaahmielncmpaagreat", sum := "e6bb88972ba4a7e84e608cc0fcf9630e6d4426916b46339761a6b092dc590653", func := "tranship/transhiplaw16.CheckExact", spec := "checkExact", unfollowed := true, recurses := true, loops := true, apart := false }
def CheckExactSaid : Prop := checkExactRow.holds Tryz.pinned (OpenSpec.ofChange checkExactSpec)

/-- ITS FALSE NEIGHBOUR: 'it returns false'. Refute it at one input. -/
def checkExactWrong : ChangeSpec := { name := "checkExact", fn := fun _ => fun
  | [d1, d2, d3] => { results := [.lit (.bool false)], args := [d1, d2, d3] }
  | _ => none }
def CheckExactWrongFalsely : Prop := checkExactRow.holds Tryz.pinned (OpenSpec.ofChange checkExactWrong)

/-- 'transhiplaw16.CheckFiles': WHATEVER THE INPUT: true; the input reads as it did. -/
def checkFilesSpec : ChangeSpec := { name := "checkFiles", fn := fun _ => fun
  | [d1, d2] => { results := [.lit (.bool true)], args := [d1, d2] }
  | _ => none }
def checkFilesRow : OpenClaim := { program := "ytcaahmielncmpaagreat", sum := "e6bb88972ba4a7e84e608cc0fcf9630e6d4426916b46339761a6b092dc590653", func := "tranship/transhiplaw16.CheckFiles", spec := "checkFiles", unfollowed := true, recurses := true, loops := true, apart := false }
def CheckFilesSaid : Prop := checkFilesRow.holds Tryz.pinned (OpenSpec.ofChange checkFilesSpec)

/-- ITS FALSE NEIGHBOUR: 'it returns false'. Refute it at one input. -/
def checkFilesWrong : ChangeSpec := { name := "checkFiles", fn := fun _ => fun
  | [d1, d2] => { results := [.lit (.bool false)], args := [d1, d2] }
  | _ => none }
def CheckFilesWrongFalsely : Prop := checkFilesRow.holds Tryz.pinned (OpenSpec.ofChange checkFilesWrong)

/- THE SECOND FORM. 'bulk': how many values and letters a reading holds, each counted each time it is reached (what is shared counts as often as it is met; a slice's spare places count too). A statement '..UptoSaid' is the law's where the arguments, and the package variables that the reading takes, are together of bulk at most 1048576: NARROWER than '..Said'. Prove '..Said' where nothing that the law and all that it calls make is longer than what came in: it says more and counts as full. Else prove '..UptoSaid'. A law counts once. -/
mutual
def uptoBulk {H : Type} : DataW H → Nat
  | .lit (.string bytes) => bytes.length + 1
  | .lit _ => 1
  | .nil => 1
  | .ptr d => uptoBulk d + 1
  | .slice elems spare => uptoBulkAll elems + uptoBulkAll spare + 1
  | .agg parts => uptoBulkAll parts + 1
  | .iface _ d => uptoBulk d + 1
  | .map entries => uptoBulkEntries entries + 1
  | .held _ => 1
def uptoBulkAll {H : Type} : List (DataW H) → Nat
  | [] => 0
  | d :: r => uptoBulk d + uptoBulkAll r
def uptoBulkEntries {H : Type} : List (Lit × DataW H) → Nat
  | [] => 0
  | x :: r => uptoBulkEntry x + uptoBulkEntries r
def uptoBulkEntry {H : Type} : Lit × DataW H → Nat
  | (.string bytes, d) => bytes.length + uptoBulk d + 1
  | (_, d) => uptoBulk d + 1
 end
def uptoSmall : (H : Type) → List (DataW H) → Bool := fun _ ds => decide (uptoBulkAll ds ≤ 1048576)
def OpenSpec.upto (s : _root_.Go.ChangeSpec) : _root_.Go.OpenSpec := { _root_.Go.OpenSpec.ofChange s with cond := some uptoSmall }

/-- 'transhiplaw15.RuleExact', WHERE WHAT IT READS IS OF BULK AT MOST 1048576: true; the input reads as it did. -/
def ruleExactUptoRow : OpenClaim := { program := "ytcaahmielncmpaagreat", sum := "e6bb88972ba4a7e84e608cc0fcf9630e6d4426916b46339761a6b092dc590653", func := "tranship/transhiplaw15.RuleExact", spec := "ruleExact", unfollowed := true, recurses := true, loops := true, apart := false, narrowed := true }
def RuleExactUptoSaid : Prop := ruleExactUptoRow.holds Tryz.pinned (OpenSpec.upto ruleExactSpec)

/-- 'transhiplaw16.CheckExact', WHERE WHAT IT READS IS OF BULK AT MOST 1048576: true; the input reads as it did. -/
def checkExactUptoRow : OpenClaim := { program := "ytcaahmielncmpaagreat", sum := "e6bb88972ba4a7e84e608cc0fcf9630e6d4426916b46339761a6b092dc590653", func := "tranship/transhiplaw16.CheckExact", spec := "checkExact", unfollowed := true, recurses := true, loops := true, apart := false, narrowed := true }
def CheckExactUptoSaid : Prop := checkExactUptoRow.holds Tryz.pinned (OpenSpec.upto checkExactSpec)

/-- 'transhiplaw16.CheckFiles', WHERE WHAT IT READS IS OF BULK AT MOST 1048576: true; the input reads as it did. -/
def checkFilesUptoRow : OpenClaim := { program := "ytcaahmielncmpaagreat", sum := "e6bb88972ba4a7e84e608cc0fcf9630e6d4426916b46339761a6b092dc590653", func := "tranship/transhiplaw16.CheckFiles", spec := "checkFiles", unfollowed := true, recurses := true, loops := true, apart := false, narrowed := true }
def CheckFilesUptoSaid : Prop := checkFilesUptoRow.holds Tryz.pinned (OpenSpec.upto checkFilesSpec)

end Rows
end Go.Proofs.YtcaahmielncmpaaGreat
