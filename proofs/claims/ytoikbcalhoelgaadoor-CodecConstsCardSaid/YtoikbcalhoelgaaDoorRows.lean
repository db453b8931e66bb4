/-
  NARROWER THAN 'FOR EVERY INPUT', by the rows' own cells (each row's printed sentence says how): CodecConsts: laid.
  DERIVED. THE GIVEN ROWS OF THIS SEAT. 1 by the template 'for every input the law returns true; each argument reads behind the call as it read before'; 0 by the template 'total and deterministic' (their statements: YtoikbcalhoelgaaDoorTotals.lean).
  GIVEN WITH THE SEED: the statements are not yours to turn. If you find one false, say at which input.
  Laid BY PROGRAM, IN A SANDBOX (cutbox-rows.mjs): the forced cells as the released guide's own fill.sh prints them over the translation 3df83e2e05aeef66… (all of the seat's roots in one cut). By AI agents, Wed Nov 11 2026. No macro, syntax, notation, axiom, sorry.
-/
import Derived.Test.YtoikbcalhoelgaaDoorChecked
import GoSem.Claim
import GoSem.ClaimJoined
import GoSem.ClaimMapViews
import Derived.JoinedTies
import Derived.KernelRfl
namespace Go.Proofs.YtoikbcalhoelgaaDoor
/- THE CELL 'sum', in the pinned program and in every row, IS THE sha256 OF THE DUMP (.gsa) THAT YtoikbcalhoelgaaDoorProg.lean LOADS. Nothing in Lean hashes anything: it is a label: what it is worth is what the hold of that sum in a sandbox is worth. -/
noncomputable def Tryd.pinned : Pinned := { name := "ytoikbcalhoelgaadoor", sum := "3df83e2e05aeef66bad80c1bcc939b5d332b4b8a69c65c83ab799509bff7ee61", checked := Tryd.checked }
namespace Rows
def none {H : Type} : Left H := { results := [], args := [] }

/- WHAT THE LISTED PACKAGE-LEVEL VARIABLES READ AS WHEN THE CALL BEGINS. Each datum BY PROGRAM (the guide's laid-datum.mjs) off the statement by which the dump's own 'gosem.cut.vars' lays the variable. In a bare row this is a premise. The card (YtoikbcalhoelgaaDoorCards.lean) ties it to the program's text. -/
def laid_cistern_codec_shapes {H : Type} : DataW H := .agg [.agg [.lit (.int .i64 0), .lit (.int .i64 1), .lit (.string []), .lit (.bool false)], .agg [.lit (.int .i64 2), .lit (.int .i64 3), .lit (.string [104, 97, 115, 104, 116, 97, 98, 108, 101]), .lit (.bool false)], .agg [.lit (.int .i64 3), .lit (.int .i64 4), .lit (.string [115, 107, 105, 112, 108, 105, 115, 116]), .lit (.bool false)], .agg [.lit (.int .i64 4), .lit (.int .i64 5), .lit (.string [104, 97, 115, 104, 116, 97, 98, 108, 101]), .lit (.bool false)], .agg [.lit (.int .i64 11), .lit (.int .i64 3), .lit (.string [105, 110, 116, 115, 101, 116]), .lit (.bool true)], .agg [.lit (.int .i64 16), .lit (.int .i64 5), .lit (.string [108, 105, 115, 116, 112, 97, 99, 107]), .lit (.bool true)], .agg [.lit (.int .i64 17), .lit (.int .i64 4), .lit (.string [108, 105, 115, 116, 112, 97, 99, 107]), .lit (.bool true)], .agg [.lit (.int .i64 18), .lit (.int .i64 2), .lit (.string []), .lit (.bool false)], .agg [.lit (.int .i64 20), .lit (.int .i64 3), .lit (.string [108, 105, 115, 116, 112, 97, 99, 107]), .lit (.bool true)]]

/-- 'cisternlaw21.CodecConsts': WHATEVER THE INPUT: true; the input reads as it did. -/
def codecConstsSpec : ChangeSpec := { name := "codecConsts", fn := fun _ => fun
  | [] => { results := [.lit (.bool true)], args := [] }
  | _ => none }
def codecConstsRow : OpenClaim := { program := "ytoikbcalhoelgaadoor", sum := "3df83e2e05aeef66bad80c1bcc939b5d332b4b8a69c65c83ab799509bff7ee61", func := "cistern/cisternlaw21.CodecConsts", spec := "codecConsts", named := ["cistern/codec.shapes"], apart := false, laid := [("cistern/codec.shapes", laid_cistern_codec_shapes)] }
def CodecConstsSaid : Prop := codecConstsRow.holds Tryd.pinned (OpenSpec.ofChange codecConstsSpec)

/-- ITS FALSE NEIGHBOUR: 'it returns false'. Refute it at one input. -/
def codecConstsWrong : ChangeSpec := { name := "codecConsts", fn := fun _ => fun
  | [] => { results := [.lit (.bool false)], args := [] }
  | _ => none }
def CodecConstsWrongFalsely : Prop := codecConstsRow.holds Tryd.pinned (OpenSpec.ofChange codecConstsWrong)

/- THE SECOND FORM. 'bulk': how many values and letters a reading holds, each counted each time it is reached (what is shared counts as often as it is met; a slice's spare places count too). A statement '..UptoSaid' is the law's where the arguments, and the package variables that the reading takes, are together of bulk at most 1048576: NARROWER than '..Said'. Prove '..Said' where nothing that the law and all that it calls make is longer than what came in: it says more and counts as full. Else prove '..UptoSaid'. A law counts once. -/
mutual
def uptoBulk {H : Type} : DataW H → Nat
  | .lit (.string bytes) => bytes.length + 1
  | .lit _ => 1
  | .nil => 1
  | .ptr d => uptoBulk d + 1
  | .slice elems spare => uptoBulkAll elems + uptoBulkAll spare + 1
  | .agg parts => uptoBulkAll parts + 1
  | .iface _ d => uptoBulk d + 1
  | .map entries => uptoBulkEntries entries + 1
  | .held _ => 1
def uptoBulkAll {H : Type} : List (DataW H) → Nat
  | [] => 0
  | d :: r => uptoBulk d + uptoBulkAll r
def uptoBulkEntries {H : Type} : List (Lit × DataW H) → Nat
  | [] => 0
  | x :: r => uptoBulkEntry x + uptoBulkEntries r
def uptoBulkEntry {H : Type} : Lit × DataW H → Nat
  | (.string bytes, d) => bytes.length + uptoBulk d + 1
  | (_, d) => uptoBulk d + 1
 end
def uptoSmall : (H : Type) → List (DataW H) → Bool := fun _ ds => decide (uptoBulkAll ds ≤ 1048576)
def OpenSpec.upto (s : _root_.Go.ChangeSpec) : _root_.Go.OpenSpec := { _root_.Go.OpenSpec.ofChange s with cond := some uptoSmall }

/-- 'cisternlaw21.CodecConsts', WHERE WHAT IT READS IS OF BULK AT MOST 1048576: true; the input reads as it did. -/
def codecConstsUptoRow : OpenClaim := { program := "ytoikbcalhoelgaadoor", sum := "3df83e2e05aeef66bad80c1bcc939b5d332b4b8a69c65c83ab799509bff7ee61", func := "cistern/cisternlaw21.CodecConsts", spec := "codecConsts", named := ["cistern/codec.shapes"], apart := false, laid := [("cistern/codec.shapes", laid_cistern_codec_shapes)], narrowed := true }
def CodecConstsUptoSaid : Prop := codecConstsUptoRow.holds Tryd.pinned (OpenSpec.upto codecConstsSpec)

end Rows
end Go.Proofs.YtoikbcalhoelgaaDoor
