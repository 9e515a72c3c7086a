/-
  No cell of these rows narrows 'for every input' (looked for: loops, veiled, ifaces, maps, wideKeys, modest, calm, conditions, laid).
  DERIVED. THE GIVEN ROWS OF THIS SEAT. 11 by the template 'for every input the law returns true; each argument reads behind the call as it read before'; 0 by the template 'total and deterministic' (their statements: YtcgfpffgiimgmaaTotals.lean).
  GIVEN WITH THE SEED: the statements are not yours to turn. If you find one false, say at which input.
  Laid BY PROGRAM, IN A SANDBOX (cutbox-rows.mjs): the forced cells as the released guide's own fill.sh prints them over the translation 5745381c6aed26ab… (all of the seat's roots in one cut). By AI agents, Wed Nov 11 2026. No macro, syntax, notation, axiom, sorry.
-/
import Derived.Test.YtcgfpffgiimgmaaChecked
import GoSem.Claim
import GoSem.ClaimJoined
import GoSem.ClaimMapViews
import Derived.JoinedTies
import Derived.KernelRfl
namespace Go.Proofs.Ytcgfpffgiimgmaa
/- THE CELL 'sum', in the pinned program and in every row, IS THE sha256 OF THE DUMP (.gsa) THAT YtcgfpffgiimgmaaProg.lean LOADS. Nothing in Lean hashes anything: it is a label: what it is worth is what the hold of that sum in a sandbox is worth. -/
noncomputable def Try.pinned : Pinned := { name := "ytcgfpffgiimgmaa", sum := "5745381c6aed26ab5504bb65d8cf00d10858f7708dc71b281bf300e75012e78b", checked := Try.checked }
namespace Rows
def none {H : Type} : Left H := { results := [], args := [] }

/-- 'intrusionlaw05.IntervalNormals': WHATEVER THE INPUT: true; the input reads as it did. -/
def intervalNormalsSpec : ChangeSpec := { name := "intervalNormals", fn := fun _ => fun
  | [d] => { results := [.lit (.bool true)], args := [d] }
  | _ => none }
def intervalNormalsRow : OpenClaim := { program := "ytcgfpffgiimgmaa", sum := "5745381c6aed26ab5504bb65d8cf00d10858f7708dc71b281bf300e75012e78b", func := "intrusion/intrusionlaw05.IntervalNormals", spec := "intervalNormals", unfollowed := true, recurses := true, apart := false }
def IntervalNormalsSaid : Prop := intervalNormalsRow.holds Try.pinned (OpenSpec.ofChange intervalNormalsSpec)

/-- ITS FALSE NEIGHBOUR: 'it returns false'. Refute it at one input. -/
def intervalNormalsWrong : ChangeSpec := { name := "intervalNormals", fn := fun _ => fun
  | [d] => { results := [.lit (.bool false)], args := [d] }
  | _ => none }
def IntervalNormalsWrongFalsely : Prop := intervalNormalsRow.holds Try.pinned (OpenSpec.ofChange intervalNormalsWrong)

/-- 'intrusionlaw05.IntervalComplements': WHATEVER THE INPUT: true; the input reads as it did. -/
def intervalComplementsSpec : ChangeSpec := { name := "intervalComplements", fn := fun _ => fun
  | [d1, d2, d3] => { results := [.lit (.bool true)], args := [d1, d2, d3] }
  | _ => none }
def intervalComplementsRow : OpenClaim := { program := "ytcgfpffgiimgmaa", sum := "5745381c6aed26ab5504bb65d8cf00d10858f7708dc71b281bf300e75012e78b", func := "intrusion/intrusionlaw05.IntervalComplements", spec := "intervalComplements", unfollowed := true, recurses := true, apart := false }
def IntervalComplementsSaid : Prop := intervalComplementsRow.holds Try.pinned (OpenSpec.ofChange intervalComplementsSpec)

/-- ITS FALSE NEIGHBOUR: 'it returns false'. Refute it at one input. -/
def intervalComplementsWrong : ChangeSpec := { name := "intervalComplements", fn := fun _ => fun
  | [d1, d2, d3] => { results := [.lit (.bool false)], args := [d1, d2, d3] }
  | _ => none }
def IntervalComplementsWrongFalsely : Prop := intervalComplementsRow.holds Try.pinned (OpenSpec.ofChange intervalComplementsWrong)

/-- 'intrusionlaw05.IntervalContains': WHATEVER THE INPUT: true; the input reads as it did. -/
def intervalContainsSpec : ChangeSpec := { name := "intervalContains", fn := fun _ => fun
  | [d1, d2, d3] => { results := [.lit (.bool true)], args := [d1, d2, d3] }
  | _ => none }
def intervalContainsRow : OpenClaim := { program := "ytcgfpffgiimgmaa", sum := "5745381c6aed26ab5504bb65d8cf00d10858f7708dc71b281bf300e75012e78b", func := "intrusion/intrusionlaw05.IntervalContains", spec := "intervalContains", unfollowed := true, recurses := true, apart := false }
def IntervalContainsSaid : Prop := intervalContainsRow.holds Try.pinned (OpenSpec.ofChange intervalContainsSpec)

/-- ITS FALSE NEIGHBOUR: 'it returns false'. Refute it at one input. -/
def intervalContainsWrong : ChangeSpec := { name := "intervalContains", fn := fun _ => fun
  | [d1, d2, d3] => { results := [.lit (.bool false)], args := [d1, d2, d3] }
  | _ => none }
def IntervalContainsWrongFalsely : Prop := intervalContainsRow.holds Try.pinned (OpenSpec.ofChange intervalContainsWrong)

/-- 'intrusionlaw05.IntervalCombines': WHATEVER THE INPUT: true; the input reads as it did. -/
def intervalCombinesSpec : ChangeSpec := { name := "intervalCombines", fn := fun _ => fun
  | [d1, d2] => { results := [.lit (.bool true)], args := [d1, d2] }
  | _ => none }
def intervalCombinesRow : OpenClaim := { program := "ytcgfpffgiimgmaa", sum := "5745381c6aed26ab5504bb65d8cf00d10858f7708dc71b281bf300e75012e78b", func := "intrusion/intrusionlaw05.IntervalCombines", spec := "intervalCombines", unfollowed := true, recurses := true, apart := false }
def IntervalCombinesSaid : Prop := intervalCombinesRow.holds Try.pinned (OpenSpec.ofChange intervalCombinesSpec)

/-- ITS FALSE NEIGHBOUR: 'it returns false'. Refute it at one input. -/
def intervalCombinesWrong : ChangeSpec := { name := "intervalCombines", fn := fun _ => fun
  | [d1, d2] => { results := [.lit (.bool false)], args := [d1, d2] }
  | _ => none }
def IntervalCombinesWrongFalsely : Prop := intervalCombinesRow.holds Try.pinned (OpenSpec.ofChange intervalCombinesWrong)

/-- 'intrusionlaw05.IntervalAlgebra': WHATEVER THE INPUT: true; the input reads as it did. -/
def intervalAlgebraSpec : ChangeSpec := { name := "intervalAlgebra", fn := fun _ => fun
  | [d1, d2, d3] => { results := [.lit (.bool true)], args := [d1, d2, d3] }
  | _ => none }
def intervalAlgebraRow : OpenClaim := { program := "ytcgfpffgiimgmaa", sum := "5745381c6aed26ab5504bb65d8cf00d10858f7708dc71b281bf300e75012e78b", func := "intrusion/intrusionlaw05.IntervalAlgebra", spec := "intervalAlgebra", unfollowed := true, recurses := true, apart := false }
def IntervalAlgebraSaid : Prop := intervalAlgebraRow.holds Try.pinned (OpenSpec.ofChange intervalAlgebraSpec)

/-- ITS FALSE NEIGHBOUR: 'it returns false'. Refute it at one input. -/
def intervalAlgebraWrong : ChangeSpec := { name := "intervalAlgebra", fn := fun _ => fun
  | [d1, d2, d3] => { results := [.lit (.bool false)], args := [d1, d2, d3] }
  | _ => none }
def IntervalAlgebraWrongFalsely : Prop := intervalAlgebraRow.holds Try.pinned (OpenSpec.ofChange intervalAlgebraWrong)

/-- 'intrusionlaw05.IntervalCounts': WHATEVER THE INPUT: true; the input reads as it did. -/
def intervalCountsSpec : ChangeSpec := { name := "intervalCounts", fn := fun _ => fun
  | [d1, d2] => { results := [.lit (.bool true)], args := [d1, d2] }
  | _ => none }
def intervalCountsRow : OpenClaim := { program := "ytcgfpffgiimgmaa", sum := "5745381c6aed26ab5504bb65d8cf00d10858f7708dc71b281bf300e75012e78b", func := "intrusion/intrusionlaw05.IntervalCounts", spec := "intervalCounts", unfollowed := true, recurses := true, apart := false }
def IntervalCountsSaid : Prop := intervalCountsRow.holds Try.pinned (OpenSpec.ofChange intervalCountsSpec)

/-- ITS FALSE NEIGHBOUR: 'it returns false'. Refute it at one input. -/
def intervalCountsWrong : ChangeSpec := { name := "intervalCounts", fn := fun _ => fun
  | [d1, d2] => { results := [.lit (.bool false)], args := [d1, d2] }
  | _ => none }
def IntervalCountsWrongFalsely : Prop := intervalCountsRow.holds Try.pinned (OpenSpec.ofChange intervalCountsWrong)

/-- 'intrusionlaw07.AddrsetNormal': WHATEVER THE INPUT: true; the input reads as it did. -/
def addrsetNormalSpec : ChangeSpec := { name := "addrsetNormal", fn := fun _ => fun
  | [d1, d2] => { results := [.lit (.bool true)], args := [d1, d2] }
  | _ => none }
def addrsetNormalRow : OpenClaim := { program := "ytcgfpffgiimgmaa", sum := "5745381c6aed26ab5504bb65d8cf00d10858f7708dc71b281bf300e75012e78b", func := "intrusion/intrusionlaw07.AddrsetNormal", spec := "addrsetNormal", unfollowed := true, recurses := true, apart := false }
def AddrsetNormalSaid : Prop := addrsetNormalRow.holds Try.pinned (OpenSpec.ofChange addrsetNormalSpec)

/-- ITS FALSE NEIGHBOUR: 'it returns false'. Refute it at one input. -/
def addrsetNormalWrong : ChangeSpec := { name := "addrsetNormal", fn := fun _ => fun
  | [d1, d2] => { results := [.lit (.bool false)], args := [d1, d2] }
  | _ => none }
def AddrsetNormalWrongFalsely : Prop := addrsetNormalRow.holds Try.pinned (OpenSpec.ofChange addrsetNormalWrong)

/-- 'intrusionlaw07.AddrsetPrefixes': WHATEVER THE INPUT: true; the input reads as it did. -/
def addrsetPrefixesSpec : ChangeSpec := { name := "addrsetPrefixes", fn := fun _ => fun
  | [d] => { results := [.lit (.bool true)], args := [d] }
  | _ => none }
def addrsetPrefixesRow : OpenClaim := { program := "ytcgfpffgiimgmaa", sum := "5745381c6aed26ab5504bb65d8cf00d10858f7708dc71b281bf300e75012e78b", func := "intrusion/intrusionlaw07.AddrsetPrefixes", spec := "addrsetPrefixes", unfollowed := true, recurses := true, apart := false }
def AddrsetPrefixesSaid : Prop := addrsetPrefixesRow.holds Try.pinned (OpenSpec.ofChange addrsetPrefixesSpec)

/-- ITS FALSE NEIGHBOUR: 'it returns false'. Refute it at one input. -/
def addrsetPrefixesWrong : ChangeSpec := { name := "addrsetPrefixes", fn := fun _ => fun
  | [d] => { results := [.lit (.bool false)], args := [d] }
  | _ => none }
def AddrsetPrefixesWrongFalsely : Prop := addrsetPrefixesRow.holds Try.pinned (OpenSpec.ofChange addrsetPrefixesWrong)

/-- 'intrusionlaw07.AddrsetEvaluates': WHATEVER THE INPUT: true; the input reads as it did. -/
def addrsetEvaluatesSpec : ChangeSpec := { name := "addrsetEvaluates", fn := fun _ => fun
  | [d1, d2] => { results := [.lit (.bool true)], args := [d1, d2] }
  | _ => none }
def addrsetEvaluatesRow : OpenClaim := { program := "ytcgfpffgiimgmaa", sum := "5745381c6aed26ab5504bb65d8cf00d10858f7708dc71b281bf300e75012e78b", func := "intrusion/intrusionlaw07.AddrsetEvaluates", spec := "addrsetEvaluates", unfollowed := true, recurses := true, apart := false }
def AddrsetEvaluatesSaid : Prop := addrsetEvaluatesRow.holds Try.pinned (OpenSpec.ofChange addrsetEvaluatesSpec)

/-- ITS FALSE NEIGHBOUR: 'it returns false'. Refute it at one input. -/
def addrsetEvaluatesWrong : ChangeSpec := { name := "addrsetEvaluates", fn := fun _ => fun
  | [d1, d2] => { results := [.lit (.bool false)], args := [d1, d2] }
  | _ => none }
def AddrsetEvaluatesWrongFalsely : Prop := addrsetEvaluatesRow.holds Try.pinned (OpenSpec.ofChange addrsetEvaluatesWrong)

/-- 'intrusionlaw07.AddrsetOperates': WHATEVER THE INPUT: true; the input reads as it did. -/
def addrsetOperatesSpec : ChangeSpec := { name := "addrsetOperates", fn := fun _ => fun
  | [d1, d2] => { results := [.lit (.bool true)], args := [d1, d2] }
  | _ => none }
def addrsetOperatesRow : OpenClaim := { program := "ytcgfpffgiimgmaa", sum := "5745381c6aed26ab5504bb65d8cf00d10858f7708dc71b281bf300e75012e78b", func := "intrusion/intrusionlaw07.AddrsetOperates", spec := "addrsetOperates", unfollowed := true, recurses := true, apart := false }
def AddrsetOperatesSaid : Prop := addrsetOperatesRow.holds Try.pinned (OpenSpec.ofChange addrsetOperatesSpec)

/-- ITS FALSE NEIGHBOUR: 'it returns false'. Refute it at one input. -/
def addrsetOperatesWrong : ChangeSpec := { name := "addrsetOperates", fn := fun _ => fun
  | [d1, d2] => { results := [.lit (.bool false)], args := [d1, d2] }
  | _ => none }
def AddrsetOperatesWrongFalsely : Prop := addrsetOperatesRow.holds Try.pinned (OpenSpec.ofChange addrsetOperatesWrong)

/-- 'intrusionlaw07.AddrsetAlgebra': WHATEVER THE INPUT: true; the input reads as it did. -/
def addrsetAlgebraSpec : ChangeSpec := { name := "addrsetAlgebra", fn := fun _ => fun
  | [d1, d2, d3] => { results := [.lit (.bool true)], args := [d1, d2, d3] }
  | _ => none }
def addrsetAlgebraRow : OpenClaim := { program := "ytcgfpffgiimgmaa", sum := "5745381c6aed26ab5504bb65d8cf00d10858f7708dc71b281bf300e75012e78b", func := "intrusion/intrusionlaw07.AddrsetAlgebra", spec := "addrsetAlgebra", unfollowed := true, recurses := true, apart := false }
def AddrsetAlgebraSaid : Prop := addrsetAlgebraRow.holds Try.pinned (OpenSpec.ofChange addrsetAlgebraSpec)

/-- ITS FALSE NEIGHBOUR: 'it returns false'. Refute it at one input. -/
def addrsetAlgebraWrong : ChangeSpec := { name := "addrsetAlgebra", fn := fun _ => fun
  | [d1, d2, d3] => { results := [.lit (.bool false)], args := [d1, d2, d3] }
  | _ => none }
def AddrsetAlgebraWrongFalsely : Prop := addrsetAlgebraRow.holds Try.pinned (OpenSpec.ofChange addrsetAlgebraWrong)

/- THE SECOND FORM. 'bulk': how many values and letters a reading holds, each counted each time it is reached (what is shared counts as often as it is met; a slice's spare places count too). A statement '..UptoSaid' is the law's where the arguments, and the package variables that the reading takes, are together of bulk at most 1048576: NARROWER than '..Said'. Prove '..Said' where nothing that the law and all that it calls make is longer than what came in: it says more and counts as full. Else prove '..UptoSaid'. A law counts once. -/
mutual
def uptoBulk {H : Type} : DataW H → Nat
  | .lit (.string bytes) => bytes.length + 1
  | .lit _ => 1
  | .nil => 1
  | .ptr d => uptoBulk d + 1
  | .slice elems spare => uptoBulkAll elems + uptoBulkAll spare + 1
  | .agg parts => uptoBulkAll parts + 1
  | .iface _ d => uptoBulk d + 1
  | .map entries => uptoBulkEntries entries + 1
  | .held _ => 1
def uptoBulkAll {H : Type} : List (DataW H) → Nat
  | [] => 0
  | d :: r => uptoBulk d + uptoBulkAll r
def uptoBulkEntries {H : Type} : List (Lit × DataW H) → Nat
  | [] => 0
  | x :: r => uptoBulkEntry x + uptoBulkEntries r
def uptoBulkEntry {H : Type} : Lit × DataW H → Nat
  | (.string bytes, d) => bytes.length + uptoBulk d + 1
  | (_, d) => uptoBulk d + 1
 end
def uptoSmall : (H : Type) → List (DataW H) → Bool := fun _ ds => decide (uptoBulkAll ds ≤ 1048576)
def OpenSpec.upto (s : _root_.Go.ChangeSpec) : _root_.Go.OpenSpec := { _root_.Go.OpenSpec.ofChange s with cond := some uptoSmall }

/-- 'intrusionlaw05.IntervalNormals', WHERE WHAT IT READS IS OF BULK AT MOST 1048576: true; the input reads as it did. -/
def intervalNormalsUptoRow : OpenClaim := { program := "ytcgfpffgiimgmaa", sum := "5745381c6aed26ab5504bb65d8cf00d10858f7708dc71b281bf300e75012e78b", func := "intrusion/intrusionlaw05.IntervalNormals", spec := "intervalNormals", unfollowed := true, recurses := true, apart := false, narrowed := true }
def IntervalNormalsUptoSaid : Prop := intervalNormalsUptoRow.holds Try.pinned (OpenSpec.upto intervalNormalsSpec)

/-- 'intrusionlaw05.IntervalComplements', WHERE WHAT IT READS IS OF BULK AT MOST 1048576: true; the input reads as it did. -/
def intervalComplementsUptoRow : OpenClaim := { program := "ytcgfpffgiimgmaa", sum := "5745381c6aed26ab5504bb65d8cf00d10858f7708dc71b281bf300e75012e78b", func := "intrusion/intrusionlaw05.IntervalComplements", spec := "intervalComplements", unfollowed := true, recurses := true, apart := false, narrowed := true }
def IntervalComplementsUptoSaid : Prop := intervalComplementsUptoRow.holds Try.pinned (OpenSpec.upto intervalComplementsSpec)

/-- 'intrusionlaw05.IntervalContains', WHERE WHAT IT READS IS OF BULK AT MOST 1048576: true; the input reads as it did. -/
def intervalContainsUptoRow : OpenClaim := { program := "ytcgfpffgiimgmaa", sum := "5745381c6aed26ab5504bb65d8cf00d10858f7708dc71b281bf300e75012e78b", func := "intrusion/intrusionlaw05.IntervalContains", spec := "intervalContains", unfollowed := true, recurses := true, apart := false, narrowed := true }
def IntervalContainsUptoSaid : Prop := intervalContainsUptoRow.holds Try.pinned (OpenSpec.upto intervalContainsSpec)

/-- 'intrusionlaw05.IntervalCombines', WHERE WHAT IT READS IS OF BULK AT MOST 1048576: true; the input reads as it did. -/
def intervalCombinesUptoRow : OpenClaim := { program := "ytcgfpffgiimgmaa", sum := "5745381c6aed26ab5504bb65d8cf00d10858f7708dc71b281bf300e75012e78b", func := "intrusion/intrusionlaw05.IntervalCombines", spec := "intervalCombines", unfollowed := true, recurses := true, apart := false, narrowed := true }
def IntervalCombinesUptoSaid : Prop := intervalCombinesUptoRow.holds Try.pinned (OpenSpec.upto intervalCombinesSpec)

/-- 'intrusionlaw05.IntervalAlgebra', WHERE WHAT IT READS IS OF BULK AT MOST 1048576: true; the input reads as it did. -/
def intervalAlgebraUptoRow : OpenClaim := { program := "ytcgfpffgiimgmaa", sum := "5745381c6aed26ab5504bb65d8cf00d10858f7708dc71b281bf300e75012e78b", func := "intrusion/intrusionlaw05.IntervalAlgebra", spec := "intervalAlgebra", unfollowed := true, recurses := true, apart := false, narrowed := true }
def IntervalAlgebraUptoSaid : Prop := intervalAlgebraUptoRow.holds Try.pinned (OpenSpec.upto intervalAlgebraSpec)

/-- 'intrusionlaw05.IntervalCounts', WHERE WHAT IT READS IS OF BULK AT MOST 1048576: true; the input reads as it did. -/
def intervalCountsUptoRow : OpenClaim := { program := "ytcgfpffgiimgmaa", sum := "5745381c6aed26ab5504bb65d8cf00d10858f7708dc71b281bf300e75012e78b", func := "intrusion/intrusionlaw05.IntervalCounts", spec := "intervalCounts", unfollowed := true, recurses := true, apart := false, narrowed := true }
def IntervalCountsUptoSaid : Prop := intervalCountsUptoRow.holds Try.pinned (OpenSpec.upto intervalCountsSpec)

/-- 'intrusionlaw07.AddrsetNormal', WHERE WHAT IT READS IS OF BULK AT MOST 1048576: true; the input reads as it did. -/
def addrsetNormalUptoRow : OpenClaim := { program := "ytcgfpffgiimgmaa", sum := "5745381c6aed26ab5504bb65d8cf00d10858f7708dc71b281bf300e75012e78b", func := "intrusion/intrusionlaw07.AddrsetNormal", spec := "addrsetNormal", unfollowed := true, recurses := true, apart := false, narrowed := true }
def AddrsetNormalUptoSaid : Prop := addrsetNormalUptoRow.holds Try.pinned (OpenSpec.upto addrsetNormalSpec)

/-- 'intrusionlaw07.AddrsetPrefixes', WHERE WHAT IT READS IS OF BULK AT MOST 1048576: true; the input reads as it did. -/
def addrsetPrefixesUptoRow : OpenClaim := { program := "ytcgfpffgiimgmaa", sum := "5745381c6aed26ab5504bb65d8cf00d10858f7708dc71b281bf300e75012e78b", func := "intrusion/intrusionlaw07.AddrsetPrefixes", spec := "addrsetPrefixes", unfollowed := true, recurses := true, apart := false, narrowed := true }
def AddrsetPrefixesUptoSaid : Prop := addrsetPrefixesUptoRow.holds Try.pinned (OpenSpec.upto addrsetPrefixesSpec)

/-- 'intrusionlaw07.AddrsetEvaluates', WHERE WHAT IT READS IS OF BULK AT MOST 1048576: true; the input reads as it did. -/
def addrsetEvaluatesUptoRow : OpenClaim := { program := "ytcgfpffgiimgmaa", sum := "5745381c6aed26ab5504bb65d8cf00d10858f7708dc71b281bf300e75012e78b", func := "intrusion/intrusionlaw07.AddrsetEvaluates", spec := "addrsetEvaluates", unfollowed := true, recurses := true, apart := false, narrowed := true }
def AddrsetEvaluatesUptoSaid : Prop := addrsetEvaluatesUptoRow.holds Try.pinned (OpenSpec.upto addrsetEvaluatesSpec)

/-- 'intrusionlaw07.AddrsetOperates', WHERE WHAT IT READS IS OF BULK AT MOST 1048576: true; the input reads as it did. -/
def addrsetOperatesUptoRow : OpenClaim := { program := "ytcgfpffgiimgmaa", sum := "5745381c6aed26ab5504bb65d8cf00d10858f7708dc71b281bf300e75012e78b", func := "intrusion/intrusionlaw07.AddrsetOperates", spec := "addrsetOperates", unfollowed := true, recurses := true, apart := false, narrowed := true }
def AddrsetOperatesUptoSaid : Prop := addrsetOperatesUptoRow.holds Try.pinned (OpenSpec.upto addrsetOperatesSpec)

/-- 'intrusionlaw07.AddrsetAlgebra', WHERE WHAT IT READS IS OF BULK AT MOST 1048576: true; the input reads as it did. -/
def addrsetAlgebraUptoRow : OpenClaim := { program := "ytcgfpffgiimgmaa", sum := "5745381c6aed26ab5504bb65d8cf00d10858f7708dc71b281bf300e75012e78b", func := "intrusion/intrusionlaw07.AddrsetAlgebra", spec := "addrsetAlgebra", unfollowed := true, recurses := true, apart := false, narrowed := true }
def AddrsetAlgebraUptoSaid : Prop := addrsetAlgebraUptoRow.holds Try.pinned (OpenSpec.upto addrsetAlgebraSpec)

end Rows
end Go.Proofs.Ytcgfpffgiimgmaa
