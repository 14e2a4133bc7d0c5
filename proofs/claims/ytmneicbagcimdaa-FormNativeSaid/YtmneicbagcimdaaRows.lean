/-
  No cell of these rows narrows 'for every input' (looked for: loops, veiled, ifaces, maps, wideKeys, modest, calm, conditions, laid).
  DERIVED. THE GIVEN ROWS OF THIS SEAT. 6 by the template 'for every input the law returns true; each argument reads behind the call as it read before'; 0 by the template 'total and deterministic' (their statements: YtmneicbagcimdaaTotals.lean).
  GIVEN WITH THE SEED: the statements are not yours to turn. If you find one false, say at which input.
  Laid BY PROGRAM, IN A SANDBOX (cutbox-rows.mjs): the forced cells as the released guide's own fill.sh prints them over the translation b023342f08e0343e… (all of the seat's roots in one cut). By AI agents, Wed Nov 11 2026. No macro, syntax, notation, axiom, sorry.
-/
import Derived.Test.YtmneicbagcimdaaChecked
import GoSem.Claim
import GoSem.ClaimJoined
import GoSem.ClaimMapViews
import Derived.JoinedTies
import Derived.KernelRfl
namespace Go.Proofs.Ytmneicbagcimdaa
/- THE CELL 'sum', in the pinned program and in every row, IS THE sha256 OF THE DUMP (.gsa) THAT YtmneicbagcimdaaProg.lean LOADS. Nothing in Lean hashes anything: it is a label: what it is worth is what the hold of that sum in a sandbox is worth. -/
noncomputable def Try.pinned : Pinned := { name := "ytmneicbagcimdaa", sum := "b023342f08e0343e1f8b57da7d143ebab770452a52cada403701968083407fc9", checked := Try.checked }
namespace Rows
def none {H : Type} : Left H := { results := [], args := [] }

/-- 'numerallaw03.FormJoin': WHATEVER THE INPUT: true; the input reads as it did. -/
def formJoinSpec : ChangeSpec := { name := "formJoin", fn := fun _ => fun
  | [d1, d2] => { results := [.lit (.bool true)], args := [d1, d2] }
  | _ => none }
def formJoinRow : OpenClaim := { program := "ytmneicbagcimdaa", sum := "b023342f08e0343e1f8b57da7d143ebab770452a52cada403701968083407fc9", func := "numeral/numerallaw03.FormJoin", spec := "formJoin", unfollowed := true, recurses := true, apart := false }
def FormJoinSaid : Prop := formJoinRow.holds Try.pinned (OpenSpec.ofChange formJoinSpec)

/-- ITS FALSE NEIGHBOUR: 'it returns false'. Refute it at one input. -/
def formJoinWrong : ChangeSpec := { name := "formJoin", fn := fun _ => fun
  | [d1, d2] => { results := [.lit (.bool false)], args := [d1, d2] }
  | _ => none }
def FormJoinWrongFalsely : Prop := formJoinRow.holds Try.pinned (OpenSpec.ofChange formJoinWrong)

/-- 'numerallaw03.FormBack': WHATEVER THE INPUT: true; the input reads as it did. -/
def formBackSpec : ChangeSpec := { name := "formBack", fn := fun _ => fun
  | [d1, d2, d3] => { results := [.lit (.bool true)], args := [d1, d2, d3] }
  | _ => none }
def formBackRow : OpenClaim := { program := "ytmneicbagcimdaa", sum := "b023342f08e0343e1f8b57da7d143ebab770452a52cada403701968083407fc9", func := "numeral/numerallaw03.FormBack", spec := "formBack", unfollowed := true, recurses := true, apart := false }
def FormBackSaid : Prop := formBackRow.holds Try.pinned (OpenSpec.ofChange formBackSpec)

/-- ITS FALSE NEIGHBOUR: 'it returns false'. Refute it at one input. -/
def formBackWrong : ChangeSpec := { name := "formBack", fn := fun _ => fun
  | [d1, d2, d3] => { results := [.lit (.bool false)], args := [d1, d2, d3] }
  | _ => none }
def FormBackWrongFalsely : Prop := formBackRow.holds Try.pinned (OpenSpec.ofChange formBackWrong)

/-- 'numerallaw03.FormBits': WHATEVER THE INPUT: true; the input reads as it did. -/
def formBitsSpec : ChangeSpec := { name := "formBits", fn := fun _ => fun
  | [d1, d2] => { results := [.lit (.bool true)], args := [d1, d2] }
  | _ => none }
def formBitsRow : OpenClaim := { program := "ytmneicbagcimdaa", sum := "b023342f08e0343e1f8b57da7d143ebab770452a52cada403701968083407fc9", func := "numeral/numerallaw03.FormBits", spec := "formBits", unfollowed := true, recurses := true, apart := false }
def FormBitsSaid : Prop := formBitsRow.holds Try.pinned (OpenSpec.ofChange formBitsSpec)

/-- ITS FALSE NEIGHBOUR: 'it returns false'. Refute it at one input. -/
def formBitsWrong : ChangeSpec := { name := "formBits", fn := fun _ => fun
  | [d1, d2] => { results := [.lit (.bool false)], args := [d1, d2] }
  | _ => none }
def FormBitsWrongFalsely : Prop := formBitsRow.holds Try.pinned (OpenSpec.ofChange formBitsWrong)

/-- 'numerallaw03.FormRow': WHATEVER THE INPUT: true; the input reads as it did. -/
def formRowSpec : ChangeSpec := { name := "formRow", fn := fun _ => fun
  | [d1, d2] => { results := [.lit (.bool true)], args := [d1, d2] }
  | _ => none }
def formRowRow : OpenClaim := { program := "ytmneicbagcimdaa", sum := "b023342f08e0343e1f8b57da7d143ebab770452a52cada403701968083407fc9", func := "numeral/numerallaw03.FormRow", spec := "formRow", unfollowed := true, recurses := true, apart := false }
def FormRowSaid : Prop := formRowRow.holds Try.pinned (OpenSpec.ofChange formRowSpec)

/-- ITS FALSE NEIGHBOUR: 'it returns false'. Refute it at one input. -/
def formRowWrong : ChangeSpec := { name := "formRow", fn := fun _ => fun
  | [d1, d2] => { results := [.lit (.bool false)], args := [d1, d2] }
  | _ => none }
def FormRowWrongFalsely : Prop := formRowRow.holds Try.pinned (OpenSpec.ofChange formRowWrong)

/-- 'numerallaw03.FormNative': WHATEVER THE INPUT: true; the input reads as it did. -/
def formNativeSpec : ChangeSpec := { name := "formNative", fn := fun _ => fun
  | [d1, d2] => { results := [.lit (.bool true)], args := [d1, d2] }
  | _ => none }
def formNativeRow : OpenClaim := { program := "ytmneicbagcimdaa", sum := "b023342f08e0343e1f8b57da7d143ebab770452a52cada403701968083407fc9", func := "numeral/numerallaw03.FormNative", spec := "formNative", inPlace := ["math.Float64frombits", "math.Float32frombits", "math.Float64bits", "math.Float32bits"], unfollowed := true, recurses := true, apart := false }
def FormNativeSaid : Prop := formNativeRow.holds Try.pinned (OpenSpec.ofChange formNativeSpec)

/-- ITS FALSE NEIGHBOUR: 'it returns false'. Refute it at one input. -/
def formNativeWrong : ChangeSpec := { name := "formNative", fn := fun _ => fun
  | [d1, d2] => { results := [.lit (.bool false)], args := [d1, d2] }
  | _ => none }
def FormNativeWrongFalsely : Prop := formNativeRow.holds Try.pinned (OpenSpec.ofChange formNativeWrong)

/-- 'numerallaw03.FormKnown': WHATEVER THE INPUT: true; the input reads as it did. -/
def formKnownSpec : ChangeSpec := { name := "formKnown", fn := fun _ => fun
  | [d1, d2, d3] => { results := [.lit (.bool true)], args := [d1, d2, d3] }
  | _ => none }
def formKnownRow : OpenClaim := { program := "ytmneicbagcimdaa", sum := "b023342f08e0343e1f8b57da7d143ebab770452a52cada403701968083407fc9", func := "numeral/numerallaw03.FormKnown", spec := "formKnown", unfollowed := true, recurses := true, apart := false }
def FormKnownSaid : Prop := formKnownRow.holds Try.pinned (OpenSpec.ofChange formKnownSpec)

/-- ITS FALSE NEIGHBOUR: 'it returns false'. Refute it at one input. -/
def formKnownWrong : ChangeSpec := { name := "formKnown", fn := fun _ => fun
  | [d1, d2, d3] => { results := [.lit (.bool false)], args := [d1, d2, d3] }
  | _ => none }
def FormKnownWrongFalsely : Prop := formKnownRow.holds Try.pinned (OpenSpec.ofChange formKnownWrong)

/- THE SECOND FORM. 'bulk': how many values and letters a reading holds, each counted each time it is reached (what is shared counts as often as it is met; a slice's spare places count too). A statement '..UptoSaid' is the law's where the arguments, and the package variables that the reading takes, are together of bulk at most 1048576: NARROWER than '..Said'. Prove '..Said' where nothing that the law and all that it calls make is longer than what came in: it says more and counts as full. Else prove '..UptoSaid'. A law counts once. -/
mutual
def uptoBulk {H : Type} : DataW H → Nat
  | .lit (.string bytes) => bytes.length + 1
  | .lit _ => 1
  | .nil => 1
  | .ptr d => uptoBulk d + 1
  | .slice elems spare => uptoBulkAll elems + uptoBulkAll spare + 1
  | .agg parts => uptoBulkAll parts + 1
  | .iface _ d => uptoBulk d + 1
  | .map entries => uptoBulkEntries entries + 1
  | .held _ => 1
def uptoBulkAll {H : Type} : List (DataW H) → Nat
  | [] => 0
  | d :: r => uptoBulk d + uptoBulkAll r
def uptoBulkEntries {H : Type} : List (Lit × DataW H) → Nat
  | [] => 0
  | x :: r => uptoBulkEntry x + uptoBulkEntries r
def uptoBulkEntry {H : Type} : Lit × DataW H → Nat
  | (.string bytes, d) => bytes.length + uptoBulk d + 1
  | (_, d) => uptoBulk d + 1
 end
def uptoSmall : (H : Type) → List (DataW H) → Bool := fun _ ds => decide (uptoBulkAll ds ≤ 1048576)
def OpenSpec.upto (s : _root_.Go.ChangeSpec) : _root_.Go.OpenSpec := { _root_.Go.OpenSpec.ofChange s with cond := some uptoSmall }

/-- 'numerallaw03.FormJoin', WHERE WHAT IT READS IS OF BULK AT MOST 1048576: true; the input reads as it did. -/
def formJoinUptoRow : OpenClaim := { program := "ytmneicbagcimdaa", sum := "b023342f08e0343e1f8b57da7d143ebab770452a52cada403701968083407fc9", func := "numeral/numerallaw03.FormJoin", spec := "formJoin", unfollowed := true, recurses := true, apart := false, narrowed := true }
def FormJoinUptoSaid : Prop := formJoinUptoRow.holds Try.pinned (OpenSpec.upto formJoinSpec)

/-- 'numerallaw03.FormBack', WHERE WHAT IT READS IS OF BULK AT MOST 1048576: true; the input reads as it did. -/
def formBackUptoRow : OpenClaim := { program := "ytmneicbagcimdaa", sum := "b023342f08e0343e1f8b57da7d143ebab770452a52cada403701968083407fc9", func := "numeral/numerallaw03.FormBack", spec := "formBack", unfollowed := true, recurses := true, apart := false, narrowed := true }
def FormBackUptoSaid : Prop := formBackUptoRow.holds Try.pinned (OpenSpec.upto formBackSpec)

/-- 'numerallaw03.FormBits', WHERE WHAT IT READS IS OF BULK AT MOST 1048576: true; the input reads as it did. -/
def formBitsUptoRow : OpenClaim := { program := "ytmneicbagcimdaa", sum := "b023342f08e0343e1f8b57da7d143ebab770452a52cada403701968083407fc9", func := "numeral/numerallaw03.FormBits", spec := "formBits", unfollowed := true, recurses := true, apart := false, narrowed := true }
def FormBitsUptoSaid : Prop := formBitsUptoRow.holds Try.pinned (OpenSpec.upto formBitsSpec)

/-- 'numerallaw03.FormRow', WHERE WHAT IT READS IS OF BULK AT MOST 1048576: true; the input reads as it did. -/
def formRowUptoRow : OpenClaim := { program := "ytmneicbagcimdaa", sum := "b023342f08e0343e1f8b57da7d143ebab770452a52cada403701968083407fc9", func := "numeral/numerallaw03.FormRow", spec := "formRow", unfollowed := true, recurses := true, apart := false, narrowed := true }
def FormRowUptoSaid : Prop := formRowUptoRow.holds Try.pinned (OpenSpec.upto formRowSpec)

/-- 'numerallaw03.FormNative', WHERE WHAT IT READS IS OF BULK AT MOST 1048576: true; the input reads as it did. -/
def formNativeUptoRow : OpenClaim := { program := "ytmneicbagcimdaa", sum := "b023342f08e0343e1f8b57da7d143ebab770452a52cada403701968083407fc9", func := "numeral/numerallaw03.FormNative", spec := "formNative", inPlace := ["math.Float64frombits", "math.Float32frombits", "math.Float64bits", "math.Float32bits"], unfollowed := true, recurses := true, apart := false, narrowed := true }
def FormNativeUptoSaid : Prop := formNativeUptoRow.holds Try.pinned (OpenSpec.upto formNativeSpec)

/-- 'numerallaw03.FormKnown', WHERE WHAT IT READS IS OF BULK AT MOST 1048576: true; the input reads as it did. -/
def formKnownUptoRow : OpenClaim := { program := "ytmneicbagcimdaa", sum := "b023342f08e0343e1f8b57da7d143ebab770452a52cada403701968083407fc9", func := "numeral/numerallaw03.FormKnown", spec := "formKnown", unfollowed := true, recurses := true, apart := false, narrowed := true }
def FormKnownUptoSaid : Prop := formKnownUptoRow.holds Try.pinned (OpenSpec.upto formKnownSpec)

end Rows
end Go.Proofs.Ytmneicbagcimdaa
