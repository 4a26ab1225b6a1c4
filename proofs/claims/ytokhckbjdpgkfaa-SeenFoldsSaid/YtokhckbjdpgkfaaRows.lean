/-
  No cell of these rows narrows 'for every input' (looked for: loops, veiled, ifaces, maps, wideKeys, modest, calm, conditions, laid).
  DERIVED. THE GIVEN ROWS OF THIS SEAT. 6 by the template 'for every input the law returns true; each argument reads behind the call as it read before'; 0 by the template 'total and deterministic' (their statements: YtokhckbjdpgkfaaTotals.lean).
  GIVEN WITH THE SEED: the statements are not yours to turn. If you find one false, say at which input.
  Laid BY PROGRAM, IN A SANDBOX (cutbox-rows.mjs): the forced cells as the released guide's own fill.sh prints them over the translation 2dfb6d54971fce07… (all of the seat's roots in one cut). By AI agents, Wed Nov 11 2026. No macro, syntax, notation, axiom, sorry.
-/
import Derived.Test.YtokhckbjdpgkfaaChecked
import GoSem.Claim
import GoSem.ClaimJoined
import GoSem.ClaimMapViews
import Derived.JoinedTies
import Derived.KernelRfl
namespace Go.Proofs.Ytokhckbjdpgkfaa
/- THE CELL 'sum', in the pinned program and in every row, IS THE sha256 OF THE DUMP (.gsa) THAT YtokhckbjdpgkfaaProg.lean LOADS. Nothing in Lean hashes anything: it is a label: what it is worth is what the hold of that sum in a sandbox is worth. -/
noncomputable def Try.pinned : Pinned := { name := "ytokhckbjdpgkfaa", sum := "2dfb6d54971fce07e017268c3bf4010a52587019dabbff2176addc911c54412f", checked := Try.checked }
namespace Rows
def none {H : Type} : Left H := { results := [], args := [] }

/-- 'scrivenerlaw19.SeenOnce': WHATEVER THE INPUT: true; the input reads as it did. -/
def seenOnceSpec : ChangeSpec := { name := "seenOnce", fn := fun _ => fun
  | [d] => { results := [.lit (.bool true)], args := [d] }
  | _ => none }
def seenOnceRow : OpenClaim := { program := "ytokhckbjdpgkfaa", sum := "2dfb6d54971fce07e017268c3bf4010a52587019dabbff2176addc911c54412f", func := "scrivener/scrivenerlaw19.SeenOnce", spec := "seenOnce", unfollowed := true, recurses := true, apart := false }
def SeenOnceSaid : Prop := seenOnceRow.holds Try.pinned (OpenSpec.ofChange seenOnceSpec)

/-- ITS FALSE NEIGHBOUR: 'it returns false'. Refute it at one input. -/
def seenOnceWrong : ChangeSpec := { name := "seenOnce", fn := fun _ => fun
  | [d] => { results := [.lit (.bool false)], args := [d] }
  | _ => none }
def SeenOnceWrongFalsely : Prop := seenOnceRow.holds Try.pinned (OpenSpec.ofChange seenOnceWrong)

/-- 'scrivenerlaw19.SeenGoes': WHATEVER THE INPUT: true; the input reads as it did. -/
def seenGoesSpec : ChangeSpec := { name := "seenGoes", fn := fun _ => fun
  | [d1, d2, d3, d4, d5] => { results := [.lit (.bool true)], args := [d1, d2, d3, d4, d5] }
  | _ => none }
def seenGoesRow : OpenClaim := { program := "ytokhckbjdpgkfaa", sum := "2dfb6d54971fce07e017268c3bf4010a52587019dabbff2176addc911c54412f", func := "scrivener/scrivenerlaw19.SeenGoes", spec := "seenGoes", unfollowed := true, recurses := true, apart := false }
def SeenGoesSaid : Prop := seenGoesRow.holds Try.pinned (OpenSpec.ofChange seenGoesSpec)

/-- ITS FALSE NEIGHBOUR: 'it returns false'. Refute it at one input. -/
def seenGoesWrong : ChangeSpec := { name := "seenGoes", fn := fun _ => fun
  | [d1, d2, d3, d4, d5] => { results := [.lit (.bool false)], args := [d1, d2, d3, d4, d5] }
  | _ => none }
def SeenGoesWrongFalsely : Prop := seenGoesRow.holds Try.pinned (OpenSpec.ofChange seenGoesWrong)

/-- 'scrivenerlaw19.SeenAsks': WHATEVER THE INPUT: true; the input reads as it did. -/
def seenAsksSpec : ChangeSpec := { name := "seenAsks", fn := fun _ => fun
  | [d1, d2, d3, d4, d5] => { results := [.lit (.bool true)], args := [d1, d2, d3, d4, d5] }
  | _ => none }
def seenAsksRow : OpenClaim := { program := "ytokhckbjdpgkfaa", sum := "2dfb6d54971fce07e017268c3bf4010a52587019dabbff2176addc911c54412f", func := "scrivener/scrivenerlaw19.SeenAsks", spec := "seenAsks", unfollowed := true, recurses := true, apart := false }
def SeenAsksSaid : Prop := seenAsksRow.holds Try.pinned (OpenSpec.ofChange seenAsksSpec)

/-- ITS FALSE NEIGHBOUR: 'it returns false'. Refute it at one input. -/
def seenAsksWrong : ChangeSpec := { name := "seenAsks", fn := fun _ => fun
  | [d1, d2, d3, d4, d5] => { results := [.lit (.bool false)], args := [d1, d2, d3, d4, d5] }
  | _ => none }
def SeenAsksWrongFalsely : Prop := seenAsksRow.holds Try.pinned (OpenSpec.ofChange seenAsksWrong)

/-- 'scrivenerlaw19.SeenParts': WHATEVER THE INPUT: true; the input reads as it did. -/
def seenPartsSpec : ChangeSpec := { name := "seenParts", fn := fun _ => fun
  | [d1, d2, d3, d4] => { results := [.lit (.bool true)], args := [d1, d2, d3, d4] }
  | _ => none }
def seenPartsRow : OpenClaim := { program := "ytokhckbjdpgkfaa", sum := "2dfb6d54971fce07e017268c3bf4010a52587019dabbff2176addc911c54412f", func := "scrivener/scrivenerlaw19.SeenParts", spec := "seenParts", unfollowed := true, recurses := true, apart := false }
def SeenPartsSaid : Prop := seenPartsRow.holds Try.pinned (OpenSpec.ofChange seenPartsSpec)

/-- ITS FALSE NEIGHBOUR: 'it returns false'. Refute it at one input. -/
def seenPartsWrong : ChangeSpec := { name := "seenParts", fn := fun _ => fun
  | [d1, d2, d3, d4] => { results := [.lit (.bool false)], args := [d1, d2, d3, d4] }
  | _ => none }
def SeenPartsWrongFalsely : Prop := seenPartsRow.holds Try.pinned (OpenSpec.ofChange seenPartsWrong)

/-- 'scrivenerlaw19.SeenJoins': WHATEVER THE INPUT: true; the input reads as it did. -/
def seenJoinsSpec : ChangeSpec := { name := "seenJoins", fn := fun _ => fun
  | [d1, d2, d3] => { results := [.lit (.bool true)], args := [d1, d2, d3] }
  | _ => none }
def seenJoinsRow : OpenClaim := { program := "ytokhckbjdpgkfaa", sum := "2dfb6d54971fce07e017268c3bf4010a52587019dabbff2176addc911c54412f", func := "scrivener/scrivenerlaw19.SeenJoins", spec := "seenJoins", unfollowed := true, recurses := true, apart := false }
def SeenJoinsSaid : Prop := seenJoinsRow.holds Try.pinned (OpenSpec.ofChange seenJoinsSpec)

/-- ITS FALSE NEIGHBOUR: 'it returns false'. Refute it at one input. -/
def seenJoinsWrong : ChangeSpec := { name := "seenJoins", fn := fun _ => fun
  | [d1, d2, d3] => { results := [.lit (.bool false)], args := [d1, d2, d3] }
  | _ => none }
def SeenJoinsWrongFalsely : Prop := seenJoinsRow.holds Try.pinned (OpenSpec.ofChange seenJoinsWrong)

/-- 'scrivenerlaw19.SeenFolds': WHATEVER THE INPUT: true; the input reads as it did. -/
def seenFoldsSpec : ChangeSpec := { name := "seenFolds", fn := fun _ => fun
  | [d1, d2, d3] => { results := [.lit (.bool true)], args := [d1, d2, d3] }
  | _ => none }
def seenFoldsRow : OpenClaim := { program := "ytokhckbjdpgkfaa", sum := "2dfb6d54971fce07e017268c3bf4010a52587019dabbff2176addc911c54412f", func := "scrivener/scrivenerlaw19.SeenFolds", spec := "seenFolds", unfollowed := true, recurses := true, apart := false }
def SeenFoldsSaid : Prop := seenFoldsRow.holds Try.pinned (OpenSpec.ofChange seenFoldsSpec)

/-- ITS FALSE NEIGHBOUR: 'it returns false'. Refute it at one input. -/
def seenFoldsWrong : ChangeSpec := { name := "seenFolds", fn := fun _ => fun
  | [d1, d2, d3] => { results := [.lit (.bool false)], args := [d1, d2, d3] }
  | _ => none }
def SeenFoldsWrongFalsely : Prop := seenFoldsRow.holds Try.pinned (OpenSpec.ofChange seenFoldsWrong)

/- THE SECOND FORM. 'bulk': how many values and letters a reading holds, each counted each time it is reached (what is shared counts as often as it is met; a slice's spare places count too). A statement '..UptoSaid' is the law's where the arguments, and the package variables that the reading takes, are together of bulk at most 1048576: NARROWER than '..Said'. Prove '..Said' where nothing that the law and all that it calls make is longer than what came in: it says more and counts as full. Else prove '..UptoSaid'. A law counts once. -/
mutual
def uptoBulk {H : Type} : DataW H → Nat
  | .lit (.string bytes) => bytes.length + 1
  | .lit _ => 1
  | .nil => 1
  | .ptr d => uptoBulk d + 1
  | .slice elems spare => uptoBulkAll elems + uptoBulkAll spare + 1
  | .agg parts => uptoBulkAll parts + 1
  | .iface _ d => uptoBulk d + 1
  | .map entries => uptoBulkEntries entries + 1
  | .held _ => 1
def uptoBulkAll {H : Type} : List (DataW H) → Nat
  | [] => 0
  | d :: r => uptoBulk d + uptoBulkAll r
def uptoBulkEntries {H : Type} : List (Lit × DataW H) → Nat
  | [] => 0
  | x :: r => uptoBulkEntry x + uptoBulkEntries r
def uptoBulkEntry {H : Type} : Lit × DataW H → Nat
  | (.string bytes, d) => bytes.length + uptoBulk d + 1
  | (_, d) => uptoBulk d + 1
 end
def uptoSmall : (H : Type) → List (DataW H) → Bool := fun _ ds => decide (uptoBulkAll ds ≤ 1048576)
def OpenSpec.upto (s : _root_.Go.ChangeSpec) : _root_.Go.OpenSpec := { _root_.Go.OpenSpec.ofChange s with cond := some uptoSmall }

/-- 'scrivenerlaw19.SeenOnce', WHERE WHAT IT READS IS OF BULK AT MOST 1048576: true; the input reads as it did. -/
def seenOnceUptoRow : OpenClaim := { program := "ytokhckbjdpgkfaa", sum := "2dfb6d54971fce07e017268c3bf4010a52587019dabbff2176addc911c54412f", func := "scrivener/scrivenerlaw19.SeenOnce", spec := "seenOnce", unfollowed := true, recurses := true, apart := false, narrowed := true }
def SeenOnceUptoSaid : Prop := seenOnceUptoRow.holds Try.pinned (OpenSpec.upto seenOnceSpec)

/-- 'scrivenerlaw19.SeenGoes', WHERE WHAT IT READS IS OF BULK AT MOST 1048576: true; the input reads as it did. -/
def seenGoesUptoRow : OpenClaim := { program := "ytokhckbjdpgkfaa", sum := "2dfb6d54971fce07e017268c3bf4010a52587019dabbff2176addc911c54412f", func := "scrivener/scrivenerlaw19.SeenGoes", spec := "seenGoes", unfollowed := true, recurses := true, apart := false, narrowed := true }
def SeenGoesUptoSaid : Prop := seenGoesUptoRow.holds Try.pinned (OpenSpec.upto seenGoesSpec)

/-- 'scrivenerlaw19.SeenAsks', WHERE WHAT IT READS IS OF BULK AT MOST 1048576: true; the input reads as it did. -/
def seenAsksUptoRow : OpenClaim := { program := "ytokhckbjdpgkfaa", sum := "2dfb6d54971fce07e017268c3bf4010a52587019dabbff2176addc911c54412f", func := "scrivener/scrivenerlaw19.SeenAsks", spec := "seenAsks", unfollowed := true, recurses := true, apart := false, narrowed := true }
def SeenAsksUptoSaid : Prop := seenAsksUptoRow.holds Try.pinned (OpenSpec.upto seenAsksSpec)

/-- 'scrivenerlaw19.SeenParts', WHERE WHAT IT READS IS OF BULK AT MOST 1048576: true; the input reads as it did. -/
def seenPartsUptoRow : OpenClaim := { program := "ytokhckbjdpgkfaa", sum := "2dfb6d54971fce07e017268c3bf4010a52587019dabbff2176addc911c54412f", func := "scrivener/scrivenerlaw19.SeenParts", spec := "seenParts", unfollowed := true, recurses := true, apart := false, narrowed := true }
def SeenPartsUptoSaid : Prop := seenPartsUptoRow.holds Try.pinned (OpenSpec.upto seenPartsSpec)

/-- 'scrivenerlaw19.SeenJoins', WHERE WHAT IT READS IS OF BULK AT MOST 1048576: true; the input reads as it did. -/
def seenJoinsUptoRow : OpenClaim := { program := "ytokhckbjdpgkfaa", sum := "2dfb6d54971fce07e017268c3bf4010a52587019dabbff2176addc911c54412f", func := "scrivener/scrivenerlaw19.SeenJoins", spec := "seenJoins", unfollowed := true, recurses := true, apart := false, narrowed := true }
def SeenJoinsUptoSaid : Prop := seenJoinsUptoRow.holds Try.pinned (OpenSpec.upto seenJoinsSpec)

/-- 'scrivenerlaw19.SeenFolds', WHERE WHAT IT READS IS OF BULK AT MOST 1048576: true; the input reads as it did. -/
def seenFoldsUptoRow : OpenClaim := { program := "ytokhckbjdpgkfaa", sum := "2dfb6d54971fce07e017268c3bf4010a52587019dabbff2176addc911c54412f", func := "scrivener/scrivenerlaw19.SeenFolds", spec := "seenFolds", unfollowed := true, recurses := true, apart := false, narrowed := true }
def SeenFoldsUptoSaid : Prop := seenFoldsUptoRow.holds Try.pinned (OpenSpec.upto seenFoldsSpec)

end Rows
end Go.Proofs.Ytokhckbjdpgkfaa
