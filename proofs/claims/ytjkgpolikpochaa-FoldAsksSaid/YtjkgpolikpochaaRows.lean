/-
  NARROWER THAN 'FOR EVERY INPUT', by the rows' own cells (each row's printed sentence says how): FoldTrees: loops · FoldSums: loops · FoldBits: loops · FoldAsks: loops · FoldCuts: loops · FoldIdle: loops.
  DERIVED. THE GIVEN ROWS OF THIS SEAT. 6 by the template 'for every input the law returns true; each argument reads behind the call as it read before'; 0 by the template 'total and deterministic' (their statements: YtjkgpolikpochaaTotals.lean).
  GIVEN WITH THE SEED: the statements are not yours to turn. If you find one false, say at which input.
  Laid BY PROGRAM, IN A SANDBOX (cutbox-rows.mjs): the forced cells as the released guide's own fill.sh prints them over the translation 679626ef6577c1c9… (all of the seat's roots in one cut). By AI agents, Wed Nov 11 2026. No macro, syntax, notation, axiom, sorry.
-/
import Derived.Test.YtjkgpolikpochaaChecked
import GoSem.Claim
import GoSem.ClaimJoined
import GoSem.ClaimMapViews
import Derived.JoinedTies
import Derived.KernelRfl
namespace Go.Proofs.Ytjkgpolikpochaa
/- THE CELL 'sum', in the pinned program and in every row, IS THE sha256 OF THE DUMP (.gsa) THAT YtjkgpolikpochaaProg.lean LOADS. Nothing in Lean hashes anything: it is a label: what it is worth is what the hold of that sum in a sandbox is worth. -/
noncomputable def Try.pinned : Pinned := { name := "ytjkgpolikpochaa", sum := "679626ef6577c1c97e14e3d54cd0170aeec82535364ace4c9620e30b1a655ead", checked := Try.checked }
namespace Rows
def none {H : Type} : Left H := { results := [], args := [] }

/-- 'gantletlaw9.FoldTrees': WHATEVER THE INPUT: true; the input reads as it did. -/
def foldTreesSpec : ChangeSpec := { name := "foldTrees", fn := fun _ => fun
  | [d] => { results := [.lit (.bool true)], args := [d] }
  | _ => none }
def foldTreesRow : OpenClaim := { program := "ytjkgpolikpochaa", sum := "679626ef6577c1c97e14e3d54cd0170aeec82535364ace4c9620e30b1a655ead", func := "gantlet/gantletlaw9.FoldTrees", spec := "foldTrees", recurses := true, loops := true, apart := false }
def FoldTreesSaid : Prop := foldTreesRow.holds Try.pinned (OpenSpec.ofChange foldTreesSpec)

/-- ITS FALSE NEIGHBOUR: 'it returns false'. Refute it at one input. -/
def foldTreesWrong : ChangeSpec := { name := "foldTrees", fn := fun _ => fun
  | [d] => { results := [.lit (.bool false)], args := [d] }
  | _ => none }
def FoldTreesWrongFalsely : Prop := foldTreesRow.holds Try.pinned (OpenSpec.ofChange foldTreesWrong)

/-- 'gantletlaw9.FoldSums': WHATEVER THE INPUT: true; the input reads as it did. -/
def foldSumsSpec : ChangeSpec := { name := "foldSums", fn := fun _ => fun
  | [d] => { results := [.lit (.bool true)], args := [d] }
  | _ => none }
def foldSumsRow : OpenClaim := { program := "ytjkgpolikpochaa", sum := "679626ef6577c1c97e14e3d54cd0170aeec82535364ace4c9620e30b1a655ead", func := "gantlet/gantletlaw9.FoldSums", spec := "foldSums", recurses := true, loops := true, apart := false }
def FoldSumsSaid : Prop := foldSumsRow.holds Try.pinned (OpenSpec.ofChange foldSumsSpec)

/-- ITS FALSE NEIGHBOUR: 'it returns false'. Refute it at one input. -/
def foldSumsWrong : ChangeSpec := { name := "foldSums", fn := fun _ => fun
  | [d] => { results := [.lit (.bool false)], args := [d] }
  | _ => none }
def FoldSumsWrongFalsely : Prop := foldSumsRow.holds Try.pinned (OpenSpec.ofChange foldSumsWrong)

/-- 'gantletlaw9.FoldBits': WHATEVER THE INPUT: true; the input reads as it did. -/
def foldBitsSpec : ChangeSpec := { name := "foldBits", fn := fun _ => fun
  | [d] => { results := [.lit (.bool true)], args := [d] }
  | _ => none }
def foldBitsRow : OpenClaim := { program := "ytjkgpolikpochaa", sum := "679626ef6577c1c97e14e3d54cd0170aeec82535364ace4c9620e30b1a655ead", func := "gantlet/gantletlaw9.FoldBits", spec := "foldBits", recurses := true, loops := true, apart := false }
def FoldBitsSaid : Prop := foldBitsRow.holds Try.pinned (OpenSpec.ofChange foldBitsSpec)

/-- ITS FALSE NEIGHBOUR: 'it returns false'. Refute it at one input. -/
def foldBitsWrong : ChangeSpec := { name := "foldBits", fn := fun _ => fun
  | [d] => { results := [.lit (.bool false)], args := [d] }
  | _ => none }
def FoldBitsWrongFalsely : Prop := foldBitsRow.holds Try.pinned (OpenSpec.ofChange foldBitsWrong)

/-- 'gantletlaw9.FoldAsks': WHATEVER THE INPUT: true; the input reads as it did. -/
def foldAsksSpec : ChangeSpec := { name := "foldAsks", fn := fun _ => fun
  | [d] => { results := [.lit (.bool true)], args := [d] }
  | _ => none }
def foldAsksRow : OpenClaim := { program := "ytjkgpolikpochaa", sum := "679626ef6577c1c97e14e3d54cd0170aeec82535364ace4c9620e30b1a655ead", func := "gantlet/gantletlaw9.FoldAsks", spec := "foldAsks", recurses := true, loops := true, apart := false }
def FoldAsksSaid : Prop := foldAsksRow.holds Try.pinned (OpenSpec.ofChange foldAsksSpec)

/-- ITS FALSE NEIGHBOUR: 'it returns false'. Refute it at one input. -/
def foldAsksWrong : ChangeSpec := { name := "foldAsks", fn := fun _ => fun
  | [d] => { results := [.lit (.bool false)], args := [d] }
  | _ => none }
def FoldAsksWrongFalsely : Prop := foldAsksRow.holds Try.pinned (OpenSpec.ofChange foldAsksWrong)

/-- 'gantletlaw9.FoldCuts': WHATEVER THE INPUT: true; the input reads as it did. -/
def foldCutsSpec : ChangeSpec := { name := "foldCuts", fn := fun _ => fun
  | [d] => { results := [.lit (.bool true)], args := [d] }
  | _ => none }
def foldCutsRow : OpenClaim := { program := "ytjkgpolikpochaa", sum := "679626ef6577c1c97e14e3d54cd0170aeec82535364ace4c9620e30b1a655ead", func := "gantlet/gantletlaw9.FoldCuts", spec := "foldCuts", recurses := true, loops := true, apart := false }
def FoldCutsSaid : Prop := foldCutsRow.holds Try.pinned (OpenSpec.ofChange foldCutsSpec)

/-- ITS FALSE NEIGHBOUR: 'it returns false'. Refute it at one input. -/
def foldCutsWrong : ChangeSpec := { name := "foldCuts", fn := fun _ => fun
  | [d] => { results := [.lit (.bool false)], args := [d] }
  | _ => none }
def FoldCutsWrongFalsely : Prop := foldCutsRow.holds Try.pinned (OpenSpec.ofChange foldCutsWrong)

/-- 'gantletlaw9.FoldIdle': WHATEVER THE INPUT: true; the input reads as it did. -/
def foldIdleSpec : ChangeSpec := { name := "foldIdle", fn := fun _ => fun
  | [d] => { results := [.lit (.bool true)], args := [d] }
  | _ => none }
def foldIdleRow : OpenClaim := { program := "ytjkgpolikpochaa", sum := "679626ef6577c1c97e14e3d54cd0170aeec82535364ace4c9620e30b1a655ead", func := "gantlet/gantletlaw9.FoldIdle", spec := "foldIdle", recurses := true, loops := true, apart := false }
def FoldIdleSaid : Prop := foldIdleRow.holds Try.pinned (OpenSpec.ofChange foldIdleSpec)

/-- ITS FALSE NEIGHBOUR: 'it returns false'. Refute it at one input. -/
def foldIdleWrong : ChangeSpec := { name := "foldIdle", fn := fun _ => fun
  | [d] => { results := [.lit (.bool false)], args := [d] }
  | _ => none }
def FoldIdleWrongFalsely : Prop := foldIdleRow.holds Try.pinned (OpenSpec.ofChange foldIdleWrong)

/- THE SECOND FORM. 'bulk': how many values and letters a reading holds, each counted each time it is reached (what is shared counts as often as it is met; a slice's spare places count too). A statement '..UptoSaid' is the law's where the arguments, and the package variables that the reading takes, are together of bulk at most 1048576: NARROWER than '..Said'. Prove '..Said' where nothing that the law and all that it calls make is longer than what came in: it says more and counts as full. Else prove '..UptoSaid'. A law counts once. -/
mutual
def uptoBulk {H : Type} : DataW H → Nat
  | .lit (.string bytes) => bytes.length + 1
  | .lit _ => 1
  | .nil => 1
  | .ptr d => uptoBulk d + 1
  | .slice elems spare => uptoBulkAll elems + uptoBulkAll spare + 1
  | .agg parts => uptoBulkAll parts + 1
  | .iface _ d => uptoBulk d + 1
  | .map entries => uptoBulkEntries entries + 1
  | .held _ => 1
def uptoBulkAll {H : Type} : List (DataW H) → Nat
  | [] => 0
  | d :: r => uptoBulk d + uptoBulkAll r
def uptoBulkEntries {H : Type} : List (Lit × DataW H) → Nat
  | [] => 0
  | x :: r => uptoBulkEntry x + uptoBulkEntries r
def uptoBulkEntry {H : Type} : Lit × DataW H → Nat
  | (.string bytes, d) => bytes.length + uptoBulk d + 1
  | (_, d) => uptoBulk d + 1
 end
def uptoSmall : (H : Type) → List (DataW H) → Bool := fun _ ds => decide (uptoBulkAll ds ≤ 1048576)
def OpenSpec.upto (s : _root_.Go.ChangeSpec) : _root_.Go.OpenSpec := { _root_.Go.OpenSpec.ofChange s with cond := some uptoSmall }

/-- 'gantletlaw9.FoldTrees', WHERE WHAT IT READS IS OF BULK AT MOST 1048576: true; the input reads as it did. -/
def foldTreesUptoRow : OpenClaim := { program := "ytjkgpolikpochaa", sum := "679626ef6577c1c97e14e3d54cd0170aeec82535364ace4c9620e30b1a655ead", func := "gantlet/gantletlaw9.FoldTrees", spec := "foldTrees", recurses := true, loops := true, apart := false, narrowed := true }
def FoldTreesUptoSaid : Prop := foldTreesUptoRow.holds Try.pinned (OpenSpec.upto foldTreesSpec)

/-- 'gantletlaw9.FoldSums', WHERE WHAT IT READS IS OF BULK AT MOST 1048576: true; the input reads as it did. -/
def foldSumsUptoRow : OpenClaim := { program := "ytjkgpolikpochaa", sum := "679626ef6577c1c97e14e3d54cd0170aeec82535364ace4c9620e30b1a655ead", func := "gantlet/gantletlaw9.FoldSums", spec := "foldSums", recurses := true, loops := true, apart := false, narrowed := true }
def FoldSumsUptoSaid : Prop := foldSumsUptoRow.holds Try.pinned (OpenSpec.upto foldSumsSpec)

/-- 'gantletlaw9.FoldBits', WHERE WHAT IT READS IS OF BULK AT MOST 1048576: true; the input reads as it did. -/
def foldBitsUptoRow : OpenClaim := { program := "ytjkgpolikpochaa", sum := "679626ef6577c1c97e14e3d54cd0170aeec82535364ace4c9620e30b1a655ead", func := "gantlet/gantletlaw9.FoldBits", spec := "foldBits", recurses := true, loops := true, apart := false, narrowed := true }
def FoldBitsUptoSaid : Prop := foldBitsUptoRow.holds Try.pinned (OpenSpec.upto foldBitsSpec)

/-- 'gantletlaw9.FoldAsks', WHERE WHAT IT READS IS OF BULK AT MOST 1048576: true; the input reads as it did. -/
def foldAsksUptoRow : OpenClaim := { program := "ytjkgpolikpochaa", sum := "679626ef6577c1c97e14e3d54cd0170aeec82535364ace4c9620e30b1a655ead", func := "gantlet/gantletlaw9.FoldAsks", spec := "foldAsks", recurses := true, loops := true, apart := false, narrowed := true }
def FoldAsksUptoSaid : Prop := foldAsksUptoRow.holds Try.pinned (OpenSpec.upto foldAsksSpec)

/-- 'gantletlaw9.FoldCuts', WHERE WHAT IT READS IS OF BULK AT MOST 1048576: true; the input reads as it did. -/
def foldCutsUptoRow : OpenClaim := { program := "ytjkgpolikpochaa", sum := "679626ef6577c1c97e14e3d54cd0170aeec82535364ace4c9620e30b1a655ead", func := "gantlet/gantletlaw9.FoldCuts", spec := "foldCuts", recurses := true, loops := true, apart := false, narrowed := true }
def FoldCutsUptoSaid : Prop := foldCutsUptoRow.holds Try.pinned (OpenSpec.upto foldCutsSpec)

/-- 'gantletlaw9.FoldIdle', WHERE WHAT IT READS IS OF BULK AT MOST 1048576: true; the input reads as it did. -/
def foldIdleUptoRow : OpenClaim := { program := "ytjkgpolikpochaa", sum := "679626ef6577c1c97e14e3d54cd0170aeec82535364ace4c9620e30b1a655ead", func := "gantlet/gantletlaw9.FoldIdle", spec := "foldIdle", recurses := true, loops := true, apart := false, narrowed := true }
def FoldIdleUptoSaid : Prop := foldIdleUptoRow.holds Try.pinned (OpenSpec.upto foldIdleSpec)

end Rows
end Go.Proofs.Ytjkgpolikpochaa
