/-
  No cell of these rows narrows 'for every input' (looked for: loops, veiled, ifaces, maps, wideKeys, modest, calm, conditions, laid).
  DERIVED. THE GIVEN ROWS OF THIS SEAT. 12 by the template 'for every input the law returns true; each argument reads behind the call as it read before'; 0 by the template 'total and deterministic' (their statements: YtlkkkmekmbfhjaaTotals.lean).
  GIVEN WITH THE SEED: the statements are not yours to turn. If you find one false, say at which input.
  Laid BY PROGRAM, IN A SANDBOX (cutbox-rows.mjs): the forced cells as the released guide's own fill.sh prints them over the translation 23441b98dae79364… (all of the seat's roots in one cut). By AI agents, Wed Nov 11 2026. No macro, syntax, notation, axiom, sorry.
-/
import Derived.Test.YtlkkkmekmbfhjaaChecked
import GoSem.Claim
import GoSem.ClaimJoined
import GoSem.ClaimMapViews
import Derived.JoinedTies
import Derived.KernelRfl
namespace Go.Proofs.Ytlkkkmekmbfhjaa
/- THE CELL 'sum', in the pinned program and in every row, IS THE sha256 OF THE DUMP (.gsa) THAT YtlkkkmekmbfhjaaProg.lean LOADS. Nothing in Lean hashes anything: it is a label: what it is worth is what the hold of that sum in a sandbox is worth. -/
noncomputable def Try.pinned : Pinned := { name := "ytlkkkmekmbfhjaa", sum := "23441b98dae7936466851471b0ef6b243b73621e57dafb8aeba0bba040225f97", checked := Try.checked }
namespace Rows
def none {H : Type} : Left H := { results := [], args := [] }

/-- 'gantletlaw1.BinAnd': WHATEVER THE INPUT: true; the input reads as it did. -/
def binAndSpec : ChangeSpec := { name := "binAnd", fn := fun _ => fun
  | [d] => { results := [.lit (.bool true)], args := [d] }
  | _ => none }
def binAndRow : OpenClaim := { program := "ytlkkkmekmbfhjaa", sum := "23441b98dae7936466851471b0ef6b243b73621e57dafb8aeba0bba040225f97", func := "gantlet/gantletlaw1.BinAnd", spec := "binAnd", apart := false }
def BinAndSaid : Prop := binAndRow.holds Try.pinned (OpenSpec.ofChange binAndSpec)

/-- ITS FALSE NEIGHBOUR: 'it returns false'. Refute it at one input. -/
def binAndWrong : ChangeSpec := { name := "binAnd", fn := fun _ => fun
  | [d] => { results := [.lit (.bool false)], args := [d] }
  | _ => none }
def BinAndWrongFalsely : Prop := binAndRow.holds Try.pinned (OpenSpec.ofChange binAndWrong)

/-- 'gantletlaw1.BinOr': WHATEVER THE INPUT: true; the input reads as it did. -/
def binOrSpec : ChangeSpec := { name := "binOr", fn := fun _ => fun
  | [d] => { results := [.lit (.bool true)], args := [d] }
  | _ => none }
def binOrRow : OpenClaim := { program := "ytlkkkmekmbfhjaa", sum := "23441b98dae7936466851471b0ef6b243b73621e57dafb8aeba0bba040225f97", func := "gantlet/gantletlaw1.BinOr", spec := "binOr", apart := false }
def BinOrSaid : Prop := binOrRow.holds Try.pinned (OpenSpec.ofChange binOrSpec)

/-- ITS FALSE NEIGHBOUR: 'it returns false'. Refute it at one input. -/
def binOrWrong : ChangeSpec := { name := "binOr", fn := fun _ => fun
  | [d] => { results := [.lit (.bool false)], args := [d] }
  | _ => none }
def BinOrWrongFalsely : Prop := binOrRow.holds Try.pinned (OpenSpec.ofChange binOrWrong)

/-- 'gantletlaw1.BinXor': WHATEVER THE INPUT: true; the input reads as it did. -/
def binXorSpec : ChangeSpec := { name := "binXor", fn := fun _ => fun
  | [d] => { results := [.lit (.bool true)], args := [d] }
  | _ => none }
def binXorRow : OpenClaim := { program := "ytlkkkmekmbfhjaa", sum := "23441b98dae7936466851471b0ef6b243b73621e57dafb8aeba0bba040225f97", func := "gantlet/gantletlaw1.BinXor", spec := "binXor", apart := false }
def BinXorSaid : Prop := binXorRow.holds Try.pinned (OpenSpec.ofChange binXorSpec)

/-- ITS FALSE NEIGHBOUR: 'it returns false'. Refute it at one input. -/
def binXorWrong : ChangeSpec := { name := "binXor", fn := fun _ => fun
  | [d] => { results := [.lit (.bool false)], args := [d] }
  | _ => none }
def BinXorWrongFalsely : Prop := binXorRow.holds Try.pinned (OpenSpec.ofChange binXorWrong)

/-- 'gantletlaw1.BinShl': WHATEVER THE INPUT: true; the input reads as it did. -/
def binShlSpec : ChangeSpec := { name := "binShl", fn := fun _ => fun
  | [d] => { results := [.lit (.bool true)], args := [d] }
  | _ => none }
def binShlRow : OpenClaim := { program := "ytlkkkmekmbfhjaa", sum := "23441b98dae7936466851471b0ef6b243b73621e57dafb8aeba0bba040225f97", func := "gantlet/gantletlaw1.BinShl", spec := "binShl", apart := false }
def BinShlSaid : Prop := binShlRow.holds Try.pinned (OpenSpec.ofChange binShlSpec)

/-- ITS FALSE NEIGHBOUR: 'it returns false'. Refute it at one input. -/
def binShlWrong : ChangeSpec := { name := "binShl", fn := fun _ => fun
  | [d] => { results := [.lit (.bool false)], args := [d] }
  | _ => none }
def BinShlWrongFalsely : Prop := binShlRow.holds Try.pinned (OpenSpec.ofChange binShlWrong)

/-- 'gantletlaw1.BinShr': WHATEVER THE INPUT: true; the input reads as it did. -/
def binShrSpec : ChangeSpec := { name := "binShr", fn := fun _ => fun
  | [d] => { results := [.lit (.bool true)], args := [d] }
  | _ => none }
def binShrRow : OpenClaim := { program := "ytlkkkmekmbfhjaa", sum := "23441b98dae7936466851471b0ef6b243b73621e57dafb8aeba0bba040225f97", func := "gantlet/gantletlaw1.BinShr", spec := "binShr", apart := false }
def BinShrSaid : Prop := binShrRow.holds Try.pinned (OpenSpec.ofChange binShrSpec)

/-- ITS FALSE NEIGHBOUR: 'it returns false'. Refute it at one input. -/
def binShrWrong : ChangeSpec := { name := "binShr", fn := fun _ => fun
  | [d] => { results := [.lit (.bool false)], args := [d] }
  | _ => none }
def BinShrWrongFalsely : Prop := binShrRow.holds Try.pinned (OpenSpec.ofChange binShrWrong)

/-- 'gantletlaw1.BinSar': WHATEVER THE INPUT: true; the input reads as it did. -/
def binSarSpec : ChangeSpec := { name := "binSar", fn := fun _ => fun
  | [d] => { results := [.lit (.bool true)], args := [d] }
  | _ => none }
def binSarRow : OpenClaim := { program := "ytlkkkmekmbfhjaa", sum := "23441b98dae7936466851471b0ef6b243b73621e57dafb8aeba0bba040225f97", func := "gantlet/gantletlaw1.BinSar", spec := "binSar", apart := false }
def BinSarSaid : Prop := binSarRow.holds Try.pinned (OpenSpec.ofChange binSarSpec)

/-- ITS FALSE NEIGHBOUR: 'it returns false'. Refute it at one input. -/
def binSarWrong : ChangeSpec := { name := "binSar", fn := fun _ => fun
  | [d] => { results := [.lit (.bool false)], args := [d] }
  | _ => none }
def BinSarWrongFalsely : Prop := binSarRow.holds Try.pinned (OpenSpec.ofChange binSarWrong)

/-- 'gantletlaw1.BinEq': WHATEVER THE INPUT: true; the input reads as it did. -/
def binEqSpec : ChangeSpec := { name := "binEq", fn := fun _ => fun
  | [d] => { results := [.lit (.bool true)], args := [d] }
  | _ => none }
def binEqRow : OpenClaim := { program := "ytlkkkmekmbfhjaa", sum := "23441b98dae7936466851471b0ef6b243b73621e57dafb8aeba0bba040225f97", func := "gantlet/gantletlaw1.BinEq", spec := "binEq", apart := false }
def BinEqSaid : Prop := binEqRow.holds Try.pinned (OpenSpec.ofChange binEqSpec)

/-- ITS FALSE NEIGHBOUR: 'it returns false'. Refute it at one input. -/
def binEqWrong : ChangeSpec := { name := "binEq", fn := fun _ => fun
  | [d] => { results := [.lit (.bool false)], args := [d] }
  | _ => none }
def BinEqWrongFalsely : Prop := binEqRow.holds Try.pinned (OpenSpec.ofChange binEqWrong)

/-- 'gantletlaw1.BinNe': WHATEVER THE INPUT: true; the input reads as it did. -/
def binNeSpec : ChangeSpec := { name := "binNe", fn := fun _ => fun
  | [d] => { results := [.lit (.bool true)], args := [d] }
  | _ => none }
def binNeRow : OpenClaim := { program := "ytlkkkmekmbfhjaa", sum := "23441b98dae7936466851471b0ef6b243b73621e57dafb8aeba0bba040225f97", func := "gantlet/gantletlaw1.BinNe", spec := "binNe", apart := false }
def BinNeSaid : Prop := binNeRow.holds Try.pinned (OpenSpec.ofChange binNeSpec)

/-- ITS FALSE NEIGHBOUR: 'it returns false'. Refute it at one input. -/
def binNeWrong : ChangeSpec := { name := "binNe", fn := fun _ => fun
  | [d] => { results := [.lit (.bool false)], args := [d] }
  | _ => none }
def BinNeWrongFalsely : Prop := binNeRow.holds Try.pinned (OpenSpec.ofChange binNeWrong)

/-- 'gantletlaw1.BinLt': WHATEVER THE INPUT: true; the input reads as it did. -/
def binLtSpec : ChangeSpec := { name := "binLt", fn := fun _ => fun
  | [d] => { results := [.lit (.bool true)], args := [d] }
  | _ => none }
def binLtRow : OpenClaim := { program := "ytlkkkmekmbfhjaa", sum := "23441b98dae7936466851471b0ef6b243b73621e57dafb8aeba0bba040225f97", func := "gantlet/gantletlaw1.BinLt", spec := "binLt", apart := false }
def BinLtSaid : Prop := binLtRow.holds Try.pinned (OpenSpec.ofChange binLtSpec)

/-- ITS FALSE NEIGHBOUR: 'it returns false'. Refute it at one input. -/
def binLtWrong : ChangeSpec := { name := "binLt", fn := fun _ => fun
  | [d] => { results := [.lit (.bool false)], args := [d] }
  | _ => none }
def BinLtWrongFalsely : Prop := binLtRow.holds Try.pinned (OpenSpec.ofChange binLtWrong)

/-- 'gantletlaw1.BinLtU': WHATEVER THE INPUT: true; the input reads as it did. -/
def binLtUSpec : ChangeSpec := { name := "binLtU", fn := fun _ => fun
  | [d] => { results := [.lit (.bool true)], args := [d] }
  | _ => none }
def binLtURow : OpenClaim := { program := "ytlkkkmekmbfhjaa", sum := "23441b98dae7936466851471b0ef6b243b73621e57dafb8aeba0bba040225f97", func := "gantlet/gantletlaw1.BinLtU", spec := "binLtU", apart := false }
def BinLtUSaid : Prop := binLtURow.holds Try.pinned (OpenSpec.ofChange binLtUSpec)

/-- ITS FALSE NEIGHBOUR: 'it returns false'. Refute it at one input. -/
def binLtUWrong : ChangeSpec := { name := "binLtU", fn := fun _ => fun
  | [d] => { results := [.lit (.bool false)], args := [d] }
  | _ => none }
def BinLtUWrongFalsely : Prop := binLtURow.holds Try.pinned (OpenSpec.ofChange binLtUWrong)

/-- 'gantletlaw1.BinLe': WHATEVER THE INPUT: true; the input reads as it did. -/
def binLeSpec : ChangeSpec := { name := "binLe", fn := fun _ => fun
  | [d] => { results := [.lit (.bool true)], args := [d] }
  | _ => none }
def binLeRow : OpenClaim := { program := "ytlkkkmekmbfhjaa", sum := "23441b98dae7936466851471b0ef6b243b73621e57dafb8aeba0bba040225f97", func := "gantlet/gantletlaw1.BinLe", spec := "binLe", apart := false }
def BinLeSaid : Prop := binLeRow.holds Try.pinned (OpenSpec.ofChange binLeSpec)

/-- ITS FALSE NEIGHBOUR: 'it returns false'. Refute it at one input. -/
def binLeWrong : ChangeSpec := { name := "binLe", fn := fun _ => fun
  | [d] => { results := [.lit (.bool false)], args := [d] }
  | _ => none }
def BinLeWrongFalsely : Prop := binLeRow.holds Try.pinned (OpenSpec.ofChange binLeWrong)

/-- 'gantletlaw1.BinLeU': WHATEVER THE INPUT: true; the input reads as it did. -/
def binLeUSpec : ChangeSpec := { name := "binLeU", fn := fun _ => fun
  | [d] => { results := [.lit (.bool true)], args := [d] }
  | _ => none }
def binLeURow : OpenClaim := { program := "ytlkkkmekmbfhjaa", sum := "23441b98dae7936466851471b0ef6b243b73621e57dafb8aeba0bba040225f97", func := "gantlet/gantletlaw1.BinLeU", spec := "binLeU", apart := false }
def BinLeUSaid : Prop := binLeURow.holds Try.pinned (OpenSpec.ofChange binLeUSpec)

/-- ITS FALSE NEIGHBOUR: 'it returns false'. Refute it at one input. -/
def binLeUWrong : ChangeSpec := { name := "binLeU", fn := fun _ => fun
  | [d] => { results := [.lit (.bool false)], args := [d] }
  | _ => none }
def BinLeUWrongFalsely : Prop := binLeURow.holds Try.pinned (OpenSpec.ofChange binLeUWrong)

/- THE SECOND FORM. 'bulk': how many values and letters a reading holds, each counted each time it is reached (what is shared counts as often as it is met; a slice's spare places count too). A statement '..UptoSaid' is the law's where the arguments, and the package variables that the reading takes, are together of bulk at most 1048576: NARROWER than '..Said'. Prove '..Said' where nothing that the law and all that it calls make is longer than what came in: it says more and counts as full. Else prove '..UptoSaid'. A law counts once. -/
mutual
def uptoBulk {H : Type} : DataW H → Nat
  | .lit (.string bytes) => bytes.length + 1
  | .lit _ => 1
  | .nil => 1
  | .ptr d => uptoBulk d + 1
  | .slice elems spare => uptoBulkAll elems + uptoBulkAll spare + 1
  | .agg parts => uptoBulkAll parts + 1
  | .iface _ d => uptoBulk d + 1
  | .map entries => uptoBulkEntries entries + 1
  | .held _ => 1
def uptoBulkAll {H : Type} : List (DataW H) → Nat
  | [] => 0
  | d :: r => uptoBulk d + uptoBulkAll r
def uptoBulkEntries {H : Type} : List (Lit × DataW H) → Nat
  | [] => 0
  | x :: r => uptoBulkEntry x + uptoBulkEntries r
def uptoBulkEntry {H : Type} : Lit × DataW H → Nat
  | (.string bytes, d) => bytes.length + uptoBulk d + 1
  | (_, d) => uptoBulk d + 1
 end
def uptoSmall : (H : Type) → List (DataW H) → Bool := fun _ ds => decide (uptoBulkAll ds ≤ 1048576)
def OpenSpec.upto (s : _root_.Go.ChangeSpec) : _root_.Go.OpenSpec := { _root_.Go.OpenSpec.ofChange s with cond := some uptoSmall }

/-- 'gantletlaw1.BinAnd', WHERE WHAT IT READS IS OF BULK AT MOST 1048576: true; the input reads as it did. -/
def binAndUptoRow : OpenClaim := { program := "ytlkkkmekmbfhjaa", sum := "23441b98dae7936466851471b0ef6b243b73621e57dafb8aeba0bba040225f97", func := "gantlet/gantletlaw1.BinAnd", spec := "binAnd", apart := false, narrowed := true }
def BinAndUptoSaid : Prop := binAndUptoRow.holds Try.pinned (OpenSpec.upto binAndSpec)

/-- 'gantletlaw1.BinOr', WHERE WHAT IT READS IS OF BULK AT MOST 1048576: true; the input reads as it did. -/
def binOrUptoRow : OpenClaim := { program := "ytlkkkmekmbfhjaa", sum := "23441b98dae7936466851471b0ef6b243b73621e57dafb8aeba0bba040225f97", func := "gantlet/gantletlaw1.BinOr", spec := "binOr", apart := false, narrowed := true }
def BinOrUptoSaid : Prop := binOrUptoRow.holds Try.pinned (OpenSpec.upto binOrSpec)

/-- 'gantletlaw1.BinXor', WHERE WHAT IT READS IS OF BULK AT MOST 1048576: true; the input reads as it did. -/
def binXorUptoRow : OpenClaim := { program := "ytlkkkmekmbfhjaa", sum := "23441b98dae7936466851471b0ef6b243b73621e57dafb8aeba0bba040225f97", func := "gantlet/gantletlaw1.BinXor", spec := "binXor", apart := false, narrowed := true }
def BinXorUptoSaid : Prop := binXorUptoRow.holds Try.pinned (OpenSpec.upto binXorSpec)

/-- 'gantletlaw1.BinShl', WHERE WHAT IT READS IS OF BULK AT MOST 1048576: true; the input reads as it did. -/
def binShlUptoRow : OpenClaim := { program := "ytlkkkmekmbfhjaa", sum := "23441b98dae7936466851471b0ef6b243b73621e57dafb8aeba0bba040225f97", func := "gantlet/gantletlaw1.BinShl", spec := "binShl", apart := false, narrowed := true }
def BinShlUptoSaid : Prop := binShlUptoRow.holds Try.pinned (OpenSpec.upto binShlSpec)

/-- 'gantletlaw1.BinShr', WHERE WHAT IT READS IS OF BULK AT MOST 1048576: true; the input reads as it did. -/
def binShrUptoRow : OpenClaim := { program := "ytlkkkmekmbfhjaa", sum := "23441b98dae7936466851471b0ef6b243b73621e57dafb8aeba0bba040225f97", func := "gantlet/gantletlaw1.BinShr", spec := "binShr", apart := false, narrowed := true }
def BinShrUptoSaid : Prop := binShrUptoRow.holds Try.pinned (OpenSpec.upto binShrSpec)

/-- 'gantletlaw1.BinSar', WHERE WHAT IT READS IS OF BULK AT MOST 1048576: true; the input reads as it did. -/
def binSarUptoRow : OpenClaim := { program := "ytlkkkmekmbfhjaa", sum := "23441b98dae7936466851471b0ef6b243b73621e57dafb8aeba0bba040225f97", func := "gantlet/gantletlaw1.BinSar", spec := "binSar", apart := false, narrowed := true }
def BinSarUptoSaid : Prop := binSarUptoRow.holds Try.pinned (OpenSpec.upto binSarSpec)

/-- 'gantletlaw1.BinEq', WHERE WHAT IT READS IS OF BULK AT MOST 1048576: true; the input reads as it did. -/
def binEqUptoRow : OpenClaim := { program := "ytlkkkmekmbfhjaa", sum := "23441b98dae7936466851471b0ef6b243b73621e57dafb8aeba0bba040225f97", func := "gantlet/gantletlaw1.BinEq", spec := "binEq", apart := false, narrowed := true }
def BinEqUptoSaid : Prop := binEqUptoRow.holds Try.pinned (OpenSpec.upto binEqSpec)

/-- 'gantletlaw1.BinNe', WHERE WHAT IT READS IS OF BULK AT MOST 1048576: true; the input reads as it did. -/
def binNeUptoRow : OpenClaim := { program := "ytlkkkmekmbfhjaa", sum := "23441b98dae7936466851471b0ef6b243b73621e57dafb8aeba0bba040225f97", func := "gantlet/gantletlaw1.BinNe", spec := "binNe", apart := false, narrowed := true }
def BinNeUptoSaid : Prop := binNeUptoRow.holds Try.pinned (OpenSpec.upto binNeSpec)

/-- 'gantletlaw1.BinLt', WHERE WHAT IT READS IS OF BULK AT MOST 1048576: true; the input reads as it did. -/
def binLtUptoRow : OpenClaim := { program := "ytlkkkmekmbfhjaa", sum := "23441b98dae7936466851471b0ef6b243b73621e57dafb8aeba0bba040225f97", func := "gantlet/gantletlaw1.BinLt", spec := "binLt", apart := false, narrowed := true }
def BinLtUptoSaid : Prop := binLtUptoRow.holds Try.pinned (OpenSpec.upto binLtSpec)

/-- 'gantletlaw1.BinLtU', WHERE WHAT IT READS IS OF BULK AT MOST 1048576: true; the input reads as it did. -/
def binLtUUptoRow : OpenClaim := { program := "ytlkkkmekmbfhjaa", sum := "23441b98dae7936466851471b0ef6b243b73621e57dafb8aeba0bba040225f97", func := "gantlet/gantletlaw1.BinLtU", spec := "binLtU", apart := false, narrowed := true }
def BinLtUUptoSaid : Prop := binLtUUptoRow.holds Try.pinned (OpenSpec.upto binLtUSpec)

/-- 'gantletlaw1.BinLe', WHERE WHAT IT READS IS OF BULK AT MOST 1048576: true; the input reads as it did. -/
def binLeUptoRow : OpenClaim := { program := "ytlkkkmekmbfhjaa", sum := "23441b98dae7936466851471b0ef6b243b73621e57dafb8aeba0bba040225f97", func := "gantlet/gantletlaw1.BinLe", spec := "binLe", apart := false, narrowed := true }
def BinLeUptoSaid : Prop := binLeUptoRow.holds Try.pinned (OpenSpec.upto binLeSpec)

/-- 'gantletlaw1.BinLeU', WHERE WHAT IT READS IS OF BULK AT MOST 1048576: true; the input reads as it did. -/
def binLeUUptoRow : OpenClaim := { program := "ytlkkkmekmbfhjaa", sum := "23441b98dae7936466851471b0ef6b243b73621e57dafb8aeba0bba040225f97", func := "gantlet/gantletlaw1.BinLeU", spec := "binLeU", apart := false, narrowed := true }
def BinLeUUptoSaid : Prop := binLeUUptoRow.holds Try.pinned (OpenSpec.upto binLeUSpec)

end Rows
end Go.Proofs.Ytlkkkmekmbfhjaa
