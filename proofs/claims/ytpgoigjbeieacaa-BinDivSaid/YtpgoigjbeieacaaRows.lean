/-
  No cell of these rows narrows 'for every input' (looked for: loops, veiled, ifaces, maps, wideKeys, modest, calm, conditions, laid).
  DERIVED. THE GIVEN ROWS OF THIS SEAT. 12 by the template 'for every input the law returns true; each argument reads behind the call as it read before'; 0 by the template 'total and deterministic' (their statements: YtpgoigjbeieacaaTotals.lean).
  GIVEN WITH THE SEED: the statements are not yours to turn. If you find one false, say at which input.
  Laid BY PROGRAM, IN A SANDBOX (cutbox-rows.mjs): the forced cells as the released guide's own fill.sh prints them over the translation 12793ca82a1a5eaa… (all of the seat's roots in one cut). By AI agents, Wed Nov 11 2026. No macro, syntax, notation, axiom, sorry.
-/
import Derived.Test.YtpgoigjbeieacaaChecked
import GoSem.Claim
import GoSem.ClaimJoined
import GoSem.ClaimMapViews
import Derived.JoinedTies
import Derived.KernelRfl
namespace Go.Proofs.Ytpgoigjbeieacaa
/- THE CELL 'sum', in the pinned program and in every row, IS THE sha256 OF THE DUMP (.gsa) THAT YtpgoigjbeieacaaProg.lean LOADS. Nothing in Lean hashes anything: it is a label: what it is worth is what the hold of that sum in a sandbox is worth. -/
noncomputable def Try.pinned : Pinned := { name := "ytpgoigjbeieacaa", sum := "12793ca82a1a5eaa247caabc5095e2e2cf54aacf48ce1fdde0eb3dfe0113f834", checked := Try.checked }
namespace Rows
def none {H : Type} : Left H := { results := [], args := [] }

/-- 'gantletlaw1.NumSums': WHATEVER THE INPUT: true; the input reads as it did. -/
def numSumsSpec : ChangeSpec := { name := "numSums", fn := fun _ => fun
  | [d] => { results := [.lit (.bool true)], args := [d] }
  | _ => none }
def numSumsRow : OpenClaim := { program := "ytpgoigjbeieacaa", sum := "12793ca82a1a5eaa247caabc5095e2e2cf54aacf48ce1fdde0eb3dfe0113f834", func := "gantlet/gantletlaw1.NumSums", spec := "numSums", apart := false }
def NumSumsSaid : Prop := numSumsRow.holds Try.pinned (OpenSpec.ofChange numSumsSpec)

/-- ITS FALSE NEIGHBOUR: 'it returns false'. Refute it at one input. -/
def numSumsWrong : ChangeSpec := { name := "numSums", fn := fun _ => fun
  | [d] => { results := [.lit (.bool false)], args := [d] }
  | _ => none }
def NumSumsWrongFalsely : Prop := numSumsRow.holds Try.pinned (OpenSpec.ofChange numSumsWrong)

/-- 'gantletlaw1.NumDivs': WHATEVER THE INPUT: true; the input reads as it did. -/
def numDivsSpec : ChangeSpec := { name := "numDivs", fn := fun _ => fun
  | [d] => { results := [.lit (.bool true)], args := [d] }
  | _ => none }
def numDivsRow : OpenClaim := { program := "ytpgoigjbeieacaa", sum := "12793ca82a1a5eaa247caabc5095e2e2cf54aacf48ce1fdde0eb3dfe0113f834", func := "gantlet/gantletlaw1.NumDivs", spec := "numDivs", apart := false }
def NumDivsSaid : Prop := numDivsRow.holds Try.pinned (OpenSpec.ofChange numDivsSpec)

/-- ITS FALSE NEIGHBOUR: 'it returns false'. Refute it at one input. -/
def numDivsWrong : ChangeSpec := { name := "numDivs", fn := fun _ => fun
  | [d] => { results := [.lit (.bool false)], args := [d] }
  | _ => none }
def NumDivsWrongFalsely : Prop := numDivsRow.holds Try.pinned (OpenSpec.ofChange numDivsWrong)

/-- 'gantletlaw1.NumBits': WHATEVER THE INPUT: true; the input reads as it did. -/
def numBitsSpec : ChangeSpec := { name := "numBits", fn := fun _ => fun
  | [d] => { results := [.lit (.bool true)], args := [d] }
  | _ => none }
def numBitsRow : OpenClaim := { program := "ytpgoigjbeieacaa", sum := "12793ca82a1a5eaa247caabc5095e2e2cf54aacf48ce1fdde0eb3dfe0113f834", func := "gantlet/gantletlaw1.NumBits", spec := "numBits", apart := false }
def NumBitsSaid : Prop := numBitsRow.holds Try.pinned (OpenSpec.ofChange numBitsSpec)

/-- ITS FALSE NEIGHBOUR: 'it returns false'. Refute it at one input. -/
def numBitsWrong : ChangeSpec := { name := "numBits", fn := fun _ => fun
  | [d] => { results := [.lit (.bool false)], args := [d] }
  | _ => none }
def NumBitsWrongFalsely : Prop := numBitsRow.holds Try.pinned (OpenSpec.ofChange numBitsWrong)

/-- 'gantletlaw1.NumAsks': WHATEVER THE INPUT: true; the input reads as it did. -/
def numAsksSpec : ChangeSpec := { name := "numAsks", fn := fun _ => fun
  | [d] => { results := [.lit (.bool true)], args := [d] }
  | _ => none }
def numAsksRow : OpenClaim := { program := "ytpgoigjbeieacaa", sum := "12793ca82a1a5eaa247caabc5095e2e2cf54aacf48ce1fdde0eb3dfe0113f834", func := "gantlet/gantletlaw1.NumAsks", spec := "numAsks", apart := false }
def NumAsksSaid : Prop := numAsksRow.holds Try.pinned (OpenSpec.ofChange numAsksSpec)

/-- ITS FALSE NEIGHBOUR: 'it returns false'. Refute it at one input. -/
def numAsksWrong : ChangeSpec := { name := "numAsks", fn := fun _ => fun
  | [d] => { results := [.lit (.bool false)], args := [d] }
  | _ => none }
def NumAsksWrongFalsely : Prop := numAsksRow.holds Try.pinned (OpenSpec.ofChange numAsksWrong)

/-- 'gantletlaw1.NumRest': WHATEVER THE INPUT: true; the input reads as it did. -/
def numRestSpec : ChangeSpec := { name := "numRest", fn := fun _ => fun
  | [d] => { results := [.lit (.bool true)], args := [d] }
  | _ => none }
def numRestRow : OpenClaim := { program := "ytpgoigjbeieacaa", sum := "12793ca82a1a5eaa247caabc5095e2e2cf54aacf48ce1fdde0eb3dfe0113f834", func := "gantlet/gantletlaw1.NumRest", spec := "numRest", apart := false }
def NumRestSaid : Prop := numRestRow.holds Try.pinned (OpenSpec.ofChange numRestSpec)

/-- ITS FALSE NEIGHBOUR: 'it returns false'. Refute it at one input. -/
def numRestWrong : ChangeSpec := { name := "numRest", fn := fun _ => fun
  | [d] => { results := [.lit (.bool false)], args := [d] }
  | _ => none }
def NumRestWrongFalsely : Prop := numRestRow.holds Try.pinned (OpenSpec.ofChange numRestWrong)

/-- 'gantletlaw1.BinAdd': WHATEVER THE INPUT: true; the input reads as it did. -/
def binAddSpec : ChangeSpec := { name := "binAdd", fn := fun _ => fun
  | [d] => { results := [.lit (.bool true)], args := [d] }
  | _ => none }
def binAddRow : OpenClaim := { program := "ytpgoigjbeieacaa", sum := "12793ca82a1a5eaa247caabc5095e2e2cf54aacf48ce1fdde0eb3dfe0113f834", func := "gantlet/gantletlaw1.BinAdd", spec := "binAdd", apart := false }
def BinAddSaid : Prop := binAddRow.holds Try.pinned (OpenSpec.ofChange binAddSpec)

/-- ITS FALSE NEIGHBOUR: 'it returns false'. Refute it at one input. -/
def binAddWrong : ChangeSpec := { name := "binAdd", fn := fun _ => fun
  | [d] => { results := [.lit (.bool false)], args := [d] }
  | _ => none }
def BinAddWrongFalsely : Prop := binAddRow.holds Try.pinned (OpenSpec.ofChange binAddWrong)

/-- 'gantletlaw1.BinSub': WHATEVER THE INPUT: true; the input reads as it did. -/
def binSubSpec : ChangeSpec := { name := "binSub", fn := fun _ => fun
  | [d] => { results := [.lit (.bool true)], args := [d] }
  | _ => none }
def binSubRow : OpenClaim := { program := "ytpgoigjbeieacaa", sum := "12793ca82a1a5eaa247caabc5095e2e2cf54aacf48ce1fdde0eb3dfe0113f834", func := "gantlet/gantletlaw1.BinSub", spec := "binSub", apart := false }
def BinSubSaid : Prop := binSubRow.holds Try.pinned (OpenSpec.ofChange binSubSpec)

/-- ITS FALSE NEIGHBOUR: 'it returns false'. Refute it at one input. -/
def binSubWrong : ChangeSpec := { name := "binSub", fn := fun _ => fun
  | [d] => { results := [.lit (.bool false)], args := [d] }
  | _ => none }
def BinSubWrongFalsely : Prop := binSubRow.holds Try.pinned (OpenSpec.ofChange binSubWrong)

/-- 'gantletlaw1.BinMul': WHATEVER THE INPUT: true; the input reads as it did. -/
def binMulSpec : ChangeSpec := { name := "binMul", fn := fun _ => fun
  | [d] => { results := [.lit (.bool true)], args := [d] }
  | _ => none }
def binMulRow : OpenClaim := { program := "ytpgoigjbeieacaa", sum := "12793ca82a1a5eaa247caabc5095e2e2cf54aacf48ce1fdde0eb3dfe0113f834", func := "gantlet/gantletlaw1.BinMul", spec := "binMul", apart := false }
def BinMulSaid : Prop := binMulRow.holds Try.pinned (OpenSpec.ofChange binMulSpec)

/-- ITS FALSE NEIGHBOUR: 'it returns false'. Refute it at one input. -/
def binMulWrong : ChangeSpec := { name := "binMul", fn := fun _ => fun
  | [d] => { results := [.lit (.bool false)], args := [d] }
  | _ => none }
def BinMulWrongFalsely : Prop := binMulRow.holds Try.pinned (OpenSpec.ofChange binMulWrong)

/-- 'gantletlaw1.BinDiv': WHATEVER THE INPUT: true; the input reads as it did. -/
def binDivSpec : ChangeSpec := { name := "binDiv", fn := fun _ => fun
  | [d] => { results := [.lit (.bool true)], args := [d] }
  | _ => none }
def binDivRow : OpenClaim := { program := "ytpgoigjbeieacaa", sum := "12793ca82a1a5eaa247caabc5095e2e2cf54aacf48ce1fdde0eb3dfe0113f834", func := "gantlet/gantletlaw1.BinDiv", spec := "binDiv", apart := false }
def BinDivSaid : Prop := binDivRow.holds Try.pinned (OpenSpec.ofChange binDivSpec)

/-- ITS FALSE NEIGHBOUR: 'it returns false'. Refute it at one input. -/
def binDivWrong : ChangeSpec := { name := "binDiv", fn := fun _ => fun
  | [d] => { results := [.lit (.bool false)], args := [d] }
  | _ => none }
def BinDivWrongFalsely : Prop := binDivRow.holds Try.pinned (OpenSpec.ofChange binDivWrong)

/-- 'gantletlaw1.BinDivU': WHATEVER THE INPUT: true; the input reads as it did. -/
def binDivUSpec : ChangeSpec := { name := "binDivU", fn := fun _ => fun
  | [d] => { results := [.lit (.bool true)], args := [d] }
  | _ => none }
def binDivURow : OpenClaim := { program := "ytpgoigjbeieacaa", sum := "12793ca82a1a5eaa247caabc5095e2e2cf54aacf48ce1fdde0eb3dfe0113f834", func := "gantlet/gantletlaw1.BinDivU", spec := "binDivU", apart := false }
def BinDivUSaid : Prop := binDivURow.holds Try.pinned (OpenSpec.ofChange binDivUSpec)

/-- ITS FALSE NEIGHBOUR: 'it returns false'. Refute it at one input. -/
def binDivUWrong : ChangeSpec := { name := "binDivU", fn := fun _ => fun
  | [d] => { results := [.lit (.bool false)], args := [d] }
  | _ => none }
def BinDivUWrongFalsely : Prop := binDivURow.holds Try.pinned (OpenSpec.ofChange binDivUWrong)

/-- 'gantletlaw1.BinRem': WHATEVER THE INPUT: true; the input reads as it did. -/
def binRemSpec : ChangeSpec := { name := "binRem", fn := fun _ => fun
  | [d] => { results := [.lit (.bool true)], args := [d] }
  | _ => none }
def binRemRow : OpenClaim := { program := "ytpgoigjbeieacaa", sum := "12793ca82a1a5eaa247caabc5095e2e2cf54aacf48ce1fdde0eb3dfe0113f834", func := "gantlet/gantletlaw1.BinRem", spec := "binRem", apart := false }
def BinRemSaid : Prop := binRemRow.holds Try.pinned (OpenSpec.ofChange binRemSpec)

/-- ITS FALSE NEIGHBOUR: 'it returns false'. Refute it at one input. -/
def binRemWrong : ChangeSpec := { name := "binRem", fn := fun _ => fun
  | [d] => { results := [.lit (.bool false)], args := [d] }
  | _ => none }
def BinRemWrongFalsely : Prop := binRemRow.holds Try.pinned (OpenSpec.ofChange binRemWrong)

/-- 'gantletlaw1.BinRemU': WHATEVER THE INPUT: true; the input reads as it did. -/
def binRemUSpec : ChangeSpec := { name := "binRemU", fn := fun _ => fun
  | [d] => { results := [.lit (.bool true)], args := [d] }
  | _ => none }
def binRemURow : OpenClaim := { program := "ytpgoigjbeieacaa", sum := "12793ca82a1a5eaa247caabc5095e2e2cf54aacf48ce1fdde0eb3dfe0113f834", func := "gantlet/gantletlaw1.BinRemU", spec := "binRemU", apart := false }
def BinRemUSaid : Prop := binRemURow.holds Try.pinned (OpenSpec.ofChange binRemUSpec)

/-- ITS FALSE NEIGHBOUR: 'it returns false'. Refute it at one input. -/
def binRemUWrong : ChangeSpec := { name := "binRemU", fn := fun _ => fun
  | [d] => { results := [.lit (.bool false)], args := [d] }
  | _ => none }
def BinRemUWrongFalsely : Prop := binRemURow.holds Try.pinned (OpenSpec.ofChange binRemUWrong)

/- THE SECOND FORM. 'bulk': how many values and letters a reading holds, each counted each time it is reached (what is shared counts as often as it is met; a slice's spare places count too). A statement '..UptoSaid' is the law's where the arguments, and the package variables that the reading takes, are together of bulk at most 1048576: NARROWER than '..Said'. Prove '..Said' where nothing that the law and all that it calls make is longer than what came in: it says more and counts as full. Else prove '..UptoSaid'. A law counts once. -/
mutual
def uptoBulk {H : Type} : DataW H → Nat
  | .lit (.string bytes) => bytes.length + 1
  | .lit _ => 1
  | .nil => 1
  | .ptr d => uptoBulk d + 1
  | .slice elems spare => uptoBulkAll elems + uptoBulkAll spare + 1
  | .agg parts => uptoBulkAll parts + 1
  | .iface _ d => uptoBulk d + 1
  | .map entries => uptoBulkEntries entries + 1
  | .held _ => 1
def uptoBulkAll {H : Type} : List (DataW H) → Nat
  | [] => 0
  | d :: r => uptoBulk d + uptoBulkAll r
def uptoBulkEntries {H : Type} : List (Lit × DataW H) → Nat
  | [] => 0
  | x :: r => uptoBulkEntry x + uptoBulkEntries r
def uptoBulkEntry {H : Type} : Lit × DataW H → Nat
  | (.string bytes, d) => bytes.length + uptoBulk d + 1
  | (_, d) => uptoBulk d + 1
 end
def uptoSmall : (H : Type) → List (DataW H) → Bool := fun _ ds => decide (uptoBulkAll ds ≤ 1048576)
def OpenSpec.upto (s : _root_.Go.ChangeSpec) : _root_.Go.OpenSpec := { _root_.Go.OpenSpec.ofChange s with cond := some uptoSmall }

/-- 'gantletlaw1.NumSums', WHERE WHAT IT READS IS OF BULK AT MOST 1048576: true; the input reads as it did. -/
def numSumsUptoRow : OpenClaim := { program := "ytpgoigjbeieacaa", sum := "12793ca82a1a5eaa247caabc5095e2e2cf54aacf48ce1fdde0eb3dfe0113f834", func := "gantlet/gantletlaw1.NumSums", spec := "numSums", apart := false, narrowed := true }
def NumSumsUptoSaid : Prop := numSumsUptoRow.holds Try.pinned (OpenSpec.upto numSumsSpec)

/-- 'gantletlaw1.NumDivs', WHERE WHAT IT READS IS OF BULK AT MOST 1048576: true; the input reads as it did. -/
def numDivsUptoRow : OpenClaim := { program := "ytpgoigjbeieacaa", sum := "12793ca82a1a5eaa247caabc5095e2e2cf54aacf48ce1fdde0eb3dfe0113f834", func := "gantlet/gantletlaw1.NumDivs", spec := "numDivs", apart := false, narrowed := true }
def NumDivsUptoSaid : Prop := numDivsUptoRow.holds Try.pinned (OpenSpec.upto numDivsSpec)

/-- 'gantletlaw1.NumBits', WHERE WHAT IT READS IS OF BULK AT MOST 1048576: true; the input reads as it did. -/
def numBitsUptoRow : OpenClaim := { program := "ytpgoigjbeieacaa", sum := "12793ca82a1a5eaa247caabc5095e2e2cf54aacf48ce1fdde0eb3dfe0113f834", func := "gantlet/gantletlaw1.NumBits", spec := "numBits", apart := false, narrowed := true }
def NumBitsUptoSaid : Prop := numBitsUptoRow.holds Try.pinned (OpenSpec.upto numBitsSpec)

/-- 'gantletlaw1.NumAsks', WHERE WHAT IT READS IS OF BULK AT MOST 1048576: true; the input reads as it did. -/
def numAsksUptoRow : OpenClaim := { program := "ytpgoigjbeieacaa", sum := "12793ca82a1a5eaa247caabc5095e2e2cf54aacf48ce1fdde0eb3dfe0113f834", func := "gantlet/gantletlaw1.NumAsks", spec := "numAsks", apart := false, narrowed := true }
def NumAsksUptoSaid : Prop := numAsksUptoRow.holds Try.pinned (OpenSpec.upto numAsksSpec)

/-- 'gantletlaw1.NumRest', WHERE WHAT IT READS IS OF BULK AT MOST 1048576: true; the input reads as it did. -/
def numRestUptoRow : OpenClaim := { program := "ytpgoigjbeieacaa", sum := "12793ca82a1a5eaa247caabc5095e2e2cf54aacf48ce1fdde0eb3dfe0113f834", func := "gantlet/gantletlaw1.NumRest", spec := "numRest", apart := false, narrowed := true }
def NumRestUptoSaid : Prop := numRestUptoRow.holds Try.pinned (OpenSpec.upto numRestSpec)

/-- 'gantletlaw1.BinAdd', WHERE WHAT IT READS IS OF BULK AT MOST 1048576: true; the input reads as it did. -/
def binAddUptoRow : OpenClaim := { program := "ytpgoigjbeieacaa", sum := "12793ca82a1a5eaa247caabc5095e2e2cf54aacf48ce1fdde0eb3dfe0113f834", func := "gantlet/gantletlaw1.BinAdd", spec := "binAdd", apart := false, narrowed := true }
def BinAddUptoSaid : Prop := binAddUptoRow.holds Try.pinned (OpenSpec.upto binAddSpec)

/-- 'gantletlaw1.BinSub', WHERE WHAT IT READS IS OF BULK AT MOST 1048576: true; the input reads as it did. -/
def binSubUptoRow : OpenClaim := { program := "ytpgoigjbeieacaa", sum := "12793ca82a1a5eaa247caabc5095e2e2cf54aacf48ce1fdde0eb3dfe0113f834", func := "gantlet/gantletlaw1.BinSub", spec := "binSub", apart := false, narrowed := true }
def BinSubUptoSaid : Prop := binSubUptoRow.holds Try.pinned (OpenSpec.upto binSubSpec)

/-- 'gantletlaw1.BinMul', WHERE WHAT IT READS IS OF BULK AT MOST 1048576: true; the input reads as it did. -/
def binMulUptoRow : OpenClaim := { program := "ytpgoigjbeieacaa", sum := "12793ca82a1a5eaa247caabc5095e2e2cf54aacf48ce1fdde0eb3dfe0113f834", func := "gantlet/gantletlaw1.BinMul", spec := "binMul", apart := false, narrowed := true }
def BinMulUptoSaid : Prop := binMulUptoRow.holds Try.pinned (OpenSpec.upto binMulSpec)

/-- 'gantletlaw1.BinDiv', WHERE WHAT IT READS IS OF BULK AT MOST 1048576: true; the input reads as it did. -/
def binDivUptoRow : OpenClaim := { program := "ytpgoigjbeieacaa", sum := "12793ca82a1a5eaa247caabc5095e2e2cf54aacf48ce1fdde0eb3dfe0113f834", func := "gantlet/gantletlaw1.BinDiv", spec := "binDiv", apart := false, narrowed := true }
def BinDivUptoSaid : Prop := binDivUptoRow.holds Try.pinned (OpenSpec.upto binDivSpec)

/-- 'gantletlaw1.BinDivU', WHERE WHAT IT READS IS OF BULK AT MOST 1048576: true; the input reads as it did. -/
def binDivUUptoRow : OpenClaim := { program := "ytpgoigjbeieacaa", sum := "12793ca82a1a5eaa247caabc5095e2e2cf54aacf48ce1fdde0eb3dfe0113f834", func := "gantlet/gantletlaw1.BinDivU", spec := "binDivU", apart := false, narrowed := true }
def BinDivUUptoSaid : Prop := binDivUUptoRow.holds Try.pinned (OpenSpec.upto binDivUSpec)

/-- 'gantletlaw1.BinRem', WHERE WHAT IT READS IS OF BULK AT MOST 1048576: true; the input reads as it did. -/
def binRemUptoRow : OpenClaim := { program := "ytpgoigjbeieacaa", sum := "12793ca82a1a5eaa247caabc5095e2e2cf54aacf48ce1fdde0eb3dfe0113f834", func := "gantlet/gantletlaw1.BinRem", spec := "binRem", apart := false, narrowed := true }
def BinRemUptoSaid : Prop := binRemUptoRow.holds Try.pinned (OpenSpec.upto binRemSpec)

/-- 'gantletlaw1.BinRemU', WHERE WHAT IT READS IS OF BULK AT MOST 1048576: true; the input reads as it did. -/
def binRemUUptoRow : OpenClaim := { program := "ytpgoigjbeieacaa", sum := "12793ca82a1a5eaa247caabc5095e2e2cf54aacf48ce1fdde0eb3dfe0113f834", func := "gantlet/gantletlaw1.BinRemU", spec := "binRemU", apart := false, narrowed := true }
def BinRemUUptoSaid : Prop := binRemUUptoRow.holds Try.pinned (OpenSpec.upto binRemUSpec)

end Rows
end Go.Proofs.Ytpgoigjbeieacaa
