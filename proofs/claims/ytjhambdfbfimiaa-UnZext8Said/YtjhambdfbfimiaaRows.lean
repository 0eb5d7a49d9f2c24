/-
  No cell of these rows narrows 'for every input' (looked for: loops, veiled, ifaces, maps, wideKeys, modest, calm, conditions, laid).
  DERIVED. THE GIVEN ROWS OF THIS SEAT. 8 by the template 'for every input the law returns true; each argument reads behind the call as it read before'; 0 by the template 'total and deterministic' (their statements: YtjhambdfbfimiaaTotals.lean).
  GIVEN WITH THE SEED: the statements are not yours to turn. If you find one false, say at which input.
  Laid BY PROGRAM, IN A SANDBOX (cutbox-rows.mjs): the forced cells as the released guide's own fill.sh prints them over the translation afc68cfd06394778… (all of the seat's roots in one cut). By AI agents, Wed Nov 11 2026. No macro, syntax, notation, axiom, sorry.
-/
import Derived.Test.YtjhambdfbfimiaaChecked
import GoSem.Claim
import GoSem.ClaimJoined
import GoSem.ClaimMapViews
import Derived.JoinedTies
import Derived.KernelRfl
namespace Go.Proofs.Ytjhambdfbfimiaa
/- THE CELL 'sum', in the pinned program and in every row, IS THE sha256 OF THE DUMP (.gsa) THAT YtjhambdfbfimiaaProg.lean LOADS. Nothing in Lean hashes anything: it is a label: what it is worth is what the hold of that sum in a sandbox is worth. -/
noncomputable def Try.pinned : Pinned := { name := "ytjhambdfbfimiaa", sum := "afc68cfd063947788ca14e700ce5ba1b894a63ab0130a231840a0c3fc5e3cd96", checked := Try.checked }
namespace Rows
def none {H : Type} : Left H := { results := [], args := [] }

/-- 'gantletlaw1.NumUns': WHATEVER THE INPUT: true; the input reads as it did. -/
def numUnsSpec : ChangeSpec := { name := "numUns", fn := fun _ => fun
  | [d] => { results := [.lit (.bool true)], args := [d] }
  | _ => none }
def numUnsRow : OpenClaim := { program := "ytjhambdfbfimiaa", sum := "afc68cfd063947788ca14e700ce5ba1b894a63ab0130a231840a0c3fc5e3cd96", func := "gantlet/gantletlaw1.NumUns", spec := "numUns", apart := false }
def NumUnsSaid : Prop := numUnsRow.holds Try.pinned (OpenSpec.ofChange numUnsSpec)

/-- ITS FALSE NEIGHBOUR: 'it returns false'. Refute it at one input. -/
def numUnsWrong : ChangeSpec := { name := "numUns", fn := fun _ => fun
  | [d] => { results := [.lit (.bool false)], args := [d] }
  | _ => none }
def NumUnsWrongFalsely : Prop := numUnsRow.holds Try.pinned (OpenSpec.ofChange numUnsWrong)

/-- 'gantletlaw1.UnExt8': WHATEVER THE INPUT: true; the input reads as it did. -/
def unExt8Spec : ChangeSpec := { name := "unExt8", fn := fun _ => fun
  | [d] => { results := [.lit (.bool true)], args := [d] }
  | _ => none }
def unExt8Row : OpenClaim := { program := "ytjhambdfbfimiaa", sum := "afc68cfd063947788ca14e700ce5ba1b894a63ab0130a231840a0c3fc5e3cd96", func := "gantlet/gantletlaw1.UnExt8", spec := "unExt8", apart := false }
def UnExt8Said : Prop := unExt8Row.holds Try.pinned (OpenSpec.ofChange unExt8Spec)

/-- ITS FALSE NEIGHBOUR: 'it returns false'. Refute it at one input. -/
def unExt8Wrong : ChangeSpec := { name := "unExt8", fn := fun _ => fun
  | [d] => { results := [.lit (.bool false)], args := [d] }
  | _ => none }
def UnExt8WrongFalsely : Prop := unExt8Row.holds Try.pinned (OpenSpec.ofChange unExt8Wrong)

/-- 'gantletlaw1.UnExt16': WHATEVER THE INPUT: true; the input reads as it did. -/
def unExt16Spec : ChangeSpec := { name := "unExt16", fn := fun _ => fun
  | [d] => { results := [.lit (.bool true)], args := [d] }
  | _ => none }
def unExt16Row : OpenClaim := { program := "ytjhambdfbfimiaa", sum := "afc68cfd063947788ca14e700ce5ba1b894a63ab0130a231840a0c3fc5e3cd96", func := "gantlet/gantletlaw1.UnExt16", spec := "unExt16", apart := false }
def UnExt16Said : Prop := unExt16Row.holds Try.pinned (OpenSpec.ofChange unExt16Spec)

/-- ITS FALSE NEIGHBOUR: 'it returns false'. Refute it at one input. -/
def unExt16Wrong : ChangeSpec := { name := "unExt16", fn := fun _ => fun
  | [d] => { results := [.lit (.bool false)], args := [d] }
  | _ => none }
def UnExt16WrongFalsely : Prop := unExt16Row.holds Try.pinned (OpenSpec.ofChange unExt16Wrong)

/-- 'gantletlaw1.UnExt32': WHATEVER THE INPUT: true; the input reads as it did. -/
def unExt32Spec : ChangeSpec := { name := "unExt32", fn := fun _ => fun
  | [d] => { results := [.lit (.bool true)], args := [d] }
  | _ => none }
def unExt32Row : OpenClaim := { program := "ytjhambdfbfimiaa", sum := "afc68cfd063947788ca14e700ce5ba1b894a63ab0130a231840a0c3fc5e3cd96", func := "gantlet/gantletlaw1.UnExt32", spec := "unExt32", apart := false }
def UnExt32Said : Prop := unExt32Row.holds Try.pinned (OpenSpec.ofChange unExt32Spec)

/-- ITS FALSE NEIGHBOUR: 'it returns false'. Refute it at one input. -/
def unExt32Wrong : ChangeSpec := { name := "unExt32", fn := fun _ => fun
  | [d] => { results := [.lit (.bool false)], args := [d] }
  | _ => none }
def UnExt32WrongFalsely : Prop := unExt32Row.holds Try.pinned (OpenSpec.ofChange unExt32Wrong)

/-- 'gantletlaw1.UnZext8': WHATEVER THE INPUT: true; the input reads as it did. -/
def unZext8Spec : ChangeSpec := { name := "unZext8", fn := fun _ => fun
  | [d] => { results := [.lit (.bool true)], args := [d] }
  | _ => none }
def unZext8Row : OpenClaim := { program := "ytjhambdfbfimiaa", sum := "afc68cfd063947788ca14e700ce5ba1b894a63ab0130a231840a0c3fc5e3cd96", func := "gantlet/gantletlaw1.UnZext8", spec := "unZext8", apart := false }
def UnZext8Said : Prop := unZext8Row.holds Try.pinned (OpenSpec.ofChange unZext8Spec)

/-- ITS FALSE NEIGHBOUR: 'it returns false'. Refute it at one input. -/
def unZext8Wrong : ChangeSpec := { name := "unZext8", fn := fun _ => fun
  | [d] => { results := [.lit (.bool false)], args := [d] }
  | _ => none }
def UnZext8WrongFalsely : Prop := unZext8Row.holds Try.pinned (OpenSpec.ofChange unZext8Wrong)

/-- 'gantletlaw1.UnZext16': WHATEVER THE INPUT: true; the input reads as it did. -/
def unZext16Spec : ChangeSpec := { name := "unZext16", fn := fun _ => fun
  | [d] => { results := [.lit (.bool true)], args := [d] }
  | _ => none }
def unZext16Row : OpenClaim := { program := "ytjhambdfbfimiaa", sum := "afc68cfd063947788ca14e700ce5ba1b894a63ab0130a231840a0c3fc5e3cd96", func := "gantlet/gantletlaw1.UnZext16", spec := "unZext16", apart := false }
def UnZext16Said : Prop := unZext16Row.holds Try.pinned (OpenSpec.ofChange unZext16Spec)

/-- ITS FALSE NEIGHBOUR: 'it returns false'. Refute it at one input. -/
def unZext16Wrong : ChangeSpec := { name := "unZext16", fn := fun _ => fun
  | [d] => { results := [.lit (.bool false)], args := [d] }
  | _ => none }
def UnZext16WrongFalsely : Prop := unZext16Row.holds Try.pinned (OpenSpec.ofChange unZext16Wrong)

/-- 'gantletlaw1.UnZext32': WHATEVER THE INPUT: true; the input reads as it did. -/
def unZext32Spec : ChangeSpec := { name := "unZext32", fn := fun _ => fun
  | [d] => { results := [.lit (.bool true)], args := [d] }
  | _ => none }
def unZext32Row : OpenClaim := { program := "ytjhambdfbfimiaa", sum := "afc68cfd063947788ca14e700ce5ba1b894a63ab0130a231840a0c3fc5e3cd96", func := "gantlet/gantletlaw1.UnZext32", spec := "unZext32", apart := false }
def UnZext32Said : Prop := unZext32Row.holds Try.pinned (OpenSpec.ofChange unZext32Spec)

/-- ITS FALSE NEIGHBOUR: 'it returns false'. Refute it at one input. -/
def unZext32Wrong : ChangeSpec := { name := "unZext32", fn := fun _ => fun
  | [d] => { results := [.lit (.bool false)], args := [d] }
  | _ => none }
def UnZext32WrongFalsely : Prop := unZext32Row.holds Try.pinned (OpenSpec.ofChange unZext32Wrong)

/-- 'gantletlaw1.NumFits': WHATEVER THE INPUT: true; the input reads as it did. -/
def numFitsSpec : ChangeSpec := { name := "numFits", fn := fun _ => fun
  | [d] => { results := [.lit (.bool true)], args := [d] }
  | _ => none }
def numFitsRow : OpenClaim := { program := "ytjhambdfbfimiaa", sum := "afc68cfd063947788ca14e700ce5ba1b894a63ab0130a231840a0c3fc5e3cd96", func := "gantlet/gantletlaw1.NumFits", spec := "numFits", apart := false }
def NumFitsSaid : Prop := numFitsRow.holds Try.pinned (OpenSpec.ofChange numFitsSpec)

/-- ITS FALSE NEIGHBOUR: 'it returns false'. Refute it at one input. -/
def numFitsWrong : ChangeSpec := { name := "numFits", fn := fun _ => fun
  | [d] => { results := [.lit (.bool false)], args := [d] }
  | _ => none }
def NumFitsWrongFalsely : Prop := numFitsRow.holds Try.pinned (OpenSpec.ofChange numFitsWrong)

/- THE SECOND FORM. 'bulk': how many values and letters a reading holds, each counted each time it is reached (what is shared counts as often as it is met; a slice's spare places count too). A statement '..UptoSaid' is the law's where the arguments, and the package variables that the reading takes, are together of bulk at most 1048576: NARROWER than '..Said'. Prove '..Said' where nothing that the law and all that it calls make is longer than what came in: it says more and counts as full. Else prove '..UptoSaid'. A law counts once. -/
mutual
def uptoBulk {H : Type} : DataW H → Nat
  | .lit (.string bytes) => bytes.length + 1
  | .lit _ => 1
  | .nil => 1
  | .ptr d => uptoBulk d + 1
  | .slice elems spare => uptoBulkAll elems + uptoBulkAll spare + 1
  | .agg parts => uptoBulkAll parts + 1
  | .iface _ d => uptoBulk d + 1
  | .map entries => uptoBulkEntries entries + 1
  | .held _ => 1
def uptoBulkAll {H : Type} : List (DataW H) → Nat
  | [] => 0
  | d :: r => uptoBulk d + uptoBulkAll r
def uptoBulkEntries {H : Type} : List (Lit × DataW H) → Nat
  | [] => 0
  | x :: r => uptoBulkEntry x + uptoBulkEntries r
def uptoBulkEntry {H : Type} : Lit × DataW H → Nat
  | (.string bytes, d) => bytes.length + uptoBulk d + 1
  | (_, d) => uptoBulk d + 1
 end
def uptoSmall : (H : Type) → List (DataW H) → Bool := fun _ ds => decide (uptoBulkAll ds ≤ 1048576)
def OpenSpec.upto (s : _root_.Go.ChangeSpec) : _root_.Go.OpenSpec := { _root_.Go.OpenSpec.ofChange s with cond := some uptoSmall }

/-- 'gantletlaw1.NumUns', WHERE WHAT IT READS IS OF BULK AT MOST 1048576: true; the input reads as it did. -/
def numUnsUptoRow : OpenClaim := { program := "ytjhambdfbfimiaa", sum := "afc68cfd063947788ca14e700ce5ba1b894a63ab0130a231840a0c3fc5e3cd96", func := "gantlet/gantletlaw1.NumUns", spec := "numUns", apart := false, narrowed := true }
def NumUnsUptoSaid : Prop := numUnsUptoRow.holds Try.pinned (OpenSpec.upto numUnsSpec)

/-- 'gantletlaw1.UnExt8', WHERE WHAT IT READS IS OF BULK AT MOST 1048576: true; the input reads as it did. -/
def unExt8UptoRow : OpenClaim := { program := "ytjhambdfbfimiaa", sum := "afc68cfd063947788ca14e700ce5ba1b894a63ab0130a231840a0c3fc5e3cd96", func := "gantlet/gantletlaw1.UnExt8", spec := "unExt8", apart := false, narrowed := true }
def UnExt8UptoSaid : Prop := unExt8UptoRow.holds Try.pinned (OpenSpec.upto unExt8Spec)

/-- 'gantletlaw1.UnExt16', WHERE WHAT IT READS IS OF BULK AT MOST 1048576: true; the input reads as it did. -/
def unExt16UptoRow : OpenClaim := { program := "ytjhambdfbfimiaa", sum := "afc68cfd063947788ca14e700ce5ba1b894a63ab0130a231840a0c3fc5e3cd96", func := "gantlet/gantletlaw1.UnExt16", spec := "unExt16", apart := false, narrowed := true }
def UnExt16UptoSaid : Prop := unExt16UptoRow.holds Try.pinned (OpenSpec.upto unExt16Spec)

/-- 'gantletlaw1.UnExt32', WHERE WHAT IT READS IS OF BULK AT MOST 1048576: true; the input reads as it did. -/
def unExt32UptoRow : OpenClaim := { program := "ytjhambdfbfimiaa", sum := "afc68cfd063947788ca14e700ce5ba1b894a63ab0130a231840a0c3fc5e3cd96", func := "gantlet/gantletlaw1.UnExt32", spec := "unExt32", apart := false, narrowed := true }
def UnExt32UptoSaid : Prop := unExt32UptoRow.holds Try.pinned (OpenSpec.upto unExt32Spec)

/-- 'gantletlaw1.UnZext8', WHERE WHAT IT READS IS OF BULK AT MOST 1048576: true; the input reads as it did. -/
def unZext8UptoRow : OpenClaim := { program := "ytjhambdfbfimiaa", sum := "afc68cfd063947788ca14e700ce5ba1b894a63ab0130a231840a0c3fc5e3cd96", func := "gantlet/gantletlaw1.UnZext8", spec := "unZext8", apart := false, narrowed := true }
def UnZext8UptoSaid : Prop := unZext8UptoRow.holds Try.pinned (OpenSpec.upto unZext8Spec)

/-- 'gantletlaw1.UnZext16', WHERE WHAT IT READS IS OF BULK AT MOST 1048576: true; the input reads as it did. -/
def unZext16UptoRow : OpenClaim := { program := "ytjhambdfbfimiaa", sum := "afc68cfd063947788ca14e700ce5ba1b894a63ab0130a231840a0c3fc5e3cd96", func := "gantlet/gantletlaw1.UnZext16", spec := "unZext16", apart := false, narrowed := true }
def UnZext16UptoSaid : Prop := unZext16UptoRow.holds Try.pinned (OpenSpec.upto unZext16Spec)

/-- 'gantletlaw1.UnZext32', WHERE WHAT IT READS IS OF BULK AT MOST 1048576: true; the input reads as it did. -/
def unZext32UptoRow : OpenClaim := { program := "ytjhambdfbfimiaa", sum := "afc68cfd063947788ca14e700ce5ba1b894a63ab0130a231840a0c3fc5e3cd96", func := "gantlet/gantletlaw1.UnZext32", spec := "unZext32", apart := false, narrowed := true }
def UnZext32UptoSaid : Prop := unZext32UptoRow.holds Try.pinned (OpenSpec.upto unZext32Spec)

/-- 'gantletlaw1.NumFits', WHERE WHAT IT READS IS OF BULK AT MOST 1048576: true; the input reads as it did. -/
def numFitsUptoRow : OpenClaim := { program := "ytjhambdfbfimiaa", sum := "afc68cfd063947788ca14e700ce5ba1b894a63ab0130a231840a0c3fc5e3cd96", func := "gantlet/gantletlaw1.NumFits", spec := "numFits", apart := false, narrowed := true }
def NumFitsUptoSaid : Prop := numFitsUptoRow.holds Try.pinned (OpenSpec.upto numFitsSpec)

end Rows
end Go.Proofs.Ytjhambdfbfimiaa
