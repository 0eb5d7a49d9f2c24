/- Virtual code as a program of the middle language: each place in a function begins a block. Plain laws; no program in sight. No condition. Kids, Size, Between, Num, IsLoad: small asks. No condition. Whether objects may be (plain). No condition. Which functions of virtual code may be (plain), and that they may be run. No program in sight. No condition. Which registers are live (plain): what an instruction reads and writes, where it goes on, the least solution, and how a search comes to it. No program in sight. No condition. A set of registers as words of 64 bits (plain). No program in sight. No condition. A function's labels, as the program keeps them: a map from numbers to places. No condition. Regions that draw their order: reads, then a tail in one forced order; the reads by the cheap step. No program in sight but its name. No condition. A function's labels: look-ups that say whether, stores. No condition. Trees whose rows of kids are all blocks of their own. No program in sight but its name. No condition. A row of trees of the call's own that grows by one. No program in sight but its name. No condition. count, Tree: how many nodes a tree has, and whether it may be. Conditions: as stated. CopyTree, CopyTrees: a tree in memory of its own. Conditions: as stated. How long a program's lists may be: what memory may hold. No program in sight. No condition. A memory of which some blocks alone are looked at; a row of its own whose elements lie in memory of their own. No condition. How long a program's lists may be: what memory may hold. No program in sight. No condition. Virtual code in a memory of which some blocks alone are looked at. No condition. A region that draws its order: a head whose operations only read and whose callees at most make new memory, then a tail in one forced order. No program in sight. No condition. A region that draws its order, by what holds after each set of its operations. No program in sight. No condition. A region that draws its order and whose operations at most make new memory, by what each operation's result is. No program in sight. No condition. A region that draws its order, makes one box and writes it whole; its other operations at most make new memory. No program in sight. No condition. A region that draws its order: a head by what each operation's result is, then a tail in one forced order. No program in sight. No condition. A sorted list made compact is rising, with the same members (plain). No condition. What is live ahead of a place, in words (plain). No program in sight. No condition. A region that draws its order: plain results, one store, operations that may come behind it, a forced tail. No program in sight. No condition. What is read as trees lies in memory as trees. No condition. What is read as programs lies in memory as programs. No condition. -/
import Derived.Test.YtlenilbkifofjaaDoorQ01Zz
import Derived.Test.YtlenilbkifofjaaDoorGKeptZz
import Derived.Test.YtlenilbkifofjaaDoorQ02Zz
import Derived.Lib.TrailingZeros
import Derived.Maps.OwnSet
import Derived.Maps.Views
import Derived.Deep.AppendLies
import Derived.StillTail
import Derived.Deep.Quiet
import Derived.Lib.SlicesCompact
import Derived.SizedLaws
import Derived.Deep.Slices
import Derived.Deep.Strs
import Derived.ProofKit
set_option linter.unusedVariables false
set_option linter.unusedSimpArgs false
namespace Go.Proofs.YtlenilbkifofjaaDoor
open Go.RowKit

def conT (n : Int) : T := .node 1 n []
def tmpT (r : Int) : T := .node 2 r []
/-- Where a label stands. -/
def labN (l : List InsS) (n : Int) : Nat := l.findIdx fun i => decide (i.op = 14 ∧ i.n = n)
/-- An instruction that does not go elsewhere, as a step. -/
def stepI (x : InsS) : StepS :=
  if x.op = 1 then ⟨1, x.dst, 0, 0, [conT x.n]⟩
  else if x.op = 2 then ⟨1, x.dst, 0, 0, [tmpT x.a]⟩
  else if x.op = 3 then ⟨1, x.dst, 0, 0, [.node 3 x.n []]⟩
  else if x.op = 4 then ⟨1, x.dst, 0, 0, [.node 4 x.n []]⟩
  else if x.op = 5 then ⟨1, x.dst, 0, 0, [.node x.n 0 [tmpT x.a, tmpT x.b]]⟩
  else if x.op = 6 then ⟨1, x.dst, 0, 0, [.node x.n 0 [tmpT x.a, conT (x.arg.getD 0 0)]]⟩
  else if x.op = 7 then ⟨1, x.dst, 0, 0, [.node x.n 0 [tmpT x.a]]⟩
  else if x.op = 8 then ⟨1, x.dst, 0, 0, [.node x.n 0 [.node 12 0 [tmpT x.a, conT x.b]]]⟩
  else if x.op = 9 then ⟨2, -1, x.n, 0, [.node 12 0 [tmpT x.a, conT x.b], tmpT x.dst]⟩
  else if x.op = 10 then ⟨3, x.dst, 0, x.n, x.arg.map tmpT⟩
  else if x.op = 11 then ⟨4, -1, 0, 0, [tmpT x.a]⟩
  else if x.op = 12 then ⟨5, x.dst, 0, 0, []⟩
  else if x.op = 13 then ⟨6, -1, 0, 0, [tmpT x.a]⟩
  else ⟨1, -1, 0, 0, [conT 0]⟩
/-- The block that begins at a place: what stands there and behind it. -/
def blockI (all : List InsS) : List InsS → Nat → BlockS
  | [], _ => ⟨[], 3, conT 0, 0, 0⟩
  | x :: r, k =>
    if x.op = 15 then ⟨[], 1, conT 0, (labN all x.n : Nat), 0⟩
    else if x.op = 16 then ⟨[], 2, tmpT x.a, (labN all x.n : Nat), (k + 1 : Nat)⟩
    else if x.op = 17 then ⟨[], 3, tmpT x.a, 0, 0⟩
    else { blockI all r (k + 1) with steps := stepI x :: (blockI all r (k + 1)).steps }
def blocksI (l : List InsS) : List BlockS := (List.range l.length).map fun k => blockI l (l.drop k) k
def codeG (c : CodeS) : GraphS := ⟨c.params, c.regs, c.locs, blocksI c.ins⟩
def virtG (v : VirtS) : ProgS := ⟨v.globs, v.funcs.map codeG, v.main⟩

theorem blocksI_len (l : List InsS) : (blocksI l).length = l.length := by simp [blocksI]
theorem blocksI_get {l : List InsS} {k : Nat} (hk : k < l.length) : (blocksI l)[k]? = some (blockI l (l.drop k) k) := by
  unfold blocksI
  rw [List.getElem?_map, List.getElem?_range hk]
  rfl
theorem blocksI_getD {l : List InsS} {k : Nat} (hk : k < l.length) : (blocksI l).getD k noBlock = blockI l (l.drop k) k := by
  rw [List.getD_eq_getElem?_getD, blocksI_get hk]
  rfl
theorem drop_cons {l : List InsS} {k : Nat} {x : InsS} (h : l[k]? = some x) : l.drop k = x :: l.drop (k + 1) := by
  obtain ⟨hk, hx⟩ := List.getElem?_eq_some_iff.1 h
  rw [List.drop_eq_getElem_cons hk, hx]
/-- An instruction that goes on behind itself. -/
def Straight (x : InsS) : Prop := x.op ≠ 15 ∧ x.op ≠ 16 ∧ x.op ≠ 17

section
variable {R : CallR} {fuel : Int} {lo : List Nat} {l : List InsS} {x : InsS} {k : Nat} {s : St} {tp : List V}
theorem blockI_straight (h : l[k]? = some x) (hx : Straight x) : blockI l (l.drop k) k = { blockI l (l.drop (k + 1)) (k + 1) with steps := stepI x :: (blockI l (l.drop (k + 1)) (k + 1)).steps } := by
  rw [drop_cons h, blockI, if_neg hx.1, if_neg hx.2.1, if_neg hx.2.2]
theorem blockF_cons {b : BlockS} {y : StepS} : blockF R fuel lo s tp { b with steps := y :: b.steps } = match doesF R fuel lo s tp y with
    | (true, s', tp') => blockF R fuel lo s' tp' b
    | (false, s', tp') => (.over, s', tp') := by
  unfold blockF
  rw [stepsF]
  rcases doesF R fuel lo s tp y with ⟨ok, s', tp'⟩
  cases ok <;> rfl
/-- An instruction that goes on behind itself, not the last one. -/
theorem goI_straight (h : l[k]? = some x) (hx : Straight x) (hk : k + 1 < l.length) (g : Nat) :
    blocksF R fuel lo (blocksI l) (g + 1) (k : Nat) s tp = match doesF R fuel lo s tp (stepI x) with
      | (true, s', tp') => blocksF R fuel lo (blocksI l) (g + 1) ((k + 1 : Nat) : Int) s' tp'
      | (false, s', _) => (none, s') := by
  have hkl : k < l.length := by omega
  rw [blocksF, Int.toNat_natCast, blocksI_getD hkl, blockI_straight h hx, blockF_cons]
  rcases hd : doesF R fuel lo s tp (stepI x) with ⟨ok, s', tp'⟩
  cases ok
  · rfl
  · simp only
    rw [blocksF, Int.toNat_natCast, blocksI_getD hk]
/-- An instruction that goes on behind itself and does not come through. -/
theorem goI_over (h : l[k]? = some x) (hx : Straight x) (g : Nat) (hd : (doesF R fuel lo s tp (stepI x)).1 = false) :
    blocksF R fuel lo (blocksI l) (g + 1) (k : Nat) s tp = (none, (doesF R fuel lo s tp (stepI x)).2.1) := by
  have hkl : k < l.length := (List.getElem?_eq_some_iff.1 h).1
  rw [blocksF, Int.toNat_natCast, blocksI_getD hkl, blockI_straight h hx, blockF_cons]
  rcases he : doesF R fuel lo s tp (stepI x) with ⟨ok, s', tp'⟩
  rw [he] at hd
  simp only at hd
  subst hd
  rfl
theorem goI_dry (h : l[k]? = some x) (hx : ¬ Straight x) (g : Nat) (hy : (stepF fuel 1 s).1 = false) :
    blocksF R fuel lo (blocksI l) (g + 1) (k : Nat) s tp = (none, (stepF fuel 1 s).2) := by
  have hkl : k < l.length := (List.getElem?_eq_some_iff.1 h).1
  have hst : (blockI l (l.drop k) k).steps = [] := by
    rw [drop_cons h, blockI]
    by_cases h15 : x.op = 15
    · rw [if_pos h15]
    by_cases h16 : x.op = 16
    · rw [if_neg h15, if_pos h16]
    by_cases h17 : x.op = 17
    · rw [if_neg h15, if_neg h16, if_pos h17]
    exact absurd ⟨h15, h16, h17⟩ hx
  rw [blocksF, Int.toNat_natCast, blocksI_getD hkl]
  unfold blockF
  rw [hst, stepsF]
  simp only [hy, if_true]
theorem goI_jump (h : l[k]? = some x) (hx : x.op = 15) (g : Nat) (hy : (stepF fuel 1 s).1 = true) :
    blocksF R fuel lo (blocksI l) (g + 1) (k : Nat) s tp = blocksF R fuel lo (blocksI l) g ((labN l x.n : Nat) : Int) (stepF fuel 1 s).2 tp := by
  have hkl : k < l.length := (List.getElem?_eq_some_iff.1 h).1
  rw [blocksF, Int.toNat_natCast, blocksI_getD hkl, drop_cons h, blockI, if_pos hx]
  unfold blockF
  rw [stepsF]
  simp only [hy]
  rfl
theorem evalT_tmp (M : List MO) (tp : List V) (lo : List Nat) (r : Int) : evalT M tp lo (tmpT r) = some (tp.getD r.toNat ⟨0, 0⟩) := by
  rw [tmpT, evalT, evalTs]
  rfl
theorem evalT_con (M : List MO) (tp : List V) (lo : List Nat) (n : Int) : evalT M tp lo (conT n) = some ⟨0, n⟩ := by
  rw [conT, evalT, evalTs]
  rfl
theorem goI_branch (h : l[k]? = some x) (hx : x.op = 16) (g : Nat) (hy : (stepF fuel 1 s).1 = true) :
    blocksF R fuel lo (blocksI l) (g + 1) (k : Nat) s tp = blocksF R fuel lo (blocksI l) g (if tp.getD x.a.toNat ⟨0, 0⟩ = ⟨0, 0⟩ then ((k + 1 : Nat) : Int) else ((labN l x.n : Nat) : Int)) (stepF fuel 1 s).2 tp := by
  have hkl : k < l.length := (List.getElem?_eq_some_iff.1 h).1
  have h15 : ¬ x.op = 15 := by omega
  rw [blocksF, Int.toNat_natCast, blocksI_getD hkl, drop_cons h, blockI, if_neg h15, if_pos hx]
  unfold blockF
  rw [stepsF]
  simp only [hy, evalT_tmp]
  rfl
theorem goI_ret (h : l[k]? = some x) (hx : x.op = 17) (g : Nat) (hy : (stepF fuel 1 s).1 = true) :
    blocksF R fuel lo (blocksI l) (g + 1) (k : Nat) s tp = (some (tp.getD x.a.toNat ⟨0, 0⟩), { (stepF fuel 1 s).2 with mem := killF (stepF fuel 1 s).2.mem lo, calls := (stepF fuel 1 s).2.calls - 1 }) := by
  have hkl : k < l.length := (List.getElem?_eq_some_iff.1 h).1
  have h15 : ¬ x.op = 15 := by omega
  have h16 : ¬ x.op = 16 := by omega
  rw [blocksF, Int.toNat_natCast, blocksI_getD hkl, drop_cons h, blockI, if_neg h15, if_neg h16, if_pos hx]
  unfold blockF
  rw [stepsF]
  simp only [hy, evalT_tmp]
  rfl
end
end Go.Proofs.YtlenilbkifofjaaDoor
namespace Go.Proofs.YtlenilbkifofjaaDoor
open Go.RowKit

def kidsI (op : Int) : Int := if op < 1 ∨ op > 36 then -1 else if op ≤ 4 then 0 else if 12 ≤ op ∧ op ≤ 30 then 2 else 1

def sizeB (n : Int) : Bool := decide (n = 1 ∨ n = 2 ∨ n = 4 ∨ n = 8)
def betwB (n a b : Int) : Bool := decide (a ≤ n ∧ n ≤ b)
def numB (n b : Int) : Bool := decide (0 ≤ n ∧ n ≤ b)
def loadB (op : Int) : Bool := decide (5 ≤ op ∧ op ≤ 11)

set_option maxHeartbeats 1000000 in
theorem size_any (n : Int) (w : World) :
    Calls Tryd.prog 69 #[.int .i64 n] w fun e w' => e = .returned (.bool (sizeB n)) ∧ w = w' := by
  unfold sizeB
  by_cases h1 : n = 1
  · subst h1
    go_enter Tryd.func69, Tryd.ntmps69
    go_wp2
    go_ret
    exact ⟨rfl, rfl⟩
  by_cases h2 : n = 2
  · subst h2
    go_enter Tryd.func69, Tryd.ntmps69
    go_wp2
    go_ret
    exact ⟨rfl, rfl⟩
  by_cases h3 : n = 4
  · subst h3
    go_enter Tryd.func69, Tryd.ntmps69
    go_wp2
    go_ret
    exact ⟨rfl, rfl⟩
  have e1 : (n == 1) = false := by simpa using h1
  have e2 : (n == 2) = false := by simpa using h2
  have e3 : (n == 4) = false := by simpa using h3
  have HE := Lib.hid (show decide (n = 1 ∨ n = 2 ∨ n = 4 ∨ n = 8) = (n == 8) by rw [Bool.eq_iff_iff]; simp [h1, h2, h3])
  clear h1 h2 h3
  go_enter Tryd.func69, Tryd.ntmps69
  go_wp2
  go_ret
  exact ⟨ret_b HE.out.symm, rfl⟩

set_option maxHeartbeats 1000000 in
theorem between_any (n a b : Int) (w : World) :
    Calls Tryd.prog 45 #[.int .i64 n, .int .i64 a, .int .i64 b] w fun e w' => e = .returned (.bool (betwB n a b)) ∧ w = w' := by
  unfold betwB
  by_cases h1 : a ≤ n
  · have HE := Lib.hid (show decide (a ≤ n ∧ n ≤ b) = decide (n ≤ b) by rw [Bool.eq_iff_iff]; simp [h1])
    go_enter Tryd.func45, Tryd.ntmps45
    go_wp2
    go_ret
    exact ⟨ret_b HE.out.symm, rfl⟩
  · have hd : decide (a ≤ n) = false := by simpa using h1
    have HE := Lib.hid (show decide (a ≤ n ∧ n ≤ b) = false by simp; omega)
    rw [HE.out]
    go_enter Tryd.func45, Tryd.ntmps45
    go_wp2
    go_ret
    exact ⟨rfl, rfl⟩

set_option maxHeartbeats 1000000 in
theorem num_any (n b : Int) (w : World) :
    Calls Tryd.prog 27 #[.int .i64 n, .int .i64 b] w fun e w' => e = .returned (.bool (numB n b)) ∧ w = w' := by
  unfold numB
  by_cases h1 : 0 ≤ n
  · have HE := Lib.hid (show decide (0 ≤ n ∧ n ≤ b) = decide (n ≤ b) by rw [Bool.eq_iff_iff]; simp [h1])
    go_enter Tryd.func27, Tryd.ntmps27
    go_wp2
    go_ret
    exact ⟨ret_b HE.out.symm, rfl⟩
  · have hd : decide (0 ≤ n) = false := by simpa using h1
    have HE := Lib.hid (show decide (0 ≤ n ∧ n ≤ b) = false by simp; omega)
    rw [HE.out]
    go_enter Tryd.func27, Tryd.ntmps27
    go_wp2
    go_ret
    exact ⟨rfl, rfl⟩
end Go.Proofs.YtlenilbkifofjaaDoor
namespace Go.Proofs.YtlenilbkifofjaaDoor
open Go.RowKit

def obB (o : ObS) : Bool := sizeB o.size && betwB o.count 1 64 && !decide ((o.init.length : Int) > o.count)
def obsB : List ObS → Bool
  | [] => true
  | o :: l => obB o && obsB l
def objsB (l : List ObS) (most : Int) : Bool := obsB l && decide ((l.length : Int) ≤ most)
end Go.Proofs.YtlenilbkifofjaaDoor
namespace Go.Proofs.YtlenilbkifofjaaDoor
open Go.RowKit

/-- What an op names: To, A, B as registers, N, Arg; none: there is no such op. -/
def namedI (x : InsS) : Option (Bool × Bool × Bool × Bool × Bool) :=
  if x.op = 1 ∨ x.op = 3 ∨ x.op = 4 then some (true, false, false, true, false)
  else if x.op = 2 then some (true, true, false, false, false)
  else if x.op = 5 then some (true, true, true, true, false)
  else if x.op = 6 then some (true, true, false, true, true)
  else if x.op = 7 ∨ x.op = 8 ∨ x.op = 9 then some (true, true, false, true, false)
  else if x.op = 10 then some (decide (x.dst ≠ -1), false, false, true, true)
  else if x.op = 11 ∨ x.op = 13 ∨ x.op = 17 then some (false, true, false, false, false)
  else if x.op = 12 then some (true, false, false, false, false)
  else if x.op = 14 ∨ x.op = 15 then some (false, false, false, true, false)
  else if x.op = 16 then some (false, true, false, true, false)
  else none
def regI (r : Int) (named : Bool) (none nr : Int) : Bool := if named = true then decide (0 ≤ r ∧ r < nr) else decide (r = none)
def immB (n : Int) : Bool := decide (-2147483648 ≤ n ∧ n ≤ 2147483647)
/-- A label's place; none: there is none. -/
def labI (l : List InsS) (n : Int) : Bool := l.any fun i => decide (i.op = 14 ∧ i.n = n)
def regsB (l : List Int) (nr : Int) : Bool := l.all fun r => decide (0 ≤ r ∧ r < nr)
/-- Is the number right? 'par': may a call of a function have so many? -/
def numberI (c : CodeS) (ng nf : Int) (par : Int → Int → Bool) (x : InsS) : Bool :=
  if x.op = 3 then decide (0 ≤ x.n ∧ x.n < c.locs.length)
  else if x.op = 4 then decide (0 ≤ x.n ∧ x.n < ng)
  else if x.op = 5 then decide (12 ≤ x.n ∧ x.n ≤ 30)
  else if x.op = 6 then decide (12 ≤ x.n ∧ x.n ≤ 30) && (decide (x.arg.length = 1) && immB (x.arg.getD 0 0))
  else if x.op = 7 then decide (31 ≤ x.n ∧ x.n ≤ 36)
  else if x.op = 8 then decide (5 ≤ x.n ∧ x.n ≤ 11) && immB x.b
  else if x.op = 9 then sizeB x.n && immB x.b
  else if x.op = 10 then decide (0 ≤ x.n ∧ x.n < nf) && (regsB x.arg c.regs && par x.n x.arg.length)
  else if x.op = 15 ∨ x.op = 16 then labI c.ins x.n
  else true
def freeI (x : InsS) : Bool := decide (x.op = 8 ∨ x.op = 9)
def insB (c : CodeS) (ng nf : Int) (par : Int → Int → Bool) (x : InsS) : Bool :=
  match namedI x with
  | none => false
  | some (t, a, b, n, r) => regI x.dst t (-1) c.regs && (regI x.a a 0 c.regs && ((freeI x || regI x.b b 0 c.regs) && ((n || decide (x.n = 0)) && ((r || decide (x.arg.length = 0)) && numberI c ng nf par x))))
/-- May the labels be, those ahead told? -/
def layB : List InsS → List InsS → Bool
  | _, [] => true
  | l, x :: r => (decide (x.op ≠ 14) || (!labI l x.n && decide (0 ≤ x.n ∧ x.n < 8000))) && layB (l ++ [x]) r
def lastB (c : CodeS) : Bool := decide ((c.ins.getD (c.ins.length - 1) ⟨0, 0, 0, 0, 0, []⟩).op = 15 ∨ (c.ins.getD (c.ins.length - 1) ⟨0, 0, 0, 0, 0, []⟩).op = 17 ∨ (c.ins.getD (c.ins.length - 1) ⟨0, 0, 0, 0, 0, []⟩).op = 13)
def headV (c : CodeS) : Prop := ¬ c.params < 0 ∧ ¬ c.params > 4 ∧ ¬ c.params > c.regs ∧ ¬ c.regs > 8000 ∧ objsB c.locs 400 = true ∧ ¬ (c.ins.length : Int) < 1 ∧ ¬ (c.ins.length : Int) > 8000 ∧ layB [] c.ins = true
instance (c : CodeS) : Decidable (headV c) := by unfold headV; exact inferInstance
def codeB (c : CodeS) (ng nf : Int) (par : Int → Int → Bool) : Bool := if headV c then (c.ins.all (insB c ng nf par) && lastB c) else false
def noCode : CodeS := ⟨0, 0, [], []⟩
def parV (v : VirtS) (fn n : Int) : Bool := decide ((v.funcs.getD fn.toNat noCode).params = n)
def vmayP (v : VirtS) : Prop := objsB v.globs 16 = true ∧ ¬ (v.funcs.length : Int) < 1 ∧ ¬ (v.funcs.length : Int) > 8 ∧ (0 ≤ v.main ∧ v.main < (v.funcs.length : Int)) ∧ (v.funcs.getD v.main.toNat noCode).params = 0
instance (v : VirtS) : Decidable (vmayP v) := by unfold vmayP; exact inferInstance
def vmayB (v : VirtS) : Bool := if vmayP v then v.funcs.all (fun c => codeB c v.globs.length v.funcs.length (parV v)) else false

/-- A program of virtual code whose numbers are numbers. -/
structure VirtIn (v : VirtS) : Prop where
  globs : ∀ o, o ∈ v.globs → ∀ x, x ∈ o.init → In64 x
  locs : ∀ c, c ∈ v.funcs → ∀ o, o ∈ c.locs → ∀ x, x ∈ o.init → In64 x
  ins : ∀ c, c ∈ v.funcs → ∀ i, i ∈ c.ins → In64 i.op ∧ In64 i.dst ∧ In64 i.a ∧ In64 i.b ∧ In64 i.n ∧ ∀ x, x ∈ i.arg → In64 x
theorem SliceAt.mem' {α : Type} {w : World} {B sz : Nat} {E : (Nat → Option Value) → α → Prop} {l : List α} {v : Value} (h : SliceAt w B sz E l v) {x : α} (hx : x ∈ l) : ∃ c, E c x := by
  obtain ⟨i, hi⟩ := List.mem_iff_getElem?.1 hx
  obtain ⟨A, cap, _, _, h2⟩ := h
  obtain ⟨b, off, _, _, h3⟩ := h2 (List.length_pos_of_mem hx)
  exact ⟨_, h3 i x hi⟩
theorem LongsAt.in64' {w : World} {B : Nat} {l : List Int} {v : Value} (h : LongsAt w B l v) : ∀ x, x ∈ l → In64 x := fun x hx => by
  obtain ⟨c, _, h⟩ := SliceAt.mem' h hx
  exact h
theorem VirtAt.pin {w : World} {B : Nat} {P : Value × Value × Value} {v : VirtS} (h : VirtAt w B P v) : VirtIn v := by
  obtain ⟨hg, hf, _⟩ := h
  refine ⟨fun o ho => ?_, fun c hcm o ho => ?_, fun c hcm i hi => ?_⟩
  · obtain ⟨c, _, _, ⟨u, _, hv⟩, _⟩ := hg.mem' ho
    exact hv.in64'
  · obtain ⟨c, _, _, ⟨u, _, hl⟩, _⟩ := hf.mem' hcm
    obtain ⟨c, _, _, ⟨u, _, hv⟩, _⟩ := hl.mem' ho
    exact hv.in64'
  · obtain ⟨c, _, _, _, ⟨u, _, hl⟩, _⟩ := hf.mem' hcm
    obtain ⟨c, _, _, _, _, _, ⟨u, _, hv⟩, h0, h1, h2, h3, h4⟩ := hl.mem' hi
    exact ⟨h0, h1, h2, h3, h4, hv.in64'⟩
end Go.Proofs.YtlenilbkifofjaaDoor
namespace Go.Proofs.YtlenilbkifofjaaDoor
open Go.RowKit

/-- The registers that an instruction reads, as it names them. -/
def regsL (x : InsS) : List Int :=
  if x.op = 2 ∨ x.op = 6 ∨ x.op = 7 ∨ x.op = 8 ∨ x.op = 11 ∨ x.op = 13 ∨ x.op = 16 ∨ x.op = 17 then [x.a]
  else if x.op = 5 then [x.a, x.b]
  else if x.op = 9 then [x.a, x.dst]
  else if x.op = 10 then x.arg
  else []
/-- The register that it writes; -1: none. -/
def defL (x : InsS) : Int :=
  if x.op = 1 ∨ x.op = 2 ∨ x.op = 3 ∨ x.op = 4 ∨ x.op = 5 ∨ x.op = 6 ∨ x.op = 7 ∨ x.op = 8 ∨ x.op = 10 ∨ x.op = 12 then x.dst else -1
/-- Rising, each once. -/
def Rise (l : List Int) : Prop := l.Pairwise (· < ·)
theorem Rise.ext : ∀ {l m : List Int}, Rise l → Rise m → (∀ x, x ∈ l ↔ x ∈ m) → l = m
  | [], [], _, _, _ => rfl
  | [], y :: m, _, _, h => by have := (h y).2 (by simp); simp at this
  | x :: l, [], _, _, h => by have := (h x).1 (by simp); simp at this
  | x :: l, y :: m, hl, hm, h => by
    obtain ⟨hl1, hl2⟩ := List.pairwise_cons.1 hl
    obtain ⟨hm1, hm2⟩ := List.pairwise_cons.1 hm
    have e : x = y := by
      rcases List.mem_cons.1 ((h x).1 (by simp)) with h1 | h1
      · exact h1
      · rcases List.mem_cons.1 ((h y).2 (by simp)) with h2 | h2
        · exact h2.symm
        · have := hl1 _ h2; have := hm1 _ h1; omega
    subst e
    rw [Rise.ext hl2 hm2 (fun z => ⟨fun hz => ?_, fun hz => ?_⟩)]
    · have := hl1 _ hz
      rcases List.mem_cons.1 ((h z).1 (by simp [hz])) with h1 | h1
      · omega
      · exact h1
    · have := hm1 _ hz
      rcases List.mem_cons.1 ((h z).2 (by simp [hz])) with h1 | h1
      · omega
      · exact h1
/-- A number put into a rising list, once. -/
def putL : List Int → Int → List Int
  | [], n => [n]
  | x :: r, n => if x < n then x :: putL r n else if x = n then x :: r else n :: x :: r
theorem putL_mem : ∀ {l : List Int} {n y : Int}, y ∈ putL l n ↔ y = n ∨ y ∈ l
  | [], n, y => by simp [putL]
  | x :: r, n, y => by
    rw [putL]
    split
    · rw [List.mem_cons, putL_mem, List.mem_cons]
      constructor
      · rintro (h | h | h) <;> simp [h]
      · rintro (h | h | h) <;> simp [h]
    · split
      · rename_i h1
        subst h1
        simp
      · simp
theorem putL_rise : ∀ {l : List Int} {n : Int}, Rise l → Rise (putL l n)
  | [], n, _ => by simp [putL, Rise]
  | x :: r, n, h => by
    obtain ⟨h1, h2⟩ := List.pairwise_cons.1 h
    rw [putL]
    split
    · rename_i hx
      refine List.pairwise_cons.2 ⟨fun y hy => ?_, putL_rise h2⟩
      rcases putL_mem.1 hy with rfl | hy
      · exact hx
      · exact h1 _ hy
    · split
      · exact h
      · refine List.pairwise_cons.2 ⟨fun y hy => ?_, h⟩
        rcases List.mem_cons.1 hy with rfl | hy
        · omega
        · have := h1 _ hy; omega
theorem foldPut_mem {m : List Int} : ∀ {l : List Int} {y : Int}, y ∈ m.foldl putL l ↔ y ∈ m ∨ y ∈ l := by
  induction m with
  | nil => intro l y; simp
  | cons a m ih =>
    intro l y
    rw [List.foldl_cons, ih, putL_mem, List.mem_cons]
    constructor
    · rintro (h | h | h) <;> simp [h]
    · rintro ((h | h) | h) <;> simp [h]
theorem foldPut_rise {m : List Int} : ∀ {l : List Int}, Rise l → Rise (m.foldl putL l) := by
  induction m with
  | nil => intro l h; exact h
  | cons a m ih => intro l h; exact ih (putL_rise h)
/-- The registers that an instruction reads, rising. -/
def usesL (x : InsS) : List Int := (regsL x).foldl putL []
theorem usesL_mem {x : InsS} {y : Int} : y ∈ usesL x ↔ y ∈ regsL x := by simp [usesL, foldPut_mem]
theorem usesL_rise {x : InsS} : Rise (usesL x) := foldPut_rise (by simp [Rise])
theorem usesL_of {x : InsS} {l : List Int} (h : Rise l) (hm : ∀ y, y ∈ l ↔ y ∈ regsL x) : l = usesL x := h.ext usesL_rise fun y => (hm y).trans usesL_mem.symm
theorem Rise.bound {l : List Int} {R : Nat} (h : Rise l) (hb : ∀ x, x ∈ l → 0 ≤ x ∧ x < R) : l.length ≤ R := by
  induction R generalizing l with
  | zero =>
    cases l with
    | nil => simp
    | cons x r => have := hb x (by simp); omega
  | succ R ih =>
    have hn : l.Nodup := List.Pairwise.imp (fun h => by omega) h
    have h1 : (l.erase (R : Int)).length ≤ R := by
      refine ih (List.Pairwise.sublist List.erase_sublist h) fun x hx => ?_
      obtain ⟨h2, h3⟩ := (List.Nodup.mem_erase_iff hn).1 hx
      have := hb x h3
      omega
    have h2 : l.length ≤ (l.erase (R : Int)).length + 1 := by
      rw [List.length_erase]
      split <;> omega
    omega

/-- Where it goes on behind a place. -/
def nextL (l : List InsS) (k : Nat) : List Nat :=
  match l[k]? with
  | none => []
  | some x => if x.op = 17 ∨ x.op = 13 then [] else if x.op = 15 then [labN l x.n] else if x.op = 16 then [k + 1, labN l x.n] else [k + 1]
/-- What is live ahead of a place, where all others are known. -/
def LiveF (l : List InsS) (L : Nat → Int → Prop) (k : Nat) (r : Int) : Prop := ∃ x, l[k]? = some x ∧ (r ∈ regsL x ∨ (r ≠ defL x ∧ ∃ n, n ∈ nextL l k ∧ L n r))
def memR (rows : List (List Int)) (k : Nat) (r : Int) : Prop := ∃ row, rows[k]? = some row ∧ r ∈ row
theorem LiveF.mono {l : List InsS} {L M : Nat → Int → Prop} (h : ∀ k r, L k r → M k r) {k : Nat} {r : Int} (hl : LiveF l L k r) : LiveF l M k r := by
  obtain ⟨x, hx, h1⟩ := hl
  exact ⟨x, hx, h1.imp id fun ⟨h2, n, h3, h4⟩ => ⟨h2, n, h3, h _ _ h4⟩⟩
/-- The least solution, as rising lists. -/
structure IsLive (l : List InsS) (rows : List (List Int)) : Prop where
  len : rows.length = l.length + 1
  rise : ∀ row, row ∈ rows → Rise row
  pre : ∀ k r, LiveF l (memR rows) k r → memR rows k r
  least : ∀ M : Nat → Int → Prop, (∀ k r, LiveF l M k r → M k r) → ∀ k r, memR rows k r → M k r
theorem IsLive.only {l : List InsS} {a b : List (List Int)} (ha : IsLive l a) (hb : IsLive l b) : a = b := by
  have hm : ∀ k r, memR a k r ↔ memR b k r := fun k r => ⟨ha.least _ hb.pre k r, hb.least _ ha.pre k r⟩
  refine List.ext_getElem (by rw [ha.len, hb.len]) fun k h1 h2 => ?_
  refine (ha.rise _ (List.getElem_mem h1)).ext (hb.rise _ (List.getElem_mem h2)) fun r => ?_
  have h := hm k r
  unfold memR at h
  rw [List.getElem?_eq_getElem h1, List.getElem?_eq_getElem h2] at h
  simpa using h

/-- A search under way: nothing is told live that is not. -/
structure Flow (l : List InsS) (R : Nat) (rows : List (List Int)) : Prop where
  len : rows.length = l.length + 1
  rise : ∀ row, row ∈ rows → Rise row
  bound : ∀ row, row ∈ rows → ∀ x, x ∈ row → 0 ≤ x ∧ x < R
  asc : ∀ k r, memR rows k r → LiveF l (memR rows) k r
  low : ∀ M : Nat → Int → Prop, (∀ k r, LiveF l M k r → M k r) → ∀ k r, memR rows k r → M k r
theorem memR_nil {n k : Nat} {r : Int} : ¬ memR (List.replicate n []) k r := by
  rintro ⟨row, h1, h2⟩
  have := List.eq_of_mem_replicate (List.mem_of_getElem? h1)
  subst this
  simp at h2
theorem Flow.start (l : List InsS) (R : Nat) : Flow l R (List.replicate (l.length + 1) []) where
  len := by simp
  rise := fun row h => by rw [List.eq_of_mem_replicate h]; simp [Rise]
  bound := fun row h x hx => by rw [List.eq_of_mem_replicate h] at hx; simp at hx
  asc := fun k r h => absurd h memR_nil
  low := fun M _ k r h => absurd h memR_nil
theorem memR_set {rows : List (List Int)} {k j : Nat} {x : List Int} {r : Int} (hk : k < rows.length) : memR (rows.set k x) j r ↔ if k = j then r ∈ x else memR rows j r := by
  unfold memR
  rw [List.getElem?_set]
  by_cases h : k = j
  · subst h
    simp [hk]
  · simp [h]
/-- How much may still come. -/
def roomL (R : Nat) (rows : List (List Int)) : Nat := (rows.map fun row => R - row.length).sum
theorem roomL_set {R : Nat} {x : List Int} : ∀ {rows : List (List Int)} {k : Nat} (hk : k < rows.length), rows[k].length < x.length → x.length ≤ R → roomL R (rows.set k x) < roomL R rows
  | y :: rows, 0, _, h, hR => by
    simp only [List.getElem_cons_zero] at h
    simp only [roomL, List.set_cons_zero, List.map_cons, List.sum_cons]
    omega
  | y :: rows, k + 1, hk, h, hR => by
    simp only [List.getElem_cons_succ] at h
    have := roomL_set (rows := rows) (k := k) (by simpa using hk) h hR
    simp only [roomL, List.set_cons_succ, List.map_cons, List.sum_cons] at this ⊢
    omega
theorem Rise.sub_len {l m : List Int} (hl : Rise l) (hm : Rise m) (h : ∀ x, x ∈ l → x ∈ m) : l.length ≤ m.length ∧ (l.length = m.length → l = m) := by
  have e : l = m.filter (fun x => decide (x ∈ l)) := hl.ext (List.Pairwise.sublist List.filter_sublist hm) fun x => by
    rw [List.mem_filter]
    exact ⟨fun hx => ⟨h x hx, by simpa using hx⟩, fun hx => by simpa using hx.2⟩
  have h1 := List.length_filter_le (fun x => decide (x ∈ l)) m
  rw [← e] at h1
  refine ⟨h1, fun he => hl.ext hm fun x => ⟨h x, fun hx => ?_⟩⟩
  rw [e] at he
  have := List.length_filter_eq_length_iff.1 he x hx
  simpa using this
section
variable {l : List InsS} {R : Nat} {rows : List (List Int)} {k : Nat} {x : List Int}
theorem Flow.sub (h : Flow l R rows) (hk : k < l.length) (hm : ∀ r, r ∈ x ↔ LiveF l (memR rows) k r) : ∀ r, r ∈ rows[k]'(by have := h.len; omega) → r ∈ x := by
  intro r hr
  have hk' : k < rows.length := by have := h.len; omega
  exact (hm r).2 (h.asc k r ⟨_, List.getElem?_eq_getElem hk', hr⟩)
/-- One place reckoned anew. -/
theorem Flow.set (h : Flow l R rows) (hk : k < l.length) (hx : Rise x) (hb : ∀ y, y ∈ x → 0 ≤ y ∧ y < R) (hm : ∀ r, r ∈ x ↔ LiveF l (memR rows) k r) : Flow l R (rows.set k x) := by
  have hk' : k < rows.length := by have := h.len; omega
  have hup : ∀ j r, memR rows j r → memR (rows.set k x) j r := by
    intro j r hr
    rw [memR_set hk']
    split
    · rename_i e
      subst e
      obtain ⟨row, h1, h2⟩ := hr
      obtain ⟨_, h3⟩ := List.getElem?_eq_some_iff.1 h1
      exact h.sub hk hm r (by rw [h3]; exact h2)
    · exact hr
  refine ⟨by rw [List.length_set]; exact h.len, fun row hr => ?_, fun row hr => ?_, fun j r hj => ?_, fun M hM j r hj => ?_⟩
  · rcases List.mem_or_eq_of_mem_set hr with h1 | rfl
    · exact h.rise _ h1
    · exact hx
  · rcases List.mem_or_eq_of_mem_set hr with h1 | rfl
    · exact h.bound _ h1
    · exact hb
  · rw [memR_set hk'] at hj
    split at hj
    · rename_i e
      subst e
      exact LiveF.mono hup ((hm r).1 hj)
    · exact LiveF.mono hup (h.asc j r hj)
  · rw [memR_set hk'] at hj
    split at hj
    · rename_i e
      subst e
      exact hM _ _ (LiveF.mono (h.low M hM) ((hm r).1 hj))
    · exact h.low M hM j r hj
theorem Flow.turn (h : Flow l R rows) (hk : k < l.length) (hx : Rise x) (hb : ∀ y, y ∈ x → 0 ≤ y ∧ y < R) (hm : ∀ r, r ∈ x ↔ LiveF l (memR rows) k r) (hne : x ≠ rows[k]'(by have := h.len; omega)) : roomL R (rows.set k x) < roomL R rows := by
  have hk' : k < rows.length := by have := h.len; omega
  have h1 := (h.rise _ (List.getElem_mem hk')).sub_len hx (h.sub hk hm)
  refine roomL_set hk' ?_ (hx.bound hb)
  rcases Nat.lt_or_eq_of_le h1.1 with h2 | h2
  · exact h2
  · exact absurd (h1.2 h2).symm hne
/-- Nothing turns any more. -/
theorem Flow.done (h : Flow l R rows) (hs : ∀ k, k < l.length → ∀ r, LiveF l (memR rows) k r → memR rows k r) : IsLive l rows := by
  refine ⟨h.len, h.rise, fun k r hr => ?_, h.low⟩
  have hr' := hr
  obtain ⟨x, hx, _⟩ := hr'
  exact hs k (List.getElem?_eq_some_iff.1 hx).1 r hr
end
end Go.Proofs.YtlenilbkifofjaaDoor
namespace Go.Proofs.YtlenilbkifofjaaDoor
open Go.RowKit

/-- A word's bits, rising. -/
def bitsW (w : Nat) : List Nat := (List.range 64).filter fun j => w.testBit j
/-- The registers of the words from the i-th on, rising. -/
def listW : Nat → List Nat → List Int
  | _, [] => []
  | i, w :: r => (bitsW w).map (fun j => ((i * 64 + j : Nat) : Int)) ++ listW (i + 1) r
theorem bitsW_mem {w j : Nat} : j ∈ bitsW w ↔ j < 64 ∧ w.testBit j = true := by simp [bitsW, List.mem_filter]
theorem bitsW_rise {w : Nat} : (bitsW w).Pairwise (· < ·) := List.Pairwise.sublist List.filter_sublist List.pairwise_lt_range
theorem listW_mem : ∀ {ws : List Nat} {i : Nat} {r : Int}, r ∈ listW i ws ↔ ∃ k j w, ws[k]? = some w ∧ j < 64 ∧ w.testBit j = true ∧ r = (((i + k) * 64 + j : Nat) : Int)
  | [], i, r => by simp [listW]
  | w :: ws, i, r => by
    rw [listW, List.mem_append, listW_mem]
    constructor
    · rintro (h | ⟨k, j, v, h1, h2, h3, h4⟩)
      · obtain ⟨j, hj, rfl⟩ := List.mem_map.1 h
        obtain ⟨h1, h2⟩ := bitsW_mem.1 hj
        exact ⟨0, j, w, rfl, h1, h2, by simp⟩
      · exact ⟨k + 1, j, v, by simpa using h1, h2, h3, by rw [h4]; congr 3; omega⟩
    · rintro ⟨k, j, v, h1, h2, h3, h4⟩
      cases k with
      | zero =>
        simp at h1
        subst h1
        exact Or.inl (List.mem_map.2 ⟨j, bitsW_mem.2 ⟨h2, h3⟩, by rw [h4]; simp⟩)
      | succ k => exact Or.inr ⟨k, j, v, by simpa using h1, h2, h3, by rw [h4]; congr 3; omega⟩
theorem listW_low {ws : List Nat} {i : Nat} {r : Int} (h : r ∈ listW i ws) : (i * 64 : Nat) ≤ r ∧ r < ((i + ws.length) * 64 : Nat) := by
  obtain ⟨k, j, w, h1, h2, _, rfl⟩ := listW_mem.1 h
  have := (List.getElem?_eq_some_iff.1 h1).1
  omega
theorem listW_rise : ∀ {ws : List Nat} {i : Nat}, Rise (listW i ws)
  | [], _ => by simp [listW, Rise]
  | w :: ws, i => by
    refine List.pairwise_append.2 ⟨?_, listW_rise, fun a ha b hb => ?_⟩
    · rw [List.pairwise_map]
      exact List.Pairwise.imp (fun h => by omega) bitsW_rise
    · obtain ⟨j, hj, rfl⟩ := List.mem_map.1 ha
      have := (bitsW_mem.1 hj).1
      have := (listW_low hb).1
      omega
/-- A register's word and bit. -/
theorem listW_at {ws : List Nat} {r : Nat} : (r : Int) ∈ listW 0 ws ↔ ∃ w, ws[r / 64]? = some w ∧ w.testBit (r % 64) = true := by
  rw [listW_mem]
  constructor
  · rintro ⟨k, j, w, h1, h2, h3, h4⟩
    have e : r = k * 64 + j := by omega
    have e1 : r / 64 = k := by omega
    have e2 : r % 64 = j := by omega
    exact ⟨w, by rw [e1]; exact h1, by rw [e2]; exact h3⟩
  · rintro ⟨w, h1, h2⟩
    exact ⟨r / 64, r % 64, w, h1, by omega, h2, by omega⟩
theorem listW_ext {a b : List Nat} (hl : a.length = b.length) (ha : ∀ w, w ∈ a → w < 2 ^ 64) (hb : ∀ w, w ∈ b → w < 2 ^ 64) (h : listW 0 a = listW 0 b) : a = b := by
  refine List.ext_getElem hl fun k h1 h2 => ?_
  refine Nat.eq_of_testBit_eq fun j => ?_
  by_cases hj : j < 64
  · have e : ∀ (l : List Nat) (hk : k < l.length), ((k * 64 + j : Nat) : Int) ∈ listW 0 l ↔ l[k].testBit j = true := by
      intro l hk
      rw [listW_at, show (k * 64 + j) / 64 = k from by omega, show (k * 64 + j) % 64 = j from by omega, List.getElem?_eq_getElem hk]
      simp
    have e1 := e a h1
    have e2 := e b h2
    rw [h, e2] at e1
    cases hx : a[k].testBit j <;> cases hy : b[k].testBit j <;> simp [hx, hy] at e1 ⊢
  · have t : ∀ w : Nat, w < 2 ^ 64 → w.testBit j = false := fun w hw => Nat.testBit_lt_two_pow (Nat.lt_of_lt_of_le hw (Nat.pow_le_pow_right (by omega) (by omega)))
    rw [t _ (ha _ (List.getElem_mem h1)), t _ (hb _ (List.getElem_mem h2))]

/-- The registers put in, struck out, joined. -/
def putW (ws : List Nat) (r : Nat) : List Nat := ws.set (r / 64) (ws.getD (r / 64) 0 ||| 2 ^ (r % 64))
def dropW (ws : List Nat) (r : Nat) : List Nat := ws.set (r / 64) (ws.getD (r / 64) 0 &&& (2 ^ 64 - 1 - 2 ^ (r % 64)))
def joinW (a b : List Nat) : List Nat := List.zipWith (· ||| ·) a b
def In64W (ws : List Nat) : Prop := ∀ w, w ∈ ws → w < 2 ^ 64
theorem getD_of {ws : List Nat} {k : Nat} (h : k < ws.length) : ws.getD k 0 = ws[k] := by rw [List.getD_eq_getElem?_getD, List.getElem?_eq_getElem h, Option.getD_some]
theorem listW_set {ws : List Nat} {k v : Nat} {q : Nat} (hk : k < ws.length) : (q : Int) ∈ listW 0 (ws.set k v) ↔ if k = q / 64 then v.testBit (q % 64) = true else (q : Int) ∈ listW 0 ws := by
  rw [listW_at, List.getElem?_set]
  by_cases h : k = q / 64
  · subst h
    simp [hk]
  · rw [if_neg h, if_neg h, listW_at]
theorem putW_mem {ws : List Nat} {r q : Nat} (hr : r / 64 < ws.length) : (q : Int) ∈ listW 0 (putW ws r) ↔ q = r ∨ (q : Int) ∈ listW 0 ws := by
  rw [putW, listW_set hr]
  by_cases h : r / 64 = q / 64
  · rw [if_pos h, Nat.testBit_or, getD_of hr, Nat.testBit_two_pow, listW_at, ← h, List.getElem?_eq_getElem hr]
    simp only [Bool.or_eq_true, decide_eq_true_eq, Option.some.injEq, exists_eq_left']
    constructor
    · rintro (h1 | h1)
      · exact Or.inr h1
      · exact Or.inl (by omega)
    · rintro (h1 | h1)
      · exact Or.inr (by rw [h1])
      · exact Or.inl h1
  · rw [if_neg h]
    exact ⟨Or.inr, fun h1 => h1.resolve_left (fun e => h (by rw [e]))⟩
theorem testBit_all {j : Nat} (h : j < 64) {n : Nat} (hn : n < 64) : (2 ^ 64 - 1 - 2 ^ n).testBit j = decide (j ≠ n) := by
  rw [Nat.sub_sub, Nat.add_comm 1, Nat.testBit_two_pow_sub_succ (Nat.pow_lt_pow_right (by omega) hn), Nat.testBit_two_pow]
  by_cases e : n = j
  · simp [e]
  · simp [e, h, Ne.symm e]
theorem dropW_mem {ws : List Nat} {r q : Nat} (hr : r / 64 < ws.length) : (q : Int) ∈ listW 0 (dropW ws r) ↔ q ≠ r ∧ (q : Int) ∈ listW 0 ws := by
  rw [dropW, listW_set hr]
  by_cases h : r / 64 = q / 64
  · rw [if_pos h, Nat.testBit_and, getD_of hr, testBit_all (by omega) (by omega), listW_at, ← h, List.getElem?_eq_getElem hr]
    simp only [Bool.and_eq_true, decide_eq_true_eq, Option.some.injEq, exists_eq_left']
    constructor
    · rintro ⟨h1, h2⟩
      exact ⟨fun e => h2 (by rw [e]), h1⟩
    · rintro ⟨h1, h2⟩
      exact ⟨h2, fun e => h1 (by omega)⟩
  · rw [if_neg h]
    exact ⟨fun h1 => ⟨fun e => h (by rw [e]), h1⟩, And.right⟩
theorem joinW_mem {a b : List Nat} {q : Nat} (hl : a.length = b.length) : (q : Int) ∈ listW 0 (joinW a b) ↔ (q : Int) ∈ listW 0 a ∨ (q : Int) ∈ listW 0 b := by
  rw [listW_at, listW_at, listW_at]
  unfold joinW
  rw [List.getElem?_zipWith]
  by_cases h : q / 64 < a.length
  · rw [List.getElem?_eq_getElem h, List.getElem?_eq_getElem (by omega : q / 64 < b.length)]
    simp [Nat.testBit_or]
  · rw [List.getElem?_eq_none (by omega), List.getElem?_eq_none (by omega)]
    simp
theorem putW_len {ws : List Nat} {r : Nat} : (putW ws r).length = ws.length := by simp [putW]
theorem dropW_len {ws : List Nat} {r : Nat} : (dropW ws r).length = ws.length := by simp [dropW]
theorem joinW_len {a b : List Nat} (hl : a.length = b.length) : (joinW a b).length = a.length := by simp [joinW, hl]
theorem getD_lt {ws : List Nat} (h : In64W ws) (k : Nat) : ws.getD k 0 < 2 ^ 64 := by
  by_cases hk : k < ws.length
  · rw [getD_of hk]; exact h _ (List.getElem_mem hk)
  · rw [List.getD_eq_getElem?_getD, List.getElem?_eq_none (by omega)]; simp
theorem set_64 {ws : List Nat} (h : In64W ws) {k v : Nat} (hv : v < 2 ^ 64) : In64W (ws.set k v) := by
  intro w hw
  rcases List.mem_or_eq_of_mem_set hw with h1 | rfl
  · exact h _ h1
  · exact hv
theorem putW_64 {ws : List Nat} (h : In64W ws) (r : Nat) : In64W (putW ws r) := set_64 h (Nat.or_lt_two_pow (getD_lt h _) (Nat.pow_lt_pow_right (by omega) (by omega)))
theorem dropW_64 {ws : List Nat} (h : In64W ws) (r : Nat) : In64W (dropW ws r) := set_64 h (Nat.lt_of_le_of_lt Nat.and_le_left (getD_lt h _))
theorem joinW_64 {a b : List Nat} (ha : In64W a) (hb : In64W b) : In64W (joinW a b) := by
  intro w hw
  unfold joinW at hw
  obtain ⟨k, hk, rfl⟩ := List.mem_iff_getElem.1 hw
  rw [List.getElem_zipWith]
  exact Nat.or_lt_two_pow (ha _ (List.getElem_mem _)) (hb _ (List.getElem_mem _))
/-- The lowest bit, and what is left. -/
theorem bitsW_next {w : Nat} (h0 : w ≠ 0) (h : w < 2 ^ 64) : bitsW w = Lib.ctz 64 w :: bitsW (w &&& (w - 1)) ∧ Lib.ctz 64 w < 64 ∧ w &&& (w - 1) < w := by
  obtain ⟨m, hm, hk⟩ := Lib.ctzFrom_spec 64 w (by omega) h
  have hc : Lib.ctz 64 w = Lib.ctzFrom 64 w := by simp [Lib.ctz, h0]
  rw [hc]
  generalize Lib.ctzFrom 64 w = k at hm hk ⊢
  have hp : 0 < 2 ^ k := Nat.two_pow_pos k
  have hb : ∀ j, w.testBit j = (decide (k ≤ j) && (2 * m + 1).testBit (j - k)) := fun j => by rw [hm, Nat.testBit_two_pow_mul]
  have hw1 : w - 1 = 2 ^ k * (2 * m) + (2 ^ k - 1) := by
    rw [hm, Nat.mul_add, Nat.mul_one]
    omega
  have hb1 : ∀ j, (w - 1).testBit j = if j < k then true else (2 * m).testBit (j - k) := fun j => by
    rw [hw1, Nat.testBit_two_pow_mul_add _ (by omega)]
    split
    · rename_i hj
      rw [Nat.testBit_two_pow_sub_one]
      simpa using hj
    · rfl
  have hbb : ∀ j, (w &&& (w - 1)).testBit j = (w.testBit j && decide (j ≠ k)) := fun j => by
    rw [Nat.testBit_and, hb1, hb]
    by_cases h1 : j < k
    · simp [Nat.not_le.2 h1]
    · rw [if_neg h1]
      by_cases h2 : j = k
      · subst h2
        simp
      · obtain ⟨i, hi⟩ : ∃ i, j - k = i + 1 := ⟨j - k - 1, by omega⟩
        rw [hi]
        simp only [Nat.testBit_succ]
        have e1 : (2 * m + 1) / 2 = m := by omega
        have e2 : 2 * m / 2 = m := by omega
        rw [e1, e2]
        simp [h2]
  refine ⟨?_, hk, ?_⟩
  · have hx : (bitsW w).map (fun j : Nat => (j : Int)) = (k :: bitsW (w &&& (w - 1))).map (fun j : Nat => (j : Int)) := by
      refine Rise.ext ?_ ?_ fun x => ?_
      · unfold Rise
        rw [List.pairwise_map]
        exact List.Pairwise.imp (fun h => by omega) bitsW_rise
      · unfold Rise
        rw [List.pairwise_map]
        refine List.Pairwise.imp (R := (· < ·)) (fun h => by omega) (List.pairwise_cons.2 ⟨fun j hj => ?_, bitsW_rise⟩)
        obtain ⟨h1, h2⟩ := bitsW_mem.1 hj
        rw [hbb, hb] at h2
        simp only [Bool.and_eq_true, decide_eq_true_eq] at h2
        omega
      · simp only [List.mem_map, List.mem_cons, bitsW_mem]
        constructor
        · rintro ⟨j, ⟨h1, h2⟩, rfl⟩
          by_cases e : j = k
          · exact ⟨j, Or.inl e, rfl⟩
          · exact ⟨j, Or.inr ⟨h1, by rw [hbb, h2]; simpa using e⟩, rfl⟩
        · rintro ⟨j, (rfl | ⟨h1, h2⟩), rfl⟩
          · exact ⟨j, ⟨hk, by rw [hb]; simp⟩, rfl⟩
          · rw [hbb, Bool.and_eq_true] at h2
            exact ⟨j, ⟨h1, h2.1⟩, rfl⟩
    exact (List.map_inj_right (fun a b h => Int.ofNat.inj h)).1 hx
  · have := Nat.and_le_right (n := w) (m := w - 1)
    omega
theorem bitsW_zero : bitsW 0 = [] := by simp [bitsW]
end Go.Proofs.YtlenilbkifofjaaDoor
namespace Go.Proofs.YtlenilbkifofjaaDoor
open Go.RowKit Go.Maps

theorem lab_law : Keyed Tryd.prog 2 := int_keyed Tryd.underlying2
theorem lab_zero (w : World) : (zeroValue 3).run Tryd.prog w = .ok (.int .i64 0) w := by kernel_rfl
theorem lab_key {k : Int} (h : In64 k) : keyOf Tryd.prog 2 (.int .i64 k) = some (.int .i64 k) := keyOf_int_mk Tryd.underlying2 (WalkArith.wf_i64 (by unfold In64 at h; omega))
/-- What the map says of each number. -/
def LabD (f : Int → Option Nat) (D : DataW Unit) : Prop := ∀ k, In64 k → Maps.has D (.int .i64 k) = (f k).isSome ∧ D.atKey (.int .i64 k) (.lit (.int .i64 0)) = .lit (.int .i64 ((f k).getD 0 : Nat))
def LabM (w : World) (b n : Nat) (f : Int → Option Nat) : Prop := ∃ D : DataW Unit, w.ownsMap Tryd.prog 2 (plainElem Tryd.prog 3) b n D ∧ LabD f D
theorem LabM.made (w : World) : LabM (w.alloc (.map #[] 0)) w.heap.size 0 (fun _ => none) :=
  ⟨.map [], World.ownsMap_made _ _ _ _, fun k _ => ⟨rfl, rfl⟩⟩
theorem LabM.heap {w w' : World} {b n : Nat} {f : Int → Option Nat} (h : LabM w b n f) (hb : w'.heap[b]? = w.heap[b]?) : LabM w' b n f := by
  obtain ⟨D, ⟨es, clock, h1, h2⟩, h3⟩ := h
  exact ⟨D, ⟨es, clock, hb.trans h1, h2⟩, h3⟩
theorem LabM.lt {w : World} {b n : Nat} {f : Int → Option Nat} (h : LabM w b n f) : b < w.heap.size := by
  obtain ⟨D, h1, _⟩ := h
  exact h1.lt
theorem LabM.wr {F : Nat → Prop} {w w' : World} {b n : Nat} {f : Int → Option Nat} (h : LabM w b n f) (hw : Wr F w w') (hF : ¬ F b) : LabM w' b n f := h.heap (hw.block b h.lt hF)
theorem LabM.below {w w' : World} {b n : Nat} {f : Int → Option Nat} (h : LabM w b n f) (hw : Below w.heap.size w w') : LabM w' b n f := h.heap (hw.block b h.lt)
/-- Not a row. -/
theorem LabM.ne {w : World} {b n g : Nat} {f : Int → Option Nat} {cs : Array Value} {t : TypeId} (h : LabM w b n f) (hr : Row w g cs t) : b ≠ g := by
  rintro rfl
  obtain ⟨D, ⟨es, clock, h1, _⟩, _⟩ := h
  have h2 := h1.symm.trans (show w.heap[b]? = some (.cells cs t (0, 0)) from hr)
  exact Obj.noConfusion (Option.some.inj h2)
set_option maxRecDepth 100000 in
/-- A label's look-up. -/
theorem LabM.look {w : World} {b n : Nat} {f : Int → Option Nat} (h : LabM w b n f) {k : Int} (hk : In64 k) : (Instr.lookup 73 (.map (some b)) (.int .i64 k) false).run Tryd.prog w = .ok (.int .i64 ((f k).getD 0 : Nat)) w := by
  obtain ⟨D, h1, h2⟩ := h
  obtain ⟨c, hrun, hat, _⟩ := h1.lookup_int lab_law Tryd.underlying73 Tryd.underlying3 (lab_zero w) (lab_key hk)
  have := (h2 k hk).2
  rw [hat] at this
  injection this with this
  injection this with _ this
  rw [hrun, this]
/-- Where a label stands, if it is there. -/
def labO (l : List InsS) (n : Int) : Option Nat := if labI l n = true then some (labN l n) else none
theorem labI_snoc {l : List InsS} {x : InsS} {n : Int} : labI (l ++ [x]) n = (labI l n || decide (x.op = 14 ∧ x.n = n)) := by simp [labI]
theorem labN_old {l r : List InsS} {n : Int} (h : labI l n = true) : labN (l ++ r) n = labN l n := by
  unfold labI at h
  unfold labN
  rw [List.findIdx_append, if_pos]
  rw [List.any_eq_true] at h
  obtain ⟨x, hx, hp⟩ := h
  exact List.findIdx_lt_length_of_exists ⟨x, hx, hp⟩
theorem labN_new {l : List InsS} {x : InsS} {n : Int} (h : labI l n = false) (hx : x.op = 14 ∧ x.n = n) : labN (l ++ [x]) n = l.length := by
  unfold labI at h
  unfold labN
  have hl : l.findIdx (fun i => decide (i.op = 14 ∧ i.n = n)) = l.length := by
    rw [List.findIdx_eq_length]
    intro y hy
    cases hp : decide (y.op = 14 ∧ y.n = n) with
    | false => rfl
    | true =>
      have this : l.any (fun i => decide (i.op = 14 ∧ i.n = n)) = true := List.any_eq_true.2 ⟨y, hy, hp⟩
      rw [h] at this
      cases this
  rw [List.findIdx_append, hl, if_neg (by omega)]
  have : List.findIdx (fun i => decide (i.op = 14 ∧ i.n = n)) [x] = 0 := by
    rw [List.findIdx_cons, decide_eq_true hx]
    rfl
  omega
theorem labO_other {l : List InsS} {x : InsS} {n : Int} (hx : ¬ (x.op = 14 ∧ x.n = n)) : labO (l ++ [x]) n = labO l n := by
  unfold labO
  rw [labI_snoc, decide_eq_false hx, Bool.or_false]
  by_cases h : labI l n = true
  · rw [if_pos h, if_pos h, labN_old h]
  · rw [if_neg h, if_neg h]
theorem labO_new {l : List InsS} {x : InsS} (h : labI l x.n = false) (hx : x.op = 14) : labO (l ++ [x]) x.n = some l.length := by
  unfold labO
  rw [labI_snoc, decide_eq_true ⟨hx, rfl⟩, Bool.or_true, if_pos rfl, labN_new h ⟨hx, rfl⟩]
end Go.Proofs.YtlenilbkifofjaaDoor
namespace Go.Proofs.YtlenilbkifofjaaDoor
open Go.RowKit

theorem still_of_quiet {P : Program} {ops : Array Oper} {w : World} {Q : Act → Prop} : ∀ {l : List Oper} {a : Act}, wpQuiet P ops (fun w' => w' = w) Q l a → wpStill P ops w Q l a := by
  intro l
  induction l with
  | nil => intro a h; exact h
  | cons o rest ih =>
    intro a h
    unfold wpQuiet at h
    unfold wpStill
    split
    · rename_i hw
      rw [if_pos hw] at h
      obtain ⟨v, h1, h2⟩ := h
      have h3 := h1 w rfl
      unfold Oper.quietAt at h3
      unfold Oper.still
      generalize (execOp a.eval o).run P w = r at *
      cases r with
      | ok n w' =>
        cases n <;> simp only [Oper.quietUpon] at h3 <;> simp only [Oper.stillUpon]
        case value u => obtain ⟨e1, e2⟩ := h3; subst e2; exact ⟨e1, ih h2⟩
        case skip => obtain ⟨e1, e2⟩ := h3; subst e2; exact ⟨e1, ih h2⟩
        case enter f args => exact ⟨h3.1, v, h3.2, ih h2⟩
      | halt x w' => simp only [Oper.quietUpon] at h3
    · rename_i hw
      rw [if_neg hw] at h
      exact ih h
theorem still_tailq {P : Program} {id : Nat} {Q : Exit → Act → World → Prop} {a : Act} {w : World} {l : List Oper} (n : Nat) (hm : P.follows .mixedOrders = true) (hB : Region.lexTailB .any l.toArray n = true)
    (h : wpQuiet P l.toArray (fun w' => w' = w.drew) (fun a' => wpList P l.toArray Q (l.drop n) a' w.drew) (l.take n) a) : (Code.region id l.toArray true).wp P Q a w :=
  still_tail n hm hB (still_of_quiet h)
/-- What stands behind a code, as a letter: 'go_wp2' tries the return at each body's end, at great cost. -/
theorem wp_letter {P : Program} {c : Code} {a : Act} {w : World} {R : Exit → Act → World → Prop} (h : ∀ Q : Exit → Act → World → Prop, (∀ e a w, R e a w → Q e a w) → Code.wp P c Q a w) : Code.wp P c R a w :=
  h R (fun _ _ _ h => h)
theorem Wr.drewR {F : Nat → Prop} {w w1 : World} (h : Wr F w w1) : Wr F w w1.drew := h.trans (Wr.of_below (F := fun _ => False) (Below.refl _ _).drew) (fun _ h => h.elim)
theorem Wr.allocR {F : Nat → Prop} {w w1 : World} (h : Wr F w w1) (o : Obj) : Wr F w (w1.alloc o) := h.trans (Wr.of_below (F := fun _ => False) (below1 w1 o)) (fun _ h => h.elim)
theorem Wr.setR {F : Nat → Prop} {w w1 : World} (h : Wr F w w1) (r j : Nat) (v : Value) (hF : F r ∨ w.heap.size ≤ r) : Wr F w (w1.setCell ⟨r, j, none⟩ v) :=
  h.trans (Wr.setCell (F := fun b => b = r) w1 ⟨r, j, none⟩ v rfl) (fun _ h => h ▸ hF)
end Go.Proofs.YtlenilbkifofjaaDoor
namespace Go.Proofs.YtlenilbkifofjaaDoor
open Go.RowKit Go.Maps

/-- A region that draws its order and only reads: by the cheap step, in one world. -/
theorem still_allq {P : Program} {id : Nat} {Q : Exit → Act → World → Prop} {a : Act} {w : World} {l : List Oper} (hm : P.follows .mixedOrders = true) (hB : Region.lexB .any l.toArray = true)
    (h : wpQuiet P l.toArray (fun w' => w' = w.drew) (fun a' => Q .normal a' w.drew) l a) : (Code.region id l.toArray true).wp P Q a w :=
  wp_region_still_lit hm hB (still_of_quiet h)

set_option maxRecDepth 100000 in
theorem LabM.look2 {w : World} {b n : Nat} {f : Int → Option Nat} (h : LabM w b n f) {k : Int} (hk : In64 k) : (Instr.lookup 73 (.map (some b)) (.int .i64 k) true).run Tryd.prog w = .ok (.tuple #[.int .i64 ((f k).getD 0 : Nat), .bool (f k).isSome]) w := by
  obtain ⟨D, h1, h2⟩ := h
  obtain ⟨v, ps, hrun, hR⟩ := h1.look_ok lab_law Tryd.underlying73 (lab_zero w) (plainElem_int Tryd.underlying3 (a := 0) rfl) (lab_key hk)
  obtain ⟨a, rfl, hz, _⟩ := plainElem_int_inv Tryd.underlying3 hR
  obtain ⟨h3, h4⟩ := h2 k hk
  have he : D.atKey (.int .i64 k) (.lit (.int .i64 0)) = .lit (.int .i64 a) := congrArg Prod.fst hz
  rw [h4] at he
  injection he with he
  injection he with _ he
  rw [hrun, h3, he]
theorem labD_put {f : Int → Option Nat} {D : DataW Unit} (hD : IsMap D) (h : LabD f D) {k : Int} (v : Nat) {g : Int → Option Nat} (hg : g k = some v) (ho : ∀ j, j ≠ k → g j = f j) : LabD g (D.put (.int .i64 k) (.lit (.int .i64 (v : Nat)))) := by
  have hkl : WideAt.IsKeyLit (.int .i64 k) := trivial
  intro j hj
  by_cases e : j = k
  · subst e
    rw [hg]
    exact ⟨has_put_same hD hkl _, atKey_put_same hD hkl _ _⟩
  · have hne : (Lit.int .i64 j) ≠ Lit.int .i64 k := fun h => by injection h with _ h; exact e h
    rw [ho j e]
    exact ⟨(has_put_other hne _).trans (h j hj).1, (atKey_put_other hne _ _).trans (h j hj).2⟩
theorem LabM.congr {w : World} {b n : Nat} {f g : Int → Option Nat} (h : LabM w b n f) (hg : ∀ j, g j = f j) : LabM w b n g := by
  rw [show g = f from funext hg]
  exact h
theorem LabM.mono {w : World} {b n m : Nat} {f : Int → Option Nat} (h : LabM w b n f) (hn : n ≤ m) : LabM w b m f := by
  obtain ⟨D, h1, h2⟩ := h
  exact ⟨D, h1.mono hn, h2⟩
theorem labO_some {l : List InsS} {n : Int} : (labO l n).isSome = labI l n := by
  unfold labO
  cases h : labI l n <;> simp
theorem layB_step {l r : List InsS} {x : InsS} (h : x.op ≠ 14) : layB l (x :: r) = layB (l ++ [x]) r := by
  rw [layB, decide_eq_true h]
  rfl
theorem layB_no {l r : List InsS} {x : InsS} (h : x.op = 14) (h' : labI l x.n = true ∨ x.n < 0 ∨ 8000 ≤ x.n) : layB l (x :: r) = false := by
  rw [layB, decide_eq_false (by omega), Bool.false_or]
  rcases h' with h' | h'
  · rw [h']; rfl
  · rw [decide_eq_false (by omega), Bool.and_false]; rfl
theorem layB_yes {l r : List InsS} {x : InsS} (h : x.op = 14) (h1 : labI l x.n = false) (h2 : 0 ≤ x.n) (h3 : x.n < 8000) : layB l (x :: r) = layB (l ++ [x]) r := by
  rw [layB, h1]
  simp [h2, h3]
end Go.Proofs.YtlenilbkifofjaaDoor
namespace Go.Proofs.YtlenilbkifofjaaDoor
open Go.RowKit


theorem ownsRow_keep {w w' : World} {base : Nat} {e : TypeId} {size : Nat} {v : Value} {n : Nat} {xs : List Value} (h : w.ownsRow base e size v n xs) (hk : ∀ g, v.ownBlock = some g → w'.heap[g]? = w.heap[g]?) : w'.ownsRow base e size v n xs := by
  obtain ⟨h1, h2⟩ := h
  refine ⟨h1, ?_⟩
  rcases h2 with h2 | ⟨g, cap, cur, hv, hg, hh, r⟩
  · exact Or.inl h2
  · subst hv
    exact Or.inr ⟨g, cap, cur, rfl, hg, (hk g rfl).trans hh, r⟩



end Go.Proofs.YtlenilbkifofjaaDoor
namespace Go.Proofs.YtlenilbkifofjaaDoor
open Go.RowKit

end Go.Proofs.YtlenilbkifofjaaDoor
namespace Go.Proofs.YtlenilbkifofjaaDoor
open Go.RowKit

/-- A node that may not be. -/
def badN (op x : Int) (ks : Nat) : Bool := decide ((ks : Int) ≠ kidsI op ∨ (op > 4 ∧ x ≠ 0) ∨ (op ≠ 1 ∧ x < 0))

mutual
def cnt : T → Int → Int × Bool
  | .node op x ks, n => if n + 1 > 200 ∨ badN op x ks.length = true then (n + 1, false) else cnts ks (n + 1)
def cnts : List T → Int → Int × Bool
  | [], n => (n, true)
  | k :: ks, n => if (cnt k n).2 = false then ((cnt k n).1, false) else cnts ks (cnt k n).1
end

mutual
theorem cnt_bd : ∀ (t : T) (n : Int), 0 ≤ n → n ≤ 200 → n ≤ (cnt t n).1 ∧ (cnt t n).1 ≤ 201 ∧ ((cnt t n).2 = true → (cnt t n).1 ≤ 200)
  | .node op x ks, n, h0, h1 => by
    unfold cnt
    split
    · exact ⟨by simp only; omega, by simp only; omega, fun h => by cases h⟩
    · rename_i h
      have h2 : ¬ n + 1 > 200 := fun h' => h (Or.inl h')
      have := cnts_bd ks (n + 1) (by omega) (by omega)
      exact ⟨by omega, this.2⟩
theorem cnts_bd : ∀ (ks : List T) (n : Int), 0 ≤ n → n ≤ 200 → n ≤ (cnts ks n).1 ∧ (cnts ks n).1 ≤ 201 ∧ ((cnts ks n).2 = true → (cnts ks n).1 ≤ 200)
  | [], n, h0, h1 => by unfold cnts; exact ⟨by simp only; omega, by simp only; omega, fun _ => by simp only; omega⟩
  | k :: ks, n, h0, h1 => by
    unfold cnts
    have hk := cnt_bd k n h0 h1
    split
    · exact ⟨hk.1, hk.2.1, fun h => by cases h⟩
    · rename_i h
      have h2 : (cnt k n).2 = true := by simpa using h
      have := cnts_bd ks (cnt k n).1 (by omega) (hk.2.2 h2)
      exact ⟨by omega, this.2⟩
end

theorem drop_of {α : Type} {l : List α} {j : Nat} {x : α} (h : l[j]? = some x) : l.drop j = x :: l.drop (j + 1) := by
  have hlt : j < l.length := by
    rcases Nat.lt_or_ge j l.length with h' | h'
    · exact h'
    · rw [List.getElem?_eq_none h'] at h; cases h
  rw [List.drop_eq_getElem_cons hlt]
  rw [List.getElem?_eq_getElem hlt] at h
  injection h with h
  rw [h]
theorem TreeAt.shape0 {w : World} {C : Nat → Nat → Prop} {t : T} {v0 v1 v2 : Value} (h : TreeAt w C t v0 v1 v2) : ∃ a b A n c, v0 = .int .i64 a ∧ v1 = .int .i64 b ∧ v2 = .slice A n c := by
  obtain ⟨op, n, ks⟩ := t
  simp only [TreeAt] at h
  obtain ⟨h0, h1, _, _, _, A, cap, h5, _⟩ := h
  exact ⟨_, _, _, _, _, h0, h1, h5⟩
theorem drop_nil_of {α : Type} {l : List α} {n : Nat} (h : l.length ≤ n) : l.drop n = [] := List.drop_eq_nil_of_le h

/-- A tree that may be: how many nodes. -/
def treeC (t : T) : Int × Bool := cnt t 0

end Go.Proofs.YtlenilbkifofjaaDoor
namespace Go.Proofs.YtlenilbkifofjaaDoor
open Go.RowKit

end Go.Proofs.YtlenilbkifofjaaDoor
namespace Go.Proofs.YtlenilbkifofjaaDoor
open Go.RowKit

mutual
def T.few : T → Prop
  | .node _ _ ks => ks.length * 40 ≤ 140737488351232 ∧ T.fews ks
def T.fews : List T → Prop
  | [] => True
  | k :: ks => T.few k ∧ T.fews ks
end
theorem T.fews_get : ∀ {ks : List T} {i : Nat} {k : T}, T.fews ks → ks[i]? = some k → T.few k
  | [], i, k, _, h => by simp at h
  | a :: r, 0, k, hf, h => by simp at h; subst h; rw [T.fews] at hf; exact hf.1
  | a :: r, i + 1, k, hf, h => by rw [T.fews] at hf; exact T.fews_get hf.2 (by simpa using h)
theorem T.fews_of : ∀ {ks : List T}, (∀ (i : Nat) (k : T), ks[i]? = some k → T.few k) → T.fews ks
  | [], _ => by rw [T.fews]; trivial
  | a :: r, h => by rw [T.fews]; exact ⟨h 0 a rfl, T.fews_of (fun i k hk => h (i + 1) k (by simpa using hk))⟩
/-- Obj: lists of a size that memory may hold. -/
def ObjF (x : ObS) : Prop := x.init.length * 8 ≤ 140737488351232
/-- Step: lists of a size that memory may hold. -/
def StepF (x : StepS) : Prop := x.args.length * 40 ≤ 140737488351232 ∧ T.fews x.args
/-- Block: lists of a size that memory may hold. -/
def BlockF (x : BlockS) : Prop := x.steps.length * 56 ≤ 140737488351232 ∧ (∀ y, y ∈ x.steps → StepF y) ∧ T.few x.cond
/-- Graph: lists of a size that memory may hold. -/
def GraphF (x : GraphS) : Prop := x.locs.length * 40 ≤ 140737488351232 ∧ (∀ y, y ∈ x.locs → ObjF y) ∧ x.blocks.length * 88 ≤ 140737488351232 ∧ (∀ y, y ∈ x.blocks → BlockF y)
/-- Prog: lists of a size that memory may hold. -/
def ProgF (x : ProgS) : Prop := x.globs.length * 40 ≤ 140737488351232 ∧ (∀ y, y ∈ x.globs → ObjF y) ∧ x.funcs.length * 64 ≤ 140737488351232 ∧ (∀ y, y ∈ x.funcs → GraphF y)
end Go.Proofs.YtlenilbkifofjaaDoor
namespace Go.Proofs.YtlenilbkifofjaaDoor
open Go.RowKit

/-- What is read in one memory is read in the other one. -/
def Sub (w w' : World) : Prop := ∀ p v, w.cell? p = some v → w'.cell? p = some v
theorem Sub.refl (w : World) : Sub w w := fun _ _ h => h
theorem Sub.trans {a b c : World} (h : Sub a b) (k : Sub b c) : Sub a c := fun p v x => k p v (h p v x)
theorem Sub.of_below {w w' : World} (h : Below w.heap.size w w') : Sub w w' := by
  intro p v hv
  have hlt : p.block < w.heap.size := by
    unfold World.cell? at hv
    rcases Nat.lt_or_ge p.block w.heap.size with hl | hl
    · exact hl
    · rw [Array.getElem?_eq_none hl] at hv
      cases hv
  rw [World.cell?_of_block (h.block _ hlt)]
  exact hv

open Classical in
/-- Some blocks alone. -/
noncomputable def only (w : World) (S : Nat → Prop) : World := { w with heap := Array.ofFn (n := w.heap.size) fun i => if S i.1 then w.heap[i.1] else .stringIter ByteArray.empty 0 }
theorem only_size (w : World) (S : Nat → Prop) : (only w S).heap.size = w.heap.size := by simp [only]
theorem only_in {w : World} {S : Nat → Prop} {k : Nat} (h : S k) : (only w S).heap[k]? = w.heap[k]? := by
  rcases Nat.lt_or_ge k w.heap.size with hl | hl
  · simp [only, hl, h]
  · rw [Array.getElem?_eq_none (by rw [only_size]; exact hl), Array.getElem?_eq_none hl]
theorem only_wr (w : World) (S : Nat → Prop) : Wr (fun k => ¬ S k) w (only w S) :=
  ⟨rfl, rfl, rfl, by rw [only_size]; exact Nat.le_refl _, fun k _ h => only_in (Classical.not_not.1 h)⟩
theorem only_cell {w : World} {S : Nat → Prop} {p : Addr} {v : Value} (h : (only w S).cell? p = some v) : S p.block ∧ p.block < w.heap.size ∧ w.cell? p = some v := by
  have hlt : p.block < w.heap.size := by
    unfold World.cell? at h
    rcases Nat.lt_or_ge p.block w.heap.size with hl | hl
    · exact hl
    · rw [Array.getElem?_eq_none (by rw [only_size]; exact hl)] at h
      cases h
  by_cases hs : S p.block
  · rw [World.cell?_of_block (only_in hs)] at h
    exact ⟨hs, hlt, h⟩
  · unfold World.cell? at h
    simp [only, hlt, hs] at h
theorem only_sub (w : World) (S : Nat → Prop) : Sub (only w S) w := fun _ _ h => (only_cell h).2.2
theorem only_mono {w w' : World} {S S' : Nat → Prop} (h : ∀ k, S k → k < w.heap.size → S' k ∧ w'.heap[k]? = w.heap[k]?) : Sub (only w S) (only w' S') := by
  intro p v hv
  obtain ⟨h1, h2, h3⟩ := only_cell hv
  obtain ⟨h4, h5⟩ := h _ h1 h2
  rw [World.cell?_of_block (only_in h4), World.cell?_of_block h5]
  exact h3

/-- A way to lie in memory that stays where more is read. -/
def Mono {α : Type} (E : World → Nat → (Nat → Option Value) → α → Prop) (sz : Nat) : Prop :=
  ∀ w w' B B' c c' x, Sub w w' → B ≤ B' → (∀ j v, j < sz → c j = some v → c' j = some v) → E w B c x → E w' B' c' x
theorem SliceAt.sub {α : Type} {E : World → Nat → (Nat → Option Value) → α → Prop} {sz : Nat} (hE : Mono E sz) {w w' : World} {B B' : Nat} {l : List α} {v : Value} (h : SliceAt w B sz (E w B) l v) (hs : Sub w w') (hB : B ≤ B') : SliceAt w' B' sz (E w' B') l v := by
  obtain ⟨A, cap, h0, h1, h2⟩ := h
  refine ⟨A, cap, h0, h1, fun hp => ?_⟩
  obtain ⟨b, off, hA, hlt, hx⟩ := h2 hp
  exact ⟨b, off, hA, by omega, fun i x hi => hE _ _ _ _ _ _ _ hs hB (fun j v _ hj => hs _ _ hj) (hx i x hi)⟩
def LongE (_ : World) (_ : Nat) (c : Nat → Option Value) (x : Int) : Prop := c 0 = some (.int .i64 x) ∧ In64 x
theorem LongE.mono : Mono LongE 1 := fun _ _ _ _ _ _ _ _ _ hc h => ⟨hc _ _ (by decide) h.1, h.2⟩
theorem LongsAt.sub {w w' : World} {B B' : Nat} {l : List Int} {v : Value} (h : LongsAt w B l v) (hs : Sub w w') (hB : B ≤ B') : LongsAt w' B' l v :=
  SliceAt.sub (E := LongE) LongE.mono h hs hB
mutual
theorem TreeAt.sub {w w' : World} (hs : Sub w w') {B B' : Nat} (hB : B ≤ B') : ∀ (t : T) {v0 v1 v2 : Value}, TreeAt w (Under B) t v0 v1 v2 → TreeAt w' (Under B') t v0 v1 v2
  | .node op n ks, v0, v1, v2, h => by
    simp only [TreeAt] at h ⊢
    obtain ⟨h0, h1, h2, h3, h4, A, cap, h5, h6⟩ := h
    refine ⟨h0, h1, h2, h3, h4, A, cap, h5, fun hp => ?_⟩
    obtain ⟨b, off, hA, hc, hk⟩ := h6 hp
    exact ⟨b, off, hA, Nat.lt_of_lt_of_le hc hB, KidsAt.sub hs hB ks hk⟩
theorem KidsAt.sub {w w' : World} (hs : Sub w w') {B B' : Nat} (hB : B ≤ B') : ∀ (ks : List T) {b off : Nat}, KidsAt w (Under B) ks b off → KidsAt w' (Under B') ks b off
  | [], b, off, _ => by simp [KidsAt]
  | k :: ks, b, off, h => by
    simp only [KidsAt] at h ⊢
    obtain ⟨⟨v0, v1, v2, c0, c1, c2, ht⟩, hr⟩ := h
    exact ⟨⟨v0, v1, v2, hs _ _ c0, hs _ _ c1, hs _ _ c2, TreeAt.sub hs hB k ht⟩, KidsAt.sub hs hB ks hr⟩
end
theorem KidsV.sub {w w' : World} {B B' n : Nat} {ks : List T} {A : Option Addr} (h : KidsV w B ks A n) (hs : Sub w w') (hB : B ≤ B') : KidsV w' B' ks A n := by
  obtain ⟨h1, h2, h3⟩ := h
  refine ⟨h1, h2, fun hp => ?_⟩
  obtain ⟨b, off, hA, hlt, hk⟩ := h3 hp
  exact ⟨b, off, hA, by omega, KidsAt.sub hs hB ks hk⟩
theorem TreesAt.sub {w w' : World} {B B' : Nat} {l : List T} {v : Value} (h : TreesAt w B l v) (hs : Sub w w') (hB : B ≤ B') : TreesAt w' B' l v := by
  obtain ⟨A, n, cap, h0, h1⟩ := h
  exact ⟨A, n, cap, h0, h1.sub hs hB⟩
theorem ObE.mono : Mono ObE 3 := by
  intro w w' B B' c c' x hs hB hc h
  obtain ⟨h0, h1, ⟨v, h2, h3⟩, h4⟩ := h
  exact ⟨hc _ _ (by decide) h0, hc _ _ (by decide) h1, ⟨v, hc _ _ (by decide) h2, h3.sub hs hB⟩, h4⟩
theorem StepE.mono : Mono StepE 5 := by
  intro w w' B B' c c' x hs hB hc h
  obtain ⟨h0, h1, h2, h3, ⟨v, h4, h5⟩, h6⟩ := h
  exact ⟨hc _ _ (by decide) h0, hc _ _ (by decide) h1, hc _ _ (by decide) h2, hc _ _ (by decide) h3, ⟨v, hc _ _ (by decide) h4, h5.sub hs hB⟩, h6⟩
theorem BlockE.mono : Mono BlockE 7 := by
  intro w w' B B' c c' x hs hB hc h
  obtain ⟨⟨v, h0, h1⟩, h2, ⟨v0, v1, v2, h3, h4, h5, h6⟩, h7, h8, h9⟩ := h
  exact ⟨⟨v, hc _ _ (by decide) h0, SliceAt.sub StepE.mono h1 hs hB⟩, hc _ _ (by decide) h2, ⟨v0, v1, v2, hc _ _ (by decide) h3, hc _ _ (by decide) h4, hc _ _ (by decide) h5, TreeAt.sub hs hB _ h6⟩, hc _ _ (by decide) h7, hc _ _ (by decide) h8, h9⟩
theorem GraphE.mono : Mono GraphE 4 := by
  intro w w' B B' c c' x hs hB hc h
  obtain ⟨h0, h1, ⟨v, h2, h3⟩, ⟨u, h4, h5⟩, h6⟩ := h
  exact ⟨hc _ _ (by decide) h0, hc _ _ (by decide) h1, ⟨v, hc _ _ (by decide) h2, SliceAt.sub ObE.mono h3 hs hB⟩, ⟨u, hc _ _ (by decide) h4, SliceAt.sub BlockE.mono h5 hs hB⟩, h6⟩
theorem ProgE.mono : Mono ProgE 3 := by
  intro w w' B B' c c' x hs hB hc h
  obtain ⟨⟨v, h0, h1⟩, ⟨u, h2, h3⟩, h4, h5⟩ := h
  exact ⟨⟨v, hc _ _ (by decide) h0, SliceAt.sub ObE.mono h1 hs hB⟩, ⟨u, hc _ _ (by decide) h2, SliceAt.sub GraphE.mono h3 hs hB⟩, hc _ _ (by decide) h4, h5⟩

/-- From a block on. -/
def From (N : Nat) : Nat → Prop := fun k => N ≤ k
/-- A row of its own whose elements lie in memory of their own. -/
structure RowE {α : Type} (E : World → Nat → (Nat → Option Value) → α → Prop) (ty : TypeId) (sz base : Nat) (w : World) (lv : Value) (l : List α) (xs : List Value) : Prop where
  own : w.ownsRow base ty sz lv l.length xs
  elems : ∀ i x, l[i]? = some x → E (only w (fun b => base ≤ b ∧ ¬ lv.ownBlock = some b)) w.heap.size (fun j => xs[i * sz + j]?) x
theorem RowE.nil {α : Type} (E : World → Nat → (Nat → Option Value) → α → Prop) (ty : TypeId) (sz base : Nat) (w : World) : RowE E ty sz base w (.slice none 0 0) ([] : List α) [] :=
  ⟨by simpa using World.ownsRow_nil w base ty sz, fun i x h => by simp at h⟩
theorem RowE.lt {α : Type} {E : World → Nat → (Nat → Option Value) → α → Prop} {ty : TypeId} {sz base : Nat} {w : World} {lv : Value} {l : List α} {xs : List Value} (h : RowE E ty sz base w lv l xs) {g : Nat} (hg : lv.ownBlock = some g) : base ≤ g ∧ g < w.heap.size := by
  obtain ⟨h1, cs, h2⟩ := ownsRow_row h.own hg
  exact ⟨h1, h2.lt⟩
theorem RowE.next {α : Type} {E : World → Nat → (Nat → Option Value) → α → Prop} {sz : Nat} (hE : Mono E sz) {ty : TypeId} {base g cap : Nat} {wr w1 W2 w3 : World} {lv : Value} {l : List α} {xs us : List Value} {x : α}
    (h : RowE E ty sz base wr lv l xs) (hbase : base ≤ wr.heap.size) (h1 : Below wr.heap.size wr w1) (hx : E (only w1 (From wr.heap.size)) w1.heap.size (fun j => us[j]?) x) (hus : us.length = sz) (h2 : Below w1.heap.size w1 W2)
    (hown : w3.ownsRow base ty sz (.slice (some ⟨g, 0, none⟩) (l.length + 1) cap) (l.length + 1) (xs ++ us)) (hgrow : W2.grownBy w3 lv.ownBlock) (hat : lv.ownBlock = some g ∨ g = W2.heap.size) :
    RowE E ty sz base w3 (.slice (some ⟨g, 0, none⟩) (l.length + 1) cap) (l ++ [x]) (xs ++ us) := by
  have z1 := h1.size
  have z2 := h2.size
  have z3 := hgrow.size
  have hxl : xs.length = l.length * sz := h.own.1
  refine ⟨by simpa using hown, fun i y hy => ?_⟩
  rcases Nat.lt_or_ge i l.length with hi | hi
  · rw [List.getElem?_append_left hi] at hy
    refine hE _ _ _ _ _ _ _ (only_mono ?_) (by omega) ?_ (h.elems i y hy)
    · rintro k ⟨hk1, hk2⟩ hk3
      refine ⟨⟨hk1, fun e => ?_⟩, ?_⟩
      · simp only [Value.ownBlock, Option.some.injEq] at e
        subst e
        rcases hat with hat | hat
        · exact hk2 hat
        · omega
      · exact ((hgrow.block k (by omega) (fun e => hk2 e.symm)).trans (h2.block k (by omega))).trans (h1.block k hk3)
    · intro j v hjs hj
      show (xs ++ us)[i * sz + j]? = some v
      rw [List.getElem?_append_left ?_]
      · exact hj
      · rw [hxl]
        calc i * sz + j < i * sz + sz := by omega
          _ = (i + 1) * sz := by rw [Nat.add_mul, Nat.one_mul]
          _ ≤ l.length * sz := Nat.mul_le_mul_right _ hi
  · obtain rfl : i = l.length := by
      have := (List.getElem?_eq_some_iff.1 hy).1
      simp at this
      omega
    simp at hy
    subst hy
    refine hE _ _ _ _ _ _ _ (only_mono ?_) (by omega) ?_ hx
    · intro k hk1 hk2
      have hk1' : wr.heap.size ≤ k := hk1
      refine ⟨⟨by omega, fun e => ?_⟩, ?_⟩
      · simp only [Value.ownBlock, Option.some.injEq] at e
        subst e
        rcases hat with hat | hat
        · have := (h.lt hat).2; omega
        · omega
      · exact (hgrow.block k (by omega) (fun e => by have := (h.lt e.symm).2; omega)).trans (h2.block k hk2)
    · intro j v hjs hj
      show (xs ++ us)[l.length * sz + j]? = some v
      rw [← hxl, List.getElem?_append_right (by omega), Nat.add_sub_cancel_left]
      exact hj
/-- The row's elements, read as any slice. -/
theorem RowE.slice {α : Type} {E : World → Nat → (Nat → Option Value) → α → Prop} {sz : Nat} (hE : Mono E sz) {ty : TypeId} {base : Nat} {w : World} {lv : Value} {l : List α} {xs : List Value} (h : RowE E ty sz base w lv l xs) :
    SliceAt (only w (From base)) w.heap.size sz (E (only w (From base)) w.heap.size) l lv := by
  obtain ⟨h1, h2⟩ := h
  obtain ⟨hl, hr⟩ := id h1
  rcases hr with ⟨hv, hn⟩ | ⟨g, cap, cur, hv, hg, hh, hc1, hc2, hc3, hc4⟩
  · exact ⟨none, 0, by rw [hv, hn], by omega, fun hp => by omega⟩
  · have hglt : g < w.heap.size := Row.lt (t := ty) hh
    refine ⟨some ⟨g, 0, none⟩, cap, hv, by unfold maxLen at hc2; omega, fun hp => ⟨g, 0, rfl, hglt, fun i x hi => ?_⟩⟩
    refine hE _ _ _ _ _ _ _ (only_mono fun k hk _ => ⟨hk.1, rfl⟩) (Nat.le_refl _) ?_ (h2 i x hi)
    intro j v hjs hj
    · have hj : xs[i * sz + j]? = some v := hj
      have hil := (List.getElem?_eq_some_iff.1 hi).1
      have hlt : i * sz + j < l.length * sz := by
        calc i * sz + j < i * sz + sz := by omega
          _ = (i + 1) * sz := by rw [Nat.add_mul, Nat.one_mul]
          _ ≤ l.length * sz := Nat.mul_le_mul_right _ hil
      rw [← hc4, List.getElem?_take, if_pos hlt, Array.getElem?_toList] at hj
      have e := (Row.cell (cs := cur) (t := ty) hh hj)
      show (only w (From base)).cell? ⟨g, 0 + i * sz + j, none⟩ = some v
      rw [World.cell?_of_block (only_in (show From base g from hg)), Nat.zero_add]
      exact e
/-- A call that answers a slice of its own. -/
def ListEnd {α : Type} (E : World → Nat → (Nat → Option Value) → α → Prop) (sz : Nat) (l : List α) (w : World) (e : Ending) (w' : World) : Prop :=
  ∃ A c, e = .returned (.slice A l.length c) ∧ SliceAt (only w' (From w.heap.size)) w'.heap.size sz (E (only w' (From w.heap.size)) w'.heap.size) l (.slice A l.length c) ∧ (l.length ≤ c ∧ c ≤ 9223372036854775807) ∧ Below w.heap.size w w'
theorem ListEnd.of_row {α : Type} {E : World → Nat → (Nat → Option Value) → α → Prop} {sz : Nat} (hE : Mono E sz) {ty : TypeId} {w w' : World} {lv : Value} {l : List α} {xs : List Value} (h : RowE E ty sz w.heap.size w' lv l xs) (hb : Below w.heap.size w w') : ListEnd E sz l w (.returned lv) w' := by
  have hs := h.slice hE
  obtain ⟨A, cap, rfl, _⟩ := id hs
  refine ⟨A, cap, rfl, hs, ?_, hb⟩
  obtain ⟨_, ⟨h1, h2⟩ | ⟨g, c, cur, hv, _, _, h1, h2, _⟩⟩ := h.own
  · injection h1 with _ _ h1
    omega
  · injection hv with _ _ hv
    unfold maxLen at h2
    omega
theorem ProgAt.sub {w w' : World} {B B' : Nat} {P : Value × Value × Value} {p : ProgS} (h : ProgAt w B P p) (hs : Sub w w') (hB : B ≤ B') : ProgAt w' B' P p :=
  ⟨SliceAt.sub ObE.mono h.1 hs hB, SliceAt.sub GraphE.mono h.2.1 hs hB, h.2.2⟩
theorem only_later {X : Nat → Prop} {w1 W : World} {a N : Nat} (hw : Wr X w1 W) (hX : ∀ i, X i → i < a) (hN : N ≤ a) : Sub (only w1 (From a)) (only W (From N)) :=
  only_mono fun k (hk : a ≤ k) hk2 => ⟨show N ≤ k by omega, hw.block k hk2 (fun hx => by have := hX k hx; omega)⟩
theorem of_wr {X : Nat → Prop} {w w0 W : World} {e : Ending} {C : World → Ending → World → Prop} (h : Wr X w W) (k : Wr X w W → C w0 e W) : C w0 e W := k h
end Go.Proofs.YtlenilbkifofjaaDoor
namespace Go.Proofs.YtlenilbkifofjaaDoor
open Go.RowKit

/-- Ins: lists of a size that memory may hold. -/
def InsF (x : InsS) : Prop := x.arg.length * 8 ≤ 140737488351232
/-- Code: lists of a size that memory may hold. -/
def CodeF (x : CodeS) : Prop := x.locs.length * 40 ≤ 140737488351232 ∧ (∀ y, y ∈ x.locs → ObjF y) ∧ x.ins.length * 64 ≤ 140737488351232 ∧ (∀ y, y ∈ x.ins → InsF y)
/-- Virt: lists of a size that memory may hold. -/
def VirtF (x : VirtS) : Prop := x.globs.length * 40 ≤ 140737488351232 ∧ (∀ y, y ∈ x.globs → ObjF y) ∧ x.funcs.length * 64 ≤ 140737488351232 ∧ (∀ y, y ∈ x.funcs → CodeF y)
end Go.Proofs.YtlenilbkifofjaaDoor
namespace Go.Proofs.YtlenilbkifofjaaDoor
open Go.RowKit

theorem InsE.mono : Mono InsE 6 := by
  intro w w' B B' c c' x hs hB hc h
  obtain ⟨h0, h1, h2, h3, h4, ⟨v, h5, h6⟩, h7⟩ := h
  exact ⟨hc _ _ (by decide) h0, hc _ _ (by decide) h1, hc _ _ (by decide) h2, hc _ _ (by decide) h3, hc _ _ (by decide) h4, ⟨v, hc _ _ (by decide) h5, h6.sub hs hB⟩, h7⟩
theorem CodeE.mono : Mono CodeE 4 := by
  intro w w' B B' c c' x hs hB hc h
  obtain ⟨h0, h1, ⟨v, h2, h3⟩, ⟨u, h4, h5⟩, h6⟩ := h
  exact ⟨hc _ _ (by decide) h0, hc _ _ (by decide) h1, ⟨v, hc _ _ (by decide) h2, SliceAt.sub ObE.mono h3 hs hB⟩, ⟨u, hc _ _ (by decide) h4, SliceAt.sub InsE.mono h5 hs hB⟩, h6⟩
theorem VirtE.mono : Mono VirtE 3 := by
  intro w w' B B' c c' x hs hB hc h
  obtain ⟨⟨v, h0, h1⟩, ⟨u, h2, h3⟩, h4, h5⟩ := h
  exact ⟨⟨v, hc _ _ (by decide) h0, SliceAt.sub ObE.mono h1 hs hB⟩, ⟨u, hc _ _ (by decide) h2, SliceAt.sub CodeE.mono h3 hs hB⟩, hc _ _ (by decide) h4, h5⟩
theorem VirtAt.sub {w w' : World} {B B' : Nat} {P : Value × Value × Value} {p : VirtS} (h : VirtAt w B P p) (hs : Sub w w') (hB : B ≤ B') : VirtAt w' B' P p :=
  ⟨SliceAt.sub ObE.mono h.1 hs hB, SliceAt.sub CodeE.mono h.2.1 hs hB, h.2.2⟩
theorem VirtAt.toE {w : World} {B : Nat} {P : Value × Value × Value} {p : VirtS} (h : VirtAt w B P p) (c : Nat → Option Value) (h0 : c 0 = some P.1) (h1 : c 1 = some P.2.1) (h2 : c 2 = some P.2.2) : VirtE w B c p :=
  ⟨⟨_, h0, h.1⟩, ⟨_, h1, h.2.1⟩, by rw [h2, h.2.2.1], h.2.2.2⟩
theorem VirtAt.grow {w : World} {B B' : Nat} {P : Value × Value × Value} {p : VirtS} (h : VirtAt w B P p) (hB : B ≤ B') : VirtAt w B' P p := h.sub (Sub.refl _) hB
end Go.Proofs.YtlenilbkifofjaaDoor
namespace Go.Proofs.YtlenilbkifofjaaDoor
open Go.RowKit

section
variable {P : Program} {ops : Array Oper} {md : Region.Mode} {C : World → Prop}
def wpAnyLQ (P : Program) (md : Region.Mode) (ops : Array Oper) (C : World → Prop) (n : Nat) (L : Array Bool → Act → Prop) : Nat → Array Bool → Act → Prop
  | 0, listed, a => L listed a
  | f + 1, listed, a =>
    Region.ready md ops listed ≠ [] ∧ ∀ i ∈ Region.ready md ops listed, i < n ∧ qOp P ops C i (wpAnyLQ P md ops C n L f (listed.setIfInBounds i true)) a

theorem wpAny_of_headQ {n g : Nat} {L : Array Bool → Act → Prop} {Q' : Exit → Act → World → Prop} (hL : ∀ listed a w, C w → L listed a → wpAny P md ops Q' g listed a w) :
    ∀ (f : Nat) (listed : Array Bool) (a : Act) (w : World), C w → wpAnyLQ P md ops C n L f listed a → wpAny P md ops Q' (f + g) listed a w
  | 0, listed, a, w, hw, h => by rw [Nat.zero_add]; exact hL _ _ _ hw h
  | f + 1, listed, a, w, hw, h => by
    rw [show f + 1 + g = (f + g) + 1 by omega]
    exact ⟨fun h0 => absurd h0 h.1, fun i hi => wpOp_of_qOp hw (fun a' w' hw' h' => wpAny_of_headQ hL f _ a' w' hw' h') (h.2 i hi).2⟩

theorem wpAnyLQ_first {n i : Nat} {oi : Oper} {v : Value} {L : Array Bool → Act → Prop} (hi : ops[i]? = some oi) (hsel : ∀ (j : Nat) (o : Oper) cs b, ops[j]? = some o → o.op ≠ .select cs b)
    (hs : Region.sinkB md ops n = true) (hc : Region.chainB md ops n = true) (hn : n < ops.size) (hin : i < n)
    (hdone : ∀ listed a, L listed a → ∀ j ∈ Region.ready md ops listed, n ≤ j) :
    ∀ (f : Nat) (listed : Array Bool) (a : Act), HeadInv md ops n listed →
      (∀ j oj, ops[j]? = some oj → j ≠ i → listed.getD j true = false → (∀ e ∈ oj.after, Region.binds md e = true → e.on ≠ i) → oi.apart ops oj = true) →
      i ∈ Region.ready md ops listed → YieldsIn P ops C oi v a →
      wpAnyLQ P md ops C n L f (listed.setIfInBounds i true) (a.put oi.dst v) → wpAnyLQ P md ops C n L (f + 1) listed a := by
  intro f
  induction f with
  | zero =>
    intro listed a inv _ hr hy H
    have hun := (mem_ready.1 hr).1
    refine ⟨fun h => (by rw [h] at hr; cases hr), fun j hj => ?_⟩
    have hjn : j < n := by
      rcases Nat.lt_or_ge j n with h | h
      · exact h
      · exact absurd hj (tail_waits hs hc hn inv _ i rfl hin hun j h)
    refine ⟨hjn, ?_⟩
    by_cases hji : j = i
    · subst hji; exact hy.qOp hi H
    · have := hdone _ _ H j (ready_mono hj hji)
      omega
  | succ f ih =>
    intro listed a inv hfree hr hy H
    have hun := (mem_ready.1 hr).1
    refine ⟨fun h => (by rw [h] at hr; cases hr), fun j hj => ?_⟩
    have hjn : j < n := by
      rcases Nat.lt_or_ge j n with h | h
      · exact h
      · exact absurd hj (tail_waits hs hc hn inv _ i rfl hin hun j h)
    refine ⟨hjn, ?_⟩
    by_cases hji : j = i
    · subst hji; exact hy.qOp hi H
    · have h1 := (H.2 j (ready_mono hj hji)).2
      obtain ⟨hjun, oj, hoj, hall⟩ := mem_ready.1 hj
      have hnot : ∀ e ∈ oj.after, Region.binds md e = true → e.on ≠ i := fun e he hb heq => by
        have h1 := hall e he hb
        rw [heq, getD_both hun] at h1
        cases h1
      have h2 := qOp_put hoj (hfree j oj hoj hji hjun hnot) (fun cs b => hsel i oi cs b hi) (fun cs b => hsel j oj cs b hoj) hy h1
      have hfree' : ∀ k ok, ops[k]? = some ok → k ≠ i → (listed.setIfInBounds j true).getD k true = false →
          (∀ e ∈ ok.after, Region.binds md e = true → e.on ≠ i) → oi.apart ops ok = true := fun k ok hk hki hun hno => by
        refine hfree k ok hk hki ?_ hno
        by_cases hjk : j = k
        · subst hjk; exact hjun
        · rw [getD_set_ne true hjk] at hun; exact hun
      refine qOp_mono (fun a' h3 => ih (listed.setIfInBounds j true) a' (inv.set hj hjn) hfree' (ready_mono hr (Ne.symm hji)) h3.1 ?_) h2
      rw [Array.setIfInBounds_comm _ _ hji]
      exact h3.2
theorem wpAnyLQ_lex {n g : Nat} {Lq : Act → Prop} (hsel : Region.noSelect ops = true) (hs : Region.sinkB md ops n = true) (hc : Region.chainB md ops n = true) (hn : n < ops.size) :
    ∀ (l : List Oper) (k : Nat) (listed : Array Bool) (a : Act), (∀ j, j < l.length → l[j]? = ops[k + j]?) → k + l.length = n → HeadInv md ops n listed →
    Region.lexHead md ops g l.length k listed = true → wpQuiet P ops C Lq l a →
    wpAnyLQ P md ops C n (fun listed' a' => Region.seqB md ops g n listed' = true ∧ Lq a') l.length listed a
  | [], k, listed, a, _, hk, _, hB, h => by
    have : k = n := by simpa using hk
    subst this
    exact ⟨by simpa [Region.lexHead] using hB, h⟩
  | o :: l, k, listed, a, hl, hk, inv, hB, h => by
    have h0 : ops[k]? = some o := by simpa using (hl 0 (by simp)).symm
    simp only [List.length_cons, Region.lexHead, Bool.and_eq_true] at hB
    obtain ⟨⟨hr, hf⟩, hB'⟩ := hB
    have hkn : k < n := by simp only [List.length_cons] at hk; omega
    have hr' : k ∈ Region.ready md ops listed := by simpa using hr
    have hst : qOp P ops C k (wpQuiet P ops C Lq l) a := by unfold qOp; simp only [h0]; exact h
    obtain ⟨v, hy, hK⟩ := yieldsIn_of_qOp h0 hst
    exact wpAnyLQ_first h0 (Region.noSelect_spec hsel) hs hc hn hkn (fun listed' a' hL => seqB_ready hL.1) l.length listed a inv (Region.free_spec h0 hf) hr' hy
      (wpAnyLQ_lex hsel hs hc hn l (k + 1) _ _ (fun j hj => by have := hl (j + 1) (by simp; omega); simpa [Nat.add_assoc, Nat.add_comm 1 j] using this) (by simp only [List.length_cons] at hk; omega) (inv.set hr' hkn) hB' hK)
end
theorem wp_region_quiet_tail {P : Program} {C : World → Prop} {id : Nat} {Q : Exit → Act → World → Prop} {a : Act} {w : World} {l : List Oper} (n : Nat) (hm : P.follows .mixedOrders = true) (hB : Region.lexTailB .any l.toArray n = true) (hC : C { w with drawn := w.drawn + 1 })
    (h : wpQuiet P l.toArray C (fun a' => ∀ w', C w' → wpList P l.toArray Q (l.drop n) a' w') (l.take n) a) : (Code.region id l.toArray true).wp P Q a w := by
  simp only [Region.lexTailB, Bool.and_eq_true, decide_eq_true_eq] at hB
  obtain ⟨⟨⟨⟨hsel, hn⟩, hs⟩, hc⟩, hlex⟩ := hB
  have hn' : n < l.length := by simpa using hn
  have htl : (l.take n).length = n := by simp; omega
  have hdl : (l.drop n).length = l.toArray.size - n := by simp
  have inv0 : HeadInv .any l.toArray n (Array.replicate l.toArray.size false) :=
    ⟨by simp, fun j oj _ hl => (by rw [getD_replicate_false] at hl; cases hl), fun t _ ht => getD_in (by simpa using ht) (getD_replicate_false _ _)⟩
  have H := wpAnyLQ_lex (md := .any) (g := l.toArray.size - n) hsel hs hc hn (l.take n) 0 _ a (fun j hj => by
    have hj' : j < n := by rw [htl] at hj; exact hj
    simp [hj']) (by simpa using htl) inv0 (by rw [htl]; exact hlex) h
  refine wp_region_any hm ?_
  have := wpAny_of_headQ (Q' := Q) (g := l.toArray.size - n) (fun listed a' w' hw' hL => by
      rw [← hdl]
      exact wpAny_of_seq (l.drop n) n listed a' w' (fun j => by simp) (by rw [hdl]; exact hL.1) (hL.2 w' hw')) _ _ _ _ hC H
  rw [htl] at this
  have e : n + (l.toArray.size - n) = l.toArray.size := by omega
  rw [e] at this
  exact this
/-- The head: reads, and callees that at most make new memory. -/
theorem grow_tail {P : Program} {id : Nat} {Q : Exit → Act → World → Prop} {a : Act} {W : World} {l : List Oper} (n : Nat) (hm : P.follows .mixedOrders = true) (hB : Region.lexTailB .any l.toArray n = true)
    (h : (∀ (u : Grows W) (b o : Nat), b < W.heap.size → u.1.cell? ⟨b, o, none⟩ = W.cell? ⟨b, o, none⟩) → wpQuiet P l.toArray (fun w' => ∃ u : Grows W, w' = u.1) (fun a' => ∀ u : Grows W, wpList P l.toArray Q (l.drop n) a' u.1) (l.take n) a) : (Code.region id l.toArray true).wp P Q a W := by
  have h' := h (fun u b o hb => u.2.cell (p := ⟨b, o, none⟩) hb)
  refine wp_region_quiet_tail (C := fun w' => ∃ u : Grows W, w' = u.1) n hm hB ⟨⟨W.drew, (Below.refl _ _).drew⟩, rfl⟩ ?_
  have e : (fun a' => ∀ w', (∃ u : Grows W, w' = u.1) → wpList P l.toArray Q (l.drop n) a' w') = (fun a' => ∀ u : Grows W, wpList P l.toArray Q (l.drop n) a' u.1) := by
    funext a'
    exact propext ⟨fun hh u => hh _ ⟨u, rfl⟩, fun hh w' ⟨u, hu⟩ => by rw [hu]; exact hh u⟩
  rw [e]
  exact h'
end Go.Proofs.YtlenilbkifofjaaDoor
namespace Go.Proofs.YtlenilbkifofjaaDoor
open Go.RowKit

def unlisted (n : Nat) (listed : Array Bool) : Nat := ((List.range n).filter fun j => !listed.getD j true).length
theorem filter_le_of {α : Type} {p q : α → Bool} : ∀ (l : List α), (∀ x, q x = true → p x = true) → (l.filter q).length ≤ (l.filter p).length
  | [], _ => by simp
  | x :: l, h => by
    have ih := filter_le_of l h
    cases hq : q x
    · rw [List.filter_cons_of_neg (by simp [hq])]
      cases hp : p x
      · rw [List.filter_cons_of_neg (by simp [hp])]; exact ih
      · rw [List.filter_cons_of_pos hp]; simp; omega
    · rw [List.filter_cons_of_pos hq, List.filter_cons_of_pos (h x hq)]; simpa using ih
theorem filter_lt_of {α : Type} {p q : α → Bool} : ∀ (l : List α) (y : α), (∀ x, q x = true → p x = true) → y ∈ l → p y = true → q y = false → (l.filter q).length < (l.filter p).length
  | [], y, _, hy, _, _ => by simp at hy
  | x :: l, y, h, hy, hp, hq => by
    by_cases hxy : x = y
    · subst hxy
      rw [List.filter_cons_of_pos hp, List.filter_cons_of_neg (by simp [hq])]
      have := filter_le_of l h
      simp
      omega
    · have hy' : y ∈ l := by rcases List.mem_cons.1 hy with h | h; exact absurd h.symm hxy; exact h
      have ih := filter_lt_of l y h hy' hp hq
      cases hq' : q x
      · rw [List.filter_cons_of_neg (by simp [hq'])]
        cases hp' : p x
        · rw [List.filter_cons_of_neg (by simp [hp'])]; exact ih
        · rw [List.filter_cons_of_pos hp']; simp; omega
      · rw [List.filter_cons_of_pos hq', List.filter_cons_of_pos (h x hq')]; simpa using ih
theorem unlisted_set {n i : Nat} {listed : Array Bool} (hi : i < n) (h : listed.getD i true = false) : unlisted n (listed.setIfInBounds i true) < unlisted n listed := by
  refine filter_lt_of _ i (fun x hx => ?_) (List.mem_range.2 hi) (by simp [h]) ?_
  · by_cases hxi : i = x
    · subst hxi; simp [h]
    · rw [getD_set_ne true hxi] at hx; exact hx
  · have hlt : i < listed.size := by
      rcases Nat.lt_or_ge i listed.size with h' | h'
      · exact h'
      · simp [Array.getD, Nat.not_lt.2 h'] at h
    simp [Array.getD, hlt]

theorem wpAny_inv {P : Program} {md : Region.Mode} {ops : Array Oper} {Q : Exit → Act → World → Prop} (Inv : Array Bool → Act → World → Prop)
    (hstep : ∀ listed a w i, i ∈ Region.ready md ops listed → Inv listed a w → wpOp P ops Q i (fun a' w' => Inv (listed.setIfInBounds i true) a' w') a w)
    (hend : ∀ listed a w, Region.ready md ops listed = [] → Inv listed a w → Q .normal a w) :
    ∀ (fuel : Nat) (listed : Array Bool) (a : Act) (w : World), unlisted ops.size listed ≤ fuel → Inv listed a w → wpAny P md ops Q fuel listed a w
  | 0, listed, a, w, hf, h => by
    have hr : Region.ready md ops listed = [] := by
      cases hr : Region.ready md ops listed with
      | nil => rfl
      | cons i l =>
        have hm : i ∈ Region.ready md ops listed := by rw [hr]; simp
        obtain ⟨h1, o, ho, _⟩ := mem_ready.1 hm
        have hlt : i < ops.size := by
          rcases Nat.lt_or_ge i ops.size with h' | h'
          · exact h'
          · rw [Array.getElem?_eq_none h'] at ho; cases ho
        have := unlisted_set hlt h1
        omega
    exact ⟨hr, hend listed a w hr h⟩
  | fuel + 1, listed, a, w, hf, h => by
    refine ⟨fun hr => hend listed a w hr h, fun i hi => ?_⟩
    obtain ⟨h1, o, ho, _⟩ := mem_ready.1 hi
    have hlt : i < ops.size := by
      rcases Nat.lt_or_ge i ops.size with h' | h'
      · exact h'
      · rw [Array.getElem?_eq_none h'] at ho; cases ho
    have hu := unlisted_set hlt h1
    exact wpOp_mono (fun a' w' h' => wpAny_inv Inv hstep hend fuel _ a' w' (by omega) h') (hstep listed a w i hi h)

/-- The region's rule: 'Inv': what holds when so many operations have been done. -/
theorem wp_region_inv {P : Program} {id : Nat} {Q : Exit → Act → World → Prop} {a : Act} {w : World} {l : List Oper} (hm : P.follows .mixedOrders = true) (Inv : Array Bool → Act → World → Prop)
    (h0 : Inv (Array.replicate l.toArray.size false) a w.drew)
    (hstep : ∀ listed a w i, i ∈ Region.ready .any l.toArray listed → Inv listed a w → wpOp P l.toArray Q i (fun a' w' => Inv (listed.setIfInBounds i true) a' w') a w)
    (hend : ∀ listed a w, Region.ready .any l.toArray listed = [] → Inv listed a w → Q .normal a w) : (Code.region id l.toArray true).wp P Q a w :=
  wp_region_any hm (wpAny_inv Inv hstep hend _ _ _ _ (by unfold unlisted; exact Nat.le_trans (List.length_filter_le _ _) (by simp)) h0)
/-- Nothing is ready: an operation all of whose forerunners are done is done. -/
theorem flag_of {md : Region.Mode} {ops : Array Oper} {L : Array Bool} {j : Nat} {o : Oper} (hj : j < L.size) (hr : Region.ready md ops L = []) (ho : ops[j]? = some o) (hd : ∀ e ∈ o.after, L.getD e.on false = true) : L.getD j false = true := by
  cases h : L.getD j true with
  | false =>
    have : j ∈ Region.ready md ops L := mem_ready.2 ⟨h, o, ho, fun e he _ => hd e he⟩
    rw [hr] at this
    cases this
  | true => simp [Array.getD, hj] at h ⊢; exact h
/-- One operation without a guard, what follows behind a letter. -/
theorem wpOp_plain {P : Program} {ops : Array Oper} {Q : Exit → Act → World → Prop} {i : Nat} {o : Oper} {a : Act} {w : World} {K : Act → World → Prop} (ho : ops[i]? = some o) (hg : o.guard = none)
    (h : ∀ K' : Act → World → Prop, (∀ a w, K a w → K' a w) → o.wp P a w K' Q) : wpOp P ops Q i K a w := by
  unfold wpOp
  rw [ho]
  simp only
  rw [if_pos (by simp [Region.wanted, hg])]
  exact Or.inl (h K (fun _ _ h => h))
end Go.Proofs.YtlenilbkifofjaaDoor
namespace Go.Proofs.YtlenilbkifofjaaDoor
open Go.RowKit

def upd (Y : Nat → Value) (i : Nat) (v : Value) : Nat → Value := fun j => if j = i then v else Y j
theorem upd_self (Y : Nat → Value) (i : Nat) (v : Value) : upd Y i v i = v := by simp [upd]
theorem upd_ne (Y : Nat → Value) {i j : Nat} (v : Value) (h : j ≠ i) : upd Y i v j = Y j := by simp [upd, h]
theorem ls_set' {L : Array Bool} {i j : Nat} (h : (L.setIfInBounds i true).getD j false = true) : j = i ∨ L.getD j false = true := by
  by_cases hij : i = j
  · exact Or.inl hij.symm
  · rw [getD_set_ne false hij] at h; exact Or.inr h

/-- 'Cl W i v': what is known of operation i's result v, at whatever later world W. -/
theorem region_cl {P : Program} {id : Nat} {Q : Exit → Act → World → Prop} {a : Act} {w : World} {l : List Oper} (hm : P.follows .mixedOrders = true) (Cl : World → Nat → Value → Prop) (mk : (Nat → Value) → Act) (Y0 : Nat → Value) (ha : a = mk Y0)
    (hback : l.zipIdx.all (fun x => x.1.after.all fun e => decide (e.on < x.2)) = true)
    (hmono : ∀ W W' i v, Below W.heap.size W W' → Cl W i v → Cl W' i v)
    (hstep : ∀ i o Y W, l[i]? = some o → Below w.heap.size w W → (∀ e ∈ o.after, Region.binds .any e = true → Cl W e.on (Y e.on)) → ∀ K : Act → World → Prop, (∀ v W', Below W.heap.size W W' → Cl W' i v → K (mk (upd Y i v)) W') → wpOp P l.toArray Q i K (mk Y) W)
    (hend : ∀ Y W, Below w.heap.size w W → (∀ i, i < l.length → Cl W i (Y i)) → Q .normal (mk Y) W) : (Code.region id l.toArray true).wp P Q a w := by
  refine wp_region_inv hm (fun L act W => L.size = l.length ∧ ∃ Y, act = mk Y ∧ Below w.heap.size w W ∧ ∀ i, L.getD i false = true → Cl W i (Y i)) ?_ ?_ ?_
  · refine ⟨by simp, Y0, ha, (Below.refl _ _).drew, fun j h => ?_⟩
    rcases Nat.lt_or_ge j l.length with hj | hj
    · simp [Array.getD, hj] at h
    · simp [Array.getD, Nat.not_lt.2 hj] at h
  · rintro L act W i hi ⟨hsz, Y, rfl, hb, hc⟩
    obtain ⟨hn, o, ho, hall⟩ := mem_ready.1 hi
    refine hstep i o Y W (by simpa using ho) hb (fun e he hbd => hc _ (hall e he hbd)) _ (fun v W' hb' hv => ⟨by simp [hsz], upd Y i v, rfl, hb.trans (hb'.mono hb.size), fun j hj => ?_⟩)
    by_cases hji : j = i
    · subst hji; rw [upd_self]; exact hv
    · rw [upd_ne Y v hji]
      exact hmono _ _ _ _ hb' (hc j ((ls_set' hj).resolve_left hji))
  · rintro L act W hr ⟨hsz, Y, rfl, hb, hc⟩
    refine hend Y W hb ?_
    have key : ∀ n i, i < n → i < l.length → L.getD i false = true := by
      intro n
      induction n with
      | zero => intro i h; omega
      | succ n ih =>
        intro i hin hil
        refine flag_of (j := i) (by omega) hr (by simp [hil]; rfl) (fun e he => ?_)
        have hlt : e.on < i := by
          have hx := List.all_eq_true.1 hback (l[i], i) (List.mem_iff_getElem?.2 ⟨i, by simp [hil]⟩)
          exact of_decide_eq_true ((Array.all_eq_true_iff_forall_mem.1 hx) e he)
        exact ih e.on (by omega) (by omega)
    exact fun i hi => hc i (key (i + 1) i (by omega) hi)
end Go.Proofs.YtlenilbkifofjaaDoor
namespace Go.Proofs.YtlenilbkifofjaaDoor
open Go.RowKit

structure XBox (w : World) (ia is ix sz : Nat) (ty : TypeId) (boxed : Value → Array Value) (Cl : World → Nat → Value → Prop) (Off : Nat → Value → Nat → Prop) (L : Array Bool) (Y : Nat → Value) (W : World) : Prop where
  below : Below w.heap.size w W
  cl : ∀ i, i ≠ ia → i ≠ is → L.getD i false = true → Cl W i (Y i) ∧ (L.getD ia false = true → ∀ p, Y ia = .pointer (some ⟨p, 0, none⟩) → Off i (Y i) p)
  box : L.getD ia false = true → ∃ p cs, Y ia = .pointer (some ⟨p, 0, none⟩) ∧ w.heap.size ≤ p ∧ Row W p cs ty ∧ cs.size = sz ∧ (L.getD is false = true → L.getD ix false = true ∧ cs = boxed (Y ix))
  dep : L.getD is false = true → L.getD ia false = true

theorem ls_un {L : Array Bool} {i : Nat} (hn : L.getD i true = false) (h : L.getD i false = true) : False := by
  rcases Nat.lt_or_ge i L.size with hj | hj
  · simp [Array.getD, hj] at h hn; rw [hn] at h; cases h
  · simp [Array.getD, Nat.not_lt.2 hj] at h
theorem ls_keep {L : Array Bool} {i j : Nat} (h : L.getD j false = true) : (L.setIfInBounds i true).getD j false = true := by
  by_cases hij : i = j
  · subst hij
    rcases Nat.lt_or_ge i L.size with hj | hj
    · simp [Array.getD, hj]
    · simp [Array.getD, Nat.not_lt.2 hj] at h
  · rw [getD_set_ne false hij]; exact h

/-- Nothing is ready: an operation whose binding forerunners are done is done. -/
theorem flag_of_any {md : Region.Mode} {ops : Array Oper} {L : Array Bool} {j : Nat} {o : Oper} (hj : j < L.size) (hr : Region.ready md ops L = []) (ho : ops[j]? = some o) (hd : ∀ e ∈ o.after, Region.binds md e = true → L.getD e.on false = true) : L.getD j false = true := by
  cases h : L.getD j true with
  | false =>
    have : j ∈ Region.ready md ops L := mem_ready.2 ⟨h, o, ho, hd⟩
    rw [hr] at this
    cases this
  | true => simp [Array.getD, hj] at h ⊢; exact h

theorem region_box {P : Program} {id : Nat} {Q : Exit → Act → World → Prop} {a : Act} {w : World} {l : List Oper} (hm : P.follows .mixedOrders = true) (ia is ix sz : Nat) (ty : TypeId) (boxed : Value → Array Value)
    (Cl : World → Nat → Value → Prop) (Off : Nat → Value → Nat → Prop) (mk : (Nat → Value) → Act) (Y0 : Nat → Value) (ha : a = mk Y0)
    (hback : l.zipIdx.all (fun x => x.1.after.all fun e => !Region.binds .any e || decide (e.on < x.2)) = true)
    (hia : ia < l.length) (his : is < l.length) (hne : ia ≠ is) (hxa : ix ≠ ia) (hxs : ix ≠ is)
    (hst : ∀ o, l[is]? = some o → (∃ e ∈ o.after, e.on = ia ∧ Region.binds .any e = true) ∧ (∃ e ∈ o.after, e.on = ix ∧ Region.binds .any e = true))
    (hmono : ∀ W W' i v, Below W.heap.size W W' → Cl W i v → Cl W' i v)
    (hstore : ∀ W W' i v p, w.heap.size ≤ p → Wr (fun k => k = p) W W' → Off i v p → Cl W i v → Cl W' i v)
    (hfresh : ∀ W i v, Below w.heap.size w W → Cl W i v → Off i v W.heap.size)
    (hstep : ∀ i o Y W, i ≠ ia → i ≠ is → l[i]? = some o → Below w.heap.size w W → (∀ e ∈ o.after, Region.binds .any e = true → e.on ≠ ia → e.on ≠ is → Cl W e.on (Y e.on)) →
      ∀ K : Act → World → Prop, (∀ v W', Below W.heap.size W W' → Cl W' i v → (∀ p, w.heap.size ≤ p → p < W.heap.size → (∀ e ∈ o.after, Region.binds .any e = true → e.on ≠ ia → e.on ≠ is → Off e.on (Y e.on) p) → Off i v p) → K (mk (upd Y i v)) W') → wpOp P l.toArray Q i K (mk Y) W)
    (halloc : ∀ o Y W, l[ia]? = some o → Below w.heap.size w W → ∀ K : Act → World → Prop, (∀ cs : Array Value, cs.size = sz → K (mk (upd Y ia (.pointer (some ⟨W.heap.size, 0, none⟩)))) (W.alloc (.cells cs ty))) → wpOp P l.toArray Q ia K (mk Y) W)
    (hwrite : ∀ o Y W p cs, l[is]? = some o → Y ia = .pointer (some ⟨p, 0, none⟩) → Row W p cs ty → cs.size = sz → Cl W ix (Y ix) → ∀ K : Act → World → Prop, (∀ W' v, Wr (fun k => k = p) W W' → Row W' p (boxed (Y ix)) ty → (boxed (Y ix)).size = sz → K (mk (upd Y is v)) W') → wpOp P l.toArray Q is K (mk Y) W)
    (hend : ∀ Y W p, Below w.heap.size w W → w.heap.size ≤ p → Y ia = .pointer (some ⟨p, 0, none⟩) → Row W p (boxed (Y ix)) ty → (∀ i, i < l.length → i ≠ ia → i ≠ is → Cl W i (Y i) ∧ Off i (Y i) p) → Q .normal (mk Y) W) : (Code.region id l.toArray true).wp P Q a w := by
  refine wp_region_inv hm (fun L act W => L.size = l.length ∧ ∃ Y, act = mk Y ∧ XBox w ia is ix sz ty boxed Cl Off L Y W) ?_ ?_ ?_
  · have hf : ∀ j, (Array.replicate l.toArray.size false).getD j false = true → False := fun j h => by
      rcases Nat.lt_or_ge j l.length with hj | hj
      · simp [Array.getD, hj] at h
      · simp [Array.getD, Nat.not_lt.2 hj] at h
    exact ⟨by simp, Y0, ha, (Below.refl _ _).drew, fun i _ _ h => (hf i h).elim, fun h => (hf _ h).elim, fun h => (hf _ h).elim⟩
  · rintro L act W i hi ⟨hsz, Y, rfl, hJ⟩
    obtain ⟨hn, o, ho, hall⟩ := mem_ready.1 hi
    have ho' : l[i]? = some o := by simpa using ho
    have hb := hJ.below
    by_cases h1 : i = ia
    · subst h1
      refine halloc o Y W ho' hb _ (fun cs hcs => ⟨by simp [hsz], _, rfl, hb.alloc hb.size _, fun j hj1 hj2 g => ?_, fun g => ?_, fun g => ?_⟩)
      · have g' := (ls_set' g).resolve_left hj1
        obtain ⟨c1, c2⟩ := hJ.cl j hj1 hj2 g'
        rw [upd_ne Y _ hj1]
        refine ⟨hmono _ _ _ _ ((Below.refl _ _).alloc (Nat.le_refl _) _) c1, fun _ p hp => ?_⟩
        rw [upd_self] at hp
        injection hp with hp
        injection hp with hp
        injection hp with hp
        rw [← hp]
        exact hfresh W j _ hb c1
      · refine ⟨W.heap.size, cs, upd_self _ _ _, hb.size, Row.new _ _ _, hcs, fun g2 => ?_⟩
        exact (ls_un hn (hJ.dep ((ls_set' g2).resolve_left (Ne.symm hne)))).elim
      · exact (ls_un hn (hJ.dep ((ls_set' g).resolve_left (Ne.symm hne)))).elim
    · by_cases h2 : i = is
      · subst h2
        obtain ⟨⟨e1, he1, hon1, hb1⟩, ⟨e2, he2, hon2, hb2⟩⟩ := hst o ho'
        have f1 := hall e1 he1 hb1
        have f2 := hall e2 he2 hb2
        rw [hon1] at f1
        rw [hon2] at f2
        obtain ⟨p, cs, hp, hpw, hrow, hcs, _⟩ := hJ.box f1
        refine hwrite o Y W p cs ho' hp hrow hcs (hJ.cl ix hxa hxs f2).1 _ (fun W' v hw' hr' hbs => ⟨by simp [hsz], _, rfl, hb.trans (hw'.below hb.size (fun k hk => by omega)), fun j hj1 hj2 g => ?_, fun g => ?_, fun g => ls_keep f1⟩)
        · have g' := (ls_set' g).resolve_left hj2
          obtain ⟨c1, c2⟩ := hJ.cl j hj1 hj2 g'
          rw [upd_ne Y _ hj2, upd_ne Y _ hne]
          exact ⟨hstore _ _ _ _ p hpw hw' (c2 f1 p hp) c1, fun _ => c2 f1⟩
        · rw [upd_ne Y _ hne, upd_ne Y _ hxs]
          exact ⟨p, _, hp, hpw, hr', hbs, fun _ => ⟨ls_keep f2, rfl⟩⟩
      · refine hstep i o Y W h1 h2 ho' hb (fun e he hbd n1 n2 => (hJ.cl e.on n1 n2 (hall e he hbd)).1) _ (fun v W' hb' hv hoff => ⟨by simp [hsz], _, rfl, hb.trans (hb'.mono hb.size), fun j hj1 hj2 g => ?_, fun g => ?_, fun g => ls_keep (hJ.dep ((ls_set' g).resolve_left (Ne.symm h2)))⟩)
        · by_cases hji : j = i
          · subst hji
            rw [upd_self, upd_ne Y _ (Ne.symm h1)]
            refine ⟨hv, fun g2 p hp => ?_⟩
            have g3 := (ls_set' g2).resolve_left (Ne.symm h1)
            obtain ⟨p', cs, hp', hpw, hrow, _⟩ := hJ.box g3
            have : p = p' := by rw [hp] at hp'; simpa using hp'
            subst this
            exact hoff p hpw hrow.lt (fun e he hbd n1 n2 => (hJ.cl e.on n1 n2 (hall e he hbd)).2 g3 p hp)
          · have g' := (ls_set' g).resolve_left hji
            obtain ⟨c1, c2⟩ := hJ.cl j hj1 hj2 g'
            rw [upd_ne Y _ hji, upd_ne Y _ (Ne.symm h1)]
            exact ⟨hmono _ _ _ _ hb' c1, fun g2 => c2 ((ls_set' g2).resolve_left (Ne.symm h1))⟩
        · obtain ⟨p, cs, hp, hpw, hrow, hcs, hw⟩ := hJ.box ((ls_set' g).resolve_left (Ne.symm h1))
          rw [upd_ne Y _ (Ne.symm h1)]
          refine ⟨p, cs, hp, hpw, hrow.below hb' hrow.lt, hcs, fun g2 => ?_⟩
          obtain ⟨x1, x2⟩ := hw ((ls_set' g2).resolve_left (Ne.symm h2))
          have hxi : ix ≠ i := fun e => ls_un hn (e ▸ x1)
          rw [upd_ne Y _ hxi]
          exact ⟨ls_keep x1, x2⟩
  · rintro L act W hr ⟨hsz, Y, rfl, hJ⟩
    have key : ∀ n i, i < n → i < l.length → L.getD i false = true := by
      intro n
      induction n with
      | zero => intro i h; omega
      | succ n ih =>
        intro i hin hil
        refine flag_of_any (j := i) (by omega) hr (show l.toArray[i]? = some l[i] by simp [hil]) (fun e he hbd => ?_)
        have hlt : e.on < i := by
          have hx := List.all_eq_true.1 hback (l[i], i) (List.mem_iff_getElem?.2 ⟨i, by simp [hil]⟩)
          have hy := (Array.all_eq_true_iff_forall_mem.1 hx) e he
          rw [hbd] at hy
          simpa using hy
        exact ih e.on (by omega) (by omega)
    have fl : ∀ i, i < l.length → L.getD i false = true := fun i hi => key (i + 1) i (by omega) hi
    obtain ⟨p, cs, hp, hpw, hrow, _, hw⟩ := hJ.box (fl ia hia)
    obtain ⟨_, rfl⟩ := hw (fl is his)
    exact hend Y W p hJ.below hpw hp hrow (fun i hi n1 n2 => ⟨(hJ.cl i n1 n2 (fl i hi)).1, (hJ.cl i n1 n2 (fl i hi)).2 (fl ia hia) p hp⟩)

/-! ### Runs: the answer of a run in a box -/
abbrev outA (o : OutS) (v : Value) : Value := .agg #[.int .i64 o.kind, .int .i64 o.code, v, .int .i64 o.steps, .int .i64 o.deep]
abbrev outT (o : OutS) (er : Int) (v : Value) : Value := .tuple #[outA o v, .int .i64 er]
def aggOf : Value → Array Value
  | .agg cs => cs
  | _ => #[]
/-- What is known of each operation's result: up to 'ic' the constants, then the call, a move, the two parts; a box; the write; the second part again. -/
structure RunCl (ty : TypeId) (base ic : Nat) (cst : Nat → Value) (o : OutS) (er : Int) (W : World) (i : Nat) (v : Value) : Prop where
  c : i < ic → v = cst i
  t : i = ic ∨ i = ic + 1 → ∃ u, v = outT o er u ∧ W.ownsRow base ty 1 u o.out.length (o.out.map (Value.int .i64))
  a : i = ic + 2 → ∃ u, v = outA o u ∧ W.ownsRow base ty 1 u o.out.length (o.out.map (Value.int .i64))
  e : i = ic + 3 ∨ i = ic + 6 → v = .int .i64 er
def RunOff (ic : Nat) (o : OutS) (er : Int) (i : Nat) (v : Value) (p : Nat) : Prop :=
  (i = ic ∨ i = ic + 1 → ∀ u, v = outT o er u → u.ownBlock ≠ some p) ∧ (i = ic + 2 → ∀ u, v = outA o u → u.ownBlock ≠ some p)
section
variable {ty : TypeId} {base ic : Nat} {cst : Nat → Value} {o : OutS} {er : Int} {W W' : World} {i : Nat} {v : Value}
theorem RunCl.wr {F : Nat → Prop} (h : RunCl ty base ic cst o er W i v) (hw : Wr F W W') (hF : ∀ g, F g → ∀ u, (i = ic ∨ i = ic + 1 → v = outT o er u → u.ownBlock ≠ some g) ∧ (i = ic + 2 → v = outA o u → u.ownBlock ≠ some g)) : RunCl ty base ic cst o er W' i v := by
  refine ⟨h.c, fun hi => ?_, fun hi => ?_, h.e⟩
  · obtain ⟨u, e, hu⟩ := h.t hi
    exact ⟨u, e, ownsRow_wr hu hw (fun g hg hf => (hF g hf u).1 hi e hg)⟩
  · obtain ⟨u, e, hu⟩ := h.a hi
    exact ⟨u, e, ownsRow_wr hu hw (fun g hg hf => (hF g hf u).2 hi e hg)⟩
theorem RunCl.below (h : RunCl ty base ic cst o er W i v) (hb : Below W.heap.size W W') : RunCl ty base ic cst o er W' i v := h.wr (F := fun _ => False) (Wr.of_below hb) (fun _ h => h.elim)
theorem outT_inj {u u' : Value} (h : outT o er u = outT o er u') : u = u' := by simpa [outT, outA] using h
theorem outA_inj {u u' : Value} (h : outA o u = outA o u') : u = u' := by simpa [outA] using h
theorem RunCl.fresh (h : RunCl ty base ic cst o er W i v) : RunOff ic o er i v W.heap.size := by
  refine ⟨fun hi u hu hb => ?_, fun hi u hu hb => ?_⟩
  · obtain ⟨u', e, ho⟩ := h.t hi
    obtain rfl := outT_inj (hu.symm.trans e)
    have := (ho.lt _ hb).2
    omega
  · obtain ⟨u', e, ho⟩ := h.a hi
    obtain rfl := outA_inj (hu.symm.trans e)
    have := (ho.lt _ hb).2
    omega
theorem RunCl.const (h : i < ic) : RunCl ty base ic cst o er W i (cst i) := ⟨fun _ => rfl, fun h' => by omega, fun h' => by omega, fun h' => by omega⟩
theorem RunOff.const (h : i < ic) (p : Nat) : RunOff ic o er i v p := ⟨fun h' => by omega, fun h' => by omega⟩
theorem RunCl.err (h : i = ic + 3 ∨ i = ic + 6) : RunCl ty base ic cst o er W i (.int .i64 er) := ⟨fun h' => by omega, fun h' => by omega, fun h' => by omega, fun _ => rfl⟩
theorem RunOff.err (h : i = ic + 3 ∨ i = ic + 6) (p : Nat) : RunOff ic o er i v p := ⟨fun h' => by omega, fun h' => by omega⟩
theorem RunCl.call {u : Value} (h : i = ic ∨ i = ic + 1) (hu : W.ownsRow base ty 1 u o.out.length (o.out.map (Value.int .i64))) : RunCl ty base ic cst o er W i (outT o er u) := ⟨fun h' => by omega, fun _ => ⟨u, rfl, hu⟩, fun h' => by omega, fun h' => by omega⟩
theorem RunOff.call {u : Value} (h : i = ic ∨ i = ic + 1) {p : Nat} (hp : u.ownBlock ≠ some p) : RunOff ic o er i (outT o er u) p := ⟨fun _ u' e => by rw [← outT_inj e]; exact hp, fun h' => by omega⟩
theorem RunCl.part {u : Value} (h : i = ic + 2) (hu : W.ownsRow base ty 1 u o.out.length (o.out.map (Value.int .i64))) : RunCl ty base ic cst o er W i (outA o u) := ⟨fun h' => by omega, fun h' => by omega, fun _ => ⟨u, rfl, hu⟩, fun h' => by omega⟩
theorem RunOff.part {u : Value} (h : i = ic + 2) {p : Nat} (hp : u.ownBlock ≠ some p) : RunOff ic o er i (outA o u) p := ⟨fun h' => by omega, fun _ u' e => by rw [← outA_inj e]; exact hp⟩
end
def regsOf : Code → List Code
  | .region i l b => [.region i l b]
  | .loop c => regsOf c
  | .seq a b => regsOf a ++ regsOf b
  | .block _ c => regsOf c
  | .scope c => regsOf c
  | .cond _ a b => regsOf a ++ regsOf b
  | _ => []
theorem size5 {cs : Array Value} (h : cs.size = 5) : ∃ a b c d e, cs = #[a, b, c, d, e] := by
  obtain ⟨l⟩ := cs
  match l, h with
  | [a, b, c, d, e], _ => exact ⟨a, b, c, d, e, rfl⟩
end Go.Proofs.YtlenilbkifofjaaDoor
namespace Go.Proofs.YtlenilbkifofjaaDoor
open Go.RowKit

theorem wpAny_of_seq' {P : Program} {md : Region.Mode} {ops : Array Oper} {Q' : Exit → Act → World → Prop} (m : Nat) : ∀ (l : List Oper) (k : Nat) (listed : Array Bool) (a : Act) (w : World), (∀ j, l[j]? = ops[k + j]?) →
    Region.seqB md ops l.length k listed = true → wpList P ops Q' l a w → wpAny P md ops Q' (l.length + m) listed a w
  | [], _, listed, _, _, _, hB, h => by
    have hr : Region.ready md ops listed = [] := by simpa [Region.seqB] using hB
    cases m with
    | zero => exact ⟨hr, h⟩
    | succ m =>
      rw [show ([] : List Oper).length + (m + 1) = m + 1 by simp]
      exact ⟨fun _ => h, fun i hi => by rw [hr] at hi; cases hi⟩
  | o :: l, k, listed, a, w, hl, hB, h => by
    have h0 : ops[k]? = some o := by simpa using (hl 0).symm
    simp only [List.length_cons, Region.seqB, Bool.and_eq_true, decide_eq_true_eq] at hB
    rw [show (o :: l).length + m = (l.length + m) + 1 by simp; omega]
    refine ⟨fun h1 => (by rw [hB.1] at h1; cases h1), fun i hi => ?_⟩
    rw [hB.1] at hi
    have hik : i = k := by simpa using hi
    subst hik
    have hw : wpOp P ops Q' i (wpList P ops Q' l) a w := by unfold wpOp; simp only [h0]; exact h
    exact wpOp_mono (fun a' w' h' => wpAny_of_seq' m l (i + 1) _ a' w' (fun j => by have := hl (j + 1); simpa [Nat.add_assoc, Nat.add_comm 1 j] using this) hB.2 h') hw
/-- Each operation waits for earlier ones alone. -/
def backB (l : List Oper) : Bool := l.zipIdx.all (fun x => x.1.after.all fun e => !Region.binds .any e || decide (e.on < x.2))
theorem backB_of {l : List Oper} (hback : backB l = true) {i : Nat} {o : Oper} (ho : l[i]? = some o) {e : Edge} (he : e ∈ o.after) (hbd : Region.binds .any e = true) : e.on < i := by
  have hx := List.all_eq_true.1 hback (o, i) (List.mem_iff_getElem?.2 ⟨i, by simp [ho]⟩)
  have hy := (Array.all_eq_true_iff_forall_mem.1 hx) e he
  rw [hbd] at hy
  simpa using hy
theorem ready_of {l : List Oper} {listed : Array Bool} (hback : backB l = true) (hsz : listed.size = l.length) : ∀ (n : Nat), n ≤ l.length → (∃ j, j < n ∧ listed.getD j false = false) → Region.ready .any l.toArray listed ≠ []
  | 0, _, ⟨j, h, _⟩ => by omega
  | n + 1, hn, ⟨j, hj, hf⟩ => by
    by_cases he : ∃ j, j < n ∧ listed.getD j false = false
    · exact ready_of hback hsz n (by omega) he
    · have hjn : j = n := by
        rcases Nat.lt_or_ge j n with h | h
        · exact absurd ⟨j, h, hf⟩ he
        · omega
      subst hjn
      intro hr
      have hjl : j < l.length := by omega
      have : j ∈ Region.ready .any l.toArray listed := mem_ready.2 ⟨getD_in (by omega) hf, l[j], by simp [hjl], fun e he' hbd => by
        have hlt := backB_of hback (i := j) (o := l[j]) (by simp [hjl]) he' hbd
        cases hx : listed.getD e.on false with
        | true => rfl
        | false => exact absurd ⟨e.on, hlt, hx⟩ he⟩
      rw [hr] at this
      cases this
/-- The checks of a head of n operations. -/
def headB (l : List Oper) (n : Nat) : Bool := decide (n < l.length) && Region.sinkB .any l.toArray n && Region.chainB .any l.toArray n && backB l && Region.seqB .any l.toArray (l.length - n) n ((List.range l.length).map fun j => decide (j < n)).toArray
theorem wpAny_inv_tail {P : Program} {l : List Oper} {Q : Exit → Act → World → Prop} (n : Nat) (hB : headB l n = true) (Inv : Array Bool → Act → World → Prop)
    (hstep : ∀ listed a w i, HeadInv .any l.toArray n listed → i < n → i ∈ Region.ready .any l.toArray listed → Inv listed a w → wpOp P l.toArray Q i (fun a' w' => Inv (listed.setIfInBounds i true) a' w') a w)
    (hend : ∀ listed a w, (∀ j, j < n → listed.getD j false = true) → Inv listed a w → wpList P l.toArray Q (l.drop n) a w) :
    ∀ (f : Nat) (listed : Array Bool) (a : Act) (w : World), HeadInv .any l.toArray n listed → unlisted n listed ≤ f → Inv listed a w → wpAny P .any l.toArray Q ((l.length - n) + f) listed a w := by
  unfold headB at hB
  simp only [Bool.and_eq_true, decide_eq_true_eq] at hB
  obtain ⟨⟨⟨⟨hn, hs⟩, hc⟩, hback⟩, hseq⟩ := hB
  have hnt : n < l.toArray.size := by simpa using hn
  have hdl : (l.drop n).length = l.length - n := by simp
  intro f
  induction f with
  | zero =>
    intro listed a w inv hf h
    have hall : ∀ j, j < n → listed.getD j false = true := by
      intro j hj
      cases hx : listed.getD j false with
      | true => rfl
      | false =>
        have hd : listed.getD j true = false := getD_in (by rw [inv.size]; omega) hx
        have := unlisted_set hj hd
        omega
    have hL : listed = ((List.range l.length).map fun j => decide (j < n)).toArray := by
      refine Array.ext (by simp [inv.size]) (fun j h1 h2 => ?_)
      simp only [List.getElem_toArray, List.getElem_map, List.getElem_range]
      by_cases hj : j < n
      · rw [decide_eq_true hj]
        have := hall j hj
        simpa [Array.getD, h1] using this
      · rw [decide_eq_false hj]
        have := inv.tail j (by omega) (by rw [← inv.size]; exact h1)
        simpa [Array.getD, h1] using this
    rw [← hL] at hseq
    rw [← hdl] at hseq ⊢
    exact wpAny_of_seq' 0 (l.drop n) n listed a w (fun j => by simp) hseq (hend listed a w hall h)
  | succ f ih =>
    intro listed a w inv hf h
    by_cases hall : ∀ j, j < n → listed.getD j false = true
    · have hL : listed = ((List.range l.length).map fun j => decide (j < n)).toArray := by
        refine Array.ext (by simp [inv.size]) (fun j h1 h2 => ?_)
        simp only [List.getElem_toArray, List.getElem_map, List.getElem_range]
        by_cases hj : j < n
        · rw [decide_eq_true hj]
          have := hall j hj
          simpa [Array.getD, h1] using this
        · rw [decide_eq_false hj]
          have := inv.tail j (by omega) (by rw [← inv.size]; exact h1)
          simpa [Array.getD, h1] using this
      rw [← hL] at hseq
      rw [← hdl] at hseq ⊢
      exact wpAny_of_seq' (f + 1) (l.drop n) n listed a w (fun j => by simp) hseq (hend listed a w hall h)
    · have hex : ∃ j, j < n ∧ listed.getD j false = false := by
        rcases Classical.not_forall.1 hall with ⟨j, hj⟩
        rcases Classical.not_imp.1 hj with ⟨h1, h2⟩
        exact ⟨j, h1, by simpa using h2⟩
      rw [show l.length - n + (f + 1) = (l.length - n + f) + 1 by omega]
      refine ⟨fun hr => absurd hr (ready_of hback (by rw [inv.size]; simp) n (by omega) hex), fun i hi => ?_⟩
      obtain ⟨j, hj, hf'⟩ := hex
      have hin : i < n := by
        rcases Nat.lt_or_ge i n with h' | h'
        · exact h'
        · exact absurd hi (tail_waits hs hc hnt inv _ j rfl hj (getD_in (by rw [inv.size]; omega) hf') i h')
      refine wpOp_mono (fun a' w' h' => ih _ a' w' (inv.set hi hin) ?_ h') (hstep listed a w i inv hin hi h)
      have := unlisted_set hin (mem_ready.1 hi).1
      omega
/-- 'Cl W i v': what is known of operation i's result v, at whatever later world W; the head: n operations. -/
theorem region_cl_tail {P : Program} {id : Nat} {Q : Exit → Act → World → Prop} {a : Act} {w : World} {l : List Oper} (n : Nat) (hm : P.follows .mixedOrders = true) (hB : headB l n = true) (Cl : World → Nat → Value → Prop) (mk : (Nat → Value) → Act) (Y0 : Nat → Value) (ha : a = mk Y0)
    (hmono : ∀ W W' i v, Below W.heap.size W W' → Cl W i v → Cl W' i v)
    (hstep : ∀ i o Y W, i < n → l[i]? = some o → Below w.heap.size w W → (∀ e ∈ o.after, Region.binds .any e = true → Cl W e.on (Y e.on)) → ∀ K : Act → World → Prop, (∀ v W', Below W.heap.size W W' → Cl W' i v → K (mk (upd Y i v)) W') → wpOp P l.toArray Q i K (mk Y) W)
    (hend : ∀ Y W, Below w.heap.size w W → (∀ i, i < n → Cl W i (Y i)) → wpList P l.toArray Q (l.drop n) (mk Y) W) : (Code.region id l.toArray true).wp P Q a w := by
  have hn : n < l.length := by
    unfold headB at hB
    simp only [Bool.and_eq_true, decide_eq_true_eq] at hB
    exact hB.1.1.1.1
  refine wp_region_any hm ?_
  have hun : unlisted n (Array.replicate l.toArray.size false) ≤ n := by unfold unlisted; exact Nat.le_trans (List.length_filter_le _ _) (by simp)
  have inv0 : HeadInv .any l.toArray n (Array.replicate l.toArray.size false) :=
    ⟨by simp, fun j oj _ hl => (by rw [getD_replicate_false] at hl; cases hl), fun t _ ht => getD_in (by simpa using ht) (getD_replicate_false _ _)⟩
  have H := wpAny_inv_tail (P := P) (Q := Q) n hB (fun L act W => L.size = l.length ∧ ∃ Y, act = mk Y ∧ Below w.heap.size w W ∧ ∀ i, i < n → L.getD i false = true → Cl W i (Y i)) ?_ ?_ n _ a w.drew inv0 hun ?_
  · have e : l.length - n + n = l.toArray.size := by simp; omega
    rw [e] at H
    exact H
  · rintro L act W i _ hin hi ⟨hsz, Y, rfl, hb, hc⟩
    obtain ⟨hnn, o, ho, hall⟩ := mem_ready.1 hi
    have hback : backB l = true := by
      unfold headB at hB
      simp only [Bool.and_eq_true, decide_eq_true_eq] at hB
      exact hB.1.2
    refine hstep i o Y W hin (by simpa using ho) hb (fun e he hbd => hc _ (by have := backB_of hback (by simpa using ho) he hbd; omega) (hall e he hbd)) _ (fun v W' hb' hv => ⟨by simp [hsz], upd Y i v, rfl, hb.trans (hb'.mono hb.size), fun j hjn hj => ?_⟩)
    by_cases hji : j = i
    · subst hji; rw [upd_self]; exact hv
    · rw [upd_ne Y v hji]
      exact hmono _ _ _ _ hb' (hc j hjn ((ls_set' hj).resolve_left hji))
  · rintro L act W hall ⟨hsz, Y, rfl, hb, hc⟩
    exact hend Y W hb (fun i hi => hc i hi (hall i hi))
  · exact ⟨by simp, Y0, ha, (Below.refl _ _).drew, fun j _ h => by rw [getD_replicate_false] at h; cases h⟩
/-- Operation m waits, through others, for all operations ahead that are not late. -/
def coverB (l : List Oper) (m : Nat) (late : Nat → Bool) : Bool := (List.range m).all fun i => late i || (List.range (m + 1)).any fun j => decide (i < j) && (!late j && Region.waitsFor .any l.toArray j i)
theorem coverB_of {l : List Oper} {m n : Nat} {late : Nat → Bool} {L : Array Bool} (h : coverB l m late = true) (inv : HeadInv .any l.toArray n L) (hm : L.getD m false = true) : ∀ (d i : Nat), m - i = d → i < m → late i = false → L.getD i false = true := by
  intro d
  induction d using Nat.strongRecOn with
  | _ d ih =>
    intro i hd hi hl
    have h1 := List.all_eq_true.1 h i (List.mem_range.2 hi)
    rw [hl, Bool.false_or] at h1
    obtain ⟨j, hj, hj2⟩ := List.any_eq_true.1 h1
    simp only [Bool.and_eq_true, decide_eq_true_eq, Bool.not_eq_true'] at hj2
    obtain ⟨hij, hjl, hw⟩ := hj2
    obtain ⟨oj, hoj, e, he, hb, hon⟩ := Region.waitsFor_spec hw
    have hjm : j ≤ m := by have := List.mem_range.1 hj; omega
    have hjt : L.getD j false = true := by
      by_cases h' : j = m
      · rw [h']; exact hm
      · exact ih (m - j) (by omega) j rfl (by omega) hjl
    have := inv.closed j oj hoj hjt e he hb
    rw [hon] at this
    exact this
/-- A head whose last operation, m, writes; the late ones may come behind it. -/
theorem region_cw_tail {P : Program} {id : Nat} {Q : Exit → Act → World → Prop} {a : Act} {w : World} {l : List Oper} (m : Nat) (late : Nat → Bool) (hm : P.follows .mixedOrders = true) (hB : headB l (m + 1) = true) (hcov : coverB l m late = true) (Cl : World → Nat → Value → Prop) (Fin : World → Value → Prop) (mk : (Nat → Value) → Act) (Y0 : Nat → Value) (ha : a = mk Y0)
    (hmono : ∀ W W' i v, Below W.heap.size W W' → Cl W i v → Cl W' i v)
    (hstep : ∀ i o Y W, i < m → late i = false → l[i]? = some o → Below w.heap.size w W → (∀ e ∈ o.after, Region.binds .any e = true → Cl W e.on (Y e.on)) → ∀ K : Act → World → Prop, (∀ v W', Below W.heap.size W W' → Cl W' i v → K (mk (upd Y i v)) W') → wpOp P l.toArray Q i K (mk Y) W)
    (hlate : ∀ i o Y W, i < m → late i = true → l[i]? = some o → ∀ K : Act → World → Prop, (∀ v, (∀ W', Cl W' i v) → K (mk (upd Y i v)) W) → wpOp P l.toArray Q i K (mk Y) W)
    (hwrite : ∀ o Y W, l[m]? = some o → Below w.heap.size w W → (∀ i, i < m → late i = false → Cl W i (Y i)) → ∀ K : Act → World → Prop, (∀ v W', Fin W' v → K (mk (upd Y m v)) W') → wpOp P l.toArray Q m K (mk Y) W)
    (hend : ∀ Y W, Fin W (Y m) → (∀ i, i < m → late i = true → ∀ W', Cl W' i (Y i)) → wpList P l.toArray Q (l.drop (m + 1)) (mk Y) W) : (Code.region id l.toArray true).wp P Q a w := by
  have hn : m + 1 < l.length := by
    unfold headB at hB
    simp only [Bool.and_eq_true, decide_eq_true_eq] at hB
    exact hB.1.1.1.1
  have hback : backB l = true := by
    unfold headB at hB
    simp only [Bool.and_eq_true, decide_eq_true_eq] at hB
    exact hB.1.2
  refine wp_region_any hm ?_
  have hun : unlisted (m + 1) (Array.replicate l.toArray.size false) ≤ m + 1 := by unfold unlisted; exact Nat.le_trans (List.length_filter_le _ _) (by simp)
  have inv0 : HeadInv .any l.toArray (m + 1) (Array.replicate l.toArray.size false) :=
    ⟨by simp, fun j oj _ hl => (by rw [getD_replicate_false] at hl; cases hl), fun t _ ht => getD_in (by simpa using ht) (getD_replicate_false _ _)⟩
  have H := wpAny_inv_tail (P := P) (Q := Q) (m + 1) hB (fun L act W => ∃ Y, act = mk Y ∧ (L.getD m false = false → Below w.heap.size w W ∧ ∀ i, i < m → L.getD i false = true → Cl W i (Y i)) ∧ (L.getD m false = true → Fin W (Y m)) ∧ ∀ i, i < m → late i = true → L.getD i false = true → ∀ W', Cl W' i (Y i)) ?_ ?_ (m + 1) _ a w.drew inv0 hun ?_
  · have e : l.length - (m + 1) + (m + 1) = l.toArray.size := by simp; omega
    rw [e] at H
    exact H
  · rintro L act W i inv hin hi ⟨Y, rfl, h1, h2, h3⟩
    obtain ⟨hnn, o, ho, hall⟩ := mem_ready.1 hi
    have ho' : l[i]? = some o := by simpa using ho
    have hui := getD_both hnn
    have hsz : L.size = l.length := by rw [inv.size]; simp
    by_cases him : i = m
    · subst him
      obtain ⟨hb, hc⟩ := h1 hui
      refine hwrite o Y W ho' hb (fun j hj hl => hc j hj ?_) _ (fun v W' hv => ⟨upd Y i v, rfl, fun hx => ?_, fun _ => by rw [upd_self]; exact hv, fun j hj hl hx W'' => ?_⟩)
      · have hcv := coverB_of (L := L.setIfInBounds i true) hcov (inv.set hi hin) (by simp [Array.getD, hsz]; omega) (i - j) j rfl hj hl
        exact ((ls_set' hcv).resolve_left (by omega))
      · simp [Array.getD, hsz] at hx
        omega
      · rw [upd_ne Y v (by omega)]
        exact h3 j hj hl ((ls_set' hx).resolve_left (by omega)) W''
    · have hilt : i < m := by omega
      cases hl : late i with
      | true =>
        refine hlate i o Y W hilt hl ho' _ (fun v hv => ⟨upd Y i v, rfl, fun hx => ?_, fun hx => ?_, fun j hj hlj hx W'' => ?_⟩)
        · rw [getD_set_ne false him] at hx
          obtain ⟨hb, hc⟩ := h1 hx
          refine ⟨hb, fun j hj hx' => ?_⟩
          by_cases hji : j = i
          · subst hji; rw [upd_self]; exact hv W
          · rw [upd_ne Y v hji]; exact hc j hj ((ls_set' hx').resolve_left hji)
        · rw [getD_set_ne false him] at hx
          rw [upd_ne Y v (by omega)]
          exact h2 hx
        · by_cases hji : j = i
          · subst hji; rw [upd_self]; exact hv W''
          · rw [upd_ne Y v hji]; exact h3 j hj hlj ((ls_set' hx).resolve_left hji) W''
      | false =>
        have hmf : L.getD m false = false := by
          cases hx : L.getD m false with
          | false => rfl
          | true =>
            have := coverB_of hcov inv hx (m - i) i rfl hilt hl
            rw [hui] at this
            cases this
        obtain ⟨hb, hc⟩ := h1 hmf
        refine hstep i o Y W hilt hl ho' hb (fun e he hbd => hc _ (by have := backB_of hback ho' he hbd; omega) (hall e he hbd)) _ (fun v W' hb' hv => ⟨upd Y i v, rfl, fun _ => ⟨hb.trans (hb'.mono hb.size), fun j hj hx' => ?_⟩, fun hx => ?_, fun j hj hlj hx W'' => ?_⟩)
        · by_cases hji : j = i
          · subst hji; rw [upd_self]; exact hv
          · rw [upd_ne Y v hji]; exact hmono _ _ _ _ hb' (hc j hj ((ls_set' hx').resolve_left hji))
        · rw [getD_set_ne false him, hmf] at hx
          cases hx
        · by_cases hji : j = i
          · subst hji; rw [hl] at hlj; cases hlj
          · rw [upd_ne Y v hji]; exact h3 j hj hlj ((ls_set' hx).resolve_left hji) W''
  · rintro L act W hall ⟨Y, rfl, h1, h2, h3⟩
    exact hend Y W (h2 (hall m (by omega))) (fun i hi hl => h3 i hi hl (hall i (by omega)))
  · exact ⟨Y0, ha, fun _ => ⟨(Below.refl _ _).drew, fun j _ h => by rw [getD_replicate_false] at h; cases h⟩, fun h => (by rw [getD_replicate_false] at h; cases h), fun j _ _ h => by rw [getD_replicate_false] at h; cases h⟩
end Go.Proofs.YtlenilbkifofjaaDoor
namespace Go.Proofs.YtlenilbkifofjaaDoor

theorem compact_mem {zs : List Int} (hs : zs.Pairwise (· ≤ ·)) (x : Int) : x ∈ Lib.compact zs ↔ x ∈ zs := by
  have hget : ∀ j (h : j < zs.length), zs.toArray[j]! = zs[j] := fun j h => by rw [getElem!_pos zs.toArray j (by simpa using h)]; simp
  unfold Lib.compact Lib.compactUpTo
  simp only [List.mem_map, List.mem_filter, List.mem_range]
  constructor
  · rintro ⟨j, ⟨h1, _⟩, rfl⟩
    rw [hget j h1]
    exact List.getElem_mem h1
  · intro hx
    have key : ∀ j, ∀ h : j < zs.length, ∃ i, (i < zs.length ∧ Lib.keeps zs.toArray i = true) ∧ zs.toArray[i]! = zs[j] := by
      intro j
      induction j with
      | zero => intro h; exact ⟨0, ⟨h, Lib.keeps_lt_one _ 0 (by omega)⟩, hget 0 h⟩
      | succ j ih =>
        intro h
        by_cases e : zs[j + 1] = zs[j]
        · obtain ⟨i, h1, h2⟩ := ih (by omega)
          exact ⟨i, h1, by rw [h2, e]⟩
        · exact ⟨j + 1, ⟨h, Lib.keeps_pos (by rw [hget _ h, Nat.add_sub_cancel, hget j (by omega)]; exact e)⟩, hget _ h⟩
    obtain ⟨j, hj, rfl⟩ := List.mem_iff_getElem.1 hx
    exact key j hj
theorem compact_rise {zs : List Int} (hs : zs.Pairwise (· ≤ ·)) : Rise (Lib.compact zs) := by
  have hget : ∀ j (h : j < zs.length), zs.toArray[j]! = zs[j] := fun j h => by rw [getElem!_pos zs.toArray j (by simpa using h)]; simp
  unfold Lib.compact Lib.compactUpTo Rise
  rw [List.pairwise_map]
  have h1 : ((List.range zs.length).filter (Lib.keeps zs.toArray)).Pairwise (· < ·) := List.Pairwise.sublist List.filter_sublist List.pairwise_lt_range
  refine List.Pairwise.imp_of_mem ?_ h1
  intro i j hi hj hij
  obtain ⟨hi1, _⟩ := List.mem_filter.1 hi
  obtain ⟨hj1, hj2⟩ := List.mem_filter.1 hj
  simp only [List.mem_range] at hi1 hj1
  rw [hget i hi1, hget j hj1]
  have hne : zs[j] ≠ zs[j - 1]'(by omega) := fun e => by
    have := Lib.keeps_neg (d := zs.toArray) (m := j) (by omega) (by rw [hget j hj1, hget (j - 1) (by omega)]; exact e)
    rw [this] at hj2
    cases hj2
  have hle : ∀ a b (ha : a < zs.length) (hb : b < zs.length), a < b → zs[a] ≤ zs[b] := fun a b ha hb hab => List.pairwise_iff_getElem.1 hs a b ha hb hab
  have h2 : zs[j - 1]'(by omega) ≤ zs[j] := hle _ _ (by omega) hj1 (by omega)
  have h3 : zs[i] ≤ zs[j - 1]'(by omega) := by
    by_cases e : i = j - 1
    · subst e; exact Int.le_refl _
    · exact hle _ _ hi1 (by omega) (by omega)
  omega
theorem sort_le (zs : List Int) : (zs.mergeSort fun x y => decide (x ≤ y)).Pairwise (· ≤ ·) := by
  have := List.pairwise_mergeSort (le := fun x y : Int => decide (x ≤ y)) (fun a b c h1 h2 => by simp at *; omega) (fun a b => by simp; omega) zs
  exact List.Pairwise.imp (fun h => by simpa using h) this
theorem uses_sorted {x : InsS} : Lib.compact ((regsL x).mergeSort fun x y => decide (x ≤ y)) = usesL x :=
  usesL_of (compact_rise (sort_le _)) fun y => (compact_mem (sort_le _) y).trans List.mem_mergeSort
end Go.Proofs.YtlenilbkifofjaaDoor
namespace Go.Proofs.YtlenilbkifofjaaDoor
open Go.RowKit

def joinsW (wss : List (List Nat)) (ns : List Nat) (s : List Nat) : List Nat := ns.foldl (fun s n => joinW s (wss.getD n [])) s
def dropD (d : Int) (s : List Nat) : List Nat := if d < 0 then s else dropW s d.toNat
def putsW (rs : List Int) (s : List Nat) : List Nat := rs.foldl (fun s r => putW s r.toNat) s
def aheadW (l : List InsS) (nw : Nat) (wss : List (List Nat)) (k : Nat) (x : InsS) : List Nat := putsW (usesL x) (dropD (defL x) (joinsW wss (nextL l k) (List.replicate nw 0)))
/-- Sets of so many words. -/
def Sets (nw : Nat) (wss : List (List Nat)) : Prop := ∀ ws, ws ∈ wss → ws.length = nw ∧ In64W ws
/-- Its registers are among so many. -/
def RegsIn (R : Nat) (x : InsS) : Prop := (∀ r, r ∈ regsL x → 0 ≤ r ∧ r < (R : Int)) ∧ defL x < (R : Int)
theorem listW_zero {nw i : Nat} : listW i (List.replicate nw 0) = [] := by
  induction nw generalizing i with
  | zero => rfl
  | succ n ih => rw [List.replicate_succ, listW, bitsW_zero, ih]; rfl
theorem zero_64 {nw : Nat} : In64W (List.replicate nw 0) := by
  intro w hw
  rw [List.eq_of_mem_replicate hw]
  omega
section
variable {nw : Nat} {wss : List (List Nat)}
theorem Sets.getD (h : Sets nw wss) {n : Nat} (hn : n < wss.length) : (wss.getD n []).length = nw ∧ In64W (wss.getD n []) := by
  rw [List.getD_eq_getElem?_getD, List.getElem?_eq_getElem hn]
  exact h _ (List.getElem_mem hn)
theorem joinsW_snoc {ns : List Nat} {n : Nat} {s : List Nat} : joinsW wss (ns ++ [n]) s = joinW (joinsW wss ns s) (wss.getD n []) := by simp [joinsW]
theorem joinsW_good (h : Sets nw wss) : ∀ {ns : List Nat} {s : List Nat}, (∀ n, n ∈ ns → n < wss.length) → s.length = nw → In64W s → (joinsW wss ns s).length = nw ∧ In64W (joinsW wss ns s) ∧ ∀ q : Nat, (q : Int) ∈ listW 0 (joinsW wss ns s) ↔ (q : Int) ∈ listW 0 s ∨ ∃ n, n ∈ ns ∧ (q : Int) ∈ listW 0 (wss.getD n [])
  | [], s, _, hl, h64 => ⟨hl, h64, fun q => by simp [joinsW]⟩
  | n :: ns, s, hn, hl, h64 => by
    obtain ⟨g1, g2⟩ := h.getD (hn n (by simp))
    have hlj : s.length = (wss.getD n []).length := by omega
    obtain ⟨i1, i2, i3⟩ := joinsW_good h (ns := ns) (s := joinW s (wss.getD n [])) (fun m hm => hn m (by simp [hm])) (by rw [joinW_len hlj, hl]) (joinW_64 h64 g2)
    refine ⟨i1, i2, fun q => (i3 q).trans ?_⟩
    rw [joinW_mem hlj]
    simp only [List.mem_cons]
    constructor
    · rintro ((h1 | h1) | ⟨m, h1, h2⟩)
      · exact Or.inl h1
      · exact Or.inr ⟨n, Or.inl rfl, h1⟩
      · exact Or.inr ⟨m, Or.inr h1, h2⟩
    · rintro (h1 | ⟨m, rfl | h1, h2⟩)
      · exact Or.inl (Or.inl h1)
      · exact Or.inl (Or.inr h2)
      · exact Or.inr ⟨m, h1, h2⟩
theorem dropD_good {d : Int} {s : List Nat} (hd : d < ((nw * 64 : Nat) : Int)) (hl : s.length = nw) (h64 : In64W s) : (dropD d s).length = nw ∧ In64W (dropD d s) ∧ ∀ q : Nat, (q : Int) ∈ listW 0 (dropD d s) ↔ (q : Int) ≠ d ∧ (q : Int) ∈ listW 0 s := by
  unfold dropD
  split
  · exact ⟨hl, h64, fun q => ⟨fun h => ⟨by omega, h⟩, And.right⟩⟩
  · obtain ⟨m, rfl⟩ : ∃ m : Nat, d = (m : Int) := ⟨d.toNat, by omega⟩
    refine ⟨by rw [dropW_len, hl], dropW_64 h64 _, fun q => ?_⟩
    rw [Int.toNat_natCast, dropW_mem (by omega)]
    exact and_congr_left fun _ => by omega
theorem putsW_snoc {rs : List Int} {r : Int} {s : List Nat} : putsW (rs ++ [r]) s = putW (putsW rs s) r.toNat := by simp [putsW]
theorem putsW_good : ∀ {rs : List Int} {s : List Nat}, (∀ r, r ∈ rs → 0 ≤ r ∧ r < ((nw * 64 : Nat) : Int)) → s.length = nw → In64W s → (putsW rs s).length = nw ∧ In64W (putsW rs s) ∧ ∀ q : Nat, (q : Int) ∈ listW 0 (putsW rs s) ↔ (q : Int) ∈ rs ∨ (q : Int) ∈ listW 0 s
  | [], s, _, hl, h64 => ⟨hl, h64, fun q => by simp [putsW]⟩
  | r :: rs, s, hr, hl, h64 => by
    obtain ⟨h0, h1⟩ := hr r (by simp)
    obtain ⟨m, rfl⟩ : ∃ m : Nat, r = (m : Int) := ⟨r.toNat, by omega⟩
    have hm : m / 64 < s.length := by omega
    obtain ⟨i1, i2, i3⟩ := putsW_good (rs := rs) (s := putW s m) (fun r h => hr r (by simp [h])) (by rw [putW_len, hl]) (putW_64 h64 m)
    rw [show putsW ((m : Int) :: rs) s = putsW rs (putW s m) from by simp [putsW]]
    refine ⟨i1, i2, fun q => (i3 q).trans ?_⟩
    rw [putW_mem hm, List.mem_cons]
    constructor
    · rintro (h | h | h)
      · exact Or.inl (Or.inr h)
      · exact Or.inl (Or.inl (by omega))
      · exact Or.inr h
    · rintro ((h | h) | h)
      · exact Or.inr (Or.inl (by omega))
      · exact Or.inl h
      · exact Or.inr (Or.inr h)
end
theorem listW_nat {ws : List Nat} {r : Int} (h : r ∈ listW 0 ws) : ∃ q : Nat, r = (q : Int) ∧ q < ws.length * 64 := by
  have := listW_low h
  exact ⟨r.toNat, by omega, by omega⟩
theorem memR_map {wss : List (List Nat)} {k : Nat} {r : Int} : memR (wss.map (listW 0)) k r ↔ k < wss.length ∧ r ∈ listW 0 (wss.getD k []) := by
  unfold memR
  rw [List.getElem?_map]
  by_cases hk : k < wss.length
  · rw [List.getElem?_eq_getElem hk, List.getD_eq_getElem?_getD, List.getElem?_eq_getElem hk]
    simp [hk]
  · rw [List.getElem?_eq_none (by omega)]
    simp [hk]
section
variable {l : List InsS} {nw R : Nat} {wss : List (List Nat)} {k : Nat} {x : InsS}
theorem aheadW_good (hs : Sets nw wss) (hlen : wss.length = l.length + 1) (hR : R ≤ nw * 64) (hx : RegsIn R x) (hk : l[k]? = some x) (hn : ∀ n, n ∈ nextL l k → n < wss.length) :
    (aheadW l nw wss k x).length = nw ∧ In64W (aheadW l nw wss k x) ∧ ∀ r, r ∈ listW 0 (aheadW l nw wss k x) ↔ LiveF l (memR (wss.map (listW 0))) k r := by
  obtain ⟨a1, a2, a3⟩ := joinsW_good hs (ns := nextL l k) (s := List.replicate nw 0) hn (by simp) zero_64
  obtain ⟨b1, b2, b3⟩ := dropD_good (nw := nw) (d := defL x) (s := joinsW wss (nextL l k) (List.replicate nw 0)) (by have := hx.2; omega) a1 a2
  obtain ⟨c1, c2, c3⟩ := putsW_good (nw := nw) (rs := usesL x) (s := dropD (defL x) (joinsW wss (nextL l k) (List.replicate nw 0))) (fun r hr => by have := hx.1 r (usesL_mem.1 hr); omega) b1 b2
  refine ⟨c1, c2, fun r => ?_⟩
  have key : ∀ q : Nat, (q : Int) ∈ listW 0 (aheadW l nw wss k x) ↔ LiveF l (memR (wss.map (listW 0))) k (q : Int) := fun q => by
    rw [show aheadW l nw wss k x = putsW (usesL x) (dropD (defL x) (joinsW wss (nextL l k) (List.replicate nw 0))) from rfl, c3, b3, a3, listW_zero, usesL_mem]
    simp only [List.not_mem_nil, false_or]
    constructor
    · rintro (h | ⟨h1, n, h2, h3⟩)
      · exact ⟨x, hk, Or.inl h⟩
      · exact ⟨x, hk, Or.inr ⟨h1, n, h2, memR_map.2 ⟨hn n h2, h3⟩⟩⟩
    · rintro ⟨y, hy, h⟩
      rw [hk] at hy
      injection hy with hy
      subst hy
      rcases h with h | ⟨h1, n, h2, h3⟩
      · exact Or.inl h
      · exact Or.inr ⟨h1, n, h2, (memR_map.1 h3).2⟩
  constructor
  · intro h
    obtain ⟨q, rfl, _⟩ := listW_nat h
    exact (key q).1 h
  · intro h
    have h0 : 0 ≤ r := by
      obtain ⟨y, hy, h⟩ := h
      rw [hk] at hy
      injection hy with hy
      subst hy
      rcases h with h | ⟨_, n, _, h3⟩
      · exact (hx.1 r h).1
      · obtain ⟨q, rfl, _⟩ := listW_nat (memR_map.1 h3).2
        omega
    obtain ⟨q, rfl⟩ : ∃ q : Nat, r = (q : Int) := ⟨r.toNat, by omega⟩
    exact (key q).2 h
end
end Go.Proofs.YtlenilbkifofjaaDoor
namespace Go.Proofs.YtlenilbkifofjaaDoor
open Go.RowKit

/-- The world gets a name. -/
theorem wp_world {P : Program} {c : Code} {Q : Exit → Act → World → Prop} {a : Act} {w : World} (h : ∀ W, W = w → Code.wp P c Q a W) : Code.wp P c Q a w := h w rfl
theorem wpOp_want {P : Program} {ops : Array Oper} {Q : Exit → Act → World → Prop} {i : Nat} {o : Oper} {a : Act} {w : World} {K : Act → World → Prop} (ho : ops[i]? = some o) (hg : Region.wanted o (yielded ops a.tmps) = true)
    (h : ∀ K' : Act → World → Prop, (∀ a w, K a w → K' a w) → o.wp P a w K' Q) : wpOp P ops Q i K a w := by
  unfold wpOp
  rw [ho]
  simp only
  rw [if_pos hg]
  exact Or.inl (h K (fun _ _ h => h))
theorem wpOp_skip {P : Program} {ops : Array Oper} {Q : Exit → Act → World → Prop} {i : Nat} {o : Oper} {a : Act} {w : World} {K : Act → World → Prop} (ho : ops[i]? = some o) (hg : Region.wanted o (yielded ops a.tmps) = false) (h : K (a.put o.dst undef) w) : wpOp P ops Q i K a w := by
  unfold wpOp
  rw [ho]
  simp only
  rw [if_neg (by rw [hg]; exact Bool.false_ne_true)]
  exact h
/-- 'Cl i v': what operation i's result is, in whatever world; m: the one that writes; late ones may come behind it. -/
theorem region_ci_tail {P : Program} {id : Nat} {Q : Exit → Act → World → Prop} {a : Act} {w : World} {l : List Oper} (m : Nat) (late : Nat → Bool) (hm : P.follows .mixedOrders = true) (hB : headB l (m + 1) = true) (hcov : coverB l m late = true) (Cl : Nat → Value → Prop) (Fin : World → Prop) (mk : (Nat → Value) → Act) (Y0 : Nat → Value) (ha : a = mk Y0)
    (hstep : ∀ i o Y W, i < m → late i = false → l[i]? = some o → Below w.heap.size w W → (∀ e ∈ o.after, Region.binds .any e = true → Cl e.on (Y e.on)) → ∀ K : Act → World → Prop, (∀ v W', Below W.heap.size W W' → Cl i v → K (mk (upd Y i v)) W') → wpOp P l.toArray Q i K (mk Y) W)
    (hlate : ∀ i o Y W, i < m → late i = true → l[i]? = some o → (∀ e ∈ o.after, Region.binds .any e = true → Cl e.on (Y e.on)) → ∀ K : Act → World → Prop, (∀ v, Cl i v → K (mk (upd Y i v)) W) → wpOp P l.toArray Q i K (mk Y) W)
    (hwrite : ∀ o Y W, l[m]? = some o → Below w.heap.size w W → (∀ e ∈ o.after, Region.binds .any e = true → Cl e.on (Y e.on)) → ∀ K : Act → World → Prop, (∀ v W', Fin W' → K (mk (upd Y m v)) W') → wpOp P l.toArray Q m K (mk Y) W)
    (hend : ∀ Y W, Fin W → (∀ i, i < m → Cl i (Y i)) → wpList P l.toArray Q (l.drop (m + 1)) (mk Y) W) : (Code.region id l.toArray true).wp P Q a w := by
  have hn : m + 1 < l.length := by
    unfold headB at hB
    simp only [Bool.and_eq_true, decide_eq_true_eq] at hB
    exact hB.1.1.1.1
  have hback : backB l = true := by
    unfold headB at hB
    simp only [Bool.and_eq_true, decide_eq_true_eq] at hB
    exact hB.1.2
  refine wp_region_any hm ?_
  have hun : unlisted (m + 1) (Array.replicate l.toArray.size false) ≤ m + 1 := by unfold unlisted; exact Nat.le_trans (List.length_filter_le _ _) (by simp)
  have inv0 : HeadInv .any l.toArray (m + 1) (Array.replicate l.toArray.size false) :=
    ⟨by simp, fun j oj _ hl => (by rw [getD_replicate_false] at hl; cases hl), fun t _ ht => getD_in (by simpa using ht) (getD_replicate_false _ _)⟩
  have H := wpAny_inv_tail (P := P) (Q := Q) (m + 1) hB (fun L act W => ∃ Y, act = mk Y ∧ (L.getD m false = false → Below w.heap.size w W) ∧ (L.getD m false = true → Fin W) ∧ ∀ i, i < m → L.getD i false = true → Cl i (Y i)) ?_ ?_ (m + 1) _ a w.drew inv0 hun ?_
  · have e : l.length - (m + 1) + (m + 1) = l.toArray.size := by simp; omega
    rw [e] at H
    exact H
  · rintro L act W i inv hin hi ⟨Y, rfl, h1, h2, h3⟩
    obtain ⟨hnn, o, ho, hall⟩ := mem_ready.1 hi
    have ho' : l[i]? = some o := by simpa using ho
    have hui := getD_both hnn
    have hsz : L.size = l.length := by rw [inv.size]; simp
    have hdep : ∀ e ∈ o.after, Region.binds .any e = true → Cl e.on (Y e.on) := fun e he hbd => h3 _ (by have := backB_of hback ho' he hbd; omega) (hall e he hbd)
    by_cases him : i = m
    · subst him
      refine hwrite o Y W ho' (h1 hui) hdep _ (fun v W' hv => ⟨upd Y i v, rfl, fun hx => ?_, fun _ => hv, fun j hj hx => ?_⟩)
      · simp [Array.getD, hsz] at hx
        omega
      · rw [upd_ne Y v (by omega)]
        exact h3 j hj ((ls_set' hx).resolve_left (by omega))
    · have hilt : i < m := by omega
      have hkeep : ∀ (v : Value), Cl i v → ∀ j, j < m → (L.setIfInBounds i true).getD j false = true → Cl j (upd Y i v j) := fun v hv j hj hx => by
        by_cases hji : j = i
        · subst hji; rw [upd_self]; exact hv
        · rw [upd_ne Y v hji]; exact h3 j hj ((ls_set' hx).resolve_left hji)
      cases hl : late i with
      | true => exact hlate i o Y W hilt hl ho' hdep _ (fun v hv => ⟨upd Y i v, rfl, fun hx => h1 (by rw [getD_set_ne false him] at hx; exact hx), fun hx => h2 (by rw [getD_set_ne false him] at hx; exact hx), hkeep v hv⟩)
      | false =>
        have hmf : L.getD m false = false := by
          cases hx : L.getD m false with
          | false => rfl
          | true =>
            have := coverB_of hcov inv hx (m - i) i rfl hilt hl
            rw [hui] at this
            cases this
        have hb := h1 hmf
        exact hstep i o Y W hilt hl ho' hb hdep _ (fun v W' hb' hv => ⟨upd Y i v, rfl, fun _ => hb.trans (hb'.mono hb.size), fun hx => (by rw [getD_set_ne false him, hmf] at hx; cases hx), hkeep v hv⟩)
  · rintro L act W hall ⟨Y, rfl, h1, h2, h3⟩
    exact hend Y W (h2 (hall m (by omega))) (fun i hi => h3 i hi (hall i (by omega)))
  · exact ⟨Y0, ha, fun _ => (Below.refl _ _).drew, fun h => (by rw [getD_replicate_false] at h; cases h), fun j _ h => by rw [getD_replicate_false] at h; cases h⟩
end Go.Proofs.YtlenilbkifofjaaDoor
namespace Go.Proofs.YtlenilbkifofjaaDoor
open Go.RowKit Go.Deep

theorem list_of {α : Type} (n : Nat) (p : Nat → α → Prop) (h : ∀ i, i < n → ∃ x, p i x) : ∃ l : List α, l.length = n ∧ ∀ i x, l[i]? = some x → p i x := by
  induction n with
  | zero => exact ⟨[], rfl, fun i x h => by simp at h⟩
  | succ n ih =>
    obtain ⟨l, hl, hp⟩ := ih (fun i hi => h i (by omega))
    obtain ⟨x, hx⟩ := h n (by omega)
    refine ⟨l ++ [x], by simp [hl], fun i y hy => ?_⟩
    rcases Nat.lt_or_ge i l.length with hlt | hge
    · rw [List.getElem?_append_left hlt] at hy; exact hp i y hy
    · rw [List.getElem?_append_right hge] at hy
      have : i - l.length = 0 := by
        rcases Nat.eq_zero_or_pos (i - l.length) with h0 | h0
        · exact h0
        · rw [List.getElem?_eq_none (by simp; omega)] at hy; cases hy
      rw [this] at hy
      simp at hy
      subst hy
      rw [show i = n by omega]
      exact hx
theorem cs3 {cs : List Value} {v0 v1 v2 : Value} (hl : cs.length = 3) (h0 : (cs.drop 0).take 1 = [v0]) (h1 : (cs.drop 1).take 1 = [v1]) (h2 : (cs.drop 2).take 1 = [v2]) : cs = [v0, v1, v2] := by
  match cs, hl with
  | [a, b, c], _ => simp at h0 h1 h2; rw [h0, h1, h2]

section
variable {H : Type} {enc : TypeId × Value → H} {w : World} {base : Nat} {spare : Nat → Bool} {held : Bool}
def KidsRead (w : World) (B : Nat) (cs : List Value) : Prop := ∃ ts A n c, cs = [.slice A n c] ∧ KidsV w B ts A n

end
theorem weights_mem_all {H : Type} {P : Program} {e : TypeId} {d : DataW H} {n : Nat} : ∀ {l : List (DataW H)}, d ∈ l → n ∈ d.weights P e → n ∈ DataW.weightsAll P e l
  | [], h, _ => by simp at h
  | x :: l, h, hn => by
    simp only [DataW.weightsAll, List.mem_append]
    rcases List.mem_cons.1 h with rfl | h
    · exact Or.inl hn
    · exact Or.inr (weights_mem_all h hn)
end Go.Proofs.YtlenilbkifofjaaDoor
namespace Go.Proofs.YtlenilbkifofjaaDoor
open Go.RowKit Go.Deep

theorem take_cell {cs l : List Value} {j n i : Nat} (h : (cs.drop j).take n = l) (hi : i < l.length) : cs[j + i]? = l[i]? := by
  subst h
  rw [List.length_take] at hi
  rw [List.getElem?_take, if_pos (by omega), List.getElem?_drop]
section
variable {H : Type} {enc : TypeId × Value → H} {w : World} {base : Nat} {spare : Nat → Bool} {held : Bool}

/-- A slice of what is read: each element by 'E'; its elements weigh no more than may be. -/
theorem slice_read {te ts : TypeId} {sz by1 : Nat} {α : Type} (hts : Tryd.prog.underlying ts = some (.slice te)) (hce : Tryd.prog.cellsOf te = sz) (hby : Tryd.prog.bytesOf te = by1) (hsz : 0 < sz) (hb1 : 1 ≤ by1)
    (E : (Nat → Option Value) → α → Prop) (Sz : α → Prop)
    (hE : ∀ (k : Nat) (cs : List Value) (x : DataW H × List MemPlace), DataW.trod enc Tryd.prog w base spare held k te cs = some x → (∀ n, n ∈ x.1.weights Tryd.prog te → n ≤ reachBytes) → ∃ t, Sz t ∧ ∀ c : Nat → Option Value, (∀ j, j < sz → c j = cs[j]?) → E c t)
    {m : Nat} {cs : List Value} {x : DataW H × List MemPlace} (h : DataW.trod enc Tryd.prog w base spare held m ts cs = some x) (hw : ∀ n, n ∈ x.1.weights Tryd.prog ts → n ≤ reachBytes) :
    ∃ (l : List α) (A : Option Addr) (c : Nat), cs = [.slice A l.length c] ∧ SliceAt w w.heap.size sz E l (.slice A l.length c) ∧ l.length ≤ 140737488351232 ∧ l.length ≤ c ∧ c ≤ 9223372036854775807 ∧ ∀ t, t ∈ l → Sz t := by
  have hml : maxLen = 9223372036854775807 := rfl
  have hr : reachBytes = 140737488351232 := rfl
  rcases DataW.trod_slice hts h with ⟨rfl, _⟩ | ⟨a, len, cap, elems, rest, k, hk, rfl, hx, _, hl, hc, hel, he, _⟩
  · exact ⟨[], none, 0, rfl, ⟨none, 0, rfl, by simp, fun h => by simp at h⟩, by simp, by simp, by omega, fun t ht => by cases ht⟩
  · rw [hce] at he
    have hx1 : x.1 = .slice (elems.map (·.1)) (rest.map (·.1)) := by rw [hx]
    have hwl : len ≤ 140737488351232 := by
      have h1 := hw ((elems.length + rest.length) * Tryd.prog.bytesOf te) (by rw [hx1]; simp only [DataW.weights, hts, List.length_map, List.mem_cons, true_or])
      rw [hby, hr] at h1
      have : len ≤ (elems.length + rest.length) * by1 := Nat.le_trans (by omega) (Nat.le_mul_of_pos_right _ (by omega))
      omega
    have raw : ∀ i, i < len → ∃ t, ∃ cs', w.cells? base (a.add (i * sz)) sz = some cs' ∧ Sz t ∧ ∀ c : Nat → Option Value, (∀ j, j < sz → c j = cs'[j]?) → E c t := by
      intro i hi
      have h1 := he i hi
      rw [List.getElem?_eq_getElem (by omega)] at h1
      obtain ⟨cs', h2, h3⟩ := Option.bind_eq_some_iff.1 h1
      obtain ⟨t, ht1, ht2⟩ := hE k cs' _ h3 (fun n hn => hw n (by
        rw [hx1]
        simp only [DataW.weights, hts, List.mem_cons, List.mem_append]
        exact Or.inr (Or.inl (weights_mem_all (List.mem_map.2 ⟨_, List.getElem_mem (by omega), rfl⟩) hn))))
      exact ⟨t, cs', h2, ht1, ht2⟩
    rcases Nat.eq_zero_or_pos len with h0 | hp
    · subst h0
      exact ⟨[], some a, cap, rfl, ⟨_, cap, rfl, by simp, fun h => by simp at h⟩, by simp, by simp, by omega, fun t ht => by cases ht⟩
    · have hspot : a.spot = none ∧ a.block < w.heap.size := by
        obtain ⟨t, cs', h2, _⟩ := raw 0 hp
        have hb := World.cells?_block h2 (by omega)
        have c0 := (World.cells?_some h2).2.2 0 (by omega)
        obtain ⟨b, off, spot⟩ := a
        have hs : spot = none := by
          have hlt : 0 < cs'.length := by rw [(World.cells?_some h2).2.1]; omega
          rw [List.getElem?_eq_getElem hlt] at c0
          simpa [Addr.add] using World.cell?_spot c0
        exact ⟨hs, by simpa [Addr.add] using hb⟩
      obtain ⟨b, off, spot⟩ := a
      obtain ⟨hs, hb⟩ := hspot
      simp only at hs hb
      subst hs
      have key : ∀ i, i < len → ∃ t, Sz t ∧ E (fun j => w.cell? ⟨b, off + i * sz + j, none⟩) t := by
        intro i hi
        obtain ⟨t, cs', h2, h3, h4⟩ := raw i hi
        rw [Go.WideShapes.add_plain] at h2
        obtain ⟨_, hlen, hcell⟩ := World.cells?_some h2
        refine ⟨t, h3, h4 _ (fun j hj => ?_)⟩
        have c0 := hcell j (by omega)
        rw [Go.WideShapes.add_plain] at c0
        exact c0
      obtain ⟨l, hll, hls⟩ := list_of len (fun i t => Sz t ∧ E (fun j => w.cell? ⟨b, off + i * sz + j, none⟩) t) key
      subst hll
      exact ⟨l, some ⟨b, off, none⟩, cap, rfl, ⟨_, cap, rfl, by omega, fun _ => ⟨b, off, rfl, hb, fun i t hi => (hls i t hi).2⟩⟩, hwl, by omega, by omega, fun t ht => by obtain ⟨i, hi⟩ := List.mem_iff_getElem?.1 ht; exact (hls i t hi).1⟩
end
end Go.Proofs.YtlenilbkifofjaaDoor
