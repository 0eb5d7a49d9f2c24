/- The page's machine: its state, how it lies in memory; stop, step. Conditions: as stated. The page's trees' values (chapters 6, 7), as plain functions. No program in sight. No condition. The page's machine (chapter 7), as plain functions: programs, objects made, stores, steps, calls, runs. No program in sight. No condition. Slices of trees. No program in sight. No condition. How a program lies in memory. No program in sight but its name. No condition. How a program of virtual code lies in memory. No program in sight but its name. No condition. What the page's ops come to may be again. No program in sight. No condition. An empty memory and one of the object that is none are one to the page's machine: plain. No program in sight. No condition. The page's machine: step. Conditions: as stated. The page's machine: a call's frame; what a tree's walk is asked. No condition. The page's machine: a tree one of whose kids comes to nothing. Conditions: as stated. The page's machine: a leaf's value. Conditions: as stated. The page's machine: an op of values that comes to a value. Conditions: as stated. The page's machine: an op of values that is stuck. Conditions: as stated. The page's machine: what a tree comes to. Conditions: as stated. The page's machine: what a step's walk is asked; a frame's temporaries written. No condition. The page's memory: an object more; what a made row of values holds. No program in sight but its name. No condition. -/
import Derived.Test.YtinmgbodgecoeaaQ01Zz
import Derived.Test.YtinmgbodgecoeaaMemApplyZz
import Derived.Laws.MakeOwn
set_option linter.unusedVariables false
set_option linter.unusedSimpArgs false
namespace Go.Proofs.Ytinmgbodgecoeaa
open Go.RowKit

/-- What the machine holds. -/
structure St where
  inp : List Int
  kind : Int
  code : Int
  out : List Int
  steps : Int
  deep : Int
  calls : Int
  mem : List MO

def stopF (k : Int) (s : St) : St := if s.kind = 0 then { s with kind := k } else s
def stepF (fuel n : Int) (s : St) : Bool × St :=
  if s.kind = 0 then if n > fuel - s.steps then (false, { s with steps := fuel, kind := 2 }) else (true, { s with steps := s.steps + n }) else (false, s)

/-- A row of values. -/
def ValsIn (cs : Array Value) (l : List V) : Prop := cs.size = l.length * 2 ∧ ∀ j v, l[j]? = some v → cs[j * 2]? = some (.int .i64 v.obj) ∧ cs[j * 2 + 1]? = some (.int .i64 v.n)
def VRow (w : World) (b : Nat) (l : List V) : Prop := ∃ cs, Row w b cs 60 ∧ ValsIn cs l

/-- The numbers that come in: they lie below 'base'. -/
def InW (w : World) (base : Nat) (v : Value) (l : List Int) : Prop :=
  ∃ A cap, v = .slice A l.length cap ∧ l.length ≤ cap ∧ cap ≤ 9223372036854775807 ∧ (0 < l.length → ∃ b off, A = some ⟨b, off, none⟩ ∧ b < base ∧ ∀ j x, l[j]? = some x → w.cell? ⟨b, off + j, none⟩ = some (.int .i64 x) ∧ In64 x)

/-- An object's three cells in the row of objects. -/
def ObjIn (xs : List Value) (rb : Nat → Nat) (k : Nat) (o : MO) : Prop :=
  xs[k * 3]? = some (.int .i64 o.size) ∧ xs[k * 3 + 1]? = some (if k = 0 then .slice none 0 0 else .slice (some ⟨rb k, 0, none⟩) o.l.length o.l.length) ∧ xs[k * 3 + 2]? = some (.bool o.live)

/-- What is always true of the memory. -/
structure MemOk (M : List MO) : Prop where
  many : M.length ≤ 4294967296
  zero : ∀ o, M[0]? = some o → o = ⟨0, [], false⟩
  size : ∀ k o, 1 ≤ k → M[k]? = some o → (o.size = 1 ∨ o.size = 2 ∨ o.size = 4 ∨ o.size = 8) ∧ o.l.length ≤ 64
  vals : ∀ o, o ∈ M → ∀ v, v ∈ o.l → VOk M.length v

def mcells (P : Value × Value × Value) (fuel : Int) (s : St) (inv outv memv : Value) : Array Value :=
  #[P.1, P.2.1, P.2.2, inv, .int .i64 fuel, .int .i64 s.kind, .int .i64 s.code, outv, .int .i64 s.steps, .int .i64 s.deep, memv, .int .i64 s.calls]

theorem InW.below {w w' : World} {base : Nat} {v : Value} {l : List Int} (h : InW w base v l) (hw : ∀ b o, b < base → w'.cell? ⟨b, o, none⟩ = w.cell? ⟨b, o, none⟩) : InW w' base v l := by
  obtain ⟨A, cap, hv, h1, h2, h3⟩ := h
  refine ⟨A, cap, hv, h1, h2, fun hp => ?_⟩
  obtain ⟨b, off, hA, hb, hc⟩ := h3 hp
  exact ⟨b, off, hA, hb, fun j x hj => ⟨(hw b _ hb).trans (hc j x hj).1, (hc j x hj).2⟩⟩

end Go.Proofs.Ytinmgbodgecoeaa
namespace Go.Proofs.Ytinmgbodgecoeaa
open Go.RowKit

def opF (M : List MO) (tp : List V) (lo : List Nat) (op n : Int) (l : List V) : Option V :=
  if op = 1 then some ⟨0, n⟩ else if op = 2 then some (tp.getD n.toNat ⟨0, 0⟩) else if op = 3 then some ⟨lo.getD n.toNat 0, 0⟩ else if op = 4 then some ⟨n.toNat + 1, 0⟩ else applyF M op l

mutual
def evalT (M : List MO) (tp : List V) (lo : List Nat) : T → Option V
  | .node op n ks => (evalTs M tp lo ks).bind (opF M tp lo op n)
def evalTs (M : List MO) (tp : List V) (lo : List Nat) : List T → Option (List V)
  | [] => some []
  | k :: ks => (evalT M tp lo k).bind fun v => (evalTs M tp lo ks).map (v :: ·)
end

/-- How many kids an op has. -/
def kidsN (op : Int) : Nat := if op ≤ 4 then 0 else if 12 ≤ op ∧ op ≤ 30 then 2 else 1

mutual
/-- A tree that may be, of so many temporaries, locals and globals. -/
def TOk (nt nl ng : Nat) : T → Prop
  | .node op n ks => 1 ≤ op ∧ op ≤ 36 ∧ ks.length = kidsN op ∧ (op = 2 → 0 ≤ n ∧ n < nt) ∧ (op = 3 → 0 ≤ n ∧ n < nl) ∧ (op = 4 → 0 ≤ n ∧ n < ng) ∧ TsOk nt nl ng ks
def TsOk (nt nl ng : Nat) : List T → Prop
  | [] => True
  | k :: ks => TOk nt nl ng k ∧ TsOk nt nl ng ks
end

mutual
/-- A tree whose numbers are numbers. -/
def TIn : T → Prop
  | .node _ n ks => In64 n ∧ TsIn ks
def TsIn : List T → Prop
  | [] => True
  | k :: ks => TIn k ∧ TsIn ks
end

theorem TsIn.get {ks : List T} {k : Nat} {t : T} (h : TsIn ks) (hk : ks[k]? = some t) : TIn t := by
  induction ks generalizing k with
  | nil => simp at hk
  | cons a r ih =>
    simp only [TsIn] at h
    cases k with
    | zero => simp at hk; subst hk; exact h.1
    | succ k => simp at hk; exact ih h.2 hk

theorem TsOk.get {nt nl ng : Nat} {ks : List T} {k : Nat} {t : T} (h : TsOk nt nl ng ks) (hk : ks[k]? = some t) : TOk nt nl ng t := by
  induction ks generalizing k with
  | nil => simp at hk
  | cons a r ih =>
    simp only [TsOk] at h
    cases k with
    | zero => simp at hk; subst hk; exact h.1
    | succ k => simp at hk; exact ih h.2 hk

section
variable {M : List MO} {tp : List V} {lo : List Nat}

theorem evalTs_append (a b : List T) : evalTs M tp lo (a ++ b) = (evalTs M tp lo a).bind fun x => (evalTs M tp lo b).map (x ++ ·) := by
  induction a with
  | nil => simp [evalTs]
  | cons t r ih =>
    simp only [List.cons_append, evalTs, ih]
    cases evalT M tp lo t <;> cases evalTs M tp lo r <;> cases evalTs M tp lo b <;> simp

theorem take_succ_of {α : Type} {l : List α} {k : Nat} {t : α} (h : l[k]? = some t) : l.take (k + 1) = l.take k ++ [t] := by
  rw [List.take_add_one, h]; rfl

theorem evalTs_next {ks : List T} {k : Nat} {l : List V} {t : T} {v : V} (h : evalTs M tp lo (ks.take k) = some l) (ht : ks[k]? = some t) (hv : evalT M tp lo t = some v) : evalTs M tp lo (ks.take (k + 1)) = some (l ++ [v]) := by
  rw [take_succ_of ht, evalTs_append, h]
  simp [evalTs, hv]

theorem evalTs_fail {ks : List T} {k : Nat} {t : T} (ht : ks[k]? = some t) (hv : evalT M tp lo t = none) : evalTs M tp lo ks = none := by
  have hlt : k < ks.length := by
    rcases Nat.lt_or_ge k ks.length with h | h
    · exact h
    · rw [List.getElem?_eq_none h] at ht; cases ht
  have e : ks = ks.take (k + 1) ++ ks.drop (k + 1) := (List.take_append_drop _ _).symm
  rw [e, evalTs_append, take_succ_of ht, evalTs_append]
  cases evalTs M tp lo (ks.take k) <;> simp [evalTs, hv]

theorem evalTs_length {ks : List T} {l : List V} (h : evalTs M tp lo ks = some l) : l.length = ks.length := by
  induction ks generalizing l with
  | nil => simp [evalTs] at h; subst h; rfl
  | cons t r ih =>
    simp only [evalTs] at h
    cases hv : evalT M tp lo t with
    | none => rw [hv] at h; simp at h
    | some v =>
      rw [hv] at h
      cases hr : evalTs M tp lo r with
      | none => rw [hr] at h; simp at h
      | some x => rw [hr] at h; simp at h; subst h; simp [ih hr]
end

/-- Values as cells. -/
def flatV : List V → List Value
  | [] => []
  | v :: l => .int .i64 v.obj :: .int .i64 v.n :: flatV l

theorem flatV_length (l : List V) : (flatV l).length = l.length * 2 := by
  induction l with
  | nil => rfl
  | cons v l ih => simp [flatV, ih]; omega
theorem flatV_append (a b : List V) : flatV (a ++ b) = flatV a ++ flatV b := by
  induction a with
  | nil => rfl
  | cons v l ih => simp [flatV, ih]
theorem flatV_get {l : List V} {j : Nat} {v : V} (h : l[j]? = some v) : (flatV l)[j * 2]? = some (.int .i64 v.obj) ∧ (flatV l)[j * 2 + 1]? = some (.int .i64 v.n) := by
  induction l generalizing j with
  | nil => simp at h
  | cons a l ih =>
    cases j with
    | zero => simp at h; subst h; simp [flatV]
    | succ j =>
      simp at h
      have := ih h
      rw [show (j + 1) * 2 = j * 2 + 1 + 1 by omega]
      simpa [flatV] using this

/-- What the call has gathered: values in a row of its own. -/
theorem ownsRow_vals {w : World} {base : Nat} {v : Value} {l : List V} {e : TypeId} (h : w.ownsRow base e 2 v l.length (flatV l)) (hp : 0 < l.length) : ∃ g cap, v = .slice (some ⟨g, 0, none⟩) l.length cap ∧ base ≤ g ∧ g < w.heap.size ∧ ∀ j x, l[j]? = some x → ValCells w g (0 + j * 2) x := by
  have hlt := h.lt
  obtain ⟨h1, h2⟩ := h
  rcases h2 with ⟨_, h2⟩ | ⟨g, cap, cur, hv, hb, hh, h3, h4, h5, h6⟩
  · omega
  · subst hv
    refine ⟨g, cap, rfl, hb, Row.lt hh, fun j x hj => ?_⟩
    have hg := flatV_get hj
    have hjl : j < l.length := by
      rcases Nat.lt_or_ge j l.length with h | h
      · exact h
      · rw [List.getElem?_eq_none h] at hj; cases hj
    rw [← h6] at hg
    have e0 := hg.1
    have e1 := hg.2
    rw [List.getElem?_take, if_pos (by omega), Array.getElem?_toList] at e0 e1
    exact ⟨Row.cell hh (by simpa using e0), Row.cell hh (by simpa using e1)⟩
end Go.Proofs.Ytinmgbodgecoeaa
namespace Go.Proofs.Ytinmgbodgecoeaa
open Go.RowKit

/-- An object of a program. -/
structure ObS where
  size : Int
  count : Int
  init : List Int
/-- A step. -/
structure StepS where
  op : Int
  to : Int
  size : Int
  fn : Int
  args : List T
/-- A block. -/
structure BlockS where
  steps : List StepS
  fin : Int
  cond : T
  next : Int
  els : Int
/-- A function. -/
structure GraphS where
  params : Int
  temps : Int
  locs : List ObS
  blocks : List BlockS
/-- A program. -/
structure ProgS where
  globs : List ObS
  funcs : List GraphS
  main : Int

/-- An object's elements, as it is made. -/
def fillF (o : ObS) : List V := (List.range o.count.toNat).map fun i => ⟨0, match o.init[i]? with | some n => storedF o.size.toNat n | none => 0⟩
/-- An object is made. -/
def makeF (M : List MO) (o : ObS) : List MO := (if M = [] then [⟨0, [], false⟩] else M) ++ [⟨o.size, fillF o, true⟩]

def makesF (M : List MO) : List ObS → List MO
  | [] => M
  | o :: l => makesF (makeF M o) l

/-- A value is stored. -/
def storeF (M : List MO) (size : Int) (a x : V) : Option (List MO) :=
  match atF M a size.toNat with
  | none => none
  | some j => if x.obj > 0 ∧ size ≠ 8 then none else
      some (M.modify a.obj fun o => { o with l := o.l.set j (if x.obj = 0 then ⟨0, storedF size.toNat x.n⟩ else x) })

def setT (tp : List V) (to : Int) (v : V) : List V := if 0 ≤ to then tp.set to.toNat v else tp

def killF (M : List MO) : List Nat → List MO
  | [] => M
  | k :: l => killF (M.modify k fun o => { o with live := false }) l

/-- What a call does. -/
abbrev CallR := Int → List V → St → Option V × St

/-- A step is done. -/
def actF (R : CallR) (s : St) (tp : List V) (x : StepS) (l : List V) : Bool × St × List V :=
  if x.op = 1 then (true, s, setT tp x.to (l.getD 0 ⟨0, 0⟩))
  else if x.op = 2 then match storeF s.mem x.size (l.getD 0 ⟨0, 0⟩) (l.getD 1 ⟨0, 0⟩) with
    | some M => (true, { s with mem := M }, tp)
    | none => (false, { s with kind := 3 }, tp)
  else if x.op = 3 then match R x.fn l s with
    | (some v, s') => (true, s', setT tp x.to v)
    | (none, s') => (false, s', tp)
  else if x.op = 5 then match s.inp with
    | [] => (true, s, setT tp x.to ⟨0, 0⟩)
    | n :: r => (true, { s with inp := r }, setT tp x.to ⟨0, n⟩)
  else if (l.getD 0 ⟨0, 0⟩).obj > 0 then (false, { s with kind := 3 }, tp)
  else if x.op = 6 then (false, { s with code := (l.getD 0 ⟨0, 0⟩).n, kind := 1 }, tp)
  else (true, { s with out := s.out ++ [(l.getD 0 ⟨0, 0⟩).n] }, tp)

def doesF (R : CallR) (fuel : Int) (lo : List Nat) (s : St) (tp : List V) (x : StepS) : Bool × St × List V :=
  if (stepF fuel 1 s).1 = false then (false, (stepF fuel 1 s).2, tp)
  else match evalTs (stepF fuel 1 s).2.mem tp lo x.args with
    | none => (false, { (stepF fuel 1 s).2 with kind := 3 }, tp)
    | some l => actF R (stepF fuel 1 s).2 tp x l

/-- A block's steps. -/
def stepsF (R : CallR) (fuel : Int) (lo : List Nat) (s : St) (tp : List V) : List StepS → Bool × St × List V
  | [] => (true, s, tp)
  | x :: r => match doesF R fuel lo s tp x with
    | (true, s', tp') => stepsF R fuel lo s' tp' r
    | (false, s', tp') => (false, s', tp')

/-- How a block ends: it has ended, it goes on, it returns. -/
inductive Goes where
  | over
  | next (k : Int)
  | ret (v : V)

def blockF (R : CallR) (fuel : Int) (lo : List Nat) (s : St) (tp : List V) (b : BlockS) : Goes × St × List V :=
  match stepsF R fuel lo s tp b.steps with
  | (false, s', tp') => (.over, s', tp')
  | (true, s1, tp1) =>
    if (stepF fuel 1 s1).1 = false then (.over, (stepF fuel 1 s1).2, tp1)
    else if b.fin = 1 then (.next b.next, (stepF fuel 1 s1).2, tp1)
    else match evalT (stepF fuel 1 s1).2.mem tp1 lo b.cond with
      | none => (.over, { (stepF fuel 1 s1).2 with kind := 3 }, tp1)
      | some v => if b.fin = 3 then (.ret v, (stepF fuel 1 s1).2, tp1)
        else (.next (if v = ⟨0, 0⟩ then b.els else b.next), (stepF fuel 1 s1).2, tp1)

def noBlock : BlockS := ⟨[], 0, .node 0 0 [], 0, 0⟩
def noGraph : GraphS := ⟨0, 0, [], []⟩

/-- A function's blocks, so many rounds at most. -/
def blocksF (R : CallR) (fuel : Int) (lo : List Nat) (bs : List BlockS) : Nat → Int → St → List V → Option V × St
  | 0, _, s, _ => (none, s)
  | g + 1, k, s, tp => match blockF R fuel lo s tp (bs.getD k.toNat noBlock) with
    | (.over, s', _) => (none, s')
    | (.next k', s', tp') => blocksF R fuel lo bs g k' s' tp'
    | (.ret v, s', _) => (some v, { s' with mem := killF s'.mem lo, calls := s'.calls - 1 })

def countsF : List ObS → Int
  | [] => 0
  | o :: l => o.count + countsF l

/-- The numbers of objects that are made one by one. -/
def numsF (M : List MO) (n : Nat) : List Nat := (List.range n).map fun i => (if M = [] then 1 else M.length) + i

/-- The temporaries at the start. -/
def startF (n : Nat) (args : List V) : List V := args ++ List.replicate (n - args.length) ⟨0, 0⟩

/-- A call, so many deep at most. -/
def callF (p : ProgS) (fuel : Int) : Nat → CallR
  | 0, _, _, s => (none, stopF 4 s)
  | d + 1, fn, args, s =>
    let g := p.funcs.getD fn.toNat noGraph
    let s1 := { s with calls := s.calls + 1, deep := max s.deep (s.calls + 1) }
    if (stepF fuel (countsF g.locs) s1).1 = false then (none, (stepF fuel (countsF g.locs) s1).2)
    else
      let s2 := (stepF fuel (countsF g.locs) s1).2
      blocksF (callF p fuel d) fuel (numsF s2.mem g.locs.length) g.blocks (fuel - s2.steps + 1).toNat 0 { s2 with mem := makesF s2.mem g.locs } (startF g.temps.toNat args)

/-- What a run comes to. -/
structure OutS where
  kind : Int
  code : Int
  out : List Int
  steps : Int
  deep : Int

def endF (r : Option V × St) : OutS :=
  let s := match r.1 with
    | some v => { r.2 with kind := if v.obj > 0 then 3 else 1, code := v.n }
    | none => r.2
  if s.kind = 3 then ⟨3, 0, [], 0, 0⟩ else ⟨s.kind, s.code, s.out, s.steps, s.deep⟩

def runF (p : ProgS) (inp : List Int) (fuel : Int) : OutS :=
  endF (callF p fuel 64 p.main [] ⟨inp, 0, 0, [], 0, 0, 0, makesF [] p.globs⟩)
end Go.Proofs.Ytinmgbodgecoeaa
namespace Go.Proofs.Ytinmgbodgecoeaa
open Go.RowKit

/-- What 'EqTrees' is asked: a slice of trees. -/
def KidsV (w : World) (B : Nat) (ks : List T) (A : Option Addr) (n : Nat) : Prop :=
  ks.length = n ∧ n ≤ 9223372036854775807 ∧ (0 < n → ∃ b off, A = some ⟨b, off, none⟩ ∧ b < B ∧ KidsAt w (Under B) ks b off)

theorem KidsV.get {w : World} {B n : Nat} {ks : List T} {A : Option Addr} (h : KidsV w B ks A n) {k : Nat} (hk : k < n) :
    ∃ b off t v0 v1 v2, A = some ⟨b, off, none⟩ ∧ b < B ∧ ks[k]? = some t ∧ w.cell? ⟨b, off + k * 3, none⟩ = some v0 ∧ w.cell? ⟨b, off + k * 3 + 1, none⟩ = some v1 ∧ w.cell? ⟨b, off + k * 3 + 2, none⟩ = some v2 ∧ TreeAt w (Under B) t v0 v1 v2 := by
  obtain ⟨hl, _, hA⟩ := h
  obtain ⟨b, off, hA, hb, hK⟩ := hA (by omega)
  have hget : ks[k]? = some (ks[k]'(by omega)) := List.getElem?_eq_getElem (by omega)
  obtain ⟨v0, v1, v2, h0, h1, h2, ht⟩ := hK.get hget
  exact ⟨b, off, _, v0, v1, v2, hA, hb, hget, h0, h1, h2, ht⟩

theorem KidsV.below {w w' : World} {B B' n : Nat} {ks : List T} {A : Option Addr} (h : KidsV w B ks A n) (hb : Below B w w') (hB : B ≤ B') : KidsV w' B' ks A n := by
  obtain ⟨h0, h1, h2⟩ := h
  refine ⟨h0, h1, fun hp => ?_⟩
  obtain ⟨b, off, hA, hlt, hk⟩ := h2 hp
  exact ⟨b, off, hA, by omega, KidsAt.keep (fun b off (hc : b < B) => ⟨Nat.lt_of_lt_of_le hc hB, fun j => hb.cell (p := ⟨b, j, none⟩) hc⟩) ks (fun j => hb.cell (p := ⟨b, j, none⟩) hlt) hk⟩

theorem list_ext_upto {α : Type} {xs ys : List α} (hl : xs.length = ys.length) (h : ∀ j, j < xs.length → xs[j]? = ys[j]?) : xs = ys := by
  apply List.ext_getElem?
  intro i
  by_cases hi : i < xs.length
  · exact h i hi
  · rw [List.getElem?_eq_none (by omega), List.getElem?_eq_none (by omega)]

theorem KidsV.of_tree {w : World} {B : Nat} {op n : Int} {ks : List T} {v0 v1 v2 : Value} (h : TreeAt w (Under B) (.node op n ks) v0 v1 v2) :
    ∃ A cap len, v0 = .int .i64 op ∧ v1 = .int .i64 n ∧ In64 op ∧ In64 n ∧ v2 = .slice A len cap ∧ KidsV w B ks A len := by
  simp only [TreeAt] at h
  obtain ⟨h0, h1, h2, h3, h4, A, cap, h5, h6⟩ := h
  exact ⟨A, cap, ks.length, h0, h1, h2, h3, h5, rfl, h4, h6⟩

end Go.Proofs.Ytinmgbodgecoeaa
namespace Go.Proofs.Ytinmgbodgecoeaa
open Go.RowKit

/-- A slice of elements of so many cells; 'E': what an element's cells are. -/
def SliceAt {α : Type} (w : World) (B sz : Nat) (E : (Nat → Option Value) → α → Prop) (l : List α) (v : Value) : Prop :=
  ∃ A cap, v = .slice A l.length cap ∧ l.length ≤ 9223372036854775807 ∧ (0 < l.length → ∃ b off, A = some ⟨b, off, none⟩ ∧ b < B ∧ ∀ i x, l[i]? = some x → E (fun j => w.cell? ⟨b, off + i * sz + j, none⟩) x)

theorem SliceAt.below {α : Type} {w w' : World} {B B' sz : Nat} {E E' : (Nat → Option Value) → α → Prop} {l : List α} {v : Value} (h : SliceAt w B sz E l v) (hb : Below B w w') (hB : B ≤ B') (hE : ∀ c x, E c x → E' c x) : SliceAt w' B' sz E' l v := by
  obtain ⟨A, cap, h0, h1, h2⟩ := h
  refine ⟨A, cap, h0, h1, fun hp => ?_⟩
  obtain ⟨b, off, hA, hlt, hx⟩ := h2 hp
  refine ⟨b, off, hA, by omega, fun i x hi => ?_⟩
  have e : (fun j => w'.cell? ⟨b, off + i * sz + j, none⟩) = fun j => w.cell? ⟨b, off + i * sz + j, none⟩ := by funext j; exact hb.cell (p := ⟨b, _, none⟩) hlt
  rw [e]
  exact hE _ _ (hx i x hi)

theorem SliceAt.get {α : Type} {w : World} {B sz : Nat} {E : (Nat → Option Value) → α → Prop} {l : List α} {A : Option Addr} {n cap k : Nat} (h : SliceAt w B sz E l (.slice A n cap)) (hk : k < n) :
    ∃ b off x, A = some ⟨b, off, none⟩ ∧ b < B ∧ l[k]? = some x ∧ E (fun j => w.cell? ⟨b, off + k * sz + j, none⟩) x := by
  obtain ⟨A', cap', h0, h1, h2⟩ := h
  injection h0 with e1 e2 e3
  subst e1 e2
  obtain ⟨b, off, hA, hlt, hx⟩ := h2 (by omega)
  exact ⟨b, off, _, hA, hlt, List.getElem?_eq_getElem hk, hx k _ (List.getElem?_eq_getElem hk)⟩

theorem SliceAt.len {α : Type} {w : World} {B sz : Nat} {E : (Nat → Option Value) → α → Prop} {l : List α} {A : Option Addr} {n cap : Nat} (h : SliceAt w B sz E l (.slice A n cap)) : l.length = n ∧ n ≤ 9223372036854775807 := by
  obtain ⟨A', cap', h0, h1, _⟩ := h
  injection h0 with e1 e2 e3
  subst e2
  exact ⟨rfl, h1⟩

def LongsAt (w : World) (B : Nat) (l : List Int) (v : Value) : Prop := SliceAt w B 1 (fun c x => c 0 = some (.int .i64 x) ∧ In64 x) l v

def ObE (w : World) (B : Nat) (c : Nat → Option Value) (o : ObS) : Prop :=
  c 0 = some (.int .i64 o.size) ∧ c 1 = some (.int .i64 o.count) ∧ (∃ v, c 2 = some v ∧ LongsAt w B o.init v) ∧ In64 o.size ∧ In64 o.count

def TreeE (w : World) (B : Nat) (c : Nat → Option Value) (t : T) : Prop := ∃ v0 v1 v2, c 0 = some v0 ∧ c 1 = some v1 ∧ c 2 = some v2 ∧ TreeAt w (Under B) t v0 v1 v2

def TreesAt (w : World) (B : Nat) (l : List T) (v : Value) : Prop := ∃ A n cap, v = .slice A n cap ∧ KidsV w B l A n

def StepE (w : World) (B : Nat) (c : Nat → Option Value) (x : StepS) : Prop :=
  c 0 = some (.int .i64 x.op) ∧ c 1 = some (.int .i64 x.to) ∧ c 2 = some (.int .i64 x.size) ∧ c 3 = some (.int .i64 x.fn) ∧ (∃ v, c 4 = some v ∧ TreesAt w B x.args v) ∧ In64 x.op ∧ In64 x.to ∧ In64 x.size ∧ In64 x.fn

def BlockE (w : World) (B : Nat) (c : Nat → Option Value) (b : BlockS) : Prop :=
  (∃ v, c 0 = some v ∧ SliceAt w B 5 (StepE w B) b.steps v) ∧ c 1 = some (.int .i64 b.fin) ∧ (∃ v0 v1 v2, c 2 = some v0 ∧ c 3 = some v1 ∧ c 4 = some v2 ∧ TreeAt w (Under B) b.cond v0 v1 v2) ∧ c 5 = some (.int .i64 b.next) ∧ c 6 = some (.int .i64 b.els) ∧ In64 b.fin ∧ In64 b.next ∧ In64 b.els

def GraphE (w : World) (B : Nat) (c : Nat → Option Value) (g : GraphS) : Prop :=
  c 0 = some (.int .i64 g.params) ∧ c 1 = some (.int .i64 g.temps) ∧ (∃ v, c 2 = some v ∧ SliceAt w B 3 (ObE w B) g.locs v) ∧ (∃ v, c 3 = some v ∧ SliceAt w B 7 (BlockE w B) g.blocks v) ∧ In64 g.params ∧ In64 g.temps

def ProgE (w : World) (B : Nat) (c : Nat → Option Value) (p : ProgS) : Prop :=
  (∃ v, c 0 = some v ∧ SliceAt w B 3 (ObE w B) p.globs v) ∧ (∃ v, c 1 = some v ∧ SliceAt w B 4 (GraphE w B) p.funcs v) ∧ c 2 = some (.int .i64 p.main) ∧ In64 p.main

section
variable {w w' : World} {B B' : Nat}
theorem LongsAt.below {l : List Int} {v : Value} (h : LongsAt w B l v) (hb : Below B w w') (hB : B ≤ B') : LongsAt w' B' l v := SliceAt.below h hb hB fun _ _ h => h
theorem TreesAt.below {l : List T} {v : Value} (h : TreesAt w B l v) (hb : Below B w w') (hB : B ≤ B') : TreesAt w' B' l v := by
  obtain ⟨A, n, cap, h0, h1⟩ := h
  exact ⟨A, n, cap, h0, h1.below hb hB⟩
theorem ObE.below {c : Nat → Option Value} {o : ObS} (h : ObE w B c o) (hb : Below B w w') (hB : B ≤ B') : ObE w' B' c o := by
  obtain ⟨h0, h1, ⟨v, h2, h3⟩, h4⟩ := h
  exact ⟨h0, h1, ⟨v, h2, h3.below hb hB⟩, h4⟩
theorem StepE.below {c : Nat → Option Value} {x : StepS} (h : StepE w B c x) (hb : Below B w w') (hB : B ≤ B') : StepE w' B' c x := by
  obtain ⟨h0, h1, h2, h3, ⟨v, h4, h5⟩, h6⟩ := h
  exact ⟨h0, h1, h2, h3, ⟨v, h4, h5.below hb hB⟩, h6⟩
theorem BlockE.below {c : Nat → Option Value} {b : BlockS} (h : BlockE w B c b) (hb : Below B w w') (hB : B ≤ B') : BlockE w' B' c b := by
  obtain ⟨⟨v, h0, h1⟩, h2, ⟨v0, v1, v2, h3, h4, h5, h6⟩, h7⟩ := h
  exact ⟨⟨v, h0, h1.below hb hB fun _ _ h => h.below hb hB⟩, h2, ⟨v0, v1, v2, h3, h4, h5, h6.below hb hB⟩, h7⟩
theorem GraphE.below {c : Nat → Option Value} {g : GraphS} (h : GraphE w B c g) (hb : Below B w w') (hB : B ≤ B') : GraphE w' B' c g := by
  obtain ⟨h0, h1, ⟨v, h2, h3⟩, ⟨u, h4, h5⟩, h6⟩ := h
  exact ⟨h0, h1, ⟨v, h2, h3.below hb hB fun _ _ h => h.below hb hB⟩, ⟨u, h4, h5.below hb hB fun _ _ h => h.below hb hB⟩, h6⟩
theorem ProgE.below {c : Nat → Option Value} {p : ProgS} (h : ProgE w B c p) (hb : Below B w w') (hB : B ≤ B') : ProgE w' B' c p := by
  obtain ⟨⟨v, h0, h1⟩, ⟨u, h2, h3⟩, h4⟩ := h
  exact ⟨⟨v, h0, h1.below hb hB fun _ _ h => h.below hb hB⟩, ⟨u, h2, h3.below hb hB fun _ _ h => h.below hb hB⟩, h4⟩
end
end Go.Proofs.Ytinmgbodgecoeaa
namespace Go.Proofs.Ytinmgbodgecoeaa
open Go.RowKit

/-- An instruction. -/
structure InsS where
  op : Int
  dst : Int
  a : Int
  b : Int
  n : Int
  arg : List Int
/-- A function of virtual code. -/
structure CodeS where
  params : Int
  regs : Int
  locs : List ObS
  ins : List InsS
/-- A program of virtual code. -/
structure VirtS where
  globs : List ObS
  funcs : List CodeS
  main : Int

def InsE (w : World) (B : Nat) (c : Nat → Option Value) (x : InsS) : Prop :=
  c 0 = some (.int .i64 x.op) ∧ c 1 = some (.int .i64 x.dst) ∧ c 2 = some (.int .i64 x.a) ∧ c 3 = some (.int .i64 x.b) ∧ c 4 = some (.int .i64 x.n) ∧ (∃ v, c 5 = some v ∧ LongsAt w B x.arg v) ∧ In64 x.op ∧ In64 x.dst ∧ In64 x.a ∧ In64 x.b ∧ In64 x.n
def CodeE (w : World) (B : Nat) (c : Nat → Option Value) (g : CodeS) : Prop :=
  c 0 = some (.int .i64 g.params) ∧ c 1 = some (.int .i64 g.regs) ∧ (∃ v, c 2 = some v ∧ SliceAt w B 3 (ObE w B) g.locs v) ∧ (∃ v, c 3 = some v ∧ SliceAt w B 6 (InsE w B) g.ins v) ∧ In64 g.params ∧ In64 g.regs
def VirtE (w : World) (B : Nat) (c : Nat → Option Value) (p : VirtS) : Prop :=
  (∃ v, c 0 = some v ∧ SliceAt w B 3 (ObE w B) p.globs v) ∧ (∃ v, c 1 = some v ∧ SliceAt w B 4 (CodeE w B) p.funcs v) ∧ c 2 = some (.int .i64 p.main) ∧ In64 p.main
section
variable {w w' : World} {B B' : Nat}
theorem InsE.below {c : Nat → Option Value} {x : InsS} (h : InsE w B c x) (hb : Below B w w') (hB : B ≤ B') : InsE w' B' c x := by
  obtain ⟨h0, h1, h2, h3, h4, ⟨v, h5, h6⟩, h7⟩ := h
  exact ⟨h0, h1, h2, h3, h4, ⟨v, h5, h6.below hb hB⟩, h7⟩
theorem CodeE.below {c : Nat → Option Value} {g : CodeS} (h : CodeE w B c g) (hb : Below B w w') (hB : B ≤ B') : CodeE w' B' c g := by
  obtain ⟨h0, h1, ⟨v, h2, h3⟩, ⟨u, h4, h5⟩, h6⟩ := h
  exact ⟨h0, h1, ⟨v, h2, h3.below hb hB fun _ _ h => h.below hb hB⟩, ⟨u, h4, h5.below hb hB fun _ _ h => h.below hb hB⟩, h6⟩
theorem VirtE.below {c : Nat → Option Value} {p : VirtS} (h : VirtE w B c p) (hb : Below B w w') (hB : B ≤ B') : VirtE w' B' c p := by
  obtain ⟨⟨v, h0, h1⟩, ⟨u, h2, h3⟩, h4⟩ := h
  exact ⟨⟨v, h0, h1.below hb hB fun _ _ h => h.below hb hB⟩, ⟨u, h2, h3.below hb hB fun _ _ h => h.below hb hB⟩, h4⟩
end
/-- A program of virtual code as the machine holds it. -/
def VirtAt (w : World) (B : Nat) (P : Value × Value × Value) (p : VirtS) : Prop :=
  SliceAt w B 3 (ObE w B) p.globs P.1 ∧ SliceAt w B 4 (CodeE w B) p.funcs P.2.1 ∧ P.2.2 = .int .i64 p.main ∧ In64 p.main
theorem VirtAt.below {w w' : World} {B : Nat} {P : Value × Value × Value} {p : VirtS} (h : VirtAt w B P p) (hb : Below B w w') : VirtAt w' B P p :=
  ⟨h.1.below hb (Nat.le_refl _) fun _ _ h => h.below hb (Nat.le_refl _), h.2.1.below hb (Nat.le_refl _) fun _ _ h => h.below hb (Nat.le_refl _), h.2.2⟩
theorem VirtAt.shape {w : World} {B : Nat} {P : Value × Value × Value} {p : VirtS} (h : VirtAt w B P p) : ∃ GA gc FA fc, P = (.slice GA p.globs.length gc, .slice FA p.funcs.length fc, .int .i64 p.main) := by
  obtain ⟨P0, P1, P2⟩ := P
  obtain ⟨⟨A, c, h0, _⟩, ⟨A', c', h1, _⟩, h2, _⟩ := h
  simp only at h0 h1 h2
  exact ⟨_, _, _, _, by rw [h0, h1, h2]⟩
theorem VirtE.at {w : World} {B : Nat} {c : Nat → Option Value} {p : VirtS} (h : VirtE w B c p) : ∃ P : Value × Value × Value, c 0 = some P.1 ∧ c 1 = some P.2.1 ∧ c 2 = some P.2.2 ∧ VirtAt w B P p := by
  obtain ⟨⟨v, h0, h1⟩, ⟨u, h2, h3⟩, h4, h5⟩ := h
  exact ⟨(v, u, .int .i64 p.main), h0, h2, h4, h1, h3, rfl, h5⟩
end Go.Proofs.Ytinmgbodgecoeaa
namespace Go.Proofs.Ytinmgbodgecoeaa
open Go.RowKit

theorem wrap_in (n : Int) : In64 (wrap64 n) := by unfold wrap64 In64; omega
theorem bitsI_in (op : BinOp) (x y : Int) : In64 (bits op .i64 x y) := by
  unfold bits In64
  simp only [IntKind.wrap_i64]
  omega
theorem tru_in64 (t : Bool) : In64 (tru t) := by unfold In64; exact tru_in t
theorem tmod_in {a b : Int} (ha : In64 a) : In64 (a.tmod b) := by
  unfold In64 at *
  have h : ((a.tmod b).natAbs : Int) ≤ a.natAbs := by
    rw [Int.natAbs_tmod]
    exact_mod_cast Nat.mod_le _ _
  by_cases hz : 0 ≤ a
  · have := Int.tmod_nonneg b hz
    omega
  · have hs : a.tmod b ≤ 0 := by
      have h1 := Int.tmod_nonneg b (show 0 ≤ -a by omega)
      rw [Int.neg_tmod] at h1
      omega
    omega
theorem divR_in {op a b : Int} (ha : In64 a) : In64 (divR op a b) := by
  unfold divR partsQ partsR wholeQ wholeR
  (repeat' split) <;> first | exact wrap_in _ | exact ha | exact tmod_in ha | (unfold In64; omega)
theorem pow_div_in {a : Int} (ha : In64 a) (k : Nat) : In64 (a / 2 ^ k) := by
  have hp : (0 : Int) < 2 ^ k := Int.pow_pos (by decide)
  unfold In64 at *
  constructor
  · exact (Int.le_ediv_iff_mul_le hp).2 (by
      have : (-9223372036854775808 : Int) * 2 ^ k ≤ -9223372036854775808 * 1 := Int.mul_le_mul_of_nonpos_left (by decide) (by omega)
      omega)
  · have := Int.ediv_le_ediv hp ha.2
    refine Int.le_trans this ?_
    exact Int.ediv_le_self _ (by decide)
theorem two_in64 {op a b : Int} (ha : In64 a) : In64 (twoR op a b) := by
  unfold twoR
  (repeat' split) <;> first | exact wrap_in _ | exact bitsI_in _ _ _ | exact pow_div_in ha _ | exact divR_in ha | exact tru_in64 _
theorem un_in64 {op n : Int} (h : In64 n) : In64 (unR op n) := unR_lo op n h.1 h.2
theorem loaded_in64 {op n : Int} (h : In64 n) : In64 (loadedF op n) := by
  unfold loadedF
  split
  · exact h
  · exact cutN_lo _ _ _ h.1 h.2
theorem stored_in64 {s : Nat} {n : Int} (h : In64 n) : In64 (storedF s n) := by
  unfold storedF
  split
  · exact h
  · exact cutN_lo _ _ _ h.1 h.2

theorem VOk.num {n : Nat} {x : Int} (hn : 0 < n) (h : In64 x) : VOk n ⟨0, x⟩ := ⟨hn, fun h => absurd rfl h, h⟩

section
variable {M : List MO}

theorem MemOk.obj (h : MemOk M) {k : Nat} (hk : k < M.length) : 0 ≤ (mget M k).size ∧ (mget M k).size ≤ 8 ∧ (mget M k).l.length ≤ 64 := by
  have hg := mget_of hk
  by_cases h0 : k = 0
  · subst h0
    rw [h.zero _ hg]
    simp
  · have := h.size k _ (by omega) hg
    omega

theorem moved_ok (h : MemOk M) {a : V} (ha : VOk M.length a) (hp : a.obj ≠ 0) {n : Int} {r : V} (hr : movedF M a n = some r) : VOk M.length r := by
  unfold movedF at hr
  split at hr
  · rename_i hc
    obtain ⟨_, h1, h2⟩ := hc
    simp only [Option.some.injEq] at hr
    subst hr
    have hb := h.obj ha.1
    have := MO.bytes_bd hb.1 hb.2.1 hb.2.2
    have := ha.2.1 hp
    exact ⟨ha.1, fun _ => by simp only; omega, by unfold In64; simp only; omega⟩
  · cases hr

theorem bin_ok (h : MemOk M) {op : Int} {a b r : V} (ha : VOk M.length a) (hb : VOk M.length b) (hr : binF twoR M op a b = some r) : VOk M.length r := by
  have hn : 0 < M.length := Nat.lt_of_le_of_lt (Nat.zero_le _) ha.1
  unfold binF at hr
  by_cases h0 : a.obj = 0 ∧ b.obj = 0
  · rw [if_pos h0] at hr; simp only [Option.some.injEq] at hr; subst hr; exact VOk.num hn (two_in64 ha.2.2)
  · rw [if_neg h0] at hr
    by_cases h1 : op = 12 ∧ a.obj = 0
    · rw [if_pos h1] at hr; exact moved_ok h hb (by omega) hr
    · rw [if_neg h1] at hr
      by_cases h2 : op = 12 ∧ b.obj = 0
      · rw [if_pos h2] at hr; exact moved_ok h ha (by omega) hr
      · rw [if_neg h2] at hr
        by_cases h3 : op = 13 ∧ b.obj = 0
        · rw [if_pos h3] at hr
          split at hr
          · cases hr
          · exact moved_ok h ha (by omega) hr
        · rw [if_neg h3] at hr
          (repeat' split at hr) <;> first | (cases hr; done) | (simp only [Option.some.injEq] at hr; subst hr; exact VOk.num hn (two_in64 (by first | exact ha.2.2 | (unfold In64; omega)))) | (simp only [Option.some.injEq] at hr; subst hr; exact VOk.num hn (two_in64 (by split <;> (unfold In64; omega))))

theorem load_ok (h : MemOk M) {op : Int} {a r : V} (ha : VOk M.length a) (hr : loadF M op a = some r) : VOk M.length r := by
  have hn : 0 < M.length := Nat.lt_of_le_of_lt (Nat.zero_le _) ha.1
  unfold loadF at hr
  cases hF : atF M a (sizeL op) with
  | none => rw [hF] at hr; cases hr
  | some j =>
    rw [hF] at hr
    have hj := (atF_lt hF (ha.2.1 (atF_pos hF)).1).2.2.2
    have hv : VOk M.length ((mget M a.obj).l.getD j ⟨0, 0⟩) := by
      refine h.vals (mget M a.obj) (List.mem_of_getElem? (mget_of ha.1)) _ ?_
      rw [List.getD_eq_getElem?_getD, List.getElem?_eq_getElem hj]
      exact List.getElem_mem hj
    simp only at hr
    generalize (mget M a.obj).l.getD j ⟨0, 0⟩ = v at hv hr
    (repeat' split at hr)
    · simp only [Option.some.injEq] at hr; subst hr; exact hv
    · cases hr
    · simp only [Option.some.injEq] at hr; subst hr; exact VOk.num hn (loaded_in64 hv.2.2)

theorem getD_ok {l : List V} {n : Nat} (hn : 0 < n) (hl : ∀ v, v ∈ l → VOk n v) (j : Nat) : VOk n (l.getD j ⟨0, 0⟩) := by
  rw [List.getD_eq_getElem?_getD]
  cases hj : l[j]? with
  | none => exact VOk.num hn (by unfold In64; omega)
  | some v => exact hl v (List.mem_of_getElem? hj)

theorem apply_ok (h : MemOk M) (hn : 0 < M.length) {op : Int} {l : List V} {r : V} (hl : ∀ v, v ∈ l → VOk M.length v) (hr : applyF M op l = some r) : VOk M.length r := by
  unfold applyF at hr
  have h0 := getD_ok hn hl 0
  have h1 := getD_ok hn hl 1
  split at hr
  · exact load_ok h h0 hr
  · split at hr
    · split at hr
      · simp only [Option.some.injEq] at hr; subst hr; exact VOk.num hn (un_in64 h0.2.2)
      · cases hr
    · exact bin_ok h h0 h1 hr

/-- What a frame's values are, always. -/
structure FrOk (M : List MO) (tp : List V) (lo : List Nat) (ng : Nat) : Prop where
  temps : ∀ v, v ∈ tp → VOk M.length v
  locs : ∀ x, x ∈ lo → x < M.length
  globs : ng < M.length

mutual
theorem eval_ok {tp : List V} {lo : List Nat} {ng : Nat} (h : MemOk M) (hf : FrOk M tp lo ng) : ∀ (t : T) {r : V}, TIn t → TOk tp.length lo.length ng t → evalT M tp lo t = some r → VOk M.length r
  | .node op n ks, r, hi, ht, hr => by
    have hn : 0 < M.length := Nat.lt_of_le_of_lt (Nat.zero_le _) hf.globs
    simp only [TIn] at hi
    simp only [TOk] at ht
    obtain ⟨t1, t2, t3, t4, t5, t6, t7⟩ := ht
    simp only [evalT] at hr
    cases hks : evalTs M tp lo ks with
    | none => rw [hks] at hr; cases hr
    | some l =>
      rw [hks] at hr
      have hl := evals_ok h hf ks hi.2 t7 hks
      simp only [Option.bind_some, opF] at hr
      (repeat' split at hr)
      · simp only [Option.some.injEq] at hr; subst hr; exact VOk.num hn hi.1
      · simp only [Option.some.injEq] at hr; subst hr; exact getD_ok hn hf.temps _
      · simp only [Option.some.injEq] at hr; subst hr
        have := t5 (by assumption)
        refine ⟨hf.locs _ ?_, fun _ => by simp, by unfold In64; simp⟩
        rw [List.getD_eq_getElem?_getD, List.getElem?_eq_getElem (by omega)]
        exact List.getElem_mem _
      · simp only [Option.some.injEq] at hr; subst hr
        have := t6 (by assumption)
        have := hf.globs
        exact ⟨by simp only; omega, fun _ => by simp, by unfold In64; simp⟩
      · exact apply_ok h hn hl hr
theorem evals_ok {tp : List V} {lo : List Nat} {ng : Nat} (h : MemOk M) (hf : FrOk M tp lo ng) : ∀ (ks : List T) {l : List V}, TsIn ks → TsOk tp.length lo.length ng ks → evalTs M tp lo ks = some l → ∀ v, v ∈ l → VOk M.length v
  | [], l, _, _, hr => by simp [evalTs] at hr; subst hr; intro v hv; cases hv
  | k :: ks, l, hi, ht, hr => by
    simp only [TsIn] at hi
    simp only [TsOk] at ht
    simp only [evalTs] at hr
    cases hk : evalT M tp lo k with
    | none => rw [hk] at hr; cases hr
    | some v =>
      rw [hk] at hr
      cases hks : evalTs M tp lo ks with
      | none => rw [hks] at hr; simp at hr
      | some x =>
        rw [hks] at hr
        simp at hr
        subst hr
        have h1 := eval_ok h hf k hi.1 ht.1 hk
        have h2 := evals_ok h hf ks hi.2 ht.2 hks
        intro u hu
        cases hu with
        | head => exact h1
        | tail _ hu => exact h2 u hu
end
end
end Go.Proofs.Ytinmgbodgecoeaa
namespace Go.Proofs.Ytinmgbodgecoeaa
open Go.RowKit

def memBase (M : List MO) : List MO := if M = [] then [⟨0, [], false⟩] else M
theorem makeF_eq (M : List MO) (o : ObS) : makeF M o = memBase M ++ [⟨o.size, fillF o, true⟩] := rfl
theorem memBase_pos (M : List MO) : 0 < (memBase M).length := by
  unfold memBase
  split
  · simp
  · rename_i h; cases M with | nil => exact absurd rfl h | cons a l => simp
theorem memBase_ok {M : List MO} (h : MemOk M) : MemOk (memBase M) := by
  unfold memBase
  split
  · refine ⟨by simp, fun o ho => by simpa using ho.symm, fun k o hk ho => ?_, fun o ho v hv => ?_⟩
    · rw [List.getElem?_eq_none (by simp; omega)] at ho; cases ho
    · simp at ho; subst ho; simp at hv
  · exact h

theorem mget_base (M : List MO) (k : Nat) : mget (memBase M) k = mget M k := by
  unfold memBase
  split
  · rename_i h
    subst h
    unfold mget
    cases k <;> rfl
  · rfl
theorem memBase_twice (M : List MO) : memBase (memBase M) = memBase M := by
  have h := memBase_pos M
  generalize memBase M = N at h
  unfold memBase
  rw [if_neg (by rintro rfl; simp at h)]
theorem atF_base (M : List MO) (a : V) (s : Nat) : atF (memBase M) a s = atF M a s := by unfold atF; simp only [mget_base]
theorem loadF_base (M : List MO) (op : Int) (a : V) : loadF (memBase M) op a = loadF M op a := by unfold loadF; simp only [mget_base, atF_base]
theorem movedF_base (M : List MO) (a : V) (n : Int) : movedF (memBase M) a n = movedF M a n := by unfold movedF; simp only [mget_base]
theorem cmpF_base (M : List MO) (a b : V) : cmpF (memBase M) a b = cmpF M a b := by unfold cmpF; simp only [mget_base]
theorem binF_base (two : Int → Int → Int → Int) (M : List MO) (op : Int) (a b : V) : binF two (memBase M) op a b = binF two M op a b := by unfold binF; simp only [mget_base, movedF_base, cmpF_base]
theorem opF_base (M : List MO) (tp : List V) (lo : List Nat) (op n : Int) (l : List V) : opF (memBase M) tp lo op n l = opF M tp lo op n l := by
  unfold opF applyF
  simp only [loadF_base, binF_base]
mutual
theorem evalT_base (M : List MO) (tp : List V) (lo : List Nat) : ∀ t, evalT (memBase M) tp lo t = evalT M tp lo t
  | .node op n ks => by
    rw [evalT, evalT, evalTs_base M tp lo ks]
    congr 1
    funext l
    exact opF_base M tp lo op n l
theorem evalTs_base (M : List MO) (tp : List V) (lo : List Nat) : ∀ ks, evalTs (memBase M) tp lo ks = evalTs M tp lo ks
  | [] => rfl
  | k :: ks => by rw [evalTs, evalTs, evalT_base M tp lo k, evalTs_base M tp lo ks]
end
theorem memBase_of {M : List MO} (h : 0 < M.length) : memBase M = M := by
  unfold memBase
  rw [if_neg (by rintro rfl; simp at h)]
theorem VOk.based {M : List MO} {v : V} (h : VOk (memBase M).length v) : VOkW M.length v := by
  refine ⟨fun h0 => ?_, h.2⟩
  have h1 := h.1
  unfold memBase at h1
  split at h1
  · simp at h1; omega
  · exact h1
theorem memBase_le (M : List MO) : (memBase M).length ≤ M.length + 1 := by
  unfold memBase
  split
  · simp
  · omega
theorem memBase_ge (M : List MO) : M.length ≤ (memBase M).length := by
  unfold memBase
  split
  · rename_i h; subst h; simp
  · exact Nat.le_refl _
theorem MemOk.unbase {M : List MO} (h : MemOk (memBase M)) : MemOk M := by
  unfold memBase at h
  split at h
  · rename_i hM
    subst hM
    exact ⟨by simp, fun o h => by simp at h, fun k o _ h => by simp at h, fun o h => by simp at h⟩
  · exact h
end Go.Proofs.Ytinmgbodgecoeaa
namespace Go.Proofs.Ytinmgbodgecoeaa
open Go.RowKit

theorem wr_drewN (F : Nat → Prop) (w : World) (n : Nat) : Wr F w (w.drewN n) := Wr.of_below (below_drewN (Below.refl _ _) n)

theorem Wr.cell1 (w : World) (b j : Nat) (v : Value) : Wr (fun k => k = b) w (w.setCell ⟨b, j, none⟩ v) := Wr.setCell w ⟨b, j, none⟩ v rfl

end Go.Proofs.Ytinmgbodgecoeaa
namespace Go.Proofs.Ytinmgbodgecoeaa
open Go.RowKit

theorem val_info : (Try.prog.info? 60).map (fun i => (i.zero, i.size, i.bytes)) = some (some (.agg #[.int .i64 0, .int .i64 0]), 2, 16) := by kernel_rfl

theorem addr0 (g j : Nat) : (⟨g, 0, none⟩ : Addr).add j = ⟨g, j, none⟩ := by simp [Addr.add]; exact fun h => h.symm

theorem pair_cells (w : World) (a b : Value) (t : TypeId) (r : Nat) (hr : r = w.heap.size) : ∀ (j : Nat) (u : Value), [a, b][j]? = some u → (w.alloc (.cells #[a, b] t)).cell? ((⟨r, 0, none⟩ : Addr).add j) = some u := by
  subst hr
  intro j u hj
  have hj2 : j < 2 := by
    rcases Nat.lt_or_ge j 2 with h | h
    · exact h
    · rw [List.getElem?_eq_none (by simpa using h)] at hj; cases hj
  rw [addr0]
  exact (Row.new w #[a, b] t).cell (by simpa using hj)
theorem pair_one (a b : Int) : ∀ u : Value, u ∈ [Value.int .i64 a, Value.int .i64 b] → u.oneCell' = true := by
  intro u hu
  simp at hu
  rcases hu with rfl | rfl <;> rfl

theorem wr_two (w1 : World) (r : Nat) (u v : Value) : Wr (fun k => k = r) w1 ((w1.setCell ⟨r, 0, none⟩ u).setCell ⟨r, 1, none⟩ v) :=
  (Wr.cell1 w1 r 0 u).trans (Wr.cell1 _ r 1 v) (fun _ h => Or.inl h)
theorem wr_two_alloc (w1 : World) (r : Nat) (u v : Value) (o : Obj) : Wr (fun k => k = r) w1 (((w1.setCell ⟨r, 0, none⟩ u).setCell ⟨r, 1, none⟩ v).alloc o) :=
  (wr_two w1 r u v).trans (Wr.of_below (F := fun k => k = r) (below1 _ o)) (fun _ h => Or.inl h)

mutual
theorem TreeAt.tin {w : World} {C : Nat → Nat → Prop} : ∀ (t : T) {v0 v1 v2 : Value}, TreeAt w C t v0 v1 v2 → TIn t
  | .node op n ks, v0, v1, v2, h => by
    simp only [TreeAt] at h
    obtain ⟨_, _, _, h3, _, A, cap, _, h6⟩ := h
    refine ⟨h3, ?_⟩
    match ks, h6 with
    | [], _ => trivial
    | k :: ks, h6 =>
      obtain ⟨b, off, _, _, hk⟩ := h6 (by simp)
      exact KidsAt.tin (k :: ks) hk
theorem KidsAt.tin {w : World} {C : Nat → Nat → Prop} : ∀ (ks : List T) {b off : Nat}, KidsAt w C ks b off → TsIn ks
  | [], _, _, _ => trivial
  | k :: ks, b, off, h => by
    simp only [KidsAt] at h
    obtain ⟨⟨v0, v1, v2, _, _, _, ht⟩, hr⟩ := h
    exact ⟨TreeAt.tin k ht, KidsAt.tin ks hr⟩
end

theorem KidsV.tin {w : World} {B n : Nat} {ks : List T} {A : Option Addr} (h : KidsV w B ks A n) : TsIn ks := by
  obtain ⟨hl, _, h2⟩ := h
  by_cases hn : 0 < n
  · obtain ⟨b, off, _, _, hk⟩ := h2 hn
    exact KidsAt.tin ks hk
  · have : ks = [] := List.length_eq_zero_iff.1 (by omega)
    subst this
    simp [TsIn]
end Go.Proofs.Ytinmgbodgecoeaa
namespace Go.Proofs.Ytinmgbodgecoeaa
open Go.RowKit
end Go.Proofs.Ytinmgbodgecoeaa
namespace Go.Proofs.Ytinmgbodgecoeaa
open Go.RowKit
end Go.Proofs.Ytinmgbodgecoeaa
namespace Go.Proofs.Ytinmgbodgecoeaa
open Go.RowKit
end Go.Proofs.Ytinmgbodgecoeaa
namespace Go.Proofs.Ytinmgbodgecoeaa
open Go.RowKit
end Go.Proofs.Ytinmgbodgecoeaa
namespace Go.Proofs.Ytinmgbodgecoeaa
open Go.RowKit

end Go.Proofs.Ytinmgbodgecoeaa
namespace Go.Proofs.Ytinmgbodgecoeaa
open Go.RowKit

/-- A frame's blocks are not the machine's. -/
structure OffAt (base : Nat) (own : Nat → Prop) (fb tb : Nat) (lv : Value) : Prop where
  fb : ¬ own fb ∧ base ≤ fb
  tb : ¬ own tb ∧ base ≤ tb
  lv : ∀ g, lv.ownBlock = some g → ¬ own g ∧ base ≤ g

theorem ValsIn.set {cs : Array Value} {l : List V} (h : ValsIn cs l) (k : Nat) (v : V) : ValsIn ((cs.setIfInBounds (k * 2) (.int .i64 v.obj)).setIfInBounds (k * 2 + 1) (.int .i64 v.n)) (l.set k v) := by
  obtain ⟨h0, h1⟩ := h
  refine ⟨by simp [h0], fun j u hj => ?_⟩
  by_cases e : k = j
  · subst e
    have hk : k < l.length := by
      rcases Nat.lt_or_ge k l.length with h | h
      · exact h
      · rw [List.getElem?_eq_none (by simpa using h)] at hj; cases hj
    rw [List.getElem?_set_self hk] at hj
    injection hj with hj
    subst hj
    refine ⟨?_, ?_⟩
    · rw [Array.getElem?_setIfInBounds_ne (by omega), Array.getElem?_setIfInBounds_self_of_lt (by omega)]
    · rw [Array.getElem?_setIfInBounds_self_of_lt (by simp; omega)]
  · rw [List.getElem?_set_ne e] at hj
    obtain ⟨a, b⟩ := h1 j u hj
    refine ⟨?_, ?_⟩
    · rw [Array.getElem?_setIfInBounds_ne (by omega), Array.getElem?_setIfInBounds_ne (by omega)]; exact a
    · rw [Array.getElem?_setIfInBounds_ne (by omega), Array.getElem?_setIfInBounds_ne (by omega)]; exact b

theorem VRow.set {w : World} {b : Nat} {l : List V} (h : VRow w b l) (k : Nat) (v : V) : VRow ((w.setCell ⟨b, k * 2, none⟩ (.int .i64 v.obj)).setCell ⟨b, k * 2 + 1, none⟩ (.int .i64 v.n)) b (l.set k v) := by
  obtain ⟨cs, hr, hv⟩ := h
  exact ⟨_, (hr.set _ _).set _ _, hv.set k v⟩

theorem wr_pair (w1 : World) (r j k : Nat) (u v : Value) : Wr (fun b => b = r) w1 ((w1.setCell ⟨r, j, none⟩ u).setCell ⟨r, k, none⟩ v) :=
  (Wr.cell1 w1 r j u).trans (Wr.cell1 _ r k v) (fun _ h => Or.inl h)

theorem two_vals {w : World} {base : Nat} {v : Value} {l : List V} (h : w.ownsRow base 60 2 v l.length (flatV l)) : ∀ g, v.ownBlock = some g → base ≤ g ∧ g < w.heap.size := fun g hg => by
  obtain ⟨h1, cs, h2⟩ := ownsRow_row h hg
  exact ⟨h1, h2.lt⟩

theorem stepF_yes {fuel n : Int} {s : St} (h : (stepF fuel n s).1 = true) : s.kind = 0 ∧ ¬ n > fuel - s.steps ∧ (stepF fuel n s).2 = { s with steps := s.steps + n } := by
  unfold stepF at h ⊢
  by_cases h0 : s.kind = 0
  · rw [if_pos h0] at h ⊢
    by_cases h1 : n > fuel - s.steps
    · rw [if_pos h1] at h; cases h
    · rw [if_neg h1]; exact ⟨h0, h1, rfl⟩
  · rw [if_neg h0] at h; cases h
theorem stepF_mem (fuel n : Int) (s : St) : (stepF fuel n s).2.mem = s.mem := by
  unfold stepF
  (repeat' split) <;> rfl
theorem ownsRow_vals' {w : World} {base : Nat} {v : Value} {l : List V} {k : Nat} (h : w.ownsRow base 60 2 v k (flatV l)) (hk : l.length = k) (hp : 0 < k) : ∃ g cap, v = .slice (some ⟨g, 0, none⟩) k cap ∧ base ≤ g ∧ g < w.heap.size ∧ ∀ j x, l[j]? = some x → ValCells w g (j * 2) x := by
  subst hk
  obtain ⟨g, cap, h0, h1, h2, h3⟩ := ownsRow_vals h hp
  exact ⟨g, cap, h0, h1, h2, fun j x hj => by simpa using h3 j x hj⟩
theorem one_of {α : Type} {l : List α} (h : l.length = 1) : ∃ a, l = [a] := by
  match l, h with
  | [a], _ => exact ⟨a, rfl⟩
theorem two_of {α : Type} {l : List α} (h : l.length = 2) : ∃ a b, l = [a, b] := by
  match l, h with
  | [a, b], _ => exact ⟨a, b, rfl⟩
theorem doesF_yes {R : CallR} {fuel : Int} {lo : List Nat} {s s' : St} {tp : List V} {x : StepS} {l : List V} (h : (stepF fuel 1 s).1 = true) (h2 : (stepF fuel 1 s).2 = s') (he : evalTs s.mem tp lo x.args = some l) : doesF R fuel lo s tp x = actF R s' tp x l := by
  have hm := stepF_mem fuel 1 s
  unfold doesF
  rw [if_neg (by rw [h]; simp), hm, he, h2]
theorem InW.tail {w : World} {base : Nat} {b off cap q : Nat} {x : Int} {l : List Int} (h : ∀ j y, (x :: l)[j]? = some y → w.cell? ⟨b, off + j, none⟩ = some (.int .i64 y) ∧ In64 y) (hb : b < base) (hq : q = l.length) (h1 : q + 1 ≤ cap) (h2 : cap ≤ 9223372036854775807) :
    InW w base (.slice (some ⟨b, off + 1, none⟩) q (cap - 1)) l := by
  subst hq
  exact ⟨_, _, rfl, by omega, by omega, fun _ => ⟨b, off + 1, rfl, hb, fun j y hj => by have := h (j + 1) y (by simpa using hj); rw [show off + 1 + j = off + (j + 1) by omega]; exact this⟩⟩
theorem InW.empty {w : World} {base : Nat} {A : Option Addr} : InW w base (.slice A 0 0) [] := ⟨A, 0, rfl, by simp, by omega, fun h => by simp at h⟩
end Go.Proofs.Ytinmgbodgecoeaa
namespace Go.Proofs.Ytinmgbodgecoeaa
open Go.RowKit

theorem made_get (c i : Nat) (h : i < c * 2) : (madeCells (Value.agg #[.int .i64 0, .int .i64 0]).cells (c * 2))[i]? = some (.int .i64 0) := by
  have e : (Value.agg #[Value.int .i64 0, Value.int .i64 0]).cells = #[.int .i64 0, .int .i64 0] := by kernel_rfl
  rw [e]
  unfold madeCells
  rw [Array.getElem?_map, Array.getElem?_range, if_pos h]
  rcases Nat.mod_two_eq_zero_or_one i with h | h <;> simp [h]
theorem made_vals (c : Nat) : ValsIn (madeCells (Value.agg #[.int .i64 0, .int .i64 0]).cells (c * 2)) (List.replicate c ⟨0, 0⟩) := by
  refine ⟨by rw [size_madeCells]; simp, fun j v hj => ?_⟩
  have hlt : j < c := by
    rcases Nat.lt_or_ge j c with h | h
    · exact h
    · rw [List.getElem?_eq_none (by simpa using h)] at hj; cases hj
  rw [List.getElem?_replicate, if_pos hlt] at hj
  injection hj with hj
  subst hj
  exact ⟨made_get c _ (by omega), made_get c _ (by omega)⟩
theorem make_vals (ct : Nat) (h : ct ≤ 1000000) : ∃ Z : Array Value, ValsIn Z (List.replicate ct ⟨0, 0⟩) ∧ ∀ W : World, (Instr.makeSlice 49 (.int .i64 ct) (.int .i64 ct)).run Try.prog W = .ok (.slice (some ⟨W.heap.size, 0, none⟩) ct ct) (W.alloc (.cells Z 60)) := by
  obtain ⟨i0, hi, hz0, hz1, hz2⟩ := info_parts val_info
  refine ⟨_, made_vals ct, fun W => ?_⟩
  have := run_make (P := Try.prog) W 49 60 i0 _ Try.underlying49 hi hz0 .i64 .i64 ct ct (by omega) (by omega) (by rw [hz2]; omega) (by omega)
  rw [hz1] at this
  simpa using this

/-- The elements of an object that is made, so many of them filled. -/
def fillK (o : ObS) (k : Nat) : List V := (List.range o.count.toNat).map fun i => ⟨0, if i < k then storedF o.size.toNat (o.init.getD i 0) else 0⟩
theorem fillK_zero (o : ObS) : fillK o 0 = List.replicate o.count.toNat ⟨0, 0⟩ := by
  apply List.ext_getElem?
  intro i
  unfold fillK
  by_cases h : i < o.count.toNat
  · simp [h]
  · simp [h]
theorem fillK_all (o : ObS) : fillK o o.init.length = fillF o := by
  unfold fillK fillF
  apply List.map_congr_left
  intro i _
  by_cases h : i < o.init.length
  · rw [if_pos h, List.getD_eq_getElem?_getD, List.getElem?_eq_getElem h]; rfl
  · rw [if_neg h, List.getElem?_eq_none (by omega)]
theorem fillK_succ (o : ObS) (k : Nat) (hk : k < o.count.toNat) : (fillK o k).set k ⟨0, storedF o.size.toNat (o.init.getD k 0)⟩ = fillK o (k + 1) := by
  apply List.ext_getElem?
  intro i
  unfold fillK
  by_cases e : k = i
  · subst e
    rw [List.getElem?_set_self (by simpa using hk)]
    simp [hk]
  · rw [List.getElem?_set_ne e]
    by_cases h : i < o.count.toNat
    · simp [h]
      have : (i < k) ↔ (i < k + 1) := by omega
      simp [this]
    · simp [h]
theorem fillK_length (o : ObS) (k : Nat) : (fillK o k).length = o.count.toNat := by simp [fillK]
theorem fillK_get (o : ObS) (k : Nat) (hk : k < o.count.toNat) : (fillK o k)[k]? = some ⟨0, 0⟩ := by simp [fillK, hk]

theorem VRow.setN {w : World} {b : Nat} {l : List V} (h : VRow w b l) (k : Nat) (v : V) (n : Int) (hv : l[k]? = some v) : VRow (w.setCell ⟨b, k * 2 + 1, none⟩ (.int .i64 n)) b (l.set k ⟨v.obj, n⟩) := by
  obtain ⟨cs, hr, h0, h1⟩ := h
  refine ⟨_, hr.set _ _, by simp [h0], fun j u hj => ?_⟩
  have hk : k < l.length := by
    rcases Nat.lt_or_ge k l.length with h | h
    · exact h
    · rw [List.getElem?_eq_none h] at hv; cases hv
  by_cases e : k = j
  · subst e
    rw [List.getElem?_set_self hk] at hj
    injection hj with hj
    subst hj
    exact ⟨by rw [Array.getElem?_setIfInBounds_ne (by omega)]; exact (h1 k v hv).1, by rw [Array.getElem?_setIfInBounds_self_of_lt (by omega)]⟩
  · rw [List.getElem?_set_ne e] at hj
    obtain ⟨a, b⟩ := h1 j u hj
    exact ⟨by rw [Array.getElem?_setIfInBounds_ne (by omega)]; exact a, by rw [Array.getElem?_setIfInBounds_ne (by omega)]; exact b⟩

theorem VOk.mono {n m : Nat} {v : V} (h : VOk n v) (hm : n ≤ m) : VOk m v := ⟨by have := h.1; omega, h.2⟩

theorem fill_in64 (o : ObS) (hi : ∀ x, x ∈ o.init → In64 x) (v : V) (hv : v ∈ fillF o) : v.obj = 0 ∧ In64 v.n := by
  unfold fillF at hv
  simp only [List.mem_map, List.mem_range] at hv
  obtain ⟨i, _, rfl⟩ := hv
  refine ⟨rfl, ?_⟩
  simp only
  split
  · rename_i n hn
    exact stored_in64 (hi n (List.mem_of_getElem? hn))
  · unfold In64; omega

theorem makeF_ok {M : List MO} (h : MemOk M) (o : ObS) (hs : o.size = 1 ∨ o.size = 2 ∨ o.size = 4 ∨ o.size = 8) (hc : o.count.toNat ≤ 64) (hi : ∀ x, x ∈ o.init → In64 x) (hm : (memBase M).length + 1 ≤ 4294967296) : MemOk (makeF M o) := by
  rw [makeF_eq]
  have hb := memBase_ok h
  have hp := memBase_pos M
  refine ⟨by simpa using hm, fun x hx => ?_, fun k x hk hx => ?_, fun x hx v hv => ?_⟩
  · rw [List.getElem?_append_left hp] at hx
    exact hb.zero x hx
  · rcases Nat.lt_or_ge k (memBase M).length with h | h
    · rw [List.getElem?_append_left h] at hx
      exact hb.size k x hk hx
    · rw [List.getElem?_append_right h] at hx
      rcases Nat.lt_or_ge (k - (memBase M).length) 1 with h' | h'
      · rw [show k - (memBase M).length = 0 by omega] at hx
        simp at hx
        subst hx
        exact ⟨hs, by simp [fillF]; omega⟩
      · rw [List.getElem?_eq_none (by simpa using h')] at hx; cases hx
  · rw [List.length_append]
    simp only [List.mem_append, List.mem_singleton] at hx
    rcases hx with hx | rfl
    · exact (hb.vals x hx v hv).mono (by omega)
    · obtain ⟨h0, h1⟩ := fill_in64 o hi v hv
      exact ⟨by omega, fun h => absurd h0 h, h1⟩

end Go.Proofs.Ytinmgbodgecoeaa
