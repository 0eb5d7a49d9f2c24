/- The page's machine: its state, how it lies in memory; stop, step. Conditions: as stated. The page's trees' values (chapters 6, 7), as plain functions. No program in sight. No condition. What the page's ops come to may be again. No program in sight. No condition. The page's machine: step. Conditions: as stated. The page's machine: a call's frame; what a tree's walk is asked. No condition. The page's machine (chapter 7), as plain functions: programs, objects made, stores, steps, calls, runs. No program in sight. No condition. How a program lies in memory. No program in sight but its name. No condition. -/
import Derived.Test.YtjkgpolikpochaaQ02Zz
import Derived.Test.YtjkgpolikpochaaMemApplyZz
import Derived.Test.YtjkgpolikpochaaQ01Zz
set_option linter.unusedVariables false
set_option linter.unusedSimpArgs false
namespace Go.Proofs.Ytjkgpolikpochaa
open Go.RowKit

/-- What the machine holds. -/
structure St where
  inp : List Int
  kind : Int
  code : Int
  out : List Int
  steps : Int
  deep : Int
  calls : Int
  mem : List MO

def stopF (k : Int) (s : St) : St := if s.kind = 0 then { s with kind := k } else s
def stepF (fuel n : Int) (s : St) : Bool × St :=
  if s.kind = 0 then if n > fuel - s.steps then (false, { s with steps := fuel, kind := 2 }) else (true, { s with steps := s.steps + n }) else (false, s)

/-- A row of values. -/
def ValsIn (cs : Array Value) (l : List V) : Prop := cs.size = l.length * 2 ∧ ∀ j v, l[j]? = some v → cs[j * 2]? = some (.int .i64 v.obj) ∧ cs[j * 2 + 1]? = some (.int .i64 v.n)
def VRow (w : World) (b : Nat) (l : List V) : Prop := ∃ cs, Row w b cs 90 ∧ ValsIn cs l

/-- The numbers that come in: they lie below 'base'. -/
def InW (w : World) (base : Nat) (v : Value) (l : List Int) : Prop :=
  ∃ A cap, v = .slice A l.length cap ∧ l.length ≤ cap ∧ cap ≤ 9223372036854775807 ∧ (0 < l.length → ∃ b off, A = some ⟨b, off, none⟩ ∧ b < base ∧ ∀ j x, l[j]? = some x → w.cell? ⟨b, off + j, none⟩ = some (.int .i64 x) ∧ In64 x)

/-- An object's three cells in the row of objects. -/
def ObjIn (xs : List Value) (rb : Nat → Nat) (k : Nat) (o : MO) : Prop :=
  xs[k * 3]? = some (.int .i64 o.size) ∧ xs[k * 3 + 1]? = some (if k = 0 then .slice none 0 0 else .slice (some ⟨rb k, 0, none⟩) o.l.length o.l.length) ∧ xs[k * 3 + 2]? = some (.bool o.live)

/-- What is always true of the memory. -/
structure MemOk (M : List MO) : Prop where
  many : M.length ≤ 4294967296
  zero : ∀ o, M[0]? = some o → o = ⟨0, [], false⟩
  size : ∀ k o, 1 ≤ k → M[k]? = some o → (o.size = 1 ∨ o.size = 2 ∨ o.size = 4 ∨ o.size = 8) ∧ o.l.length ≤ 64
  vals : ∀ o, o ∈ M → ∀ v, v ∈ o.l → VOk M.length v

structure MemW (w : World) (base : Nat) (own : Nat → Prop) (memv : Value) (rb : Nat → Nat) (M : List MO) : Prop where
  row : ∃ xs, w.ownsRow base 99 3 memv M.length xs ∧ ∀ k o, M[k]? = some o → ObjIn xs rb k o
  mine : ∀ k o, 1 ≤ k → M[k]? = some o → own (rb k) ∧ VRow w (rb k) o.l
  inj : ∀ i j, 1 ≤ i → i < M.length → 1 ≤ j → j < M.length → rb i = rb j → i = j
  ok : MemOk M

/-- All but the machine's own block. -/
structure Rest (w : World) (base : Nat) (own : Nat → Prop) (inv outv memv : Value) (rb : Nat → Nat) (s : St) : Prop where
  inp : InW w base inv s.inp
  out : w.ownsRow base 2 1 outv s.out.length (s.out.map (Value.int .i64))
  outo : ∀ g, outv.ownBlock = some g → own g
  mem : MemW w base own memv rb s.mem
  memo : ∀ g, memv.ownBlock = some g → own g
  own : ∀ k, own k → base ≤ k ∧ k < w.heap.size

def mcells (P : Value × Value × Value) (fuel : Int) (s : St) (inv outv memv : Value) : Array Value :=
  #[P.1, P.2.1, P.2.2, inv, .int .i64 fuel, .int .i64 s.kind, .int .i64 s.code, outv, .int .i64 s.steps, .int .i64 s.deep, memv, .int .i64 s.calls]

structure MachAt (w : World) (base mc : Nat) (own : Nat → Prop) (P : Value × Value × Value) (fuel : Int) (s : St) (inv outv memv : Value) (rb : Nat → Nat) : Prop where
  row : Row w mc (mcells P fuel s inv outv memv) 87
  mine : own mc
  rest : Rest w base own inv outv memv rb s

def Mach (w : World) (base mc : Nat) (own : Nat → Prop) (P : Value × Value × Value) (fuel : Int) (s : St) : Prop :=
  ∃ inv outv memv rb, MachAt w base mc own P fuel s inv outv memv rb

theorem InW.below {w w' : World} {base : Nat} {v : Value} {l : List Int} (h : InW w base v l) (hw : ∀ b o, b < base → w'.cell? ⟨b, o, none⟩ = w.cell? ⟨b, o, none⟩) : InW w' base v l := by
  obtain ⟨A, cap, hv, h1, h2, h3⟩ := h
  refine ⟨A, cap, hv, h1, h2, fun hp => ?_⟩
  obtain ⟨b, off, hA, hb, hc⟩ := h3 hp
  exact ⟨b, off, hA, hb, fun j x hj => ⟨(hw b _ hb).trans (hc j x hj).1, (hc j x hj).2⟩⟩

/-- What the writes into blocks that are the machine's own block, or not the machine's, leave alone. -/
theorem Rest.wr {w w' : World} {base : Nat} {own F : Nat → Prop} {inv outv memv : Value} {rb : Nat → Nat} {s : St} (h : Rest w base own inv outv memv rb s) (hw : Wr F w w')
    (hF : ∀ k, F k → base ≤ k ∧ (own k → ∃ cs, Row w k cs 87)) (hb : base ≤ w.heap.size) : Rest w' base own inv outv memv rb s := by
  have hne : ∀ g cs t, Row w g cs t → own g → t ≠ 87 → ¬ F g := by
    intro g cs t hr ho ht hf
    obtain ⟨cs', hr'⟩ := (hF g hf).2 ho
    exact hr.ne hr' ht rfl
  refine ⟨h.inp.below (fun b o hb' => ?_), ownsRow_wr h.out hw (fun g hg => ?_), h.outo, ?_, h.memo, fun k hk => ⟨(h.own k hk).1, Nat.lt_of_lt_of_le (h.own k hk).2 hw.size⟩⟩
  · exact World.cell?_of_block (a := ⟨b, o, none⟩) (hw.block b (by omega) (fun hf => by have := (hF b hf).1; omega))
  · obtain ⟨_, cs, hr⟩ := ownsRow_row h.out hg
    exact hne g cs _ hr (h.outo g hg) (by decide)
  · obtain ⟨⟨xs, hx, hox⟩, hm, hi, hk⟩ := h.mem
    refine ⟨⟨xs, ownsRow_wr hx hw (fun g hg => ?_), hox⟩, fun k o h1 ho => ?_, hi, hk⟩
    · obtain ⟨_, cs, hr⟩ := ownsRow_row hx hg
      exact hne g cs _ hr (h.memo g hg) (by decide)
    · obtain ⟨ho', cs, hr, hv⟩ := hm k o h1 ho
      exact ⟨ho', cs, hr.wr hw (hne _ cs _ hr ho' (by decide)), hv⟩

theorem Mach.below {w w' : World} {base mc : Nat} {own : Nat → Prop} {P : Value × Value × Value} {fuel : Int} {s : St} (h : Mach w base mc own P fuel s) (hw : Below w.heap.size w w') : Mach w' base mc own P fuel s := by
  obtain ⟨inv, outv, memv, rb, hr, hm, hs⟩ := h
  have hb := (hs.own mc hm)
  exact ⟨inv, outv, memv, rb, hr.below hw hr.lt, hm, hs.wr (F := fun _ => False) (Wr.of_below hw) (fun k hk => hk.elim) (by omega)⟩

/-- A write into a block that is not the machine's. -/
theorem Mach.wr {w w' : World} {base mc : Nat} {own F : Nat → Prop} {P : Value × Value × Value} {fuel : Int} {s : St} (h : Mach w base mc own P fuel s) (hw : Wr F w w') (hF : ∀ k, F k → base ≤ k ∧ ¬ own k) : Mach w' base mc own P fuel s := by
  obtain ⟨inv, outv, memv, rb, hr, hm, hs⟩ := h
  have hb := (hs.own mc hm)
  exact ⟨inv, outv, memv, rb, hr.wr hw (fun hf => (hF mc hf).2 hm), hm, hs.wr hw (fun k hk => ⟨(hF k hk).1, fun ho => absurd ho (hF k hk).2⟩) (by omega)⟩

theorem Rest.same {w : World} {base : Nat} {own : Nat → Prop} {inv outv memv : Value} {rb : Nat → Nat} {s s' : St} (h : Rest w base own inv outv memv rb s) (h1 : s'.inp = s.inp) (h2 : s'.out = s.out) (h3 : s'.mem = s.mem) : Rest w base own inv outv memv rb s' :=
  ⟨h1 ▸ h.inp, h2 ▸ h.out, h.outo, h3 ▸ h.mem, h.memo, h.own⟩

/-- A number of the machine's own block is written. -/
theorem MachAt.num {w : World} {base mc : Nat} {own : Nat → Prop} {P : Value × Value × Value} {fuel : Int} {s s' : St} {inv outv memv : Value} {rb : Nat → Nat} (h : MachAt w base mc own P fuel s inv outv memv rb) (j : Nat) (v : Value)
    (hj : (mcells P fuel s inv outv memv).setIfInBounds j v = mcells P fuel s' inv outv memv) (h1 : s'.inp = s.inp) (h2 : s'.out = s.out) (h3 : s'.mem = s.mem) : MachAt (w.setCell ⟨mc, j, none⟩ v) base mc own P fuel s' inv outv memv rb := by
  obtain ⟨hr, hm, hs⟩ := h
  have hb := (hs.own mc hm)
  have hw : Wr (fun k => k = mc) w (w.setCell ⟨mc, j, none⟩ v) := Wr.setCell w ⟨mc, j, none⟩ v rfl
  refine ⟨hj ▸ hr.set j v, hm, (hs.wr hw (fun k hk => ?_) (by omega)).same h1 h2 h3⟩
  subst hk
  exact ⟨hb.1, fun _ => ⟨_, hr⟩⟩

theorem MachAt.lt {w : World} {base mc : Nat} {own : Nat → Prop} {P : Value × Value × Value} {fuel : Int} {s : St} {inv outv memv : Value} {rb : Nat → Nat} (h : MachAt w base mc own P fuel s inv outv memv rb) : mc < w.heap.size := h.row.lt

theorem stop_any (base mc : Nat) (own : Nat → Prop) (P : Value × Value × Value) (fuel k : Int) (s : St) (w : World) (hm : Mach w base mc own P fuel s) :
    Calls Try.prog 63 #[.pointer (some ⟨mc, 0, none⟩), .int .i64 k] w fun e w' => e = .returned (.bool false) ∧ Mach w' base mc own P fuel (stopF k s) ∧ Wr (fun b => b = mc) w w' := by
  obtain ⟨inv, outv, memv, rb, hm⟩ := hm
  have c5 : w.cell? ⟨mc, 5, none⟩ = some (.int .i64 s.kind) := hm.row.cell rfl
  have f5 : w.frozen? ⟨mc, 5, none⟩ = false := hm.row.free 5
  unfold stopF
  by_cases hk : s.kind = 0
  · rw [if_pos hk]
    have HM := Lib.hid (MachAt.num (s' := { s with kind := k }) hm 5 (.int .i64 k) rfl rfl rfl rfl)
    rw [hk] at c5
    clear hm hk
    go_enter Try.func63, Try.ntmps63
    go_wp2
    go_ret
    exact ⟨rfl, ⟨_, _, _, _, HM.out⟩, Wr.setCell w ⟨mc, 5, none⟩ _ rfl⟩
  · rw [if_neg hk]
    have HM := Lib.hid hm
    have hk' : (s.kind == 0) = false := by simpa using hk
    clear hm hk
    go_enter Try.func63, Try.ntmps63
    go_wp2
    go_ret
    exact ⟨rfl, ⟨_, _, _, _, HM.out⟩, Wr.refl _ _⟩
end Go.Proofs.Ytjkgpolikpochaa
namespace Go.Proofs.Ytjkgpolikpochaa
open Go.RowKit

def opF (M : List MO) (tp : List V) (lo : List Nat) (op n : Int) (l : List V) : Option V :=
  if op = 1 then some ⟨0, n⟩ else if op = 2 then some (tp.getD n.toNat ⟨0, 0⟩) else if op = 3 then some ⟨lo.getD n.toNat 0, 0⟩ else if op = 4 then some ⟨n.toNat + 1, 0⟩ else applyF M op l

mutual
def evalT (M : List MO) (tp : List V) (lo : List Nat) : T → Option V
  | .node op n ks => (evalTs M tp lo ks).bind (opF M tp lo op n)
def evalTs (M : List MO) (tp : List V) (lo : List Nat) : List T → Option (List V)
  | [] => some []
  | k :: ks => (evalT M tp lo k).bind fun v => (evalTs M tp lo ks).map (v :: ·)
end

/-- How many kids an op has. -/
def kidsN (op : Int) : Nat := if op ≤ 4 then 0 else if 12 ≤ op ∧ op ≤ 30 then 2 else 1

mutual
/-- A tree that may be, of so many temporaries, locals and globals. -/
def TOk (nt nl ng : Nat) : T → Prop
  | .node op n ks => 1 ≤ op ∧ op ≤ 36 ∧ ks.length = kidsN op ∧ (op = 2 → 0 ≤ n ∧ n < nt) ∧ (op = 3 → 0 ≤ n ∧ n < nl) ∧ (op = 4 → 0 ≤ n ∧ n < ng) ∧ TsOk nt nl ng ks
def TsOk (nt nl ng : Nat) : List T → Prop
  | [] => True
  | k :: ks => TOk nt nl ng k ∧ TsOk nt nl ng ks
end

mutual
/-- A tree whose numbers are numbers. -/
def TIn : T → Prop
  | .node _ n ks => In64 n ∧ TsIn ks
def TsIn : List T → Prop
  | [] => True
  | k :: ks => TIn k ∧ TsIn ks
end

theorem TsIn.get {ks : List T} {k : Nat} {t : T} (h : TsIn ks) (hk : ks[k]? = some t) : TIn t := by
  induction ks generalizing k with
  | nil => simp at hk
  | cons a r ih =>
    simp only [TsIn] at h
    cases k with
    | zero => simp at hk; subst hk; exact h.1
    | succ k => simp at hk; exact ih h.2 hk

theorem TsOk.get {nt nl ng : Nat} {ks : List T} {k : Nat} {t : T} (h : TsOk nt nl ng ks) (hk : ks[k]? = some t) : TOk nt nl ng t := by
  induction ks generalizing k with
  | nil => simp at hk
  | cons a r ih =>
    simp only [TsOk] at h
    cases k with
    | zero => simp at hk; subst hk; exact h.1
    | succ k => simp at hk; exact ih h.2 hk

section
variable {M : List MO} {tp : List V} {lo : List Nat}

theorem evalTs_append (a b : List T) : evalTs M tp lo (a ++ b) = (evalTs M tp lo a).bind fun x => (evalTs M tp lo b).map (x ++ ·) := by
  induction a with
  | nil => simp [evalTs]
  | cons t r ih =>
    simp only [List.cons_append, evalTs, ih]
    cases evalT M tp lo t <;> cases evalTs M tp lo r <;> cases evalTs M tp lo b <;> simp

theorem take_succ_of {α : Type} {l : List α} {k : Nat} {t : α} (h : l[k]? = some t) : l.take (k + 1) = l.take k ++ [t] := by
  rw [List.take_add_one, h]; rfl

theorem evalTs_next {ks : List T} {k : Nat} {l : List V} {t : T} {v : V} (h : evalTs M tp lo (ks.take k) = some l) (ht : ks[k]? = some t) (hv : evalT M tp lo t = some v) : evalTs M tp lo (ks.take (k + 1)) = some (l ++ [v]) := by
  rw [take_succ_of ht, evalTs_append, h]
  simp [evalTs, hv]

theorem evalTs_fail {ks : List T} {k : Nat} {t : T} (ht : ks[k]? = some t) (hv : evalT M tp lo t = none) : evalTs M tp lo ks = none := by
  have hlt : k < ks.length := by
    rcases Nat.lt_or_ge k ks.length with h | h
    · exact h
    · rw [List.getElem?_eq_none h] at ht; cases ht
  have e : ks = ks.take (k + 1) ++ ks.drop (k + 1) := (List.take_append_drop _ _).symm
  rw [e, evalTs_append, take_succ_of ht, evalTs_append]
  cases evalTs M tp lo (ks.take k) <;> simp [evalTs, hv]

theorem evalTs_length {ks : List T} {l : List V} (h : evalTs M tp lo ks = some l) : l.length = ks.length := by
  induction ks generalizing l with
  | nil => simp [evalTs] at h; subst h; rfl
  | cons t r ih =>
    simp only [evalTs] at h
    cases hv : evalT M tp lo t with
    | none => rw [hv] at h; simp at h
    | some v =>
      rw [hv] at h
      cases hr : evalTs M tp lo r with
      | none => rw [hr] at h; simp at h
      | some x => rw [hr] at h; simp at h; subst h; simp [ih hr]
end

/-- Values as cells. -/
def flatV : List V → List Value
  | [] => []
  | v :: l => .int .i64 v.obj :: .int .i64 v.n :: flatV l

theorem flatV_length (l : List V) : (flatV l).length = l.length * 2 := by
  induction l with
  | nil => rfl
  | cons v l ih => simp [flatV, ih]; omega
theorem flatV_append (a b : List V) : flatV (a ++ b) = flatV a ++ flatV b := by
  induction a with
  | nil => rfl
  | cons v l ih => simp [flatV, ih]
theorem flatV_get {l : List V} {j : Nat} {v : V} (h : l[j]? = some v) : (flatV l)[j * 2]? = some (.int .i64 v.obj) ∧ (flatV l)[j * 2 + 1]? = some (.int .i64 v.n) := by
  induction l generalizing j with
  | nil => simp at h
  | cons a l ih =>
    cases j with
    | zero => simp at h; subst h; simp [flatV]
    | succ j =>
      simp at h
      have := ih h
      rw [show (j + 1) * 2 = j * 2 + 1 + 1 by omega]
      simpa [flatV] using this

/-- What the call has gathered: values in a row of its own. -/
theorem ownsRow_vals {w : World} {base : Nat} {v : Value} {l : List V} {e : TypeId} (h : w.ownsRow base e 2 v l.length (flatV l)) (hp : 0 < l.length) : ∃ g cap, v = .slice (some ⟨g, 0, none⟩) l.length cap ∧ base ≤ g ∧ g < w.heap.size ∧ ∀ j x, l[j]? = some x → ValCells w g (0 + j * 2) x := by
  have hlt := h.lt
  obtain ⟨h1, h2⟩ := h
  rcases h2 with ⟨_, h2⟩ | ⟨g, cap, cur, hv, hb, hh, h3, h4, h5, h6⟩
  · omega
  · subst hv
    refine ⟨g, cap, rfl, hb, Row.lt hh, fun j x hj => ?_⟩
    have hg := flatV_get hj
    have hjl : j < l.length := by
      rcases Nat.lt_or_ge j l.length with h | h
      · exact h
      · rw [List.getElem?_eq_none h] at hj; cases hj
    rw [← h6] at hg
    have e0 := hg.1
    have e1 := hg.2
    rw [List.getElem?_take, if_pos (by omega), Array.getElem?_toList] at e0 e1
    exact ⟨Row.cell hh (by simpa using e0), Row.cell hh (by simpa using e1)⟩
end Go.Proofs.Ytjkgpolikpochaa
namespace Go.Proofs.Ytjkgpolikpochaa
open Go.RowKit

theorem wrap_in (n : Int) : In64 (wrap64 n) := by unfold wrap64 In64; omega
theorem bitsI_in (op : BinOp) (x y : Int) : In64 (bits op .i64 x y) := by
  unfold bits In64
  simp only [IntKind.wrap_i64]
  omega
theorem tru_in64 (t : Bool) : In64 (tru t) := by unfold In64; exact tru_in t
theorem tmod_in {a b : Int} (ha : In64 a) : In64 (a.tmod b) := by
  unfold In64 at *
  have h : ((a.tmod b).natAbs : Int) ≤ a.natAbs := by
    rw [Int.natAbs_tmod]
    exact_mod_cast Nat.mod_le _ _
  by_cases hz : 0 ≤ a
  · have := Int.tmod_nonneg b hz
    omega
  · have hs : a.tmod b ≤ 0 := by
      have h1 := Int.tmod_nonneg b (show 0 ≤ -a by omega)
      rw [Int.neg_tmod] at h1
      omega
    omega
theorem divR_in {op a b : Int} (ha : In64 a) : In64 (divR op a b) := by
  unfold divR partsQ partsR wholeQ wholeR
  (repeat' split) <;> first | exact wrap_in _ | exact ha | exact tmod_in ha | (unfold In64; omega)
theorem pow_div_in {a : Int} (ha : In64 a) (k : Nat) : In64 (a / 2 ^ k) := by
  have hp : (0 : Int) < 2 ^ k := Int.pow_pos (by decide)
  unfold In64 at *
  constructor
  · exact (Int.le_ediv_iff_mul_le hp).2 (by
      have : (-9223372036854775808 : Int) * 2 ^ k ≤ -9223372036854775808 * 1 := Int.mul_le_mul_of_nonpos_left (by decide) (by omega)
      omega)
  · have := Int.ediv_le_ediv hp ha.2
    refine Int.le_trans this ?_
    exact Int.ediv_le_self _ (by decide)
theorem two_in64 {op a b : Int} (ha : In64 a) : In64 (twoR op a b) := by
  unfold twoR
  (repeat' split) <;> first | exact wrap_in _ | exact bitsI_in _ _ _ | exact pow_div_in ha _ | exact divR_in ha | exact tru_in64 _
theorem un_in64 {op n : Int} (h : In64 n) : In64 (unR op n) := unR_lo op n h.1 h.2
theorem loaded_in64 {op n : Int} (h : In64 n) : In64 (loadedF op n) := by
  unfold loadedF
  split
  · exact h
  · exact cutN_lo _ _ _ h.1 h.2
theorem stored_in64 {s : Nat} {n : Int} (h : In64 n) : In64 (storedF s n) := by
  unfold storedF
  split
  · exact h
  · exact cutN_lo _ _ _ h.1 h.2

theorem VOk.num {n : Nat} {x : Int} (hn : 0 < n) (h : In64 x) : VOk n ⟨0, x⟩ := ⟨hn, fun h => absurd rfl h, h⟩

section
variable {M : List MO}

theorem MemOk.obj (h : MemOk M) {k : Nat} (hk : k < M.length) : 0 ≤ (mget M k).size ∧ (mget M k).size ≤ 8 ∧ (mget M k).l.length ≤ 64 := by
  have hg := mget_of hk
  by_cases h0 : k = 0
  · subst h0
    rw [h.zero _ hg]
    simp
  · have := h.size k _ (by omega) hg
    omega

theorem moved_ok (h : MemOk M) {a : V} (ha : VOk M.length a) (hp : a.obj ≠ 0) {n : Int} {r : V} (hr : movedF M a n = some r) : VOk M.length r := by
  unfold movedF at hr
  split at hr
  · rename_i hc
    obtain ⟨_, h1, h2⟩ := hc
    simp only [Option.some.injEq] at hr
    subst hr
    have hb := h.obj ha.1
    have := MO.bytes_bd hb.1 hb.2.1 hb.2.2
    have := ha.2.1 hp
    exact ⟨ha.1, fun _ => by simp only; omega, by unfold In64; simp only; omega⟩
  · cases hr

theorem bin_ok (h : MemOk M) {op : Int} {a b r : V} (ha : VOk M.length a) (hb : VOk M.length b) (hr : binF twoR M op a b = some r) : VOk M.length r := by
  have hn : 0 < M.length := Nat.lt_of_le_of_lt (Nat.zero_le _) ha.1
  unfold binF at hr
  by_cases h0 : a.obj = 0 ∧ b.obj = 0
  · rw [if_pos h0] at hr; simp only [Option.some.injEq] at hr; subst hr; exact VOk.num hn (two_in64 ha.2.2)
  · rw [if_neg h0] at hr
    by_cases h1 : op = 12 ∧ a.obj = 0
    · rw [if_pos h1] at hr; exact moved_ok h hb (by omega) hr
    · rw [if_neg h1] at hr
      by_cases h2 : op = 12 ∧ b.obj = 0
      · rw [if_pos h2] at hr; exact moved_ok h ha (by omega) hr
      · rw [if_neg h2] at hr
        by_cases h3 : op = 13 ∧ b.obj = 0
        · rw [if_pos h3] at hr
          split at hr
          · cases hr
          · exact moved_ok h ha (by omega) hr
        · rw [if_neg h3] at hr
          (repeat' split at hr) <;> first | (cases hr; done) | (simp only [Option.some.injEq] at hr; subst hr; exact VOk.num hn (two_in64 (by first | exact ha.2.2 | (unfold In64; omega)))) | (simp only [Option.some.injEq] at hr; subst hr; exact VOk.num hn (two_in64 (by split <;> (unfold In64; omega))))

theorem load_ok (h : MemOk M) {op : Int} {a r : V} (ha : VOk M.length a) (hr : loadF M op a = some r) : VOk M.length r := by
  have hn : 0 < M.length := Nat.lt_of_le_of_lt (Nat.zero_le _) ha.1
  unfold loadF at hr
  cases hF : atF M a (sizeL op) with
  | none => rw [hF] at hr; cases hr
  | some j =>
    rw [hF] at hr
    have hj := (atF_lt hF (ha.2.1 (atF_pos hF)).1).2.2.2
    have hv : VOk M.length ((mget M a.obj).l.getD j ⟨0, 0⟩) := by
      refine h.vals (mget M a.obj) (List.mem_of_getElem? (mget_of ha.1)) _ ?_
      rw [List.getD_eq_getElem?_getD, List.getElem?_eq_getElem hj]
      exact List.getElem_mem hj
    simp only at hr
    generalize (mget M a.obj).l.getD j ⟨0, 0⟩ = v at hv hr
    (repeat' split at hr)
    · simp only [Option.some.injEq] at hr; subst hr; exact hv
    · cases hr
    · simp only [Option.some.injEq] at hr; subst hr; exact VOk.num hn (loaded_in64 hv.2.2)

theorem getD_ok {l : List V} {n : Nat} (hn : 0 < n) (hl : ∀ v, v ∈ l → VOk n v) (j : Nat) : VOk n (l.getD j ⟨0, 0⟩) := by
  rw [List.getD_eq_getElem?_getD]
  cases hj : l[j]? with
  | none => exact VOk.num hn (by unfold In64; omega)
  | some v => exact hl v (List.mem_of_getElem? hj)

theorem apply_ok (h : MemOk M) (hn : 0 < M.length) {op : Int} {l : List V} {r : V} (hl : ∀ v, v ∈ l → VOk M.length v) (hr : applyF M op l = some r) : VOk M.length r := by
  unfold applyF at hr
  have h0 := getD_ok hn hl 0
  have h1 := getD_ok hn hl 1
  split at hr
  · exact load_ok h h0 hr
  · split at hr
    · split at hr
      · simp only [Option.some.injEq] at hr; subst hr; exact VOk.num hn (un_in64 h0.2.2)
      · cases hr
    · exact bin_ok h h0 h1 hr

/-- What a frame's values are, always. -/
structure FrOk (M : List MO) (tp : List V) (lo : List Nat) (ng : Nat) : Prop where
  temps : ∀ v, v ∈ tp → VOk M.length v
  locs : ∀ x, x ∈ lo → x < M.length
  globs : ng < M.length

mutual
theorem eval_ok {tp : List V} {lo : List Nat} {ng : Nat} (h : MemOk M) (hf : FrOk M tp lo ng) : ∀ (t : T) {r : V}, TIn t → TOk tp.length lo.length ng t → evalT M tp lo t = some r → VOk M.length r
  | .node op n ks, r, hi, ht, hr => by
    have hn : 0 < M.length := Nat.lt_of_le_of_lt (Nat.zero_le _) hf.globs
    simp only [TIn] at hi
    simp only [TOk] at ht
    obtain ⟨t1, t2, t3, t4, t5, t6, t7⟩ := ht
    simp only [evalT] at hr
    cases hks : evalTs M tp lo ks with
    | none => rw [hks] at hr; cases hr
    | some l =>
      rw [hks] at hr
      have hl := evals_ok h hf ks hi.2 t7 hks
      simp only [Option.bind_some, opF] at hr
      (repeat' split at hr)
      · simp only [Option.some.injEq] at hr; subst hr; exact VOk.num hn hi.1
      · simp only [Option.some.injEq] at hr; subst hr; exact getD_ok hn hf.temps _
      · simp only [Option.some.injEq] at hr; subst hr
        have := t5 (by assumption)
        refine ⟨hf.locs _ ?_, fun _ => by simp, by unfold In64; simp⟩
        rw [List.getD_eq_getElem?_getD, List.getElem?_eq_getElem (by omega)]
        exact List.getElem_mem _
      · simp only [Option.some.injEq] at hr; subst hr
        have := t6 (by assumption)
        have := hf.globs
        exact ⟨by simp only; omega, fun _ => by simp, by unfold In64; simp⟩
      · exact apply_ok h hn hl hr
theorem evals_ok {tp : List V} {lo : List Nat} {ng : Nat} (h : MemOk M) (hf : FrOk M tp lo ng) : ∀ (ks : List T) {l : List V}, TsIn ks → TsOk tp.length lo.length ng ks → evalTs M tp lo ks = some l → ∀ v, v ∈ l → VOk M.length v
  | [], l, _, _, hr => by simp [evalTs] at hr; subst hr; intro v hv; cases hv
  | k :: ks, l, hi, ht, hr => by
    simp only [TsIn] at hi
    simp only [TsOk] at ht
    simp only [evalTs] at hr
    cases hk : evalT M tp lo k with
    | none => rw [hk] at hr; cases hr
    | some v =>
      rw [hk] at hr
      cases hks : evalTs M tp lo ks with
      | none => rw [hks] at hr; simp at hr
      | some x =>
        rw [hks] at hr
        simp at hr
        subst hr
        have h1 := eval_ok h hf k hi.1 ht.1 hk
        have h2 := evals_ok h hf ks hi.2 ht.2 hks
        intro u hu
        cases hu with
        | head => exact h1
        | tail _ hu => exact h2 u hu
end
end
end Go.Proofs.Ytjkgpolikpochaa
namespace Go.Proofs.Ytjkgpolikpochaa
open Go.RowKit

theorem MachAt.drew {w : World} {base mc : Nat} {own : Nat → Prop} {P : Value × Value × Value} {fuel : Int} {s : St} {inv outv memv : Value} {rb : Nat → Nat} (h : MachAt w base mc own P fuel s inv outv memv rb) (n : Nat) : MachAt (w.drewN n) base mc own P fuel s inv outv memv rb := by
  have hw : Wr (fun _ => False) w (w.drewN n) := Wr.of_below (below_drewN (Below.refl _ _) n)
  exact ⟨h.row, h.mine, h.rest.wr hw (fun k hk => hk.elim) (by have := h.rest.own mc h.mine; omega)⟩
theorem wr_drewN (F : Nat → Prop) (w : World) (n : Nat) : Wr F w (w.drewN n) := Wr.of_below (below_drewN (Below.refl _ _) n)

theorem Wr.cell1 (w : World) (b j : Nat) (v : Value) : Wr (fun k => k = b) w (w.setCell ⟨b, j, none⟩ v) := Wr.setCell w ⟨b, j, none⟩ v rfl

theorem step_any (base mc : Nat) (own : Nat → Prop) (P : Value × Value × Value) (fuel k : Int) (s : St) (w : World) (hm : Mach w base mc own P fuel s) (hs0 : 0 ≤ s.steps) (hs1 : s.steps ≤ fuel) (hf : fuel ≤ 1000000000) (hk0 : 0 ≤ k) (hk1 : k ≤ 1000000000) :
    Calls Try.prog 64 #[.pointer (some ⟨mc, 0, none⟩), .int .i64 k] w fun e w' => e = .returned (.bool (stepF fuel k s).1) ∧ Mach w' base mc own P fuel (stepF fuel k s).2 ∧ Wr (fun b => b = mc) w w' := by
  obtain ⟨inv, outv, memv, rb, hm⟩ := hm
  have c4 : w.cell? ⟨mc, 4, none⟩ = some (.int .i64 fuel) := hm.row.cell rfl
  have c5 : w.cell? ⟨mc, 5, none⟩ = some (.int .i64 s.kind) := hm.row.cell rfl
  have c8 : w.cell? ⟨mc, 8, none⟩ = some (.int .i64 s.steps) := hm.row.cell rfl
  have f8 : w.frozen? ⟨mc, 8, none⟩ = false := hm.row.free 8
  unfold stepF
  by_cases hk : s.kind = 0
  · rw [if_pos hk]
    rw [hk] at c5
    by_cases hn : fuel - s.steps < k
    · rw [if_pos hn]
      have hn' : decide (fuel - s.steps < k) = true := by simpa using hn
      have HM := Lib.hid (fun nq => MachAt.num (s' := { s with steps := fuel }) (hm.drew nq) 8 (.int .i64 fuel) rfl rfl rfl rfl)
      have HS := Lib.hid (fun W hM => stop_any base mc own P fuel 2 { s with steps := fuel } W ⟨inv, outv, memv, rb, hM⟩)
      have hk' := Lib.hid hk
      clear hm hn hk
      go_enter Try.func64, Try.ntmps64
      go_wp2_with fail
      go_quiet (fail)
      go_wp2_with (go_at_call 63; refine (HS.out _ (HM.out _)).mono ?_; rintro e w' ⟨rfl, hM', hW'⟩)
      go_ret
      refine ⟨rfl, ?_, ?_⟩
      · simpa [stopF, hk'.out] using hM'
      · exact ((wr_drewN _ w _).trans (Wr.cell1 _ mc 8 _) (fun i hi => Or.inl hi)).trans hW' (fun i hi => Or.inl hi)
    · rw [if_neg hn]
      have hn' : decide (fuel - s.steps < k) = false := by simpa using hn
      have HM := Lib.hid (fun nq => MachAt.num (s' := { s with steps := s.steps + k }) (hm.drew nq) 8 (.int .i64 (s.steps + k)) rfl rfl rfl rfl)
      clear hm hn hk
      go_enter Try.func64, Try.ntmps64
      go_wp2_with fail
      go_quiet (fail)
      go_wp2_with fail
      go_ret
      exact ⟨rfl, ⟨_, _, _, _, HM.out _⟩, (wr_drewN _ w _).trans (Wr.cell1 _ mc 8 _) (fun i hi => Or.inl hi)⟩
  · rw [if_neg hk]
    have HM := Lib.hid hm
    have hk' : (s.kind != 0) = true := by simpa using hk
    clear hm hk
    go_enter Try.func64, Try.ntmps64
    go_wp2
    go_ret
    exact ⟨rfl, ⟨_, _, _, _, HM.out⟩, Wr.refl _ _⟩
end Go.Proofs.Ytjkgpolikpochaa
namespace Go.Proofs.Ytjkgpolikpochaa
open Go.RowKit

/-- A call's frame. -/
structure FrameAt (w : World) (fb : Nat) (G : Value × Value × Value × Value) (tb : Nat) (tp : List V) (lv : Value) (lo : List Nat) : Prop where
  row : Row w fb #[G.1, G.2.1, G.2.2.1, G.2.2.2, .slice (some ⟨tb, 0, none⟩) tp.length tp.length, lv] 103
  temps : VRow w tb tp
  locs : w.ownsRow 0 3 1 lv lo.length (lo.map fun x => .int .i64 (x : Nat))
  few : tp.length ≤ 4294967296

theorem FrameAt.below {w w' : World} {fb tb : Nat} {G : Value × Value × Value × Value} {tp : List V} {lv : Value} {lo : List Nat} (h : FrameAt w fb G tb tp lv lo) (hb : Below w.heap.size w w') : FrameAt w' fb G tb tp lv lo := by
  obtain ⟨h1, ⟨cs, h2, h3⟩, h4, h5⟩ := h
  exact ⟨h1.below hb h1.lt, ⟨cs, h2.below hb h2.lt, h3⟩, ownsRow_wr h4 (Wr.of_below (F := fun _ => False) hb) (fun _ _ h => h), h5⟩

theorem FrameAt.wr {F : Nat → Prop} {w w' : World} {fb tb : Nat} {G : Value × Value × Value × Value} {tp : List V} {lv : Value} {lo : List Nat} (h : FrameAt w fb G tb tp lv lo) (hb : Wr F w w') (h1 : ¬ F fb) (h2 : ¬ F tb) (h3 : ∀ g, lv.ownBlock = some g → ¬ F g) : FrameAt w' fb G tb tp lv lo := by
  obtain ⟨r1, ⟨cs, r2, r3⟩, r4, r5⟩ := h
  exact ⟨r1.wr hb h1, ⟨cs, r2.wr hb h2, r3⟩, ownsRow_wr r4 hb h3, r5⟩

/-- What a tree's call answers. -/
def TreeSays (base mc : Nat) (own : Nat → Prop) (P : Value × Value × Value) (fuel : Int) (s : St) (r : Option V) (w : World) (e : Ending) (w' : World) : Prop :=
  match r with
  | some v => e = .returned (ansV (some v)) ∧ Below w.heap.size w w'
  | none => (∃ x y : Int, e = .returned (.tuple #[.agg #[.int .i64 x, .int .i64 y], .bool false])) ∧ Mach w' base mc own P fuel { s with kind := 3 } ∧ Wr (fun b => b = mc) w w'

/-- The same, at a tree of at most m nodes of which something more is known. -/
def TreeFor (m : Nat) (Q : T → St → List V → List Nat → Prop) : Prop :=
  ∀ (t : T) (base mc : Nat) (own : Nat → Prop) (P : Value × Value × Value) (fuel : Int) (s : St) (fb tb : Nat) (G : Value × Value × Value × Value) (tp : List V) (lv : Value) (lo : List Nat) (ng : Nat) (w : World) (v0 v1 v2 : Value),
    t.size ≤ m → Mach w base mc own P fuel s → s.kind = 0 → FrameAt w fb G tb tp lv lo → MemOk s.mem → FrOk s.mem tp lo ng → TOk tp.length lo.length ng t → TreeAt w (Under base) t v0 v1 v2 → Q t s tp lo →
    Calls Try.prog 66 #[.pointer (some ⟨mc, 0, none⟩), .pointer (some ⟨fb, 0, none⟩), .agg #[v0, v1, v2]] w fun e w' => TreeSays base mc own P fuel s (evalT s.mem tp lo t) w e w'
def TreeSaid (m : Nat) : Prop :=
  ∀ (t : T) (base mc : Nat) (own : Nat → Prop) (P : Value × Value × Value) (fuel : Int) (s : St) (fb tb : Nat) (G : Value × Value × Value × Value) (tp : List V) (lv : Value) (lo : List Nat) (ng : Nat) (w : World) (v0 v1 v2 : Value),
    t.size ≤ m → Mach w base mc own P fuel s → s.kind = 0 → FrameAt w fb G tb tp lv lo → MemOk s.mem → FrOk s.mem tp lo ng → TOk tp.length lo.length ng t → TreeAt w (Under base) t v0 v1 v2 →
    Calls Try.prog 66 #[.pointer (some ⟨mc, 0, none⟩), .pointer (some ⟨fb, 0, none⟩), .agg #[v0, v1, v2]] w fun e w' => TreeSays base mc own P fuel s (evalT s.mem tp lo t) w e w'


theorem val_info : (Try.prog.info? 90).map (fun i => (i.zero, i.size, i.bytes)) = some (some (.agg #[.int .i64 0, .int .i64 0]), 2, 16) := by kernel_rfl

theorem FrameAt.cell_of {w w' : World} {F : Nat → Prop} (hw : Wr F w w') {b o : Nat} (hb : b < w.heap.size) (hF : ¬ F b) : w'.cell? ⟨b, o, none⟩ = w.cell? ⟨b, o, none⟩ :=
  World.cell?_of_block (a := ⟨b, o, none⟩) (hw.block b hb hF)
theorem FrameAt.free_of {w w' : World} {F : Nat → Prop} (hw : Wr F w w') {b o : Nat} (hb : b < w.heap.size) (hF : ¬ F b) : w'.frozen? ⟨b, o, none⟩ = w.frozen? ⟨b, o, none⟩ :=
  World.frozen?_of_block (a := ⟨b, o, none⟩) (hw.block b hb hF)

/-- The call's own two blocks behind what has been done: what they hold. -/
theorem own_two {w wr : World} {op x : Int} {v2 : Value}
    (hnx : Below (w.heap.size + 2) ((w.alloc (.cells #[.int .i64 op, .int .i64 x, v2] 28)).alloc (.cells #[.int .i64 0, .int .i64 0] 90)) wr) :
    Row wr w.heap.size #[.int .i64 op, .int .i64 x, v2] 28 ∧ Row wr (w.heap.size + 1) #[.int .i64 0, .int .i64 0] 90 := by
  refine ⟨(((Row.new w _ _).alloc _).below hnx (by omega)), ?_⟩
  have h := Row.new (w.alloc (.cells #[.int .i64 op, .int .i64 x, v2] 28)) #[.int .i64 0, .int .i64 0] 90
  rw [World.size_alloc] at h
  exact h.below hnx (by omega)

theorem addr0 (g j : Nat) : (⟨g, 0, none⟩ : Addr).add j = ⟨g, j, none⟩ := by simp [Addr.add]; exact fun h => h.symm

theorem pair_cells (w : World) (a b : Value) (t : TypeId) (r : Nat) (hr : r = w.heap.size) : ∀ (j : Nat) (u : Value), [a, b][j]? = some u → (w.alloc (.cells #[a, b] t)).cell? ((⟨r, 0, none⟩ : Addr).add j) = some u := by
  subst hr
  intro j u hj
  have hj2 : j < 2 := by
    rcases Nat.lt_or_ge j 2 with h | h
    · exact h
    · rw [List.getElem?_eq_none (by simpa using h)] at hj; cases hj
  rw [addr0]
  exact (Row.new w #[a, b] t).cell (by simpa using hj)
theorem pair_one (a b : Int) : ∀ u : Value, u ∈ [Value.int .i64 a, Value.int .i64 b] → u.oneCell' = true := by
  intro u hu
  simp at hu
  rcases hu with rfl | rfl <;> rfl

theorem wr_two (w1 : World) (r : Nat) (u v : Value) : Wr (fun k => k = r) w1 ((w1.setCell ⟨r, 0, none⟩ u).setCell ⟨r, 1, none⟩ v) :=
  (Wr.cell1 w1 r 0 u).trans (Wr.cell1 _ r 1 v) (fun _ h => Or.inl h)
theorem wr_two_alloc (w1 : World) (r : Nat) (u v : Value) (o : Obj) : Wr (fun k => k = r) w1 (((w1.setCell ⟨r, 0, none⟩ u).setCell ⟨r, 1, none⟩ v).alloc o) :=
  (wr_two w1 r u v).trans (Wr.of_below (F := fun k => k = r) (below1 _ o)) (fun _ h => Or.inl h)

mutual
theorem TreeAt.tin {w : World} {C : Nat → Nat → Prop} : ∀ (t : T) {v0 v1 v2 : Value}, TreeAt w C t v0 v1 v2 → TIn t
  | .node op n ks, v0, v1, v2, h => by
    simp only [TreeAt] at h
    obtain ⟨_, _, _, h3, _, A, cap, _, h6⟩ := h
    refine ⟨h3, ?_⟩
    match ks, h6 with
    | [], _ => trivial
    | k :: ks, h6 =>
      obtain ⟨b, off, _, _, hk⟩ := h6 (by simp)
      exact KidsAt.tin (k :: ks) hk
theorem KidsAt.tin {w : World} {C : Nat → Nat → Prop} : ∀ (ks : List T) {b off : Nat}, KidsAt w C ks b off → TsIn ks
  | [], _, _, _ => trivial
  | k :: ks, b, off, h => by
    simp only [KidsAt] at h
    obtain ⟨⟨v0, v1, v2, _, _, _, ht⟩, hr⟩ := h
    exact ⟨TreeAt.tin k ht, KidsAt.tin ks hr⟩
end

/-- The page's memory, read off the machine. -/
theorem Mach.memR {w : World} {base mc : Nat} {own : Nat → Prop} {P : Value × Value × Value} {fuel : Int} {s : St} (h : Mach w base mc own P fuel s) :
    ∃ A cap, w.cell? ⟨mc, 10, none⟩ = some (.slice A s.mem.length cap) ∧ MemR w w.heap.size A s.mem.length s.mem ∧ mc < w.heap.size := by
  obtain ⟨inv, outv, memv, rb, hr, hm, hs⟩ := h
  have c10 : w.cell? ⟨mc, 10, none⟩ = some memv := hr.cell (j := 10) rfl
  obtain ⟨⟨xs, hx, hox⟩, hmine, _, hok⟩ := hs.mem
  obtain ⟨hxl, hx2⟩ := id hx
  rcases hx2 with ⟨rfl, h0⟩ | ⟨g, cap, cur, rfl, _, hg, hcap, _, _, htake⟩
  · refine ⟨none, 0, by rw [h0]; exact c10, ⟨rfl, by omega, fun k o hk => ?_⟩, hr.lt⟩
    rw [List.getElem?_eq_none (by omega)] at hk
    cases hk
  · refine ⟨some ⟨g, 0, none⟩, cap, c10, ⟨rfl, hok.many, fun k o hk => ⟨g, 0, rfl, Row.lt hg, ?_⟩⟩, hr.lt⟩
    have hkl : k < s.mem.length := by
      rcases Nat.lt_or_ge k s.mem.length with h | h
      · exact h
      · rw [List.getElem?_eq_none h] at hk; cases hk
    have hcell : ∀ j u, xs[j]? = some u → w.cell? ⟨g, 0 + j, none⟩ = some u := by
      intro j u hj
      have := hx.cells (g := g) rfl j u hj
      rw [addr0] at this
      simpa using this
    obtain ⟨h0, h1, h2⟩ := hox k o hk
    by_cases hz : k = 0
    · subst hz
      have := hok.zero o hk
      subst this
      rw [if_pos rfl] at h1
      exact ⟨none, 0, 0, hcell _ _ h0, hcell _ _ h1, hcell _ _ h2, rfl, by omega, by simp, by simp, fun j v hj => by simp at hj⟩
    · rw [if_neg hz] at h1
      obtain ⟨hs1, hs2⟩ := hok.size k o (by omega) hk
      obtain ⟨_, cs, hrow, hvi⟩ := hmine k o (by omega) hk
      exact ⟨_, _, _, hcell _ _ h0, hcell _ _ h1, hcell _ _ h2, rfl, hs2, by omega, by omega, fun j v hj => ⟨rb k, 0, rfl, hrow.lt, by rw [Nat.zero_add]; exact ⟨hrow.cell (hvi.2 j v hj).1, hrow.cell (hvi.2 j v hj).2⟩⟩⟩
end Go.Proofs.Ytjkgpolikpochaa
namespace Go.Proofs.Ytjkgpolikpochaa
open Go.RowKit

/-- An object of a program. -/
structure ObS where
  size : Int
  count : Int
  init : List Int
/-- A step. -/
structure StepS where
  op : Int
  to : Int
  size : Int
  fn : Int
  args : List T
/-- A block. -/
structure BlockS where
  steps : List StepS
  fin : Int
  cond : T
  next : Int
  els : Int
/-- A function. -/
structure GraphS where
  params : Int
  temps : Int
  locs : List ObS
  blocks : List BlockS
/-- A program. -/
structure ProgS where
  globs : List ObS
  funcs : List GraphS
  main : Int

/-- An object's elements, as it is made. -/
def fillF (o : ObS) : List V := (List.range o.count.toNat).map fun i => ⟨0, match o.init[i]? with | some n => storedF o.size.toNat n | none => 0⟩
/-- An object is made. -/
def makeF (M : List MO) (o : ObS) : List MO := (if M = [] then [⟨0, [], false⟩] else M) ++ [⟨o.size, fillF o, true⟩]

def makesF (M : List MO) : List ObS → List MO
  | [] => M
  | o :: l => makesF (makeF M o) l

/-- A value is stored. -/
def storeF (M : List MO) (size : Int) (a x : V) : Option (List MO) :=
  match atF M a size.toNat with
  | none => none
  | some j => if x.obj > 0 ∧ size ≠ 8 then none else
      some (M.modify a.obj fun o => { o with l := o.l.set j (if x.obj = 0 then ⟨0, storedF size.toNat x.n⟩ else x) })

def setT (tp : List V) (to : Int) (v : V) : List V := if 0 ≤ to then tp.set to.toNat v else tp

def killF (M : List MO) : List Nat → List MO
  | [] => M
  | k :: l => killF (M.modify k fun o => { o with live := false }) l

/-- What a call does. -/
abbrev CallR := Int → List V → St → Option V × St

/-- A step is done. -/
def actF (R : CallR) (s : St) (tp : List V) (x : StepS) (l : List V) : Bool × St × List V :=
  if x.op = 1 then (true, s, setT tp x.to (l.getD 0 ⟨0, 0⟩))
  else if x.op = 2 then match storeF s.mem x.size (l.getD 0 ⟨0, 0⟩) (l.getD 1 ⟨0, 0⟩) with
    | some M => (true, { s with mem := M }, tp)
    | none => (false, { s with kind := 3 }, tp)
  else if x.op = 3 then match R x.fn l s with
    | (some v, s') => (true, s', setT tp x.to v)
    | (none, s') => (false, s', tp)
  else if x.op = 5 then match s.inp with
    | [] => (true, s, setT tp x.to ⟨0, 0⟩)
    | n :: r => (true, { s with inp := r }, setT tp x.to ⟨0, n⟩)
  else if (l.getD 0 ⟨0, 0⟩).obj > 0 then (false, { s with kind := 3 }, tp)
  else if x.op = 6 then (false, { s with code := (l.getD 0 ⟨0, 0⟩).n, kind := 1 }, tp)
  else (true, { s with out := s.out ++ [(l.getD 0 ⟨0, 0⟩).n] }, tp)

def doesF (R : CallR) (fuel : Int) (lo : List Nat) (s : St) (tp : List V) (x : StepS) : Bool × St × List V :=
  if (stepF fuel 1 s).1 = false then (false, (stepF fuel 1 s).2, tp)
  else match evalTs (stepF fuel 1 s).2.mem tp lo x.args with
    | none => (false, { (stepF fuel 1 s).2 with kind := 3 }, tp)
    | some l => actF R (stepF fuel 1 s).2 tp x l

/-- A block's steps. -/
def stepsF (R : CallR) (fuel : Int) (lo : List Nat) (s : St) (tp : List V) : List StepS → Bool × St × List V
  | [] => (true, s, tp)
  | x :: r => match doesF R fuel lo s tp x with
    | (true, s', tp') => stepsF R fuel lo s' tp' r
    | (false, s', tp') => (false, s', tp')

/-- How a block ends: it has ended, it goes on, it returns. -/
inductive Goes where
  | over
  | next (k : Int)
  | ret (v : V)

def blockF (R : CallR) (fuel : Int) (lo : List Nat) (s : St) (tp : List V) (b : BlockS) : Goes × St × List V :=
  match stepsF R fuel lo s tp b.steps with
  | (false, s', tp') => (.over, s', tp')
  | (true, s1, tp1) =>
    if (stepF fuel 1 s1).1 = false then (.over, (stepF fuel 1 s1).2, tp1)
    else if b.fin = 1 then (.next b.next, (stepF fuel 1 s1).2, tp1)
    else match evalT (stepF fuel 1 s1).2.mem tp1 lo b.cond with
      | none => (.over, { (stepF fuel 1 s1).2 with kind := 3 }, tp1)
      | some v => if b.fin = 3 then (.ret v, (stepF fuel 1 s1).2, tp1)
        else (.next (if v = ⟨0, 0⟩ then b.els else b.next), (stepF fuel 1 s1).2, tp1)

def noBlock : BlockS := ⟨[], 0, .node 0 0 [], 0, 0⟩
def noGraph : GraphS := ⟨0, 0, [], []⟩

/-- A function's blocks, so many rounds at most. -/
def blocksF (R : CallR) (fuel : Int) (lo : List Nat) (bs : List BlockS) : Nat → Int → St → List V → Option V × St
  | 0, _, s, _ => (none, s)
  | g + 1, k, s, tp => match blockF R fuel lo s tp (bs.getD k.toNat noBlock) with
    | (.over, s', _) => (none, s')
    | (.next k', s', tp') => blocksF R fuel lo bs g k' s' tp'
    | (.ret v, s', _) => (some v, { s' with mem := killF s'.mem lo, calls := s'.calls - 1 })

def countsF : List ObS → Int
  | [] => 0
  | o :: l => o.count + countsF l

/-- The numbers of objects that are made one by one. -/
def numsF (M : List MO) (n : Nat) : List Nat := (List.range n).map fun i => (if M = [] then 1 else M.length) + i

/-- The temporaries at the start. -/
def startF (n : Nat) (args : List V) : List V := args ++ List.replicate (n - args.length) ⟨0, 0⟩

/-- A call, so many deep at most. -/
def callF (p : ProgS) (fuel : Int) : Nat → CallR
  | 0, _, _, s => (none, stopF 4 s)
  | d + 1, fn, args, s =>
    let g := p.funcs.getD fn.toNat noGraph
    let s1 := { s with calls := s.calls + 1, deep := max s.deep (s.calls + 1) }
    if (stepF fuel (countsF g.locs) s1).1 = false then (none, (stepF fuel (countsF g.locs) s1).2)
    else
      let s2 := (stepF fuel (countsF g.locs) s1).2
      blocksF (callF p fuel d) fuel (numsF s2.mem g.locs.length) g.blocks (fuel - s2.steps + 1).toNat 0 { s2 with mem := makesF s2.mem g.locs } (startF g.temps.toNat args)

/-- What a run comes to. -/
structure OutS where
  kind : Int
  code : Int
  out : List Int
  steps : Int
  deep : Int

def endF (r : Option V × St) : OutS :=
  let s := match r.1 with
    | some v => { r.2 with kind := if v.obj > 0 then 3 else 1, code := v.n }
    | none => r.2
  if s.kind = 3 then ⟨3, 0, [], 0, 0⟩ else ⟨s.kind, s.code, s.out, s.steps, s.deep⟩

def runF (p : ProgS) (inp : List Int) (fuel : Int) : OutS :=
  endF (callF p fuel 64 p.main [] ⟨inp, 0, 0, [], 0, 0, 0, makesF [] p.globs⟩)
end Go.Proofs.Ytjkgpolikpochaa
namespace Go.Proofs.Ytjkgpolikpochaa
open Go.RowKit

/-- A slice of elements of so many cells; 'E': what an element's cells are. -/
def SliceAt {α : Type} (w : World) (B sz : Nat) (E : (Nat → Option Value) → α → Prop) (l : List α) (v : Value) : Prop :=
  ∃ A cap, v = .slice A l.length cap ∧ l.length ≤ 9223372036854775807 ∧ (0 < l.length → ∃ b off, A = some ⟨b, off, none⟩ ∧ b < B ∧ ∀ i x, l[i]? = some x → E (fun j => w.cell? ⟨b, off + i * sz + j, none⟩) x)

theorem SliceAt.below {α : Type} {w w' : World} {B B' sz : Nat} {E E' : (Nat → Option Value) → α → Prop} {l : List α} {v : Value} (h : SliceAt w B sz E l v) (hb : Below B w w') (hB : B ≤ B') (hE : ∀ c x, E c x → E' c x) : SliceAt w' B' sz E' l v := by
  obtain ⟨A, cap, h0, h1, h2⟩ := h
  refine ⟨A, cap, h0, h1, fun hp => ?_⟩
  obtain ⟨b, off, hA, hlt, hx⟩ := h2 hp
  refine ⟨b, off, hA, by omega, fun i x hi => ?_⟩
  have e : (fun j => w'.cell? ⟨b, off + i * sz + j, none⟩) = fun j => w.cell? ⟨b, off + i * sz + j, none⟩ := by funext j; exact hb.cell (p := ⟨b, _, none⟩) hlt
  rw [e]
  exact hE _ _ (hx i x hi)

theorem SliceAt.get {α : Type} {w : World} {B sz : Nat} {E : (Nat → Option Value) → α → Prop} {l : List α} {A : Option Addr} {n cap k : Nat} (h : SliceAt w B sz E l (.slice A n cap)) (hk : k < n) :
    ∃ b off x, A = some ⟨b, off, none⟩ ∧ b < B ∧ l[k]? = some x ∧ E (fun j => w.cell? ⟨b, off + k * sz + j, none⟩) x := by
  obtain ⟨A', cap', h0, h1, h2⟩ := h
  injection h0 with e1 e2 e3
  subst e1 e2
  obtain ⟨b, off, hA, hlt, hx⟩ := h2 (by omega)
  exact ⟨b, off, _, hA, hlt, List.getElem?_eq_getElem hk, hx k _ (List.getElem?_eq_getElem hk)⟩

theorem SliceAt.len {α : Type} {w : World} {B sz : Nat} {E : (Nat → Option Value) → α → Prop} {l : List α} {A : Option Addr} {n cap : Nat} (h : SliceAt w B sz E l (.slice A n cap)) : l.length = n ∧ n ≤ 9223372036854775807 := by
  obtain ⟨A', cap', h0, h1, _⟩ := h
  injection h0 with e1 e2 e3
  subst e2
  exact ⟨rfl, h1⟩

def LongsAt (w : World) (B : Nat) (l : List Int) (v : Value) : Prop := SliceAt w B 1 (fun c x => c 0 = some (.int .i64 x) ∧ In64 x) l v

def ObE (w : World) (B : Nat) (c : Nat → Option Value) (o : ObS) : Prop :=
  c 0 = some (.int .i64 o.size) ∧ c 1 = some (.int .i64 o.count) ∧ (∃ v, c 2 = some v ∧ LongsAt w B o.init v) ∧ In64 o.size ∧ In64 o.count

def TreeE (w : World) (B : Nat) (c : Nat → Option Value) (t : T) : Prop := ∃ v0 v1 v2, c 0 = some v0 ∧ c 1 = some v1 ∧ c 2 = some v2 ∧ TreeAt w (Under B) t v0 v1 v2

def TreesAt (w : World) (B : Nat) (l : List T) (v : Value) : Prop := ∃ A n cap, v = .slice A n cap ∧ KidsV w B l A n

def StepE (w : World) (B : Nat) (c : Nat → Option Value) (x : StepS) : Prop :=
  c 0 = some (.int .i64 x.op) ∧ c 1 = some (.int .i64 x.to) ∧ c 2 = some (.int .i64 x.size) ∧ c 3 = some (.int .i64 x.fn) ∧ (∃ v, c 4 = some v ∧ TreesAt w B x.args v) ∧ In64 x.op ∧ In64 x.to ∧ In64 x.size ∧ In64 x.fn

def BlockE (w : World) (B : Nat) (c : Nat → Option Value) (b : BlockS) : Prop :=
  (∃ v, c 0 = some v ∧ SliceAt w B 5 (StepE w B) b.steps v) ∧ c 1 = some (.int .i64 b.fin) ∧ (∃ v0 v1 v2, c 2 = some v0 ∧ c 3 = some v1 ∧ c 4 = some v2 ∧ TreeAt w (Under B) b.cond v0 v1 v2) ∧ c 5 = some (.int .i64 b.next) ∧ c 6 = some (.int .i64 b.els) ∧ In64 b.fin ∧ In64 b.next ∧ In64 b.els

def GraphE (w : World) (B : Nat) (c : Nat → Option Value) (g : GraphS) : Prop :=
  c 0 = some (.int .i64 g.params) ∧ c 1 = some (.int .i64 g.temps) ∧ (∃ v, c 2 = some v ∧ SliceAt w B 3 (ObE w B) g.locs v) ∧ (∃ v, c 3 = some v ∧ SliceAt w B 7 (BlockE w B) g.blocks v) ∧ In64 g.params ∧ In64 g.temps

def ProgE (w : World) (B : Nat) (c : Nat → Option Value) (p : ProgS) : Prop :=
  (∃ v, c 0 = some v ∧ SliceAt w B 3 (ObE w B) p.globs v) ∧ (∃ v, c 1 = some v ∧ SliceAt w B 4 (GraphE w B) p.funcs v) ∧ c 2 = some (.int .i64 p.main) ∧ In64 p.main

section
variable {w w' : World} {B B' : Nat}
theorem LongsAt.below {l : List Int} {v : Value} (h : LongsAt w B l v) (hb : Below B w w') (hB : B ≤ B') : LongsAt w' B' l v := SliceAt.below h hb hB fun _ _ h => h
theorem TreesAt.below {l : List T} {v : Value} (h : TreesAt w B l v) (hb : Below B w w') (hB : B ≤ B') : TreesAt w' B' l v := by
  obtain ⟨A, n, cap, h0, h1⟩ := h
  exact ⟨A, n, cap, h0, h1.below hb hB⟩
theorem ObE.below {c : Nat → Option Value} {o : ObS} (h : ObE w B c o) (hb : Below B w w') (hB : B ≤ B') : ObE w' B' c o := by
  obtain ⟨h0, h1, ⟨v, h2, h3⟩, h4⟩ := h
  exact ⟨h0, h1, ⟨v, h2, h3.below hb hB⟩, h4⟩
theorem StepE.below {c : Nat → Option Value} {x : StepS} (h : StepE w B c x) (hb : Below B w w') (hB : B ≤ B') : StepE w' B' c x := by
  obtain ⟨h0, h1, h2, h3, ⟨v, h4, h5⟩, h6⟩ := h
  exact ⟨h0, h1, h2, h3, ⟨v, h4, h5.below hb hB⟩, h6⟩
theorem BlockE.below {c : Nat → Option Value} {b : BlockS} (h : BlockE w B c b) (hb : Below B w w') (hB : B ≤ B') : BlockE w' B' c b := by
  obtain ⟨⟨v, h0, h1⟩, h2, ⟨v0, v1, v2, h3, h4, h5, h6⟩, h7⟩ := h
  exact ⟨⟨v, h0, h1.below hb hB fun _ _ h => h.below hb hB⟩, h2, ⟨v0, v1, v2, h3, h4, h5, h6.below hb hB⟩, h7⟩
theorem GraphE.below {c : Nat → Option Value} {g : GraphS} (h : GraphE w B c g) (hb : Below B w w') (hB : B ≤ B') : GraphE w' B' c g := by
  obtain ⟨h0, h1, ⟨v, h2, h3⟩, ⟨u, h4, h5⟩, h6⟩ := h
  exact ⟨h0, h1, ⟨v, h2, h3.below hb hB fun _ _ h => h.below hb hB⟩, ⟨u, h4, h5.below hb hB fun _ _ h => h.below hb hB⟩, h6⟩
theorem ProgE.below {c : Nat → Option Value} {p : ProgS} (h : ProgE w B c p) (hb : Below B w w') (hB : B ≤ B') : ProgE w' B' c p := by
  obtain ⟨⟨v, h0, h1⟩, ⟨u, h2, h3⟩, h4⟩ := h
  exact ⟨⟨v, h0, h1.below hb hB fun _ _ h => h.below hb hB⟩, ⟨u, h2, h3.below hb hB fun _ _ h => h.below hb hB⟩, h4⟩
end
end Go.Proofs.Ytjkgpolikpochaa
