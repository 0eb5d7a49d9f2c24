/- The page's machine: a call of a function whose steps set temporaries, or read what comes in. Conditions: as stated. step: whether a step may be: those that set a temporary, or read what comes in. Conditions: as stated. Pure: whether a tree is of numbers alone. Conditions: as stated. What a folded tree comes to; how large it is; what it names. No program in sight but its name. Conditions: as stated. -/
import Derived.Test.YtjkgpolikpochaaQ07Zz
import Derived.Test.YtjkgpolikpochaaCallCZz
import Derived.Test.YtjkgpolikpochaaCallDZz
import Derived.Test.YtjkgpolikpochaaNamesZz
import Derived.Test.YtjkgpolikpochaaQ04Zz
import Derived.Test.YtjkgpolikpochaaCntZz
import Derived.Test.YtjkgpolikpochaaMemLdZz
set_option linter.unusedVariables false
set_option linter.unusedSimpArgs false
namespace Go.Proofs.Ytjkgpolikpochaa
open Go.RowKit

/-- What a function must be for its call to be walked; 'S': what is asked of its steps. -/
structure FunOk (S : StepS → Prop) (ng nt : Nat) (g : GraphS) : Prop where
  temps : g.temps = nt
  few : nt ≤ 1000
  obs : ∀ o, o ∈ g.locs → ObOk o
  locs : g.locs.length ≤ 24
  one : 0 < g.blocks.length
  blk : ∀ b, b ∈ g.blocks → (b.fin = 1 ∨ b.fin = 2 ∨ b.fin = 3) ∧ (0 ≤ b.next ∧ b.next < g.blocks.length) ∧ (0 ≤ b.els ∧ b.els < g.blocks.length) ∧ (b.fin ≠ 1 → TOk nt g.locs.length ng b.cond) ∧ ∀ x, x ∈ b.steps → S x

theorem callF_dry {p : ProgS} {fuel : Int} {d f : Nat} {g : GraphS} {args : List V} {s : St} (hg : p.funcs[f]? = some g) (hy : (stepF fuel (countsF g.locs) { s with calls := s.calls + 1, deep := max s.deep (s.calls + 1) }).1 = false) :
    callF p fuel (d + 1) f args s = (none, (stepF fuel (countsF g.locs) { s with calls := s.calls + 1, deep := max s.deep (s.calls + 1) }).2) := by
  simp only [callF, Int.toNat_natCast, List.getD_eq_getElem?_getD, hg, Option.getD_some, hy, if_true]
theorem callF_go {p : ProgS} {fuel : Int} {d f nt : Nat} {g : GraphS} {args : List V} {s : St} (hg : p.funcs[f]? = some g) (hnt : g.temps = nt) (hy : (stepF fuel (countsF g.locs) { s with calls := s.calls + 1, deep := max s.deep (s.calls + 1) }).1 = true) :
    callF p fuel (d + 1) f args s = blocksF (callF p fuel d) fuel (numsF s.mem g.locs.length) g.blocks (fuel - (s.steps + countsF g.locs) + 1).toNat 0 { s with calls := s.calls + 1, deep := max s.deep (s.calls + 1), steps := s.steps + countsF g.locs, mem := makesF s.mem g.locs } (startF nt args) := by
  obtain ⟨hy0, hy1, hy2⟩ := stepF_yes hy
  simp only [callF, Int.toNat_natCast, List.getD_eq_getElem?_getD, hg, Option.getD_some, hy, Bool.true_eq_false, if_false, hy2, hnt]

theorem call_flat (base mc : Nat) (own : Nat → Prop) (P : Value × Value × Value) (fuel : Int) (p : ProgS) (s : St) (f : Nat) (g : GraphS) (args : List V) (AA : Option Addr) (an acap : Nat) (w : World) (d nt : Nat)
    (hM : Mach w base mc own P fuel s) (hP : ProgAt w base P p) (hI : Inv fuel s) (hf : fuel ≤ 100000000) (hg : p.funcs[f]? = some g) (hC0 : 0 ≤ s.calls) (hd : s.calls < 64) (hdeep : 0 ≤ s.deep ∧ s.deep ≤ 64) (hargs : ∀ j v, args[j]? = some v → ∃ b off, AA = some ⟨b, off, none⟩ ∧ b < w.heap.size ∧ ¬ own b ∧ ValCells w b (off + j * 2) v) (han : args.length = an) (hant : an ≤ nt) (hargok : ∀ v, v ∈ args → VOk s.mem.length v) (hglob : p.globs.length < s.mem.length)
    (hfn : FunOk (FlatOk nt g.locs.length p.globs.length) p.globs.length nt g) :
    Calls Try.prog 50 #[.pointer (some ⟨mc, 0, none⟩), .int .i64 f, .slice AA an acap] w fun e w' => CallSays base mc own P fuel (callF p fuel (d + 1) f args s) w e w' := by
  by_cases hy : (stepF fuel (countsF g.locs) { s with calls := s.calls + 1, deep := max s.deep (s.calls + 1) }).1 = true
  · rw [callF_go hg hfn.temps hy]
    exact call_go base mc own P fuel p s f g args AA an acap w hM hP hI hf hg hC0 (callF p fuel d) hd hdeep nt hfn.temps hfn.few hfn.obs hfn.locs hargs han hant hargok hglob hfn.one
      (fun b hb => ⟨(hfn.blk b hb).1, (hfn.blk b hb).2.1, (hfn.blk b hb).2.2.1, (hfn.blk b hb).2.2.2.1, fun x hx => does_flat _ fuel (by omega) p _ _ _ _ x ((hfn.blk b hb).2.2.2.2 x hx)⟩) hy
  · have hy' : (stepF fuel (countsF g.locs) { s with calls := s.calls + 1, deep := max s.deep (s.calls + 1) }).1 = false := by simpa using hy
    rw [callF_dry hg hy']
    exact call_dry base mc own P fuel p s f g args AA an acap w hM hP hI hf hg hC0 hd hdeep nt hfn.temps hfn.few hfn.obs hfn.locs hy'
end Go.Proofs.Ytjkgpolikpochaa
namespace Go.Proofs.Ytjkgpolikpochaa
open Go.RowKit

def argsC (na nb nc : Int) : List T → Int → Int × Bool
  | [], n => (n, true)
  | t :: l, n => if (withC na nb nc t).2 = false then (0, false) else argsC na nb nc l (n + (withC na nb nc t).1)
def manyC (p : ProgS) (x : StepS) : Int :=
  if x.op = 1 then 1 else if x.op = 2 then 2 else if x.op = 3 then (if numB x.fn ((p.funcs.length : Int) - 1) = true then (p.funcs.getD x.fn.toNat noGraph).params else -1) else if x.op = 4 ∨ x.op = 6 then 1 else if x.op = 5 then 0 else -1
def stepBad (p : ProgS) (g : GraphS) (x : StepS) : Prop :=
  (x.op = 2 ∧ sizeB x.size = false) ∨ (x.args.length : Int) ≠ manyC p x ∨ (¬ (x.op = 1 ∨ x.op = 3 ∨ x.op = 5) ∧ x.to ≠ -1) ∨ (x.op ≠ 2 ∧ x.size ≠ 0) ∨ (x.op ≠ 3 ∧ x.fn ≠ 0) ∨ ((x.op = 1 ∨ x.op = 3 ∨ x.op = 5) ∧ x.to ≥ g.temps) ∨ (¬ (x.op = 1 ∨ x.op = 3 ∨ x.op = 5) ∧ -1 ≥ g.temps) ∨ (x.to < 0 ∧ (x.op = 1 ∨ x.op = 5 ∨ x.to < -1))
open Classical in
noncomputable def stepC (p : ProgS) (g : GraphS) (x : StepS) : Int × Bool := if stepBad p g x then (0, false) else argsC g.temps g.locs.length p.globs.length x.args 0

/-- A function of a program, as 'step' and 'end' are given it. -/
structure GraphV (w : World) (B : Nat) (g : GraphS) (LV BV : Value) : Prop where
  locs : SliceAt w B 3 (ObE w B) g.locs LV
  blocks : SliceAt w B 7 (BlockE w B) g.blocks BV
  p64 : In64 g.params
  t64 : In64 g.temps
theorem GraphV.below {w w' : World} {B B' : Nat} {g : GraphS} {LV BV : Value} (h : GraphV w B g LV BV) (hb : Below B w w') (hB : B ≤ B') : GraphV w' B' g LV BV :=
  ⟨h.locs.below hb hB fun _ _ h => h.below hb hB, h.blocks.below hb hB fun _ _ h => h.below hb hB, h.p64, h.t64⟩
/-- A program, as 'step' and 'end' are given it. -/
def ProgV (w : World) (B : Nat) (P : Value × Value × Value) (p : ProgS) : Prop :=
  SliceAt w B 3 (ObE w B) p.globs P.1 ∧ SliceAt w B 4 (GraphE w B) p.funcs P.2.1 ∧ P.2.2 = .int .i64 p.main ∧ In64 p.main
theorem ProgV.below {w w' : World} {B B' : Nat} {P : Value × Value × Value} {p : ProgS} (h : ProgV w B P p) (hb : Below B w w') (hB : B ≤ B') : ProgV w' B' P p :=
  ⟨h.1.below hb hB fun _ _ h => h.below hb hB, h.2.1.below hb hB fun _ _ h => h.below hb hB, h.2.2⟩

/-- What is asked of the walk of 'step' at one step. -/
def StepSaid (p : ProgS) (g : GraphS) (x : StepS) : Prop := ∀ (P : Value × Value × Value) (LV BV : Value) (A : Option Addr) (n cap B : Nat) (w : World), B ≤ w.heap.size → ProgV w B P p → GraphV w B g LV BV → KidsV w B x.args A n →
    Calls Try.prog 60 #[.agg #[P.1, P.2.1, P.2.2], .agg #[.int .i64 g.params, .int .i64 g.temps, LV, BV], .agg #[.int .i64 x.op, .int .i64 x.to, .int .i64 x.size, .int .i64 x.fn, .slice A n cap]] w fun e w' => e = .returned (.tuple #[.int .i64 (stepC p g x).1, .bool (stepC p g x).2]) ∧ Below w.heap.size w w'

theorem ProgV.shape {w : World} {B : Nat} {P : Value × Value × Value} {p : ProgS} (h : ProgV w B P p) : ∃ GA gc FA fc, P = (.slice GA p.globs.length gc, .slice FA p.funcs.length fc, .int .i64 p.main) := by
  obtain ⟨P0, P1, P2⟩ := P
  obtain ⟨⟨A, c, h0, _⟩, ⟨A', c', h1, _⟩, h2, _⟩ := h
  simp only at h0 h1 h2
  exact ⟨_, _, _, _, by rw [h0, h1, h2]⟩
theorem GraphV.shape {w : World} {B : Nat} {g : GraphS} {LV BV : Value} (h : GraphV w B g LV BV) : ∃ LA lc BA bc, LV = .slice LA g.locs.length lc ∧ BV = .slice BA g.blocks.length bc := by
  obtain ⟨⟨A, c, h0, _⟩, ⟨A', c', h1, _⟩, _⟩ := h
  exact ⟨_, _, _, _, h0, h1⟩

end Go.Proofs.Ytjkgpolikpochaa
namespace Go.Proofs.Ytjkgpolikpochaa
open Go.RowKit

mutual
def pureB : T → Bool
  | .node op _ ks => !decide (op = 2 ∨ op = 3 ∨ op = 4 ∨ (5 ≤ op ∧ op ≤ 11)) && puresB ks
def puresB : List T → Bool
  | [] => true
  | k :: ks => pureB k && puresB ks
end
def PureSaid (m : Nat) : Prop := ∀ (t : T) (B : Nat) (w : World) (v0 v1 v2 : Value), t.size ≤ m → B ≤ w.heap.size → TreeAt w (Under B) t v0 v1 v2 →
    Calls Try.prog 15 #[.agg #[v0, v1, v2]] w fun e w' => e = .returned (.bool (pureB t)) ∧ Below w.heap.size w w'

set_option maxRecDepth 100000 in
set_option maxHeartbeats 8000000 in
theorem pure_all (m : Nat) : PureSaid m := by
  induction m with
  | zero => intro t _ _ _ _ _ hm; have := t.size_pos; omega
  | succ m ih =>
    rintro ⟨op, x, ks⟩ B w v0 v1 v2 hm hB hv
    obtain ⟨A, cap, len, rfl, rfl, _, _, rfl, hk⟩ := KidsV.of_tree hv
    simp only [T.size] at hm
    have hlen := hk.1
    have hlm := hk.2.1
    have HIL := Lib.hid (fun W => isLoad_any op W)
    by_cases h2 : op = 2
    · subst h2
      have hr : pureB (.node 2 x ks) = false := by simp [pureB]
      rw [hr]
      clear hv hk ih hm hr
      go_enter Try.func15, Try.ntmps15
      go_wp2_with (go_at_call 27; refine (HIL.out _).mono ?_; rintro e w' ⟨rfl, rfl⟩)
      go_ret
      exact ⟨rfl, below1 _ _⟩
    by_cases h3 : op = 3
    · subst h3
      have hr : pureB (.node 3 x ks) = false := by simp [pureB]
      rw [hr]
      clear hv hk ih hm hr
      go_enter Try.func15, Try.ntmps15
      go_wp2_with (go_at_call 27; refine (HIL.out _).mono ?_; rintro e w' ⟨rfl, rfl⟩)
      go_ret
      exact ⟨rfl, below1 _ _⟩
    by_cases h4 : op = 4
    · subst h4
      have hr : pureB (.node 4 x ks) = false := by simp [pureB]
      rw [hr]
      clear hv hk ih hm hr
      go_enter Try.func15, Try.ntmps15
      go_wp2_with (go_at_call 27; refine (HIL.out _).mono ?_; rintro e w' ⟨rfl, rfl⟩)
      go_ret
      exact ⟨rfl, below1 _ _⟩
    have e2 : (op == 2) = false := by simpa using h2
    have e3 : (op == 3) = false := by simpa using h3
    have e4 : (op == 4) = false := by simpa using h4
    by_cases h5 : 5 ≤ op ∧ op ≤ 11
    · have hr : pureB (.node op x ks) = false := by simp [pureB, h5]
      rw [hr]
      rw [decide_eq_true h5] at HIL
      clear hv hk ih hm hr h2 h3 h4 h5
      go_enter Try.func15, Try.ntmps15
      go_wp2_with (go_at_call 27; refine (HIL.out _).mono ?_; rintro e w' ⟨rfl, rfl⟩)
      go_ret
      exact ⟨rfl, below1 _ _⟩
    · have hr : pureB (.node op x ks) = puresB ks := by simp [pureB, h2, h3, h4]; intro h; omega
      rw [hr]
      rw [decide_eq_false h5] at HIL
      have HK := Lib.hid hk
      have IH := Lib.hid ih
      clear hv hk ih hr h2 h3 h4 h5
      go_enter Try.func15, Try.ntmps15
      go_wp2_with (go_at_call 27; refine (HIL.out _).mono ?_; rintro e w' ⟨rfl, rfl⟩)
      go_loopw [3] (fun i wr => ∃ k : Nat, k ≤ len ∧ i = .int .i64 k ∧ puresB (ks.drop k) = puresB ks ∧ Below w.heap.size w wr ∧ wr.cell? ⟨w.heap.size, 2, none⟩ = some (.slice A len cap) ∧ w.heap.size < wr.heap.size) (fun i _ => len - (intOf i).toNat)
      case atStart => exact ⟨0, by omega, rfl, rfl, below1 _ _, by simp [go_sem], by simp [go_sem]⟩
      case round =>
        obtain ⟨k, hk2, rfl, hcs, hbw, hc2, hzl⟩ := hrel
        have HCS := Lib.hid hcs
        clear hcs
        have hzw := hbw.size
        by_cases hlt : k < len
        · obtain ⟨b, off, t, v0, v1, v2, rfl, hb, hk1, c0, c1, c2, ht⟩ := (HK.out.below (hbw.mono hB) (Nat.le_refl _)).get hlt
          have hsz : t.size ≤ m := Nat.le_trans (T.sizes_get hk1) (by omega)
          have HC := Lib.hid (IH.out t B wr v0 v1 v2 hsz (by omega) ht)
          have HD := Lib.hid (show puresB (ks.drop k) = (pureB t && puresB (ks.drop (k + 1))) from by rw [drop_of hk1]; rfl)
          have hklt : (k : Int) < (len : Int) := by omega
          have hbl : b < wr.heap.size := by omega
          obtain ⟨q, hq⟩ : ∃ q, q = pureB t := ⟨_, rfl⟩
          rw [← hq] at HC HD
          clear hk1 ht hq hsz
          cases q with
          | false =>
            go_wp2_with fail
            refine HC.out.mono ?_
            rintro e w1 ⟨rfl, hb1⟩
            go_wp2_with fail
            go_ret
            have he : puresB ks = false := by rw [← HCS.out, HD.out]; simp
            exact ⟨by rw [he]; rfl, hbw.trans (hb1.mono hzw)⟩
          | true =>
            go_wp2_with fail
            refine HC.out.mono ?_
            rintro e w1 ⟨rfl, hb1⟩
            have hc2' : w1.cell? ⟨w.heap.size, 2, none⟩ = some (.slice (some ⟨b, off, none⟩) len cap) := cell_below hc2 hb1 (by omega)
            go_wp2_with fail
            go_roundw
            case rel =>
              refine ⟨k + 1, by omega, by go_num, ?_, hbw.trans (hb1.mono hzw), hc2', by have := hb1.size; omega⟩
              rw [← HCS.out, HD.out]; simp
            case measure => simp [intOf]; omega
        · obtain rfl : k = len := by omega
          go_wp2_with fail
          go_ret
          have he : puresB ks = true := by rw [← HCS.out, drop_nil_of (by omega)]; rfl
          exact ⟨by rw [he]; rfl, hbw⟩
end Go.Proofs.Ytjkgpolikpochaa
namespace Go.Proofs.Ytjkgpolikpochaa
open Go.RowKit

theorem small_cases (op : Int) (l : List T) (P : T → Prop) (h0 : loadB op = false → l.all (fun k => decide (k.op = 1)) = true → P (.node 1 (valT (.node op 0 l)) []))
    (h1 : ∀ a, l = [a] → againB op a.op = true → P a) (h2 : ∀ a b, l = [a, b] → (neutralB op b.op b.n = true ∨ againB op a.op = true) → P a) (h3 : ∀ a b, l = [a, b] → op = 12 → isT a.op a.n 0 = true → P b) (h4 : P (.node op 0 l)) : P (smallN op l) := by
  unfold smallN
  split
  · rename_i h; exact h0 h.1 h.2
  · split
    · split
      · rename_i h; exact h1 _ rfl h
      · exact h4
    · split
      · rename_i h; exact h2 _ _ rfl h
      · split
        · rename_i h; exact h3 _ _ rfl h.1 h.2
        · exact h4
    · exact h4

mutual
theorem fold_size : ∀ (t : T), (foldT t).size ≤ t.size
  | .node op x ks => by
    rw [foldT]
    have hs := folds_size ks
    split
    · simp [T.size, T.sizes]
    · refine small_cases op (foldTs ks) (fun u => u.size ≤ (T.node op x ks).size) (fun _ _ => by simp [T.size, T.sizes]) (fun a h _ => ?_) (fun a b h _ => ?_) (fun a b h _ _ => ?_) (by simp only [T.size]; omega)
      all_goals (rw [h] at hs; simp only [T.sizes] at hs; simp only [T.size]; omega)
theorem folds_size : ∀ (ks : List T), T.sizes (foldTs ks) ≤ T.sizes ks
  | [] => by simp [foldTs]
  | k :: ks => by
    have := fold_size k
    have := folds_size ks
    simp only [foldTs, T.sizes]
    omega
end
mutual
theorem fold_names {a b c : Int} : ∀ (t : T), namesB a b c t = true → namesB a b c (foldT t) = true
  | .node op x ks, h => by
    rw [namesB, Bool.and_eq_true] at h
    have hs := folds_names ks h.2
    rw [foldT]
    split
    · rename_i hl
      rw [namesB, h.1]; rfl
    · rename_i hl
      refine small_cases op (foldTs ks) (fun u => namesB a b c u = true) (fun _ _ => by simp [namesB, namesBs]) (fun u hu _ => ?_) (fun u v hu _ => ?_) (fun u v hu _ _ => ?_) ?_
      · rw [hu] at hs; simp only [namesBs, Bool.and_eq_true] at hs; exact hs.1
      · rw [hu] at hs; simp only [namesBs, Bool.and_eq_true] at hs; exact hs.1
      · rw [hu] at hs; simp only [namesBs, Bool.and_eq_true] at hs; exact hs.2.1
      · rw [namesB, hs, Bool.and_true]
        simp
        omega
theorem folds_names {a b c : Int} : ∀ (ks : List T), namesBs a b c ks = true → namesBs a b c (foldTs ks) = true
  | [], h => by simp [foldTs, namesBs]
  | k :: ks, h => by
    simp only [namesBs, Bool.and_eq_true] at h
    simp only [foldTs, namesBs, Bool.and_eq_true]
    exact ⟨fold_names k h.1, folds_names ks h.2⟩
end
mutual
theorem pure_fold : ∀ (t : T), okT t → pureB t = true → valOk t ∧ foldT t = .node 1 (valT t) []
  | .node op x ks, hok, h => by
    obtain ⟨h1, h2⟩ := okT_node.1 hok
    rw [pureB, Bool.and_eq_true] at h
    have hp := h.1
    simp at hp
    obtain ⟨hv, hf⟩ := pures_fold ks h2 h.2
    have hc := kids_cases (badN_iff.1 h1).1
    rw [foldT]
    by_cases hl : 1 ≤ op ∧ op ≤ 4
    · have hop : op = 1 := by omega
      subst hop
      have hnil : ks = [] := List.length_eq_zero_iff.1 (by omega)
      subst hnil
      rw [if_pos hl]
      exact ⟨by rw [valOk]; exact ⟨Or.inl ⟨rfl, rfl⟩, by simp [valsOk]⟩, by simp [valT, valsT]⟩
    · rw [if_neg hl]
      have hld : loadB op = false := by simp only [loadB, decide_eq_false_iff_not]; omega
      have hall : (foldTs ks).all (fun k => decide (k.op = 1)) = true := by rw [hf]; simp [T.op]
      have hvv : valsT (foldTs ks) = valsT ks := by
        rw [hf]
        clear hf hall hv hc h2 h1 hok h
        induction ks with
        | nil => rfl
        | cons k ks ih => simp [valsT, valT, ih]
      refine ⟨?_, ?_⟩
      · rw [valOk]
        refine ⟨?_, hv⟩
        rcases hc with hc | hc | hc | hc
        · exact absurd ⟨hc.1, hc.2.1⟩ hl
        · exact Or.inr (Or.inl ⟨⟨hc.1, hc.2.1⟩, hc.2.2⟩)
        · omega
        · exact Or.inr (Or.inr ⟨⟨hc.1, hc.2.1⟩, hc.2.2⟩)
      · unfold smallN
        rw [if_pos ⟨hld, hall⟩]
        congr 1
        have hne : ks ≠ [] := by intro h; subst h; simp at hc; omega
        simp only [valT, hvv]
        cases hk : valsT ks with
        | nil => cases ks with
          | nil => exact absurd rfl hne
          | cons a l => simp [valsT] at hk
        | cons a l => cases l <;> rfl
theorem pures_fold : ∀ (ks : List T), okTs ks → puresB ks = true → valsOk ks ∧ foldTs ks = ks.map (fun k => T.node 1 (valT k) [])
  | [], _, _ => by simp [valsOk, foldTs]
  | k :: ks, hok, h => by
    simp only [okTs] at hok
    simp only [puresB, Bool.and_eq_true] at h
    have h1 := pure_fold k hok.1 h.1
    have h2 := pures_fold ks hok.2 h.2
    simp only [valsOk, foldTs, List.map_cons, h1.2, h2.2]
    exact ⟨⟨h1.1, h2.1⟩, trivial⟩
end
mutual
theorem names_TOk {na nb nc : Nat} : ∀ (t : T), okT t → namesB na nb nc t = true → TOk na nb nc t
  | .node op x ks, hok, h => by
    obtain ⟨h1, h2⟩ := okT_node.1 hok
    rw [namesB, Bool.and_eq_true] at h
    have hn := h.1
    simp at hn
    obtain ⟨h3, h4, h5⟩ := badN_iff.1 h1
    have hc := kids_cases h3
    rw [TOk]
    refine ⟨by omega, by omega, ?_, fun h => ⟨h5 (by omega), by omega⟩, fun h => ⟨h5 (by omega), by omega⟩, fun h => ⟨h5 (by omega), by omega⟩, namess_TOk ks h2 h.2⟩
    unfold kidsN
    (repeat' split) <;> omega
theorem namess_TOk {na nb nc : Nat} : ∀ (ks : List T), okTs ks → namesBs na nb nc ks = true → TsOk na nb nc ks
  | [], _, _ => by simp [TsOk]
  | k :: ks, hok, h => by
    simp only [okTs] at hok
    simp only [namesBs, Bool.and_eq_true] at h
    simp only [TsOk]
    exact ⟨names_TOk k hok.1 h.1, namess_TOk ks hok.2 h.2⟩
end

section
variable {M : List MO} {tp : List V} {lo : List Nat}
theorem eval_node (op x : Int) (ks : List T) : evalT M tp lo (.node op x ks) = (evalTs M tp lo ks).bind (opF M tp lo op x) := by rw [evalT]
theorem opF_ge {op x : Int} (h : 5 ≤ op) (l : List V) : opF M tp lo op x l = applyF M op l := by
  unfold opF
  rw [if_neg (by omega), if_neg (by omega), if_neg (by omega), if_neg (by omega)]
theorem eval_con (n : Int) : evalT M tp lo (.node 1 n []) = some ⟨0, n⟩ := by simp [evalT, evalTs, opF]
theorem apply_un' {op : Int} (h0 : 31 ≤ op) (h1 : op ≤ 36) (a : V) : applyF M op [a] = if a.obj = 0 then some ⟨0, unR op a.n⟩ else none := by
  unfold applyF
  rw [if_neg (by omega), if_pos ⟨h0, h1⟩]
  rfl
theorem apply_bin' {op : Int} (h0 : 12 ≤ op) (h1 : op ≤ 30) (a b : V) : applyF M op [a, b] = binF twoR M op a b := by
  unfold applyF
  rw [if_neg (by omega), if_neg (by omega)]
  rfl
mutual
theorem val_eval : ∀ (t : T), valOk t → evalT M tp lo t = some ⟨0, valT t⟩
  | .node op x ks, h => by
    rw [valOk] at h
    obtain ⟨hop, hks⟩ := h
    have hs := vals_eval ks hks
    rw [eval_node, hs]
    rcases hop with ⟨h1, h2⟩ | ⟨h1, h2⟩ | ⟨h1, h2⟩
    · obtain rfl := List.length_eq_zero_iff.1 h2
      subst h1
      simp [valsT, valT, opF]
    · obtain ⟨a, b, rfl⟩ := two_of' h2
      simp only [valsT, valT, List.map_cons, List.map_nil, Option.bind_some]
      rw [opF_ge (by omega), apply_bin' h1.1 h1.2]
      simp [binF]
    · obtain ⟨a, rfl⟩ := one_of' h2
      simp only [valsT, valT, List.map_cons, List.map_nil, Option.bind_some]
      rw [opF_ge (by omega), apply_un' h1.1 h1.2]
      simp
theorem vals_eval : ∀ (ks : List T), valsOk ks → evalTs M tp lo ks = some ((valsT ks).map fun n => ⟨0, n⟩)
  | [], _ => by simp [evalTs, valsT]
  | k :: ks, h => by
    simp only [valsOk] at h
    rw [evalTs, val_eval k h.1, vals_eval ks h.2]
    simp [valsT]
end
theorem moved_zero {a v : V} (h : movedF M a 0 = some v) : v = a := by
  unfold movedF at h
  split at h
  · injection h with h; rw [← h, Int.add_zero]
  · cases h
theorem wrap_zero {n : Int} (h : In64 n) : wrap64 n = n := by unfold In64 at h; unfold wrap64; omega
theorem bin_right {op : Int} {a v : V} (hop : op = 12 ∨ op = 13) (ha : In64 a.n) (h : binF twoR M op a ⟨0, 0⟩ = some v) : v = a := by
  obtain ⟨ao, an⟩ := a
  simp only at ha
  unfold binF at h
  rcases hop with rfl | rfl
  · by_cases h0 : ao = 0
    · subst h0
      simp [twoR] at h
      rw [← h, wrap_zero ha]
    · simp [h0] at h
      exact moved_zero h
  · by_cases h0 : ao = 0
    · subst h0
      simp [twoR] at h
      rw [← h, wrap_zero ha]
    · simp [h0] at h
      exact moved_zero h
theorem bin_left {b v : V} (hb : In64 b.n) (h : binF twoR M 12 ⟨0, 0⟩ b = some v) : v = b := by
  obtain ⟨bo, bn⟩ := b
  simp only at hb
  unfold binF at h
  by_cases h0 : bo = 0
  · subst h0
    simp [twoR] at h
    rw [← h, wrap_zero hb]
  · simp [h0] at h
    exact moved_zero h
theorem evalTs_one {a : T} {l : List V} (h : evalTs M tp lo [a] = some l) : ∃ v, l = [v] ∧ evalT M tp lo a = some v := by
  simp only [evalTs] at h
  cases hv : evalT M tp lo a with
  | none => rw [hv] at h; simp at h
  | some v => rw [hv] at h; simp at h; exact ⟨v, h.symm, rfl⟩
theorem evalTs_two {a b : T} {l : List V} (h : evalTs M tp lo [a, b] = some l) : ∃ u v, l = [u, v] ∧ evalT M tp lo a = some u ∧ evalT M tp lo b = some v := by
  simp only [evalTs] at h
  cases hu : evalT M tp lo a with
  | none => rw [hu] at h; simp at h
  | some u =>
    cases hv : evalT M tp lo b with
    | none => rw [hu, hv] at h; simp at h
    | some v => rw [hu, hv] at h; simp at h; exact ⟨u, v, h.symm, rfl, rfl⟩
theorem con_eval {t : T} (h : okT t) (h1 : t.op = 1) : evalT M tp lo t = some ⟨0, t.n⟩ := by
  have hk := okT_con h h1
  obtain ⟨op, x, ks⟩ := t
  simp only [T.op] at h1
  simp only [T.kids] at hk
  subst h1 hk
  exact eval_con x

variable {ng : Nat}
mutual
/-- A folded tree comes to the same, wherever the tree came to something. -/
theorem fold_eval (hM : MemOk M) (hF : FrOk M tp lo ng) : ∀ (t : T) {v : V}, okT t → TIn t → TOk tp.length lo.length ng t → evalT M tp lo t = some v → evalT M tp lo (foldT t) = some v
  | .node op x ks, v, hok, hin, htk, hv => by
    obtain ⟨h1, h2⟩ := okT_node.1 hok
    simp only [TIn] at hin
    have htk' := htk
    rw [TOk] at htk
    obtain ⟨ht0, ht1, ht2, _, _, _, ht3⟩ := htk
    rw [eval_node] at hv
    cases hl : evalTs M tp lo ks with
    | none => rw [hl] at hv; simp at hv
    | some l =>
      rw [hl] at hv
      simp only [Option.bind_some] at hv
      have hfs := folds_eval hM hF ks h2 hin.2 ht3 hl
      have hol := evals_ok hM hF ks hin.2 ht3 hl
      have hc := kids_cases (badN_iff.1 h1).1
      rw [foldT]
      by_cases hlf : 1 ≤ op ∧ op ≤ 4
      · rw [if_pos hlf]
        have hnil : ks = [] := List.length_eq_zero_iff.1 (by omega)
        subst hnil
        rw [eval_node, hl]
        exact hv
      · rw [if_neg hlf]
        have h5 : 5 ≤ op := by omega
        rw [opF_ge h5] at hv
        have hnode : evalT M tp lo (.node op 0 (foldTs ks)) = some v := by rw [eval_node, hfs]; simp only [Option.bind_some]; rw [opF_ge h5]; exact hv
        have hfo := folds_ok ks h2
        refine small_cases op (foldTs ks) (fun u => evalT M tp lo u = some v) (fun hld hall => ?_) (fun a ha hag => ?_) (fun a b ha hag => ?_) (fun a b ha hop hag => ?_) hnode
        · have hvo := plain_valOk h1 hlf hld hfo (foldTs_length ks) hall
          have h6 := val_eval (M := M) (tp := tp) (lo := lo) _ hvo
          rw [hnode] at h6
          rw [eval_con]
          exact h6.symm
        · rw [ha] at hfs hfo
          simp only [okTs] at hfo
          obtain ⟨va, rfl, hva⟩ := evalTs_one hfs
          simp only [againB, Bool.and_eq_true, decide_eq_true_eq] at hag
          rw [apply_un' hag.1.1 hag.1.2] at hv
          split at hv
          · rename_i ho
            injection hv with hv
            rw [hva, ← hv]
            obtain ⟨aop, ax, aks⟩ := a
            simp only [T.op] at hag
            rw [eval_node] at hva
            cases hla : evalTs M tp lo aks with
            | none => rw [hla] at hva; simp at hva
            | some la =>
              rw [hla] at hva
              simp only [Option.bind_some] at hva
              rw [opF_ge (by omega)] at hva
              have hac := kids_cases (badN_iff.1 (okT_node.1 hfo.1).1).1
              have hal : la.length = 1 := by rw [evalTs_length hla]; omega
              obtain ⟨z, rfl⟩ := one_of' hal
              rw [apply_un' (by omega) (by omega)] at hva
              split at hva
              · injection hva with hva
                rw [← hva, hag.2]
                simp only
                rw [unR_twice]
              · cases hva
          · cases hv
        · rw [ha] at hfs hfo
          simp only [okTs] at hfo
          obtain ⟨va, vb, rfl, hva, hvb⟩ := evalTs_two hfs
          have hkl : ks.length = 2 := by have := foldTs_length ks; rw [ha] at this; simpa using this.symm
          have hop : 12 ≤ op ∧ op ≤ 30 := by omega
          rcases hag with hag | hag
          · simp only [neutralB, isT, Bool.and_eq_true, decide_eq_true_eq] at hag
            have hb0 := con_eval (M := M) (tp := tp) (lo := lo) hfo.2.1 hag.2.1
            rw [hvb, hag.2.2] at hb0
            injection hb0 with hb0
            subst hb0
            rw [apply_bin' hop.1 hop.2] at hv
            rw [hva, bin_right hag.1 (hol va (by simp)).2.2 hv]
          · simp only [againB, Bool.and_eq_true, decide_eq_true_eq] at hag
            omega
        · rw [ha] at hfs hfo
          simp only [okTs] at hfo
          obtain ⟨va, vb, rfl, hva, hvb⟩ := evalTs_two hfs
          simp only [isT, decide_eq_true_eq] at hag
          have ha0 := con_eval (M := M) (tp := tp) (lo := lo) hfo.1 hag.1
          rw [hva, hag.2] at ha0
          injection ha0 with ha0
          subst ha0
          subst hop
          rw [apply_bin' (by omega) (by omega)] at hv
          rw [hvb, bin_left (hol vb (by simp)).2.2 hv]
theorem folds_eval (hM : MemOk M) (hF : FrOk M tp lo ng) : ∀ (ks : List T) {l : List V}, okTs ks → TsIn ks → TsOk tp.length lo.length ng ks → evalTs M tp lo ks = some l → evalTs M tp lo (foldTs ks) = some l
  | [], l, _, _, _, h => by simpa [foldTs] using h
  | k :: ks, l, hok, hin, htk, h => by
    simp only [okTs] at hok
    simp only [TsIn] at hin
    simp only [TsOk] at htk
    simp only [evalTs] at h
    simp only [foldTs, evalTs]
    cases hv : evalT M tp lo k with
    | none => rw [hv] at h; simp at h
    | some v =>
      rw [hv] at h
      cases hl : evalTs M tp lo ks with
      | none => rw [hl] at h; simp at h
      | some l' =>
        rw [hl] at h
        rw [fold_eval hM hF k hok.1 hin.1 htk.1 hv, folds_eval hM hF ks hok.2 hin.2 htk.2 hl]
        exact h
end
end
end Go.Proofs.Ytjkgpolikpochaa
