/- The graph's heap: an object is made. Conditions: as stated. -/
import Derived.Test.YtinmgbodgecoeaaQ05Zz
import Derived.Test.YtinmgbodgecoeaaMakeZz
set_option linter.unusedVariables false
set_option linter.unusedSimpArgs false
namespace Go.Proofs.Ytinmgbodgecoeaa
open Go.RowKit
attribute [local go_sem ↓] Go.wp_at_zero Go.wp_at_succ

theorem gobj_info : (Try.prog.info? 88).map (fun i => (i.zero, i.size, i.bytes)) = some (some (.agg #[.int .i64 0, .slice none 0 0, .bool false]), 3, 40) := by kernel_rfl

/-- The memory with an object more. -/
theorem GMemW.push {w w' : World} {base : Nat} {own own' : Nat → Prop} {memv memv' : Value} {rb : Nat → Nat} {M : List MO} {o : MO} {ob : Nat} {xs : List Value} (h : GMemW w base own memv rb M) (hpos : 0 < M.length) (ho : o.live = true)
    (hxs : ∀ k x, M.tail[k]? = some x → GObjIn xs rb k x) (hlen : xs.length = M.tail.length * 3)
    (hown : w'.ownsRow base 88 3 memv' (M.tail.length + 1) (xs ++ [.int .i64 o.size, .slice (some ⟨ob, 0, none⟩) o.l.length o.l.length, .bool false]))
    (hkeep : ∀ k x, M.tail[k]? = some x → VRow w' (rb k) x.l) (hob : VRow w' ob o.l) (hnew : ∀ k, k < M.tail.length → rb k ≠ ob) (h1 : ∀ k, k < M.tail.length → own' (rb k)) (h2 : own' ob) (hok : MemOk (M ++ [o])) (hnum : NumOk (M ++ [o])) :
    GMemW w' base own' memv' (fun k => if k = M.tail.length then ob else rb k) (M ++ [o]) := by
  have htail : (M ++ [o]).tail = M.tail ++ [o] := by cases M with | nil => simp at hpos | cons a l => rfl
  have hget : ∀ k x, (M.tail ++ [o])[k]? = some x → (k < M.tail.length ∧ M.tail[k]? = some x) ∨ (k = M.tail.length ∧ x = o) := by
    intro k x hx
    rcases Nat.lt_or_ge k M.tail.length with h | h
    · rw [List.getElem?_append_left h] at hx
      exact Or.inl ⟨h, hx⟩
    · rw [List.getElem?_append_right h] at hx
      rcases Nat.lt_or_ge (k - M.tail.length) 1 with h' | h'
      · rw [show k - M.tail.length = 0 by omega] at hx
        simp at hx
        exact Or.inr ⟨by omega, hx.symm⟩
      · rw [List.getElem?_eq_none (by simpa using h')] at hx; cases hx
  refine ⟨⟨_, by rw [htail, List.length_append]; exact hown, fun k x hx => ?_⟩, fun k x hx => ?_, fun i j hi hj he => ?_, hok, hnum⟩
  · rw [htail] at hx
    rcases hget k x hx with ⟨hlt, hx⟩ | ⟨rfl, rfl⟩
    · obtain ⟨a, b, c⟩ := hxs k x hx
      unfold GObjIn
      rw [List.getElem?_append_left (by omega), List.getElem?_append_left (by omega), List.getElem?_append_left (by omega)]
      simp only [if_neg (show ¬ k = M.tail.length by omega)]
      exact ⟨a, b, c⟩
    · unfold GObjIn
      rw [List.getElem?_append_right (by omega), List.getElem?_append_right (by omega), List.getElem?_append_right (by omega), hlen]
      simp only [if_true, ho]
      rw [show M.tail.length * 3 - M.tail.length * 3 = 0 by omega, show M.tail.length * 3 + 1 - M.tail.length * 3 = 1 by omega, show M.tail.length * 3 + 2 - M.tail.length * 3 = 2 by omega]
      exact ⟨rfl, rfl, rfl⟩
  · rw [htail] at hx
    rcases hget k x hx with ⟨hlt, hx⟩ | ⟨rfl, rfl⟩
    · rw [if_neg (by omega : ¬ k = M.tail.length)]
      exact ⟨h1 _ hlt, hkeep k x hx⟩
    · rw [if_pos rfl]
      exact ⟨h2, hob⟩
  · rw [htail, List.length_append, List.length_singleton] at hi hj
    by_cases ei : i = M.tail.length <;> by_cases ej : j = M.tail.length
    · omega
    · rw [if_pos ei, if_neg ej] at he
      exact absurd he.symm (hnew j (by omega))
    · rw [if_neg ei, if_pos ej] at he
      exact absurd he (hnew i (by omega))
    · rw [if_neg ei, if_neg ej] at he
      exact h.inj i j (by omega) (by omega) he

/-- What a call that makes an object answers. -/
def GMakeSays (base : Nat) (own : Nat → Prop) (hb : Nat) (M : List MO) (o : ObS) (w : World) (e : Ending) (w' : World) : Prop :=
  e = .returned (.agg #[.int .i64 (M.length : Nat), .int .i64 0]) ∧ ∃ (own' : Nat → Prop) (memv' : Value) (rb' : Nat → Nat), (∀ k, own k → own' k) ∧ (∀ k, own' k → own k ∨ w.heap.size ≤ k) ∧ (∀ k, own' k → k < w'.heap.size) ∧
    HeapAt w' base own' hb memv' rb' (makeF M o) ∧ Wr (fun k => (own k ∧ ∃ cs, Row w k cs 88) ∨ k = hb) w w'

theorem gmake_end {w wr w2 : World} {base hb ob ct sz gg cap2 cap3 q : Nat} {own : Nat → Prop} {M : List MO} {o : ObS} {rb : Nat → Nat} {A2 : Option Addr} {xs : List Value} {X : Obj} {v0 v1 : Value}
    (hq0 : q = M.tail.length) (hsz : o.size = 1 ∨ o.size = 2 ∨ o.size = 4 ∨ o.size = 8) (hin : ∀ x, x ∈ o.init → In64 x) (hc : o.count.toNat ≤ 64) (hpos : 0 < M.length) (hmany : M.length + 1 ≤ 1000000000) (hsz' : o.size = sz) (hct : o.count = ct)
    (hM : GMemW w base own (.slice A2 q cap2) rb M) (hmo : ∀ g, (Value.slice A2 q cap2).ownBlock = some g → own g) (hR : Row w hb #[.slice A2 q cap2] 48)
    (hob : w.heap.size + 1 < ob) (hwr : Wr (fun _ => False) w wr) (hV : VRow wr ob (fillF o))
    (hx : wr.ownsRow base 88 3 (.slice A2 q cap2) q xs) (hox : ∀ k x, M.tail[k]? = some x → GObjIn xs rb k x)
    (hg : (wr.alloc X).drew.grownBy w2 (Value.slice A2 q cap2).ownBlock) (hown2 : w2.ownsRow base 88 3 (.slice (some ⟨gg, 0, none⟩) (q + 1) cap3) (q + 1) (xs ++ [.int .i64 sz, .slice (some ⟨ob, 0, none⟩) ct ct, .bool false]))
    (hat : (Value.slice A2 q cap2).ownBlock = some gg ∨ gg = wr.heap.size + 1) (hlt2 : gg < w2.heap.size) (hq : Row w2 hb #[.slice A2 q cap2] 48) (hbs : base ≤ w.heap.size) (hown : ∀ k, own k → base ≤ k ∧ k < w.heap.size) :
    GMakeSays base own hb M o w (.returned (.agg #[.int .i64 (M.length : Nat), .int .i64 0])) (((w2.setCell ⟨hb, 0, none⟩ (.slice (some ⟨gg, 0, none⟩) (q + 1) cap3)).setCell ⟨w.heap.size + 1, 0, none⟩ v0).setCell ⟨w.heap.size + 1, 1, none⟩ v1) := by
  subst hq0
  have hbl := hR.lt
  obtain ⟨cv, hVr, hVi⟩ := id hV
  have hol := hVr.lt
  have hz2 := hg.size
  have hz1 := hwr.size
  simp only [World.size_drew, World.size_alloc] at hz2
  have W1 : Wr (fun _ => False) w (wr.alloc X).drew := hwr.trans (Wr.of_below (F := fun _ => False) (below1 wr X).drew) (fun _ h => h.elim)
  have W1b : Wr (fun _ => False) wr (wr.alloc X).drew := Wr.of_below (F := fun _ => False) (below1 wr X).drew
  have W2 : Wr (fun k => (Value.slice A2 M.tail.length cap2).ownBlock = some k) (wr.alloc X).drew w2 := Wr.grown hg (fun k hk => hk)
  have W3 := Wr.cell1 w2 hb 0 (.slice (some ⟨gg, 0, none⟩) (M.tail.length + 1) cap3)
  have W4 := wr_pair (w2.setCell ⟨hb, 0, none⟩ (.slice (some ⟨gg, 0, none⟩) (M.tail.length + 1) cap3)) (w.heap.size + 1) 0 1 v0 v1
  have all : ∀ a : World, Wr (fun _ => False) a (wr.alloc X).drew → Wr (fun k => (Value.slice A2 M.tail.length cap2).ownBlock = some k ∨ k = hb ∨ k = w.heap.size + 1) a (((w2.setCell ⟨hb, 0, none⟩ (.slice (some ⟨gg, 0, none⟩) (M.tail.length + 1) cap3)).setCell ⟨w.heap.size + 1, 0, none⟩ v0).setCell ⟨w.heap.size + 1, 1, none⟩ v1) := fun a h =>
    (((h.mono (fun _ h => h.elim)).trans W2 (fun i h => Or.inl (Or.inl h))).trans W3 (fun i h => Or.inl (Or.inr (Or.inl h)))).trans W4 (fun i h => Or.inl (Or.inr (Or.inr h)))
  have Wa := all w W1
  have Wb := all wr W1b
  obtain ⟨⟨xs0, hx0, _⟩, hmine, _, hok, hnum⟩ := id hM
  have hrow : ∀ g, (Value.slice A2 M.tail.length cap2).ownBlock = some g → ∃ cs', Row w g cs' 88 := fun g h => (ownsRow_row hx0 h).2
  have hrow' : ∀ g, (Value.slice A2 M.tail.length cap2).ownBlock = some g → ∃ cs', Row wr g cs' 88 := fun g h => (ownsRow_row hx h).2
  have hbm : memBase M = M := memBase_of hpos
  have hmk : makeF M o = M ++ [⟨o.size, fillF o, true⟩] := by rw [makeF_eq, hbm]
  have hMok : MemOk (M ++ [⟨o.size, fillF o, true⟩]) := hmk ▸ makeF_ok hok o hsz hc hin (by rw [hbm]; omega)
  have hMnum : NumOk (M ++ [⟨o.size, fillF o, true⟩]) := hmk ▸ hnum.make o
  have hfl : (fillF o).length = ct := by simp [fillF, hct]
  have hgg : gg < w.heap.size ∨ w.heap.size + 1 < gg := by
    rcases hat with h | h
    · obtain ⟨cs', hr⟩ := hrow gg h; exact Or.inl hr.lt
    · exact Or.inr (by omega)
  have hggh : gg ≠ hb := fun e => by
    obtain ⟨_, cs', hr⟩ := ownsRow_row hown2 (g := gg) rfl
    exact hr.ne hq (by decide) e
  refine ⟨rfl, fun k => own k ∨ k = ob ∨ k = gg, .slice (some ⟨gg, 0, none⟩) (M.tail.length + 1) cap3, fun k => if k = M.tail.length then ob else rb k, fun k hk => Or.inl hk, fun k hk => ?_, fun k hk => ?_, ⟨?_, ?_, fun g h => ?_⟩, ?_⟩
  · rcases hk with hk | rfl | rfl
    · exact Or.inl hk
    · exact Or.inr (by omega)
    · rcases hat with h | h
      · exact Or.inl (hmo _ h)
      · exact Or.inr (by omega)
  · simp only [World.size_setCell]
    rcases hk with hk | rfl | rfl
    · have := (hown k hk).2; omega
    · omega
    · exact hlt2
  · have h1 := hq.set 0 (.slice (some ⟨gg, 0, none⟩) (M.tail.length + 1) cap3)
    exact h1.wr W4 (by omega)
  · rw [hmk]
    refine GMemW.push (o := ⟨o.size, fillF o, true⟩) hM hpos rfl hox hx.1 ?_ (fun k x hx' => ?_) ?_ (fun k hk => ?_) (fun k hk => Or.inl (hM.get hk).1) (Or.inr (Or.inl rfl)) hMok hMnum
    · simp only [hfl, hsz']
      refine ownsRow_wr (ownsRow_wr hown2 W3 (fun g h => ?_)) W4 (fun g h => ?_)
      · simp only [Value.ownBlock, Option.some.injEq] at h; subst h; exact hggh
      · simp only [Value.ownBlock, Option.some.injEq] at h; subst h; omega
    · obtain ⟨_, cs', hr, hv⟩ := hmine k x hx'
      refine ⟨cs', hr.wr Wa (fun h => ?_), hv⟩
      rcases h with h | h | h
      · obtain ⟨cs2, hr2⟩ := hrow _ h
        exact hr.ne hr2 (by decide) rfl
      · exact hr.ne hR (by decide) h
      · have := hr.lt; omega
    · refine ⟨cv, hVr.wr Wb (fun h => ?_), hVi⟩
      rcases h with h | h | h
      · obtain ⟨cs2, hr2⟩ := hrow' _ h
        exact hVr.ne hr2 (by decide) rfl
      · omega
      · omega
    · obtain ⟨_, cs', hr⟩ := hM.get hk
      have := hr.lt
      omega
  · simp only [Value.ownBlock, Option.some.injEq] at h
    exact Or.inr (Or.inr h.symm)
  · refine Wa.mono (fun i hi => ?_)
    rcases hi with hi | hi | hi
    · exact Or.inl (Or.inl ⟨hmo i hi, hrow i hi⟩)
    · exact Or.inl (Or.inr hi)
    · exact Or.inr (by omega)

set_option maxRecDepth 100000 in
set_option maxHeartbeats 8000000 in
theorem gmake_any (hb base : Nat) (own : Nat → Prop) (memv : Value) (rb : Nat → Nat) (M : List MO) (o : ObS) (v : Value) (w : World)
    (hH : HeapAt w base own hb memv rb M) (hown : ∀ k, own k → base ≤ k ∧ k < w.heap.size) (hbs : base ≤ w.heap.size) (hpos : 0 < M.length) (ho : ObOk o) (hl : LongsAt w base o.init v) (hmany : M.length + 1 ≤ 1000000000) :
    Calls Try.prog 22 #[.pointer (some ⟨hb, 0, none⟩), .agg #[.int .i64 o.size, .int .i64 o.count, v]] w fun e w' => GMakeSays base own hb M o w e w' := by
  obtain ⟨hR, hM, hmo⟩ := hH
  obtain ⟨hsz, hc1, hc2, hc3⟩ := ho
  obtain ⟨ct, hct⟩ := Int.eq_ofNat_of_zero_le (show 0 ≤ o.count by omega)
  have hin := hl.in64
  obtain ⟨A, cap, rfl, _, _⟩ := id hl
  have hln := hl.len
  obtain ⟨sz, hsz', hsz0⟩ : ∃ sz : Nat, o.size = sz ∧ (sz = 1 ∨ sz = 2 ∨ sz = 4 ∨ sz = 8) := (by rcases hsz with h | h | h | h; exact ⟨1, h, by omega⟩; exact ⟨2, h, by omega⟩; exact ⟨4, h, by omega⟩; exact ⟨8, h, by omega⟩)
  rw [hct, hsz']
  obtain ⟨n, hn⟩ : ∃ n, n = o.init.length := ⟨_, rfl⟩
  rw [← hn] at hl ⊢ hln
  have hct1 : 1 ≤ ct := by omega
  have hct2 : ct ≤ 64 := by omega
  have hnct : n ≤ ct := by omega
  have hpl := hR.lt
  obtain ⟨xs, hx, hox⟩ := hM.row
  obtain ⟨q, hq0⟩ : ∃ q, q = M.tail.length := ⟨_, rfl⟩
  rw [← hq0] at hx
  have HQ0 := Lib.hid hq0
  obtain ⟨A1, cap1, hmv⟩ : ∃ A1 cap1, memv = .slice A1 q cap1 := (by obtain ⟨_, h | ⟨g, c, cur, h, _⟩⟩ := id hx; exact ⟨none, 0, by rw [h.1, h.2]⟩; exact ⟨_, _, h⟩)
  subst hmv
  have hrow0 : ∀ g, (Value.slice A1 q cap1).ownBlock = some g → ∃ cs', Row w g cs' 88 := fun g h => (ownsRow_row hx h).2
  have HR := Lib.hid hR
  have HO := Lib.hid hown
  have HMO := Lib.hid hmo
  have HL := Lib.hid hl
  have HLN := Lib.hid hn
  have HSZ := Lib.hid hsz
  have HIN := Lib.hid hin
  have HM := Lib.hid hM
  have HCT := Lib.hid hct
  have HSZ' := Lib.hid hsz'
  have HHX := Lib.hid hx
  have HOX := Lib.hid hox
  have HROW := Lib.hid hrow0
  have HMANY := Lib.hid hmany
  have hmn : q ≤ 1000000000 := by rw [hq0, List.length_tail]; omega
  have hml : M.length = q + 1 := by rw [hq0, List.length_tail]; omega
  have HML := Lib.hid hml
  have HPOS := Lib.hid hpos
  obtain ⟨Z, hZ, hmk⟩ := make_vals ct (by omega)
  have HZ := Lib.hid hZ
  clear hq0 hR hM hmo hown hx hox hct hl hln hsz hin hsz' hrow0 hn hc1 hc2 hc3 hZ hpos hml hmany
  go_enter Try.func22, Try.ntmps22
  go_wp2_with fail
  go_loopw [14] (fun i wr => ∃ k : Nat, k ≤ n ∧ i = .int .i64 k ∧ VRow wr (w.heap.size + 1 + 1) (fillK o k) ∧ Row wr w.heap.size #[.int .i64 sz, .int .i64 ct, .slice A n cap] 75 ∧ Row wr (w.heap.size + 1) #[.int .i64 0, .int .i64 0] 60 ∧ Wr (fun _ => False) w wr) (fun i _ => n - (intOf i).toNat)
  case atStart =>
    exact ⟨0, by omega, rfl, ⟨Z, Row.new' _ _ (by simp), by rw [fillK_zero, HCT.out, Int.toNat_natCast]; exact HZ.out⟩, ((Row.new _ _ _).alloc _).alloc _, (Row.new' _ _ (by simp)).alloc _, Wr.of_below (below3 _ _ _ _)⟩
  case round =>
    obtain ⟨k, hk, rfl, hVk, hbx, hrx, hwr⟩ := hrel
    have hB' : Below base w wr := hwr.below hbs (fun k hk => hk.elim)
    have c0 : wr.cell? ⟨w.heap.size, 0, none⟩ = some (.int .i64 sz) := hbx.cell (j := 0) rfl
    have hzw := hwr.size
    have HWR := Lib.hid hwr
    have HBX := Lib.hid hbx
    have HRX := Lib.hid hrx
    have hlb := hbx.lt
    have hlr := hrx.lt
    by_cases hlt : k < n
    · obtain ⟨b, off, y, rfl, hb, hy, hy0, hyi⟩ := (HL.out.below hB' (Nat.le_refl _)).get hlt
      simp only [Nat.mul_one, Nat.add_zero] at hy0
      have hg := fillK_get o k (by rw [HCT.out]; simp; omega)
      obtain ⟨cv, hvr, hvi⟩ := hVk
      have e1 := hvr.cell (hvi.2 k _ hg).2
      have e2 := hvr.free (k * 2 + 1)
      have HVK := Lib.hid (show VRow wr (w.heap.size + 1 + 1) (fillK o k) from ⟨cv, hvr, hvi⟩)
      have HY := Lib.hid hy
      have HG := Lib.hid hg
      have hk0 : (0 : Int) ≤ (k : Int) := by omega
      have hk1 : (k : Int) < (n : Int) := by omega
      have hk2 : (k : Int) < (ct : Int) := by omega
      have hbl : b < wr.heap.size := by have := hB'.size; omega
      have HU := Lib.hid (fun W => cutg_any sz y W hsz0 hyi)
      clear hvr hvi hy hg hwr hbx hrx hB' hyi
      go_wp2_with fail
      refine (HU.out _).mono ?_
      rintro e w3 ⟨rfl, rfl⟩
      go_wp2_with fail
      go_roundw
      case rel =>
        refine ⟨k + 1, by omega, by go_num, ?_, ?_, ?_, ?_⟩
        · have h1 := HVK.out.setN k ⟨0, 0⟩ (storedF sz y) HG.out
          have h2 := fillK_succ o k (by rw [HCT.out]; simp; omega)
          rw [HSZ'.out, Int.toNat_natCast, List.getD_eq_getElem?_getD, HY.out] at h2
          rw [← h2]
          exact h1
        · exact HBX.out.other (by omega) _ _
        · exact HRX.out.other (by omega) _ _
        · exact HWR.out.setR _ _ _ (Or.inr (by omega))
      case measure => simp [intOf]; omega
    · obtain rfl : k = n := by omega
      obtain ⟨i0, hi, hz0, hz1, hz2⟩ := info_parts gobj_info
      have hMr := (HM.out.wr hwr (fun _ _ h => h) (fun _ _ h => h))
      have HX := Lib.hid (ownsRow_wr HHX.out hwr (fun _ _ h => h))
      have HRR := Lib.hid (HR.out.wr hwr (fun h => h))
      have p0 : wr.cell? ⟨hb, 0, none⟩ = some (.slice A1 q cap1) := HRR.out.cell rfl
      have p1 := HRR.out.free 0
      have hpl2 := HRR.out.lt
      have HVK := Lib.hid hVk
      have hrx0 := hrx.cell (j := 0) rfl
      have hrx1 := hrx.cell (j := 1) rfl
      have hrf0 := hrx.free 0
      have hrf1 := hrx.free 1
      have hlv := (by obtain ⟨_, h, _⟩ := hVk; exact h.lt : w.heap.size + 1 + 1 < wr.heap.size)
      have HNE := Lib.hid (show ¬ (Value.slice A1 q cap1).ownBlock = some hb from fun e => by obtain ⟨cs', hr'⟩ := HROW.out _ e; exact hr'.ne HR.out (by decide) rfl)
      have HNE2 := Lib.hid (show ¬ (Value.slice A1 q cap1).ownBlock = some (w.heap.size + 1) from fun e => by obtain ⟨cs', hr'⟩ := HROW.out _ e; have := hr'.lt; omega)
      have hnb : ¬ hb = w.heap.size + 1 := by omega
      have hnb2 : ¬ w.heap.size + 1 = hb := by omega
      have hfz1 : ∀ o, (wr.alloc o).frozen? ⟨hb, 0, none⟩ = false := fun o => (HRR.out.alloc o).free 0
      have hfz2 : ∀ o, (wr.alloc o).drew.frozen? ⟨hb, 0, none⟩ = false := fun o => ((HRR.out.alloc o).drew).free 0
      clear hMr hVk hbx hrx hwr hB'
      go_wp2_with fail
      go_region_law
        ((refine step_append_lies _ (by rfl) _ _ _ (by rfl) base 88 i0 _ 3 40 Try.underlying46 hi hz0 hz1 hz2 rfl (by omega) _ _ _ (by rfl) (own_drew HX.out _)
            ⟨wr.heap.size, 0, none⟩ 1 1 [.int .i64 sz, .slice (some ⟨w.heap.size + 1 + 1, 0, none⟩) ct ct, .bool false] (by rfl) (by rfl) (row_cells _ _ _ _ rfl) (obj_one _ _ _ _ _)
            (by omega) (by unfold maxLen; omega) (by omega) (by simp; omega) (wr.heap.size + 1) (by simp) ?_; intro gg cap3 w2 hown2 hgrow hat hlt2; have hq := ((HRR.out.alloc (.cells #[.int .i64 sz, .slice (some ⟨w.heap.size + 1 + 1, 0, none⟩) ct ct, .bool false] 88)).drew).wr (Wr.grown (F := fun k => (Value.slice A1 q cap1).ownBlock = some k) hgrow (fun k hk => hk)) HNE.out; have hq1 : w2.cell? ⟨hb, 0, none⟩ = some (.slice A1 q cap1) := hq.cell rfl; have hq2 := hq.free 0; have hx2 := ((HRX.out.alloc (.cells #[.int .i64 sz, .slice (some ⟨w.heap.size + 1 + 1, 0, none⟩) ct ct, .bool false] 88)).drew).wr (Wr.grown (F := fun k => (Value.slice A1 q cap1).ownBlock = some k) hgrow (fun k hk => hk)) HNE2.out; have x0 := hx2.cell (j := 0) rfl; have x1 := hx2.cell (j := 1) rfl; have x2 := hx2.free 0; have x3 := hx2.free 1; have x4 := hx2.lt; have x5 := hq.lt; have HQ2 := Lib.hid hq; have HGW := Lib.hid hgrow; have HOW2 := Lib.hid hown2; have HAT := Lib.hid hat; clear hq hx2 hgrow hown2 hat))
      all_goals go_wp2_with fail
      all_goals
        have e : ((M.length : Nat) : Int) = (q : Int) + 1 := by rw [HML.out]; simp
        refine bodyPost_ret (v := .agg #[.int .i64 (M.length : Nat), .int .i64 0]) (by simp [results, Try.results22, go_sem, e, x0, x1, hnb, hnb2, x4]) rfl ?_
        exact gmake_end HQ0.out HSZ.out HIN.out (by rw [HCT.out]; simpa using hct2) HPOS.out HMANY.out HSZ'.out HCT.out HM.out HMO.out HR.out (by omega) HWR.out (by rw [← fillK_all o, ← HLN.out]; exact HVK.out) HX.out HOX.out HGW.out HOW2.out HAT.out hlt2 HQ2.out hbs HO.out
end Go.Proofs.Ytinmgbodgecoeaa
