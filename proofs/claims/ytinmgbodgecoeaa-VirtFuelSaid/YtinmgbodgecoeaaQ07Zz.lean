/- The graph's heap: an op of two. Conditions: as stated. A tree's value in the graph's machine: how the machine is read; leaves. Conditions: as stated. A tree's value in the graph's machine: nodes. Conditions: as stated. A tree's value in the graph's machine: nodes of two kids. Conditions: as stated. A tree's value in the graph's machine is the page's. Conditions: as stated. The graph's heap: objects are made, one by one. Conditions: as stated. The graph's heap: objects are no more. Conditions: as stated. The graph's machine: how a run and a frame lie; trees' values, gathered. Conditions: as stated. Virtual code that may be, may be run (plain). Conditions: as stated. virt's frame and run: how they lie. No program in sight but its name. No condition. virt: Labels; the region in which a run keeps a function's labels. Conditions: as stated. Regions that draw their order: one box made and written, or an old box written; results that own memory. No program in sight. No condition. What an instruction reckons (plain). No program in sight. No condition. -/
import Derived.Test.YtinmgbodgecoeaaGBinZz
import Derived.Test.YtinmgbodgecoeaaQ02Zz
import Derived.Test.YtinmgbodgecoeaaGPutZz
import Derived.Test.YtinmgbodgecoeaaQ03Zz
import Derived.Test.YtinmgbodgecoeaaVLayZz
set_option linter.unusedVariables false
set_option linter.unusedSimpArgs false
namespace Go.Proofs.Ytinmgbodgecoeaa
open Go.RowKit

theorem gtwo_any (hb n cap B : Nat) (op : Int) (a b : V) (A : Option Addr) (M : List MO) (w : World) (hB : B ≤ w.heap.size) (hpb : hb < w.heap.size) (hc : w.cell? ⟨hb, 0, none⟩ = some (.slice A n cap)) (hM : MemRG w B A n M) (hka : a.obj ≠ 0 → a.obj < M.length ∧ 0 ≤ a.n ∧ a.n ≤ 512) (hkb : b.obj ≠ 0 → b.obj < M.length ∧ 0 ≤ b.n ∧ b.n ≤ 512) (hib : In64 b.n) (h0 : 12 ≤ op) (h1 : op ≤ 30) :
    Calls Try.prog 48 #[.pointer (some ⟨hb, 0, none⟩), .int .i64 op, .agg #[.int .i64 a.obj, .int .i64 a.n], .agg #[.int .i64 b.obj, .int .i64 b.n]] w fun e w' => AnsV (binF twoR M op a b) e ∧ Below w.heap.size w w' := by
  have no : ∀ {x : Int} {w' : World} {e : Ending}, e = .returned (.tuple #[.agg #[.int .i64 0, .int .i64 x], .bool false]) ∧ Below w.heap.size w w' → AnsV none e ∧ Below w.heap.size w w' := fun h => ⟨⟨_, _, h.1⟩, h.2⟩
  have yes : ∀ {x : Int} {w' : World} {e : Ending}, e = .returned (.tuple #[.agg #[.int .i64 0, .int .i64 x], .bool true]) ∧ Below w.heap.size w w' → AnsV (some ⟨0, x⟩) e ∧ Below w.heap.size w w' := fun h => ⟨by show _ = _; rw [h.1]; simp [ansV], h.2⟩
  by_cases ha : a.obj = 0
  · by_cases hz : b.obj = 0
    · have e : binF twoR M op a b = some ⟨0, twoR op a.n b.n⟩ := by unfold binF; rw [if_pos ⟨ha, hz⟩]
      rw [e]
      exact (two_nums hb n cap B op a b A M w hB hpb hc hM hka hkb h0 h1 ha hz).mono fun _ _ => yes
    · have hab : a ≠ b := fun h => hz (h ▸ ha)
      by_cases h2 : op = 12
      · have e : binF twoR M op a b = movedF M b a.n := by unfold binF; rw [if_neg (fun h => hz h.2), if_pos ⟨h2, ha⟩]
        rw [e]
        exact two_add_r hb n cap B op a b A M w hB hpb hc hM hka hkb h0 h1 ha hz h2
      · by_cases h3 : op = 25 ∨ op = 26
        · by_cases hn : a.n = 0
          · have e : binF twoR M op a b = some ⟨0, op - 25⟩ := by
              unfold binF
              rw [if_neg (fun h => hz h.2), if_neg (fun h => h2 h.1), if_neg (fun h => h2 h.1), if_neg (fun h => hz h.2), if_pos h3, if_neg (fun h => by rcases h with h | h; exact h.2 hn; exact hz h.1), if_neg (fun h => by omega), if_neg hab]
              rcases h3 with rfl | rfl
              · rw [eq_25]; rfl
              · rw [ne_26]; rfl
            rw [e]
            have hn' : (a.n == 0) = true := by simpa using hn
            rcases h3 with h3 | h3
            · subst h3
              exact (two_eq_r25_yes hb n cap B 25 a b A M w hB hpb hc hM hka hkb h0 h1 ha hz rfl hn').mono fun _ _ => yes
            · subst h3
              exact (two_eq_r26_yes hb n cap B 26 a b A M w hB hpb hc hM hka hkb h0 h1 ha hz rfl hn').mono fun _ _ => yes
          · have e : binF twoR M op a b = none := by
              unfold binF
              rw [if_neg (fun h => hz h.2), if_neg (fun h => h2 h.1), if_neg (fun h => h2 h.1), if_neg (fun h => hz h.2), if_pos h3, if_pos (Or.inl ⟨ha, hn⟩)]
            rw [e]
            have hn' : (a.n == 0) = false := by simpa using hn
            rcases h3 with h3 | h3
            · subst h3
              exact (two_eq_r25_no hb n cap B 25 a b A M w hB hpb hc hM hka hkb h0 h1 ha hz rfl hn').mono fun _ _ => no
            · subst h3
              exact (two_eq_r26_no hb n cap B 26 a b A M w hB hpb hc hM hka hkb h0 h1 ha hz rfl hn').mono fun _ _ => no
        · have e : binF twoR M op a b = none := by
            unfold binF
            rw [if_neg (fun h => hz h.2), if_neg (fun h => h2 h.1), if_neg (fun h => h2 h.1), if_neg (fun h => hz h.2), if_neg h3, if_pos (Or.inl (by omega))]
          rw [e]
          by_cases h4 : op = 13
          · exact (two_no_r13 hb n cap B op a b A M w hB hpb hc hM hka hkb h0 h1 ha hz h4).mono fun _ _ => no
          · exact (two_no_r hb n cap B op a b A M w hB hpb hc hM hka hkb h0 h1 ha hz (by omega) h4).mono fun _ _ => no
  · by_cases hz : b.obj = 0
    · have hab : a ≠ b := fun h => ha (h ▸ hz)
      by_cases h2 : op = 12
      · have e : binF twoR M op a b = movedF M a b.n := by unfold binF; rw [if_neg (fun h => ha h.1), if_neg (fun h => ha h.2), if_pos ⟨h2, hz⟩]
        rw [e]
        exact two_add_l hb n cap B op a b A M w hB hpb hc hM hka hkb h0 h1 ha hz h2
      · by_cases h4 : op = 13
        · have e : binF twoR M op a b = if b.n = -9223372036854775808 then none else movedF M a (-b.n) := by unfold binF; rw [if_neg (fun h => ha h.1), if_neg (fun h => ha h.2), if_neg (fun h => h2 h.1), if_pos ⟨h4, hz⟩]
          rw [e]
          by_cases hm : b.n = -9223372036854775808
          · rw [if_pos hm]
            have hw : IntKind.i64.wrap (-b.n) = b.n := by rw [hm]; rfl
            exact (two_sub_min hb n cap B op a b A M w hB hpb hc hM hka hkb h0 h1 ha hz h4 (by rw [hm]; rfl) hw).mono fun _ _ => no
          · rw [if_neg hm]
            have hw : IntKind.i64.wrap (-b.n) = -b.n := IntWalk.i64_in _ (by unfold In64 at hib; omega)
            by_cases hn : b.n = 0
            · exact two_sub0 hb n cap B op a b A M w hB hpb hc hM hka hkb h0 h1 ha hz h4 (by simp [hn]) hw (by simp [hn])
            · exact two_sub hb n cap B op a b A M w hB hpb hc hM hka hkb h0 h1 ha hz h4 hn hw (by simp; omega)
        · by_cases h3 : op = 25 ∨ op = 26
          · by_cases hn : b.n = 0
            · have e : binF twoR M op a b = some ⟨0, op - 25⟩ := by
                unfold binF
                rw [if_neg (fun h => ha h.1), if_neg (fun h => ha h.2), if_neg (fun h => h2 h.1), if_neg (fun h => h4 h.1), if_pos h3, if_neg (fun h => by rcases h with h | h; exact ha h.1; exact h.2 hn), if_neg (fun h => by omega), if_neg hab]
                rcases h3 with rfl | rfl
                · rw [eq_25]; rfl
                · rw [ne_26]; rfl
              rw [e]
              have hn' : (b.n == 0) = true := by simpa using hn
              rcases h3 with h3 | h3
              · subst h3
                exact (two_eq_l25_yes hb n cap B 25 a b A M w hB hpb hc hM hka hkb h0 h1 ha hz rfl hn').mono fun _ _ => yes
              · subst h3
                exact (two_eq_l26_yes hb n cap B 26 a b A M w hB hpb hc hM hka hkb h0 h1 ha hz rfl hn').mono fun _ _ => yes
            · have e : binF twoR M op a b = none := by
                unfold binF
                rw [if_neg (fun h => ha h.1), if_neg (fun h => ha h.2), if_neg (fun h => h2 h.1), if_neg (fun h => h4 h.1), if_pos h3, if_pos (Or.inr ⟨hz, hn⟩)]
              rw [e]
              have hn' : (b.n == 0) = false := by simpa using hn
              rcases h3 with h3 | h3
              · subst h3
                exact (two_eq_l25_no hb n cap B 25 a b A M w hB hpb hc hM hka hkb h0 h1 ha hz rfl hn').mono fun _ _ => no
              · subst h3
                exact (two_eq_l26_no hb n cap B 26 a b A M w hB hpb hc hM hka hkb h0 h1 ha hz rfl hn').mono fun _ _ => no
          · have e : binF twoR M op a b = none := by
              unfold binF
              rw [if_neg (fun h => ha h.1), if_neg (fun h => ha h.2), if_neg (fun h => h2 h.1), if_neg (fun h => h4 h.1), if_neg h3, if_pos (Or.inl (by omega))]
            rw [e]
            exact (two_no_l hb n cap B op a b A M w hB hpb hc hM hka hkb h0 h1 ha hz (by omega) h4).mono fun _ _ => no
    · exact two_places hb n cap B op a b A M w hB hpb hc hM hka hkb h0 h1 ha hz
end Go.Proofs.Ytinmgbodgecoeaa
namespace Go.Proofs.Ytinmgbodgecoeaa
open Go.RowKit

def globV (ng : Nat) : List V := (List.range ng).map fun i => ⟨i + 1, 0⟩
def locV (lo : List Nat) : List V := lo.map fun x => ⟨x, 0⟩
/-- The machine and a frame of it, read. -/
def RunR (w : World) (B rb fb : Nat) (M : List MO) (tp : List V) (lo : List Nat) (ng : Nat) : Prop :=
  ∃ (hb n cap tc lc gc : Nat) (A TA LA GA : Option Addr), w.cell? ⟨rb, 4, none⟩ = some (.pointer (some ⟨hb, 0, none⟩)) ∧ w.cell? ⟨hb, 0, none⟩ = some (.slice A n cap) ∧ MemRG w B A n M ∧
    w.cell? ⟨rb, 5, none⟩ = some (.slice GA ng gc) ∧ RowV w B GA (globV ng) ∧ w.cell? ⟨fb, 0, none⟩ = some (.slice TA tp.length tc) ∧ RowV w B TA tp ∧ w.cell? ⟨fb, 1, none⟩ = some (.slice LA lo.length lc) ∧ RowV w B LA (locV lo) ∧ rb < B ∧ fb < B ∧ hb < B
theorem RunR.below {w w' : World} {B B' rb fb : Nat} {M : List MO} {tp : List V} {lo : List Nat} {ng : Nat} (h : RunR w B rb fb M tp lo ng) (hb : Below B w w') (hB : B ≤ B') : RunR w' B' rb fb M tp lo ng := by
  obtain ⟨hb', n, cap, tc, lc, gc, A, TA, LA, GA, h1, h2, h3, h4, h5, h6, h7, h8, h9, h10, h11, h12⟩ := h
  exact ⟨hb', n, cap, tc, lc, gc, A, TA, LA, GA, cell_below h1 hb h10, cell_below h2 hb h12, h3.below hb hB, cell_below h4 hb h10, h5.below hb hB, cell_below h6 hb h11, h7.below hb hB, cell_below h8 hb h11, h9.below hb hB, by omega, by omega, by omega⟩
theorem globV_get {ng k : Nat} (h : k < ng) : (globV ng)[k]? = some ⟨k + 1, 0⟩ := by simp [globV, h]
theorem locV_get {lo : List Nat} {k : Nat} (h : k < lo.length) : (locV lo)[k]? = some ⟨lo.getD k 0, 0⟩ := by simp [locV, h, List.getD]

end Go.Proofs.Ytinmgbodgecoeaa
namespace Go.Proofs.Ytinmgbodgecoeaa
open Go.RowKit

theorem tload_any (op : Int) (w : World) :
    Calls Try.prog 46 #[.int .i64 op] w fun e w' => e = .returned (.bool (decide (5 ≤ op ∧ op ≤ 11))) ∧ w = w' := by
  go_enter Try.func46, Try.ntmps46
  go_wp2
  all_goals go_ret
  · exact ⟨ret_b (by simp [*]), rfl⟩
  · exact ⟨ret_b (by simp; omega), rfl⟩
theorem unary_any (op : Int) (w : World) :
    Calls Try.prog 45 #[.int .i64 op] w fun e w' => e = .returned (.bool (decide (31 ≤ op ∧ op ≤ 36))) ∧ w = w' := by
  go_enter Try.func45, Try.ntmps45
  go_wp2
  all_goals go_ret
  · exact ⟨ret_b (by simp [*]), rfl⟩
  · exact ⟨ret_b (by simp; omega), rfl⟩

end Go.Proofs.Ytinmgbodgecoeaa
namespace Go.Proofs.Ytinmgbodgecoeaa
open Go.RowKit

end Go.Proofs.Ytinmgbodgecoeaa
namespace Go.Proofs.Ytinmgbodgecoeaa
open Go.RowKit

theorem TreeAt.rootG {w : World} {C : Nat → Nat → Prop} {t : T} {v0 v1 v2 : Value} (h : TreeAt w C t v0 v1 v2) : ∃ A n c, v0 = .int .i64 t.op ∧ v1 = .int .i64 t.n ∧ v2 = .slice A n c := by
  cases t with
  | node op n ks =>
    rw [TreeAt] at h
    obtain ⟨h0, h1, _, _, _, A, c, h2, _⟩ := h
    exact ⟨A, _, c, h0, h1, h2⟩
theorem geval_node (M : List MO) (tp : List V) (lo : List Nat) (op x : Int) (ks : List T) : evalT M tp lo (.node op x ks) = (evalTs M tp lo ks).bind (opF M tp lo op x) := by rw [evalT]
theorem RunR.row {w : World} {B rb fb : Nat} {M : List MO} {tp : List V} {lo : List Nat} {ng : Nat} (h : RunR w B rb fb M tp lo ng) : rb < B ∧ fb < B ∧ ∃ hb n cap A, w.cell? ⟨rb, 4, none⟩ = some (.pointer (some ⟨hb, 0, none⟩)) ∧ w.cell? ⟨hb, 0, none⟩ = some (.slice A n cap) ∧ MemRG w B A n M ∧ hb < B := by
  obtain ⟨hb', n, cap, tc, lc, gc, A, TA, LA, GA, h1, h2, h3, h4, h5, h6, h7, h8, h9, h10, h11, h12⟩ := h
  exact ⟨h10, h11, hb', n, cap, A, h1, h2, h3, h12⟩

end Go.Proofs.Ytinmgbodgecoeaa
namespace Go.Proofs.Ytinmgbodgecoeaa
open Go.RowKit
attribute [local go_sem ↓] Go.wp_at_zero Go.wp_at_succ

theorem makesF_size (M : List MO) (l : List ObS) : (memBase (makesF M l)).length = (memBase M).length + l.length := by
  rw [← makesF_base, makesF_length, memBase_twice]
  split
  · rename_i h; subst h; rfl
  · rfl
theorem flat_succ (M : List MO) (k : Nat) : flatV (locV (numsF M (k + 1))) = flatV (locV (numsF M k)) ++ [.int .i64 (((memBase M).length : Int) + (k : Int)), .int .i64 0] := by
  rw [numsF_succ]
  unfold locV
  rw [List.map_append, flatV_append]
  simp [flatV, memBase_length]

theorem make_hc {base : Nat} {own : Nat → Prop} {cb hb : Nat} {fuel : Int} {s : St} {w : World} (o : ObS) (v : Value) (h : HCs w base own cb hb fuel s) (ho : ObOk o) (hl : LongsAt w base o.init v) (hmany : (memBase s.mem).length + 1 ≤ 1000000000) :
    Calls Try.prog 22 #[.pointer (some ⟨hb, 0, none⟩), .agg #[.int .i64 o.size, .int .i64 o.count, v]] w fun e w' => e = .returned (.agg #[.int .i64 ((memBase s.mem).length : Nat), .int .i64 0]) ∧ ∃ own' : Nat → Prop, (∀ k, own k → own' k) ∧ (∀ k, own' k → own k ∨ w.heap.size ≤ k) ∧ HCs w' base own' cb hb fuel { s with mem := makeF s.mem o } ∧ Wr own w w' := by
  obtain ⟨inv, outv, memv, rb, h⟩ := h
  refine (gmake_any hb base own memv rb (memBase s.mem) o v w h.heapAt h.own h.pos (memBase_pos _) ho hl hmany).mono ?_
  rintro e w' ⟨he, own', memv', rb', h1, h2, h3, h4, h5⟩
  refine ⟨he, own', h1, h2, ⟨inv, outv, memv', rb', HC.remem (M := makeF s.mem o) h h5 (fun k hk => ?_) h1 h2 h3 ?_⟩, h5.mono (fun k hk => Or.inl ?_)⟩
  · rcases hk with ⟨hk, cs, hr⟩ | rfl
    · exact ⟨hk, cs, _, hr, Or.inr (Or.inl rfl)⟩
    · exact ⟨h.ohb, _, _, h.heap, Or.inr (Or.inr rfl)⟩
  · rw [makeF_based, ← makeF_base]
    exact h4
  · rcases hk with ⟨hk, _⟩ | rfl
    · exact hk
    · exact h.ohb

/-- What making objects answers. -/
def AllSays (base : Nat) (own : Nat → Prop) (cb hb : Nat) (fuel : Int) (s : St) (l : List ObS) (w : World) (e : Ending) (w' : World) : Prop :=
  ∃ (pv : Value) (own' : Nat → Prop), e = .returned pv ∧ (∀ k, own k → own' k) ∧ (∀ k, own' k → own k ∨ w.heap.size ≤ k) ∧ HCs w' base own' cb hb fuel { s with mem := makesF s.mem l } ∧
    w'.ownsRow w.heap.size 60 2 pv l.length (flatV (locV (numsF s.mem l.length))) ∧ (∀ g, pv.ownBlock = some g → ¬ own' g) ∧ Wr own w w'

set_option maxRecDepth 100000 in
set_option maxHeartbeats 8000000 in
theorem all_hc {base : Nat} {own : Nat → Prop} {cb hb : Nat} {fuel : Int} {s : St} {w : World} (l : List ObS) (A : Option Addr) (n cap : Nat) (h : HCs w base own cb hb fuel s) (hobs : ∀ o, o ∈ l → ObOk o) (hl : SliceAt w base 3 (ObE w base) l (.slice A n cap)) (hnl : l.length ≤ 1000) (hmany : (memBase s.mem).length ≤ 900000000) :
    Calls Try.prog 12 #[.pointer (some ⟨hb, 0, none⟩), .slice A n cap] w fun e w' => AllSays base own cb hb fuel s l w e w' := by
  have hbk := h.blocks
  have hbs : base ≤ w.heap.size := by have := hbk.2.2 cb hbk.1; omega
  have hln := hl.len
  obtain ⟨i0, hi, hz0, hz1, hz2⟩ := info_parts val_info
  have H := Lib.hid h
  have HOBS := Lib.hid hobs
  have HL := Lib.hid hl
  have HLN := Lib.hid hln.1
  have HOW := Lib.hid hbk.2.2
  have hn1 : n ≤ 1000 := by omega
  have hn2 := hln.2
  have HMANY := Lib.hid hmany
  clear h hobs hl hbk hln hmany
  go_enter Try.func12, Try.ntmps12
  refine wp_letter (fun Q hQ => ?_)
  have HQ := Lib.hid hQ
  clear hQ
  go_wp2_with fail
  go_loopw [4, 9] (fun pv0 i wr => ∃ (k : Nat) (ownk : Nat → Prop) (pv : Value), pv = pv0 ∧ k ≤ n ∧ i = .int .i64 k ∧ (∀ x, own x → ownk x) ∧ (∀ x, ownk x → own x ∨ w.heap.size ≤ x) ∧ HCs wr base ownk cb hb fuel { s with mem := makesF s.mem (l.take k) } ∧ wr.ownsRow w.heap.size 60 2 pv k (flatV (locV (numsF s.mem k))) ∧ (∀ g, pv.ownBlock = some g → ¬ ownk g) ∧ Wr own w wr) (fun _ i _ => n - (intOf i).toNat)
  case atStart => exact ⟨0, own, _, rfl, by omega, rfl, fun _ h => h, fun _ h => Or.inl h, H.out, World.ownsRow_nil _ _ _ _, fun g h => (by cases h), Wr.refl _ _⟩
  case round =>
    obtain ⟨k, ownk, pv, rfl, hk, rfl, ho1, ho2, hHk, hrow, hnot, hwr⟩ := hrel
    have hzw := hwr.size
    have hB' : Below base w wr := hwr.below hbs (fun k hk => (HOW.out k hk).1)
    have HO1 := Lib.hid ho1
    have HO2 := Lib.hid ho2
    have HHK := Lib.hid hHk
    have HROW := Lib.hid hrow
    have HNOT := Lib.hid hnot
    have HWR := Lib.hid hwr
    by_cases hlt : k < n
    · obtain ⟨b, off, o, rfl, hbB, hok, c0, c1, ⟨v, c2, hv⟩, _, _⟩ := (HL.out.below hB' (Nat.le_refl _) (fun _ _ h => h.below hB' (Nat.le_refl _))).get hlt
      simp only [Nat.add_zero] at c0 c1 c2
      obtain ⟨IA, icap, hiv⟩ : ∃ IA icap, v = .slice IA o.init.length icap := (by obtain ⟨A', c', h, _⟩ := hv; exact ⟨_, _, h⟩)
      subst hiv
      have HOK := Lib.hid hok
      have hkl : (k : Int) < (n : Int) := by omega
      have hbl : b < wr.heap.size := by omega
      have hsz := makesF_size s.mem (l.take k)
      rw [List.length_take, Nat.min_eq_left (by have := HLN.out; omega)] at hsz
      have hmk := HMANY.out
      have HSZ := Lib.hid hsz
      have HMK := Lib.hid (make_hc (s := { s with mem := makesF s.mem (l.take k) }) (w := wr.alloc (.cells #[.int .i64 o.size, .int .i64 o.count, .slice IA o.init.length icap] 75)) o _ (hHk.below (below1 _ _)) (HOBS.out o (List.mem_of_getElem? hok)) (hv.below ((below1 wr _).mono (by omega)) (Nat.le_refl _)) (by show (memBase (makesF s.mem (l.take k))).length + 1 ≤ 1000000000; omega))
      simp only at HMK
      rw [hsz, Int.natCast_add] at HMK
      clear hok hv hwr hB' ho1 ho2 hHk hrow hnot hsz hmk
      go_wp2_with fail
      refine HMK.out.mono ?_
      rintro e w1 ⟨rfl, own', h1, h2, h3, h4⟩
      have hz4 := h4.size
      simp only [World.size_alloc] at hz4
      have hown1 := ownsRow_wr (ownsRow_wr HROW.out (Wr.of_below (F := fun _ => False) (below1 wr (.cells #[.int .i64 o.size, .int .i64 o.count, .slice IA o.init.length icap] 75))) (fun _ _ h => h)) h4 HNOT.out
      have H1 := Lib.hid (And.intro h1 (And.intro h2 h3))
      have H4 := Lib.hid h4
      have HOWN1 := Lib.hid hown1
      clear h1 h2 h3 h4 hown1
      go_wp2_with (at_builtin; refine wpList_append_lies _ rfl (.tmp 13) (.tmp 17) 49 rfl w.heap.size 60 i0 (.agg #[.int .i64 0, .int .i64 0]) 2 16 Try.underlying49 hi hz0 hz1 hz2 rfl (by decide) _ _ _ rfl (ownsRow_wr HOWN1.out (Wr.of_below (F := fun _ => False) (below1 w1 _)) (fun _ _ h => h)) ⟨w1.heap.size, 0, none⟩ 1 1 [.int .i64 (((memBase s.mem).length : Int) + (k : Int)), .int .i64 0] rfl rfl ?c1 ?c2 ?c3 ?c4 ?c5 ?c6 (w1.heap.size + 1) (by simp) ?_)
      case c1 => exact pair_cells _ _ _ _ _ (by simp)
      case c2 => exact pair_one _ _
      case c3 => omega
      case c4 => unfold maxLen; omega
      case c5 => omega
      case c6 => simp; omega
      · intro gg cap3 w2 hown2 hgrow hat hlt2
        have hpv : ∀ g, pv.ownBlock = some g → w.heap.size ≤ g ∧ g < wr.heap.size := fun g hg => (by obtain ⟨h, cs, hr⟩ := ownsRow_row HROW.out hg; exact ⟨h, hr.lt⟩)
        have hno : ∀ g, pv.ownBlock = some g → ¬ own' g := fun g hg h => (by
          rcases H1.out.2.1 g h with h' | h'
          · exact HNOT.out g hg h'
          · have := (hpv g hg).2; simp only [World.size_alloc] at h'; omega)
        have hwg : Wr (fun k => pv.ownBlock = some k) (w1.alloc (.cells #[.int .i64 (((memBase s.mem).length : Int) + (k : Int)), .int .i64 0] 60)) w2 := Wr.grown hgrow (fun k hk => hk)
        have HF := Lib.hid (show HCs w2 base own' cb hb fuel { s with mem := makeF (makesF s.mem (l.take k)) o } from (H1.out.2.2.below (below1 _ _)).wr hwg (fun g hg => ⟨by have := (hpv g hg).1; omega, hno g hg⟩))
        have HNG := Lib.hid (show ¬ own' gg from fun h => by
          rcases hat with h' | h'
          · exact hno gg h' h
          · have := (H1.out.2.2.blocks.2.2 gg h).2; omega)
        have HWF := Lib.hid (show Wr own w w2 from ((((HWR.out.trans (Wr.of_below (F := fun _ => False) (below1 wr (.cells #[.int .i64 o.size, .int .i64 o.count, .slice IA o.init.length icap] 75))) (fun _ h => h.elim)).trans H4.out HO2.out).trans (Wr.of_below (F := fun _ => False) (below1 w1 (.cells #[.int .i64 (((memBase s.mem).length : Int) + (k : Int)), .int .i64 0] 60))) (fun _ h => h.elim)).trans hwg (fun g hg => Or.inr (hpv g hg).1)))
        have HROW2 := Lib.hid hown2
        clear hown2 hgrow hat hwg hpv hno
        go_wp2_with fail
        go_roundw
        case rel =>
          refine ⟨k + 1, own', _, rfl, by omega, by go_num, fun x hx => H1.out.1 x (HO1.out x hx), fun x hx => ?_, ?_, ?_, fun g hg => ?_, HWF.out⟩
          · rcases H1.out.2.1 x hx with h' | h'
            · exact HO2.out x h'
            · simp only [World.size_alloc] at h'; exact Or.inr (by omega)
          · rw [take_succ_of HOK.out, makesF_append]
            exact HF.out
          · rw [flat_succ]
            exact HROW2.out
          · simp only [Value.ownBlock, Option.some.injEq] at hg
            exact hg ▸ HNG.out
        case measure => simp [intOf]; omega
    · obtain rfl : k = n := by omega
      have e : l.take k = l := by rw [← HLN.out]; exact List.take_length
      rw [e] at HHK
      clear hwr hB' ho1 ho2 hHk hrow hnot
      go_wp2_with fail
      refine HQ.out _ _ _ ?_
      refine bodyPost_ret (v := _) (by simp [results, Try.results12, go_sem]) rfl ⟨_, ownk, rfl, HO1.out, HO2.out, HHK.out, ?_, HNOT.out, HWR.out⟩
      rw [HLN.out]
      exact HROW.out
end Go.Proofs.Ytinmgbodgecoeaa
namespace Go.Proofs.Ytinmgbodgecoeaa
open Go.RowKit

theorem GMemW.kill {w : World} {base : Nat} {own : Nat → Prop} {rb : Nat → Nat} {M : List MO} {g cap : Nat} (h : GMemW w base own (.slice (some ⟨g, 0, none⟩) M.tail.length cap) rb M) (y : Nat) :
    GMemW ((w.setCell ⟨g, y * 3 + 2, none⟩ (.bool true)).setCell ⟨g, y * 3 + 1, none⟩ (.slice none 0 0)) base own (.slice (some ⟨g, 0, none⟩) M.tail.length cap) rb (M.modify (y + 1) dead) := by
  have hw := wr_pair w g (y * 3 + 2) (y * 3 + 1) (.bool true) (.slice none 0 0)
  obtain ⟨⟨xs, hx, hox⟩, hm, hi, hok, hn⟩ := h
  have htail : (M.modify (y + 1) dead).tail = M.tail.modify y dead := by cases M <;> simp [List.modify_succ_cons]
  obtain ⟨_, cs, hgr⟩ := ownsRow_row hx (g := g) rfl
  have h1 := ((hx.stored (y * 3 + 2) (.bool true)).1.stored (y * 3 + 1) (.slice none 0 0)).1
  refine ⟨⟨(xs.set (y * 3 + 2) (.bool true)).set (y * 3 + 1) (.slice none 0 0), by rw [htail, List.length_modify]; exact h1, fun k o ho => ?_⟩, fun k o ho => ?_, fun a b ha hb => hi a b (by simpa [htail] using ha) (by simpa [htail] using hb), hok.kill (y + 1), hn.kill1 (y + 1)⟩
  · rw [htail] at ho
    obtain ⟨o0, h0, rfl⟩ := modify_get ho
    obtain ⟨p0, p1, p2⟩ := hox k o0 h0
    have hkl : k < M.tail.length := by
      rcases Nat.lt_or_ge k M.tail.length with h | h
      · exact h
      · rw [List.getElem?_eq_none h] at h0; cases h0
    have hxl := hx.1
    unfold GObjIn
    rw [List.getElem?_set_ne (by omega), List.getElem?_set_ne (by omega)]
    by_cases e : y = k
    · subst e
      rw [if_pos rfl, List.getElem?_set_self (by simp; omega), List.getElem?_set_ne (by omega), List.getElem?_set_self (by omega)]
      exact ⟨p0, rfl, rfl⟩
    · rw [if_neg e, List.getElem?_set_ne (by omega), List.getElem?_set_ne (by omega), List.getElem?_set_ne (by omega), List.getElem?_set_ne (by omega)]
      exact ⟨p0, p1, p2⟩
  · rw [htail] at ho
    obtain ⟨o0, h0, rfl⟩ := modify_get ho
    obtain ⟨q1, cv, q2, q3⟩ := hm k o0 h0
    refine ⟨q1, cv, q2.wr hw (fun e => q2.ne hgr (by decide) e), ?_⟩
    split
    · exact q3
    · exact q3
theorem HC.kill1 {w : World} {base : Nat} {own : Nat → Prop} {cb hb : Nat} {fuel : Int} {s : St} {inv outv : Value} {rb : Nat → Nat} {g q cap : Nat} (h : HC w base own cb hb fuel s inv outv (.slice (some ⟨g, 0, none⟩) q cap) rb) (hq : q = (memBase s.mem).tail.length) (y : Nat) :
    HC ((w.setCell ⟨g, y * 3 + 2, none⟩ (.bool true)).setCell ⟨g, y * 3 + 1, none⟩ (.slice none 0 0)) base own cb hb fuel { s with mem := s.mem.modify (y + 1) dead } inv outv (.slice (some ⟨g, 0, none⟩) q cap) rb ∧ Wr own w ((w.setCell ⟨g, y * 3 + 2, none⟩ (.bool true)).setCell ⟨g, y * 3 + 1, none⟩ (.slice none 0 0)) := by
  have hw := wr_pair w g (y * 3 + 2) (y * 3 + 1) (.bool true) (.slice none 0 0)
  have hgo := h.memo g rfl
  have hgr : ∃ cs, Row w g cs 88 := by
    obtain ⟨⟨xs, hx, _⟩, _⟩ := h.mem
    exact (ownsRow_row hx (g := g) rfl).2
  obtain ⟨cs, hgr⟩ := hgr
  subst hq
  refine ⟨HC.remem (own' := own) (M := s.mem.modify (y + 1) dead) h hw (fun k hk => ?_) (fun _ h => h) (fun _ h => Or.inl h) (fun k hk => ?_) ⟨?_, ?_, h.memo⟩, hw.mono (fun i hi => Or.inl (hi ▸ hgo))⟩
  · subst hk
    exact ⟨hgo, cs, _, hgr, Or.inr (Or.inl rfl)⟩
  · have := (h.own k hk).2
    simpa using this
  · exact h.heap.wr hw (fun e => h.heap.ne hgr (by decide) e)
  · have e : memBase (s.mem.modify (y + 1) dead) = (memBase s.mem).modify (y + 1) dead := (killF_base s.mem [y + 1]).symm
    rw [e]
    exact h.mem.kill y
theorem killF_take {M : List MO} {lo : List Nat} {k x : Nat} (h : lo[k]? = some x) : killF M (lo.take (k + 1)) = (killF M (lo.take k)).modify x dead := by
  rw [take_succ_of h, killF_snoc]

set_option maxRecDepth 100000 in
set_option maxHeartbeats 8000000 in
theorem kill_hc {base : Nat} {own : Nat → Prop} {cb hb : Nat} {fuel : Int} {s : St} {w : World} (lo : List Nat) (A : Option Addr) (n cap : Nat) (h : HCs w base own cb hb fuel s) (hlo : ∀ x, x ∈ lo → 1 ≤ x ∧ x < (memBase s.mem).length) (hn : lo.length = n) (hnb : n ≤ 1000000)
    (hp : ∀ j v, (locV lo)[j]? = some v → ∃ b off, A = some ⟨b, off, none⟩ ∧ b < w.heap.size ∧ ¬ own b ∧ ValCells w b (off + j * 2) v) :
    Calls Try.prog 26 #[.pointer (some ⟨hb, 0, none⟩), .slice A n cap] w fun e w' => e = .returned (.tuple #[]) ∧ HCs w' base own cb hb fuel { s with mem := killF s.mem lo } ∧ Wr own w w' := by
  have H := Lib.hid h
  have HLO := Lib.hid hlo
  have HN := Lib.hid hn
  have HP := Lib.hid hp
  clear h hlo hn hp
  go_enter Try.func26, Try.ntmps26
  refine wp_letter (fun Q hQ => ?_)
  have HQ := Lib.hid hQ
  clear hQ
  go_wp2_with fail
  go_loopw [9] (fun i wr => ∃ k : Nat, k ≤ n ∧ i = .int .i64 k ∧ HCs wr base own cb hb fuel { s with mem := killF s.mem (lo.take k) } ∧ Wr own w wr) (fun i _ => n - (intOf i).toNat)
  case atStart => exact ⟨0, by omega, rfl, H.out, Wr.refl _ _⟩
  case round =>
    obtain ⟨k, hk, rfl, hHk, hwr⟩ := hrel
    have hzw := hwr.size
    have HWR := Lib.hid hwr
    by_cases hlt : k < n
    · have hkl : k < lo.length := by have := HN.out; omega
      obtain ⟨b, off, rfl, hbl, hbn, hv0, hv1⟩ := HP.out k _ (locV_get hkl)
      have hx := HLO.out (lo.getD k 0) (by rw [List.getD_eq_getElem?_getD, List.getElem?_eq_getElem hkl]; exact List.getElem_mem _)
      have HGX := Lib.hid (show lo[k]? = some (lo.getD k 0) from by rw [List.getD_eq_getElem?_getD, List.getElem?_eq_getElem hkl]; rfl)
      obtain ⟨y, hy⟩ : ∃ y, lo.getD k 0 = y + 1 := ⟨lo.getD k 0 - 1, by omega⟩
      rw [hy] at hv0 hv1 hx HGX
      have hc0 : wr.cell? ⟨b, off + k * 2, none⟩ = some (.int .i64 ((y : Int) + 1)) := (World.cell?_of_block (a := ⟨b, _, none⟩) (hwr.block b hbl hbn)).trans (by simpa using hv0)
      have hc1 : wr.cell? ⟨b, off + k * 2 + 1, none⟩ = some (.int .i64 0) := (World.cell?_of_block (a := ⟨b, _, none⟩) (hwr.block b hbl hbn)).trans hv1
      obtain ⟨inv, outv, memv, rb, hC⟩ := id hHk
      have hkm : (memBase (killF s.mem (lo.take k))).length = (memBase s.mem).length := by rw [← killF_base, killF_length]
      obtain ⟨MM, hMM⟩ : ∃ MM, MM = memBase (killF s.mem (lo.take k)) := ⟨_, rfl⟩
      have hmem := hC.mem
      have hmemo := hC.memo
      simp only at hmem
      rw [← hMM] at hmem hkm
      obtain ⟨q, hq⟩ : ∃ q, q = MM.tail.length := ⟨_, rfl⟩
      have hyq : y < q := by rw [hq, List.length_tail]; omega
      have hml := hmem.ok.many
      have hq2 : q ≤ 4294967296 := by rw [hq, List.length_tail]; omega
      obtain ⟨⟨xs, hxx, hox⟩, _⟩ := id hmem
      rw [← hq] at hxx
      obtain ⟨g, cap1, hmv⟩ : ∃ g cap1, memv = .slice (some ⟨g, 0, none⟩) q cap1 := (by obtain ⟨_, h | ⟨g, c, cur, h, _⟩⟩ := id hxx; exact absurd h.2 (by omega); exact ⟨_, _, h⟩)
      subst hmv
      have p0 : wr.cell? ⟨hb, 0, none⟩ = some (.slice (some ⟨g, 0, none⟩) q cap1) := hC.heap.cell rfl
      obtain ⟨_, cs, hgr⟩ := ownsRow_row hxx (g := g) rfl
      have hgo := hmemo g rfl
      have hgl := hgr.lt
      have hbl2 := hC.heap.lt
      obtain ⟨oy, hoy⟩ : ∃ oy, MM.tail[y]? = some oy := ⟨_, List.getElem?_eq_getElem (hq ▸ hyq)⟩
      obtain ⟨o0, o1, o2⟩ := hox y oy hoy
      have d1 := hxx.cells (g := g) rfl (y * 3 + 1) _ o1
      have d2 := hxx.cells (g := g) rfl (y * 3 + 2) _ o2
      rw [addr0] at d1 d2
      have e1 := hgr.free (y * 3 + 1)
      have e2 := hgr.free (y * 3 + 2)
      have hy0 : (0 : Int) ≤ (y : Int) := by omega
      have hy1 : (y : Int) < (q : Int) := by omega
      have hw1 : IntKind.i64.wrap (y : Int) = (y : Int) := IntWalk.i64_in _ (by omega)
      have hw2 : IntKind.i64.wrap ((y : Int) + 1 - 1) = (y : Int) := by rw [Int.add_sub_cancel]; exact hw1
      have hk0 : (0 : Int) ≤ (k : Int) := by omega
      have hklt : (k : Int) < (n : Int) := by omega
      have hbw : b < wr.heap.size := by omega
      have HC1 := Lib.hid hC
      have HMEM := Lib.hid hmem
      have HMM := Lib.hid hMM
      have HQ0 := Lib.hid hq
      have HG := Lib.hid (And.intro hgo hgr)
      clear hHk hwr hC hmem hmemo hMM hq hxx hox hgr hgo hoy o0 o1 o2 hv0 hv1 hx hkm hml hy hbn
      have hz1 : hb < wr.heap.size + 1 := by omega
      have hz2 : g < wr.heap.size + 1 := by omega
      have hz3 : ¬ g = wr.heap.size := by omega
      go_wp2_with fail
      go_quiet (fail)
      go_wp2_with fail
      go_roundw
      case rel =>
        obtain ⟨a1, a2⟩ := (HC1.out.wr (F := fun _ => False) (Wr.of_below (below_drewN (below1 wr (.cells #[.int .i64 ((y : Int) + 1), .int .i64 0] 60)) nq)) (fun _ h => h.elim)).kill1 (by rw [HQ0.out, HMM.out]) y
        refine ⟨k + 1, by omega, by go_num, ?_, (HWR.out.trans (Wr.of_below (F := fun _ => False) (below_drewN (below1 wr (.cells #[.int .i64 ((y : Int) + 1), .int .i64 0] 60)) nq)) (fun _ h => h.elim)).trans a2 (fun _ h => Or.inl h)⟩
        rw [killF_take HGX.out]
        exact ⟨_, _, _, _, a1⟩
      case measure => simp [intOf]; omega
    · obtain rfl : k = n := by omega
      have e : lo.take k = lo := by rw [← HN.out]; exact List.take_length
      rw [e] at hHk
      have HHK := Lib.hid hHk
      clear hwr hHk
      go_wp2_with fail
      refine HQ.out _ _ _ ?_
      go_end0
      exact ⟨rfl, HHK.out, HWR.out⟩
end Go.Proofs.Ytinmgbodgecoeaa
namespace Go.Proofs.Ytinmgbodgecoeaa
open Go.RowKit
attribute [local go_sem ↓] Go.wp_at_zero Go.wp_at_succ

/-- Blocks that are not the heap's nor the clock's. -/
structure GOff (base : Nat) (own : Nat → Prop) (rb fb tb : Nat) (lv gv : Value) : Prop where
  orb : ¬ own rb ∧ base ≤ rb
  ofb : ¬ own fb ∧ base ≤ fb
  otb : ¬ own tb ∧ base ≤ tb
  olv : ∀ g, lv.ownBlock = some g → ¬ own g ∧ base ≤ g
  ogv : ∀ g, gv.ownBlock = some g → ¬ own g ∧ base ≤ g ∧ g ≠ tb
  ort : rb ≠ tb

theorem rowV_own {w : World} {base : Nat} {v : Value} {l : List V} {k : Nat} (h : w.ownsRow base 60 2 v k (flatV l)) (hk : l.length = k) : ∃ A cap, v = .slice A k cap ∧ RowV w w.heap.size A l ∧ (∀ j x, l[j]? = some x → ∃ b off, A = some ⟨b, off, none⟩ ∧ b < w.heap.size ∧ v.ownBlock = some b ∧ ValCells w b (off + j * 2) x) := by
  rcases Nat.eq_zero_or_pos k with h0 | hp
  · have hl : l = [] := List.eq_nil_of_length_eq_zero (by omega)
    subst hl
    rcases h.2 with ⟨e, e2⟩ | ⟨g, cap, cur, e, _⟩
    · exact ⟨none, 0, by rw [e, h0], fun j v hj => by simp at hj, fun j v hj => by simp at hj⟩
    · exact ⟨_, cap, e, fun j v hj => by simp at hj, fun j v hj => by simp at hj⟩
  · obtain ⟨g, cap, e, h1, h2, h3⟩ := ownsRow_vals' h hk hp
    refine ⟨some ⟨g, 0, none⟩, cap, e, fun j x hj => ⟨g, 0, rfl, h2, by rw [Nat.zero_add]; exact h3 j x hj⟩, fun j x hj => ⟨g, 0, rfl, h2, by rw [e]; rfl, by rw [Nat.zero_add]; exact h3 j x hj⟩⟩
theorem globV_length (n : Nat) : (globV n).length = n := by simp [globV]
theorem locV_length (lo : List Nat) : (locV lo).length = lo.length := by simp [locV]

/-- What gathered trees answer. -/
def TreesSays (base : Nat) (own : Nat → Prop) (cb hb : Nat) (fuel : Int) (s : St) (r : Option (List V)) (w : World) (e : Ending) (w' : World) : Prop :=
  match r with
  | some l => ∃ pv, e = .returned (.tuple #[pv, .bool true]) ∧ w'.ownsRow w.heap.size 60 2 pv l.length (flatV l) ∧ Below w.heap.size w w'
  | none => e = .returned (.tuple #[.slice none 0 0, .bool false]) ∧ HCs w' base own cb hb fuel { s with kind := 3 } ∧ Wr (fun b => b = cb) w w'

end Go.Proofs.Ytinmgbodgecoeaa
namespace Go.Proofs.Ytinmgbodgecoeaa
open Go.RowKit

theorem labN_lt {l : List InsS} {n : Int} (h : labI l n = true) : labN l n < l.length := by
  unfold labI at h
  unfold labN
  rw [List.any_eq_true] at h
  obtain ⟨x, hx, hp⟩ := h
  exact List.findIdx_lt_length_of_exists ⟨x, hx, hp⟩
theorem tmp_ok {nt nl ng : Nat} {r : Int} (h : 0 ≤ r ∧ r < nt) : TOk nt nl ng (tmpT r) := by
  rw [tmpT, TOk, TsOk]
  refine ⟨by decide, by decide, rfl, fun _ => h, fun h => absurd h (by decide), fun h => absurd h (by decide), trivial⟩
theorem con_ok {nt nl ng : Nat} (n : Int) : TOk nt nl ng (conT n) := by
  rw [conT, TOk, TsOk]
  refine ⟨by decide, by decide, rfl, fun h => absurd h (by decide), fun h => absurd h (by decide), fun h => absurd h (by decide), trivial⟩
theorem tmp_in {r : Int} (h : In64 r) : TIn (tmpT r) := by rw [tmpT, TIn, TsIn]; exact ⟨h, trivial⟩
theorem con_in {n : Int} (h : In64 n) : TIn (conT n) := by rw [conT, TIn, TsIn]; exact ⟨h, trivial⟩
theorem zero_in : In64 0 := by unfold In64; omega
theorem tsok_map {nt nl ng : Nat} : ∀ {l : List Int}, (∀ r, r ∈ l → 0 ≤ r ∧ r < nt) → TsOk nt nl ng (l.map tmpT)
  | [], _ => by simp [TsOk]
  | r :: l, h => by
    rw [List.map_cons, TsOk]
    exact ⟨tmp_ok (h r (by simp)), tsok_map fun x hx => h x (by simp [hx])⟩
theorem tsin_map : ∀ {l : List Int}, (∀ r, r ∈ l → In64 r) → TsIn (l.map tmpT)
  | [], _ => by simp [TsIn]
  | r :: l, h => by
    rw [List.map_cons, TsIn]
    exact ⟨tmp_in (h r (by simp)), tsin_map fun x hx => h x (by simp [hx])⟩
theorem kids_un {op : Int} (h : 5 ≤ op ∧ op ≤ 11 ∨ 31 ≤ op ∧ op ≤ 36) : kidsN op = 1 := by
  unfold kidsN
  rw [if_neg (by omega), if_neg (by omega)]
theorem kids_bin {op : Int} (h : 12 ≤ op ∧ op ≤ 30) : kidsN op = 2 := by
  unfold kidsN
  rw [if_neg (by omega), if_pos h]
theorem node1_ok {nt nl ng : Nat} {op : Int} {t : T} (h : 5 ≤ op ∧ op ≤ 11 ∨ 31 ≤ op ∧ op ≤ 36) (ht : TOk nt nl ng t) : TOk nt nl ng (.node op 0 [t]) := by
  rw [TOk, TsOk, TsOk]
  exact ⟨by omega, by omega, (kids_un h).symm, fun _ => by omega, fun _ => by omega, fun _ => by omega, ht, trivial⟩
theorem node2_ok {nt nl ng : Nat} {op : Int} {t u : T} (h : 12 ≤ op ∧ op ≤ 30) (ht : TOk nt nl ng t) (hu : TOk nt nl ng u) : TOk nt nl ng (.node op 0 [t, u]) := by
  rw [TOk, TsOk, TsOk, TsOk]
  exact ⟨by omega, by omega, (kids_bin h).symm, fun _ => by omega, fun _ => by omega, fun _ => by omega, ht, hu, trivial⟩
theorem node1_in {op : Int} {t : T} (ht : TIn t) : TIn (.node op 0 [t]) := by
  rw [TIn, TsIn, TsIn]
  exact ⟨zero_in, ht, trivial⟩
theorem node2_in {op : Int} {t u : T} (ht : TIn t) (hu : TIn u) : TIn (.node op 0 [t, u]) := by
  rw [TIn, TsIn, TsIn, TsIn]
  exact ⟨zero_in, ht, hu, trivial⟩
theorem ts1_ok {nt nl ng : Nat} {t : T} (h : TOk nt nl ng t) : TsOk nt nl ng [t] := by rw [TsOk, TsOk]; exact ⟨h, trivial⟩
theorem ts1_in {t : T} (h : TIn t) : TsIn [t] := by rw [TsIn, TsIn]; exact ⟨h, trivial⟩
theorem ts2_ok {nt nl ng : Nat} {t u : T} (h : TOk nt nl ng t) (k : TOk nt nl ng u) : TsOk nt nl ng [t, u] := by rw [TsOk, TsOk, TsOk]; exact ⟨h, k, trivial⟩
theorem ts2_in {t u : T} (h : TIn t) (k : TIn u) : TsIn [t, u] := by rw [TsIn, TsIn, TsIn]; exact ⟨h, k, trivial⟩

/-- What is known of an instruction that may be, by its op. -/
structure InsOk (c : CodeS) (ng nf : Nat) (par : Int → Int → Bool) (x : InsS) : Prop where
  ops : 1 ≤ x.op ∧ x.op ≤ 17
  dst : (x.op = 1 ∨ x.op = 2 ∨ x.op = 3 ∨ x.op = 4 ∨ x.op = 5 ∨ x.op = 6 ∨ x.op = 7 ∨ x.op = 8 ∨ x.op = 9 ∨ x.op = 12 → 0 ≤ x.dst ∧ x.dst < c.regs) ∧ (x.op = 10 → x.dst = -1 ∨ 0 ≤ x.dst ∧ x.dst < c.regs)
  a : x.op = 2 ∨ x.op = 5 ∨ x.op = 6 ∨ x.op = 7 ∨ x.op = 8 ∨ x.op = 9 ∨ x.op = 11 ∨ x.op = 13 ∨ x.op = 16 ∨ x.op = 17 → 0 ≤ x.a ∧ x.a < c.regs
  b : x.op = 5 → 0 ≤ x.b ∧ x.b < c.regs
  num : numberI c ng nf par x = true
theorem insB_ok {c : CodeS} {ng nf : Nat} {par : Int → Int → Bool} {x : InsS} (h : insB c ng nf par x = true) : InsOk c ng nf par x := by
  obtain ⟨op, dst, a, b, n, arg⟩ := x
  have hop : 1 ≤ op ∧ op ≤ 17 := by
    unfold insB namedI at h
    simp only at h
    by_cases hh : 1 ≤ op ∧ op ≤ 17
    · exact hh
    · rw [if_neg (by omega), if_neg (by omega), if_neg (by omega), if_neg (by omega), if_neg (by omega), if_neg (by omega), if_neg (by omega), if_neg (by omega), if_neg (by omega), if_neg (by omega)] at h
      cases h
  have hs : op = 1 ∨ op = 2 ∨ op = 3 ∨ op = 4 ∨ op = 5 ∨ op = 6 ∨ op = 7 ∨ op = 8 ∨ op = 9 ∨ op = 10 ∨ op = 11 ∨ op = 12 ∨ op = 13 ∨ op = 14 ∨ op = 15 ∨ op = 16 ∨ op = 17 := by omega
  have hn : numberI c ng nf par ⟨op, dst, a, b, n, arg⟩ = true := by
    unfold insB at h
    split at h
    · cases h
    · simp only [Bool.and_eq_true] at h
      exact h.2.2.2.2.2
  unfold insB at h
  rcases hs with rfl | rfl | rfl | rfl | rfl | rfl | rfl | rfl | rfl | rfl | rfl | rfl | rfl | rfl | rfl | rfl | rfl
  all_goals
    simp [namedI, regI, freeI] at h
    refine ⟨hop, ⟨fun q => ?_, fun q => ?_⟩, fun q => ?_, fun q => ?_, hn⟩
    all_goals simp only at q ⊢
    all_goals first | omega | skip
  all_goals
    obtain ⟨h1, _⟩ := h
    split at h1 <;> omega

section
variable {v : VirtS} {c : CodeS} {nt : Nat}
theorem stepI_ok (hin : ∀ i, i ∈ c.ins → In64 i.op ∧ In64 i.dst ∧ In64 i.a ∧ In64 i.b ∧ In64 i.n ∧ ∀ x, x ∈ i.arg → In64 x) (hnt : c.regs = nt) (hpar : ∀ g, g ∈ v.funcs → g.params ≤ 4) {x : InsS} (hx : x ∈ c.ins) (hst : Straight x) (h : InsOk c v.globs.length v.funcs.length (parV v) x) : StepOkG (virtG v) nt c.locs.length (stepI x) := by
  obtain ⟨i0, i1, i2, i3, i4, i5⟩ := hin x hx
  obtain ⟨hop, ⟨hd, hd10⟩, ha, hb, hn⟩ := h
  obtain ⟨s15, s16, s17⟩ := hst
  obtain ⟨op, dst, a, b, n, arg⟩ := x
  simp only at *
  rw [hnt] at hd hd10 ha hb
  have hs : op = 1 ∨ op = 2 ∨ op = 3 ∨ op = 4 ∨ op = 5 ∨ op = 6 ∨ op = 7 ∨ op = 8 ∨ op = 9 ∨ op = 10 ∨ op = 11 ∨ op = 12 ∨ op = 13 ∨ op = 14 := by omega
  unfold StepOkG
  rcases hs with rfl | rfl | rfl | rfl | rfl | rfl | rfl | rfl | rfl | rfl | rfl | rfl | rfl | rfl
  · have d := hd (by simp)
    exact ⟨ts1_ok (con_ok _), ts1_in (con_in i4), by simp [stepI], Or.inl ⟨rfl, rfl, Or.inr d⟩⟩
  · have d := hd (by simp)
    have d2 := ha (by simp)
    exact ⟨ts1_ok (tmp_ok d2), ts1_in (tmp_in i2), by simp [stepI], Or.inl ⟨rfl, rfl, Or.inr d⟩⟩
  · have d := hd (by simp)
    simp [numberI] at hn
    refine ⟨ts1_ok ?_, ts1_in ?_, by simp [stepI], Or.inl ⟨rfl, rfl, Or.inr d⟩⟩
    · rw [TOk, TsOk]
      exact ⟨by decide, by decide, rfl, fun h => absurd h (by decide), fun _ => hn, fun h => absurd h (by decide), trivial⟩
    · rw [TIn, TsIn]
      exact ⟨i4, trivial⟩
  · have d := hd (by simp)
    simp [numberI] at hn
    refine ⟨ts1_ok ?_, ts1_in ?_, by simp [stepI], Or.inl ⟨rfl, rfl, Or.inr d⟩⟩
    · rw [TOk, TsOk]
      exact ⟨by decide, by decide, rfl, fun h => absurd h (by decide), fun h => absurd h (by decide), fun _ => hn, trivial⟩
    · rw [TIn, TsIn]
      exact ⟨i4, trivial⟩
  · have d := hd (by simp)
    have d2 := ha (by simp)
    have d3 := hb rfl
    simp [numberI] at hn
    exact ⟨ts1_ok (node2_ok hn (tmp_ok d2) (tmp_ok d3)), ts1_in (node2_in (tmp_in i2) (tmp_in i3)), by simp [stepI], Or.inl ⟨rfl, rfl, Or.inr d⟩⟩
  · have d := hd (by simp)
    have d2 := ha (by simp)
    simp [numberI] at hn
    have hg : In64 (arg.getD 0 0) := by
      match arg, hn.2.1 with
      | [q], _ => exact i5 q (by simp)
    exact ⟨ts1_ok (node2_ok hn.1 (tmp_ok d2) (con_ok _)), ts1_in (node2_in (tmp_in i2) (con_in hg)), by simp [stepI], Or.inl ⟨rfl, rfl, Or.inr d⟩⟩
  · have d := hd (by simp)
    have d2 := ha (by simp)
    simp [numberI] at hn
    exact ⟨ts1_ok (node1_ok (Or.inr hn) (tmp_ok d2)), ts1_in (node1_in (tmp_in i2)), by simp [stepI], Or.inl ⟨rfl, rfl, Or.inr d⟩⟩
  · have d := hd (by simp)
    have d2 := ha (by simp)
    simp [numberI] at hn
    exact ⟨ts1_ok (node1_ok (Or.inl hn.1) (node2_ok (by decide) (tmp_ok d2) (con_ok _))), ts1_in (node1_in (node2_in (tmp_in i2) (con_in i3))), by simp [stepI], Or.inl ⟨rfl, rfl, Or.inr d⟩⟩
  · have d := hd (by simp)
    have d2 := ha (by simp)
    simp [numberI, sizeB] at hn
    exact ⟨ts2_ok (node2_ok (by decide) (tmp_ok d2) (con_ok _)) (tmp_ok d), ts2_in (node2_in (tmp_in i2) (con_in i3)) (tmp_in i1), by simp [stepI], Or.inr (Or.inl ⟨rfl, rfl, rfl, hn.1⟩)⟩
  · have d := hd10 rfl
    simp [numberI, regsB, parV] at hn
    obtain ⟨⟨n1, n2⟩, n3, n4⟩ := hn
    obtain ⟨f, hf⟩ := Int.eq_ofNat_of_zero_le n1
    subst hf
    have hfl : f < v.funcs.length := by omega
    have hfg : v.funcs[f]? = some v.funcs[f] := List.getElem?_eq_getElem hfl
    have hgd : (v.funcs.getD ((f : Nat) : Int).toNat noCode) = v.funcs[f] := by rw [Int.toNat_natCast, List.getD_eq_getElem?_getD, hfg]; rfl
    rw [← List.getD_eq_getElem?_getD] at n4
    have n4' : v.funcs[f].params = (arg.length : Int) := by rw [← n4]; exact (congrArg CodeS.params hgd).symm ▸ rfl
    have h4 := hpar _ (List.getElem_mem hfl)
    refine ⟨tsok_map (l := arg) (fun r hr => by have := n3 r hr; omega), tsin_map (l := arg) i5, by simp [stepI]; omega, Or.inr (Or.inr (Or.inl ⟨rfl, ⟨f, codeG v.funcs[f], rfl, ?_, ?_⟩, d⟩))⟩
    · simp [virtG, hfg]
    · simp [stepI, codeG]; omega
  · have d2 := ha (by simp)
    exact ⟨ts1_ok (tmp_ok d2), ts1_in (tmp_in i2), by simp [stepI], Or.inr (Or.inr (Or.inr (Or.inl ⟨rfl, rfl, rfl⟩)))⟩
  · have d := hd (by simp)
    refine ⟨by simp [stepI, TsOk], by simp [stepI, TsIn], by simp [stepI], Or.inr (Or.inr (Or.inr (Or.inr (Or.inl ⟨rfl, rfl, d⟩))))⟩
  · have d2 := ha (by simp)
    exact ⟨ts1_ok (tmp_ok d2), ts1_in (tmp_in i2), by simp [stepI], Or.inr (Or.inr (Or.inr (Or.inr (Or.inr ⟨rfl, rfl, rfl⟩))))⟩
  · exact ⟨ts1_ok (con_ok _), ts1_in (con_in zero_in), by simp [stepI], Or.inl ⟨rfl, rfl, Or.inl rfl⟩⟩
/-- A block of a function that may be. -/
theorem blockI_ok (hin : ∀ i, i ∈ c.ins → In64 i.op ∧ In64 i.dst ∧ In64 i.a ∧ In64 i.b ∧ In64 i.n ∧ ∀ x, x ∈ i.arg → In64 x) (hnt : c.regs = nt) (hpar : ∀ g, g ∈ v.funcs → g.params ≤ 4) (hlen : 0 < c.ins.length) (hall : ∀ x, x ∈ c.ins → InsOk c v.globs.length v.funcs.length (parV v) x) (hlast : lastB c = true) :
    ∀ (r : List InsS) (k : Nat), c.ins.drop k = r → (∀ x, x ∈ (blockI c.ins r k).steps → StepOkG (virtG v) nt c.locs.length x) ∧ (blockI c.ins r k).steps.length ≤ r.length ∧ ((blockI c.ins r k).fin = 1 ∨ (blockI c.ins r k).fin = 2 ∨ (blockI c.ins r k).fin = 3) ∧
      (0 ≤ (blockI c.ins r k).next ∧ (blockI c.ins r k).next < c.ins.length) ∧ (0 ≤ (blockI c.ins r k).els ∧ (blockI c.ins r k).els < c.ins.length) ∧ TOk nt c.locs.length v.globs.length (blockI c.ins r k).cond ∧ TIn (blockI c.ins r k).cond
  | [], k, _ => by
    rw [blockI]
    exact ⟨fun x hx => by simp at hx, by simp, Or.inr (Or.inr rfl), ⟨by simp, by simp; omega⟩, ⟨by simp, by simp; omega⟩, con_ok _, con_in zero_in⟩
  | x :: r, k, hd => by
    have hk : c.ins[k]? = some x := by
      have := congrArg (fun l => l[0]?) hd
      simpa using this
    have hx : x ∈ c.ins := List.mem_of_getElem? hk
    have hok := hall x hx
    have hkl : k < c.ins.length := (List.getElem?_eq_some_iff.1 hk).1
    have hr : c.ins.drop (k + 1) = r := by
      have := drop_cons hk
      rw [hd] at this
      injection this with _ h
      exact h.symm
    obtain ⟨i0, i1, i2, i3, i4, i5⟩ := hin x hx
    rw [blockI]
    by_cases h15 : x.op = 15
    · rw [if_pos h15]
      have hn := hok.num
      unfold numberI at hn
      rw [if_neg (by omega), if_neg (by omega), if_neg (by omega), if_neg (by omega), if_neg (by omega), if_neg (by omega), if_neg (by omega), if_neg (by omega), if_pos (Or.inl h15)] at hn
      have := labN_lt hn
      exact ⟨fun x hx => by simp at hx, by simp, Or.inl rfl, ⟨by simp, by simp; omega⟩, ⟨by simp, by simp; omega⟩, con_ok _, con_in zero_in⟩
    · rw [if_neg h15]
      by_cases h16 : x.op = 16
      · rw [if_pos h16]
        have hn := hok.num
        unfold numberI at hn
        rw [if_neg (by omega), if_neg (by omega), if_neg (by omega), if_neg (by omega), if_neg (by omega), if_neg (by omega), if_neg (by omega), if_neg (by omega), if_pos (Or.inr h16)] at hn
        have := labN_lt hn
        have ha := hok.a (by omega)
        have hk1 : k + 1 < c.ins.length := by
          rcases Nat.lt_or_ge (k + 1) c.ins.length with h | h
          · exact h
          · exfalso
            have hke : c.ins.length - 1 = k := by omega
            unfold lastB at hlast
            rw [hke, List.getD_eq_getElem?_getD, hk] at hlast
            simp at hlast
            omega
        rw [hnt] at ha
        exact ⟨fun x hx => by simp at hx, by simp, Or.inr (Or.inl rfl), ⟨by simp, by simp; omega⟩, ⟨by simp; omega, by simp; omega⟩, tmp_ok ha, tmp_in i2⟩
      · rw [if_neg h16]
        by_cases h17 : x.op = 17
        · rw [if_pos h17]
          have ha := hok.a (by omega)
          rw [hnt] at ha
          exact ⟨fun x hx => by simp at hx, by simp, Or.inr (Or.inr rfl), ⟨by simp, by simp; omega⟩, ⟨by simp, by simp; omega⟩, tmp_ok ha, tmp_in i2⟩
        · rw [if_neg h17]
          obtain ⟨b1, b2, b3, b4, b5, b6, b7⟩ := blockI_ok hin hnt hpar hlen hall hlast r (k + 1) hr
          refine ⟨fun y hy => ?_, by simp only [List.length_cons]; omega, b3, b4, b5, b6, b7⟩
          rcases List.mem_cons.1 hy with rfl | hy
          · exact stepI_ok hin hnt hpar hx ⟨h15, h16, h17⟩ hok
          · exact b1 y hy
theorem obsB_ok' {l : List ObS} : obsB l = true → ∀ o, o ∈ l → ObOk o := by
  induction l with
  | nil => intro _ o h; simp at h
  | cons a r ih =>
    intro h o ho
    simp [obsB, obB, sizeB, betwB] at h
    rcases List.mem_cons.1 ho with rfl | ho
    · exact ⟨h.1.1.1, h.1.1.2.1, h.1.1.2.2, h.1.2⟩
    · exact ih h.2 o ho
theorem codeB_ok {par : Int → Int → Bool} {ng nf : Nat} (h : codeB c ng nf par = true) : headV c ∧ (∀ x, x ∈ c.ins → InsOk c ng nf par x) ∧ lastB c = true := by
  unfold codeB at h
  by_cases hh : headV c
  · rw [if_pos hh] at h
    simp only [Bool.and_eq_true, List.all_eq_true] at h
    exact ⟨hh, fun x hx => insB_ok (h.1 x hx), h.2⟩
  · rw [if_neg hh] at h
    cases h
theorem code_ok (hin : VirtIn v) (hc : c ∈ v.funcs) (hpar : ∀ g, g ∈ v.funcs → g.params ≤ 4) (h : codeB c v.globs.length v.funcs.length (parV v) = true) : FnOkG (virtG v) (codeG c) := by
  obtain ⟨⟨p0, p1, p2, p3, p4, p5, p6, p7⟩, hall, hlast⟩ := codeB_ok h
  obtain ⟨nt, hnt⟩ := Int.eq_ofNat_of_zero_le (show 0 ≤ c.regs by omega)
  have ob : obsB c.locs = true ∧ (c.locs.length : Int) ≤ 400 := by simpa [objsB] using p4
  refine ⟨⟨nt, hnt, by omega, fun b hb => ?_⟩, ⟨by show 0 ≤ c.params; omega, by show c.params ≤ c.regs; omega⟩, fun o ho => ⟨obsB_ok' ob.1 o ho, hin.locs c hc o ho⟩, by show c.locs.length ≤ 400; omega, by show 0 < (blocksI c.ins).length; rw [blocksI_len]; omega, by show (blocksI c.ins).length ≤ _; rw [blocksI_len]; omega⟩
  have hb' : b ∈ blocksI c.ins := hb
  obtain ⟨k, hk, rfl⟩ : ∃ k, k < c.ins.length ∧ blockI c.ins (c.ins.drop k) k = b := by
    unfold blocksI at hb'
    obtain ⟨k, hk, e⟩ := List.mem_map.1 hb'
    exact ⟨k, List.mem_range.1 hk, e⟩
  obtain ⟨b1, b2, b3, b4, b5, b6, b7⟩ := blockI_ok (nt := nt) (hin.ins c hc) hnt hpar (by omega) hall hlast _ k rfl
  have hbl : (codeG c).blocks.length = c.ins.length := blocksI_len _
  exact ⟨b1, by simp at b2; omega, b3, by rw [hbl]; exact b4, by rw [hbl]; exact b5, fun _ => ⟨b6, b7⟩⟩
theorem vmay_par (h : vmayB v = true) : ∀ g, g ∈ v.funcs → g.params ≤ 4 := by
  intro g hg
  unfold vmayB at h
  by_cases hh : vmayP v
  · rw [if_pos hh] at h
    have := List.all_eq_true.1 h g hg
    obtain ⟨⟨_, p1, _⟩, _⟩ := codeB_ok this
    omega
  · rw [if_neg hh] at h
    cases h
theorem vmay_ok (hin : VirtIn v) (h : vmayB v = true) : ProgOkG (virtG v) := by
  have hpar := vmay_par h
  unfold vmayB at h
  by_cases hh : vmayP v
  · rw [if_pos hh] at h
    obtain ⟨h1, h2, h3, h4, h5⟩ := hh
    have ob : obsB v.globs = true ∧ (v.globs.length : Int) ≤ 16 := by simpa [objsB] using h1
    refine ⟨fun o ho => ⟨obsB_ok' ob.1 o ho, hin.globs o ho⟩, by show v.globs.length ≤ 16; omega, fun g hg => ?_, ?_⟩
    · obtain ⟨c, hc, rfl⟩ := List.mem_map.1 (show g ∈ v.funcs.map codeG from hg)
      exact code_ok hin hc hpar (List.all_eq_true.1 h c hc)
    · obtain ⟨f, hf⟩ := Int.eq_ofNat_of_zero_le h4.1
      have hfl : f < v.funcs.length := by omega
      rw [hf, Int.toNat_natCast, List.getD_eq_getElem?_getD, List.getElem?_eq_getElem hfl] at h5
      exact ⟨f, codeG v.funcs[f], hf, by simp [virtG, hfl], h5⟩
  · rw [if_neg hh] at h
    cases h
end
end Go.Proofs.Ytinmgbodgecoeaa
namespace Go.Proofs.Ytinmgbodgecoeaa
open Go.RowKit

structure VFrame (w : World) (fb tb : Nat) (tp : List V) (lv : Value) (lo : List Nat) (mb : Nat) : Prop where
  row : Row w fb #[.slice (some ⟨tb, 0, none⟩) tp.length tp.length, lv, .map (some mb)] 81
  temps : VRow w tb tp
  locs : w.ownsRow 0 60 2 lv lo.length (flatV (locV lo))
  apart : ∀ g, lv.ownBlock = some g → g ≠ tb
  few : tp.length ≤ 1000000
  fewl : lo.length ≤ 1000000
/-- The run's own block: the clock, the program, the heap, the globals' places, the labels. -/
structure VRun (w : World) (rb cb hb : Nat) (P : Value × Value × Value) (gv bv : Value) (ng : Nat) : Prop where
  row : Row w rb #[.pointer (some ⟨cb, 0, none⟩), P.1, P.2.1, P.2.2, .pointer (some ⟨hb, 0, none⟩), gv, bv] 52
  globs : w.ownsRow 0 60 2 gv ng (flatV (globV ng))
  few : ng ≤ 1000000
/-- Blocks that are not the heap's nor the clock's. -/
structure VOff (base : Nat) (own : Nat → Prop) (rb fb tb : Nat) (lv gv : Value) : Prop where
  orb : ¬ own rb ∧ base ≤ rb
  ofb : ¬ own fb ∧ base ≤ fb
  otb : ¬ own tb ∧ base ≤ tb
  olv : ∀ g, lv.ownBlock = some g → ¬ own g ∧ base ≤ g
  ogv : ∀ g, gv.ownBlock = some g → ¬ own g ∧ base ≤ g ∧ g ≠ tb
  ort : rb ≠ tb
theorem VFrame.wr {F : Nat → Prop} {w w' : World} {fb tb mb : Nat} {tp : List V} {lv : Value} {lo : List Nat} (h : VFrame w fb tb tp lv lo mb) (hb : Wr F w w') (h1 : ¬ F fb) (h2 : ¬ F tb) (h3 : ∀ g, lv.ownBlock = some g → ¬ F g) : VFrame w' fb tb tp lv lo mb := by
  obtain ⟨r1, ⟨cs, r2, r3⟩, r4, r5, r6, r7⟩ := h
  exact ⟨r1.wr hb h1, ⟨cs, r2.wr hb h2, r3⟩, ownsRow_wr r4 hb h3, r5, r6, r7⟩
theorem VRun.wr {F : Nat → Prop} {w w' : World} {rb cb hb : Nat} {P : Value × Value × Value} {gv bv : Value} {ng : Nat} (h : VRun w rb cb hb P gv bv ng) (hw : Wr F w w') (h1 : ¬ F rb) (h2 : ∀ g, gv.ownBlock = some g → ¬ F g) : VRun w' rb cb hb P gv bv ng :=
  ⟨h.row.wr hw h1, ownsRow_wr h.globs hw h2, h.few⟩
theorem VFrame.below {w w' : World} {fb tb mb : Nat} {tp : List V} {lv : Value} {lo : List Nat} (h : VFrame w fb tb tp lv lo mb) (hb : Below w.heap.size w w') : VFrame w' fb tb tp lv lo mb := h.wr (Wr.of_below (F := fun _ => False) hb) (fun h => h) (fun h => h) (fun _ _ h => h)
theorem VRun.below {w w' : World} {rb cb hb : Nat} {P : Value × Value × Value} {gv bv : Value} {ng : Nat} (h : VRun w rb cb hb P gv bv ng) (hbw : Below w.heap.size w w') : VRun w' rb cb hb P gv bv ng := h.wr (Wr.of_below (F := fun _ => False) hbw) (fun h => h) (fun _ _ h => h)
theorem VFrame.lt {w : World} {fb tb mb : Nat} {tp : List V} {lv : Value} {lo : List Nat} (h : VFrame w fb tb tp lv lo mb) : fb < w.heap.size ∧ tb < w.heap.size := ⟨h.row.lt, by obtain ⟨_, h, _⟩ := h.temps; exact h.lt⟩
theorem vrunR_of {w : World} {base : Nat} {own : Nat → Prop} {cb hb rb fb tb mb : Nat} {fuel : Int} {s : St} {P : Value × Value × Value} {gv bv lv : Value} {ng : Nat} {tp : List V} {lo : List Nat} (h : HCs w base own cb hb fuel s) (hR : VRun w rb cb hb P gv bv ng) (hF : VFrame w fb tb tp lv lo mb) :
    RunR w w.heap.size rb fb (memBase s.mem) tp lo ng ∧ MemOk (memBase s.mem) ∧ NumOk (memBase s.mem) := by
  obtain ⟨inv, outv, memv, rbf, h⟩ := h
  obtain ⟨A, cap, rfl, hMR⟩ := h.mem.memRG
  obtain ⟨GA, gc, hgv, hgr, _⟩ := rowV_own hR.globs (globV_length ng)
  obtain ⟨LA, lc, hlv, hlr, _⟩ := rowV_own hF.locs (locV_length lo)
  obtain ⟨cs, ht, hvi⟩ := hF.temps
  refine ⟨⟨hb, _, cap, tp.length, lc, gc, A, some ⟨tb, 0, none⟩, LA, GA, hR.row.cell (j := 4) rfl, h.heap.cell rfl, hMR, ?_, hgr, hF.row.cell (j := 0) rfl, fun j v hj => ⟨tb, 0, rfl, ht.lt, by rw [Nat.zero_add]; exact ⟨ht.cell (hvi.2 j v hj).1, ht.cell (hvi.2 j v hj).2⟩⟩, ?_, hlr, hR.row.lt, hF.row.lt, h.heap.lt⟩, h.mem.ok, h.mem.num⟩
  · rw [← hgv]; exact hR.row.cell (j := 5) rfl
  · rw [← hlv]; exact hF.row.cell (j := 1) rfl
end Go.Proofs.Ytinmgbodgecoeaa
namespace Go.Proofs.Ytinmgbodgecoeaa
open Go.RowKit

theorem lmap_info : (Try.prog.info? 56).map (fun i => (i.zero, i.size, i.bytes)) = some (some (.map none), 1, 8) := by kernel_rfl
/-- What 'Labels' answers. -/
def LabsSays (l : List InsS) (N : Nat) (w : World) (v : Value) (w' : World) : Prop := ∃ mb n, v = .map (some mb) ∧ LabM w' mb n (labO l) ∧ N ≤ mb ∧ Below w.heap.size w w'
set_option maxRecDepth 100000 in
set_option maxHeartbeats 4000000 in
theorem vlabels_any (c : CodeS) (LA : Option Addr) (lc : Nat) (BA : Option Addr) (bc : Nat) (B : Nat) (w : World) (hB : B ≤ w.heap.size) (hl : SliceAt w B 6 (InsE w B) c.ins (.slice BA c.ins.length bc)) (hlen : c.ins.length ≤ 8000) (hlay : layB [] c.ins = true) :
    Calls Try.prog 11 #[.agg #[.int .i64 c.params, .int .i64 c.regs, .slice LA c.locs.length lc, .slice BA c.ins.length bc]] w fun e w' => ∃ v, e = .returned v ∧ LabsSays c.ins w.heap.size w v w' := by
  have HL := Lib.hid (fun (fv : Value) => vlay_any B (w.heap.size + 1) c.ins BA bc (.int .i64 c.params) (.int .i64 c.regs) (.slice LA c.locs.length lc) (.int .i64 0) (.int .i64 0) fv (.map none) ((w.alloc (.cells #[.int .i64 c.params, .int .i64 c.regs, .slice LA c.locs.length lc, .slice BA c.ins.length bc] 55)).alloc (.cells #[.int .i64 c.params, .int .i64 c.regs, .slice LA c.locs.length lc, .slice BA c.ins.length bc, .int .i64 0, .int .i64 0, fv, .map none] 73)) (Row.new' _ _ (by simp)) (hl.below ((below2 w _ _).mono hB) (Nat.le_refl _) (fun _ _ h => h.below ((below2 w _ _).mono hB) (Nat.le_refl _))) (by omega) hlen)
  have HLAY := Lib.hid hlay
  clear hl hlay
  go_enter Try.func11, Try.ntmps11
  refine wp_letter (fun Q hQ => ?_)
  have HQ := Lib.hid hQ
  clear hQ
  go_wp2_with fail
  refine (HL.out _).mono ?_
  rintro e w2 ⟨rfl, mb, n, h1, h2, h3, h4, h5, h6⟩
  have hmb := h1
  simp only [World.size_alloc] at hmb
  have HM := Lib.hid (h6 HLAY.out)
  have k7 := h3.cell (j := 7) rfl
  have kl := h3.lt
  have HW := Lib.hid h4
  clear h3 h4 h6
  go_wp2_with fail
  refine HQ.out _ _ _ ?_
  refine bodyPost_ret (v := .map (some mb)) (by simp [results, Try.results11, go_sem]) rfl ⟨_, rfl, mb, n, rfl, HM.out, by omega, ?_⟩
  exact ((Wr.of_below (F := fun _ => False) (below2 w _ _)).trans HW.out (fun i hi => Or.inr (by omega))).below (Nat.le_refl _) (fun _ h => h.elim)

/-- What the region's operations yield. -/
def vrlC (rb : Nat) (lv cv : Value) (l : List InsS) (N : Nat) (W : World) : Nat → Value → Prop
  | 0, v | 1, v | 2, v => v = .pointer (some ⟨rb, 0, none⟩)
  | 3, v => v = .pointer (some ⟨rb, 6, none⟩)
  | 4, v => v = lv
  | 5, v => v = cv
  | 6, v => ∃ mb n, v = .map (some mb) ∧ LabM W mb n (labO l) ∧ N ≤ mb
  | 7, v => ∃ nb mb n, v = .slice (some ⟨nb, 0, none⟩) 1 1 ∧ Row W nb #[.map (some mb)] 56 ∧ LabM W mb n (labO l) ∧ N ≤ mb
  | _, _ => True
/-- What has been appended. -/
def vrlF (base N : Nat) (lv : Value) (k : Nat) (xs : List Value) (l : List InsS) (w W' : World) (v : Value) : Prop :=
  ∃ W g cap mb n, v = .slice (some ⟨g, 0, none⟩) (k + 1) cap ∧ Below w.heap.size w W ∧ LabM W mb n (labO l) ∧ N ≤ mb ∧ W'.ownsRow base 56 1 v (k + 1) (xs ++ [.map (some mb)]) ∧ W.grownBy W' lv.ownBlock ∧ (lv.ownBlock = some g ∨ g = W.heap.size)
noncomputable def vrlR : Code := (regsOf (Try.f5.body.getD .skip)).getD 7 .skip
set_option maxRecDepth 100000 in
set_option maxHeartbeats 16000000 in
theorem vrl_region (rb gb base : Nat) (q0 q1 q2 q3 q4 q5 : Value) (c : CodeS) (LA : Option Addr) (lc : Nat) (BA : Option Addr) (bc : Nat) (ln : Option Addr) (k lcap : Nat) (xs : List Value) (w : World)
    (hrow : Row w rb #[q0, q1, q2, q3, q4, q5, .slice ln k lcap] 52) (hbox : Row w gb #[.int .i64 c.params, .int .i64 c.regs, .slice LA c.locs.length lc, .slice BA c.ins.length bc] 55) (hown : w.ownsRow base 56 1 (.slice ln k lcap) k xs) (hbase : base ≤ w.heap.size) (hk : k ≤ 100)
    (hlab : ∀ W, Below w.heap.size w W → Calls Try.prog 11 #[.agg #[.int .i64 c.params, .int .i64 c.regs, .slice LA c.locs.length lc, .slice BA c.ins.length bc]] W fun e w' => ∃ v, e = .returned v ∧ LabsSays c.ins W.heap.size W v w')
    (c0 c1 c2 c3 c4 c5 c6 c7 c9 c11 c12 c13 c14 c15 c16 c17 c18 c19 c20 c21 c22 c23 c24 c25 c26 c27 c28 c29 c30 c31 c32 c33 c34 c35 c36 c37 c38 c39 c40 c41 c42 c43 c44 c45 c46 c47 c48 c49 c50 c51 c52 c53 c54 c55 c56 c57 c58 c59 c60 c61 c62 c63 c64 c65 c66 c67 c68 c69 c70 c71 c72 c73 c74 c75 c76 c77 c78 c79 c80 c81 : Value) (Q : Exit → Act → World → Prop)
    (hexit : ∀ (W W' : World) (g cap mb n : Nat) (Y : Nat → Value), Below w.heap.size w W → LabM W mb n (labO c.ins) → w.heap.size ≤ mb → W'.ownsRow base 56 1 (.slice (some ⟨g, 0, none⟩) (k + 1) cap) (k + 1) (xs ++ [.map (some mb)]) → W.grownBy W' ((Value.slice ln k lcap).ownBlock) → ((Value.slice ln k lcap).ownBlock = some g ∨ g = W.heap.size) →
      Q .normal ⟨List.toArray (c0 :: c1 :: c2 :: c3 :: c4 :: c5 :: c6 :: c7 :: (Value.pointer (some ⟨rb, 0, none⟩)) :: c9 :: (Value.pointer (some ⟨gb, 0, none⟩)) :: c11 :: c12 :: c13 :: c14 :: c15 :: c16 :: c17 :: c18 :: c19 :: c20 :: c21 :: c22 :: c23 :: c24 :: c25 :: c26 :: c27 :: c28 :: c29 :: c30 :: c31 :: c32 :: c33 :: c34 :: c35 :: c36 :: c37 :: c38 :: c39 :: c40 :: Y 0 :: Y 1 :: Y 2 :: Y 3 :: Y 4 :: Y 5 :: Y 6 :: Y 7 :: Y 8 :: Y 9 :: Y 10 :: c52 :: c53 :: c54 :: c55 :: c56 :: c57 :: c58 :: c59 :: c60 :: c61 :: c62 :: c63 :: c64 :: c65 :: c66 :: c67 :: c68 :: c69 :: c70 :: c71 :: c72 :: c73 :: c74 :: c75 :: c76 :: c77 :: c78 :: c79 :: c80 :: c81 :: []), []⟩ (W'.setCell ⟨rb, 6, none⟩ (.slice (some ⟨g, 0, none⟩) (k + 1) cap))) :
    Code.wp Try.prog vrlR Q ⟨List.toArray (c0 :: c1 :: c2 :: c3 :: c4 :: c5 :: c6 :: c7 :: (Value.pointer (some ⟨rb, 0, none⟩)) :: c9 :: (Value.pointer (some ⟨gb, 0, none⟩)) :: c11 :: c12 :: c13 :: c14 :: c15 :: c16 :: c17 :: c18 :: c19 :: c20 :: c21 :: c22 :: c23 :: c24 :: c25 :: c26 :: c27 :: c28 :: c29 :: c30 :: c31 :: c32 :: c33 :: c34 :: c35 :: c36 :: c37 :: c38 :: c39 :: c40 :: c41 :: c42 :: c43 :: c44 :: c45 :: c46 :: c47 :: c48 :: c49 :: c50 :: c51 :: c52 :: c53 :: c54 :: c55 :: c56 :: c57 :: c58 :: c59 :: c60 :: c61 :: c62 :: c63 :: c64 :: c65 :: c66 :: c67 :: c68 :: c69 :: c70 :: c71 :: c72 :: c73 :: c74 :: c75 :: c76 :: c77 :: c78 :: c79 :: c80 :: c81 :: []), []⟩ w := by
  obtain ⟨i0, hi, hz0, hz1, hz2⟩ := info_parts lmap_info
  have HROW := Lib.hid hrow
  have HBOX := Lib.hid hbox
  have HOWN := Lib.hid hown
  have HLAB := Lib.hid hlab
  have HEX := Lib.hid hexit
  clear hrow hbox hown hlab hexit
  conv => arg 2; whnf
  refine region_cw_tail 8 (fun i => decide (i = 0)) (by kernel_rfl) (by kernel_rfl) (by kernel_rfl) (vrlC rb (.slice ln k lcap) (.agg #[.int .i64 c.params, .int .i64 c.regs, .slice LA c.locs.length lc, .slice BA c.ins.length bc]) c.ins w.heap.size) (vrlF base w.heap.size (.slice ln k lcap) k xs c.ins w) (fun Y => ⟨List.toArray (c0 :: c1 :: c2 :: c3 :: c4 :: c5 :: c6 :: c7 :: (Value.pointer (some ⟨rb, 0, none⟩)) :: c9 :: (Value.pointer (some ⟨gb, 0, none⟩)) :: c11 :: c12 :: c13 :: c14 :: c15 :: c16 :: c17 :: c18 :: c19 :: c20 :: c21 :: c22 :: c23 :: c24 :: c25 :: c26 :: c27 :: c28 :: c29 :: c30 :: c31 :: c32 :: c33 :: c34 :: c35 :: c36 :: c37 :: c38 :: c39 :: c40 :: Y 0 :: Y 1 :: Y 2 :: Y 3 :: Y 4 :: Y 5 :: Y 6 :: Y 7 :: Y 8 :: c50 :: c51 :: c52 :: c53 :: c54 :: c55 :: c56 :: c57 :: c58 :: c59 :: c60 :: c61 :: c62 :: c63 :: c64 :: c65 :: c66 :: c67 :: c68 :: c69 :: c70 :: c71 :: c72 :: c73 :: c74 :: c75 :: c76 :: c77 :: c78 :: c79 :: c80 :: c81 :: []), []⟩) (fun i => if i = 0 then c41 else if i = 1 then c42 else if i = 2 then c43 else if i = 3 then c44 else if i = 4 then c45 else if i = 5 then c46 else if i = 6 then c47 else if i = 7 then c48 else if i = 8 then c49 else undef) rfl ?_ ?_ ?_ ?_ ?_
  · intro W W' i v hb h
    rcases i with _ | _ | _ | _ | _ | _ | _ | _ | i
    iterate 6 (· exact h)
    · obtain ⟨mb, n, h1, h2, h3⟩ := h; exact ⟨mb, n, h1, h2.below hb, h3⟩
    · obtain ⟨nb, mb, n, h1, h2, h3, h4⟩ := h; exact ⟨nb, mb, n, h1, h2.below hb h2.lt, h3.below hb, h4⟩
    · trivial
  · intro i o' Y W hin hnl ho hb hall K hK
    have HW := Lib.hid hb
    clear hb
    rcases i with _ | _ | _ | _ | _ | _ | _ | _ | i
    · simp at hnl
    · simp at ho; subst ho
      clear hall
      refine wpOp_plain rfl rfl (fun K' hK' => ?_)
      go_simp
      have hh := hK' _ _ (hK _ _ (Below.refl _ _) rfl)
      simpa [upd] using hh
    · simp at ho; subst ho
      have d1 : Y 1 = _ := hall { on := 1, ground := Ground.data } (by simp) rfl
      have rl := HROW.out.lt
      clear hall
      refine wpOp_plain rfl rfl (fun K' hK' => ?_)
      go_simp
      have hh := hK' _ _ (hK _ _ (Below.refl _ _) rfl)
      simpa [upd, d1] using hh
    · simp at ho; subst ho
      have d2 : Y 2 = _ := hall { on := 2, ground := Ground.data } (by simp) rfl
      clear hall
      refine wpOp_plain rfl rfl (fun K' hK' => ?_)
      go_simp
      have hh := hK' _ _ (hK _ _ (Below.refl _ _) rfl)
      simpa [upd, d2] using hh
    · simp at ho; subst ho
      have d3 : Y 3 = _ := hall { on := 3, ground := Ground.data } (by simp) rfl
      have q6 := cell_below (HROW.out.cell (j := 6) rfl) HW.out HROW.out.lt
      clear hall
      refine wpOp_plain rfl rfl (fun K' hK' => ?_)
      go_simp
      have hh := hK' _ _ (hK _ _ (Below.refl _ _) rfl)
      simpa [upd, d3] using hh
    · simp at ho; subst ho
      have x0 := cell_below (HBOX.out.cell (j := 0) rfl) HW.out HBOX.out.lt
      have x1 := cell_below (HBOX.out.cell (j := 1) rfl) HW.out HBOX.out.lt
      have x2 := cell_below (HBOX.out.cell (j := 2) rfl) HW.out HBOX.out.lt
      have x3 := cell_below (HBOX.out.cell (j := 3) rfl) HW.out HBOX.out.lt
      have xl : gb < W.heap.size := Nat.lt_of_lt_of_le HBOX.out.lt HW.out.size
      clear hall
      refine wpOp_plain rfl rfl (fun K' hK' => ?_)
      go_simp
      have hh := hK' _ _ (hK _ _ (Below.refl _ _) rfl)
      simpa [upd] using hh
    · simp at ho; subst ho
      have d5 : Y 5 = _ := hall { on := 5, ground := Ground.data } (by simp) rfl
      clear hall
      refine wpOp_plain rfl rfl (fun K' hK' => ?_)
      go_simp
      refine (HLAB.out W HW.out).mono ?_
      rintro e W5 ⟨v, rfl, mb, n, rfl, hm, hmb, hb5⟩
      have HM := Lib.hid hm
      have HB5 := Lib.hid hb5
      clear hm hb5
      go_simp
      have hh := hK' _ _ (hK _ _ (HB5.out) ⟨mb, n, rfl, HM.out, Nat.le_trans HW.out.size hmb⟩)
      simpa [upd, d5] using hh
    · simp at ho; subst ho
      obtain ⟨mb, n, d6, hm, hmb⟩ := hall { on := 6, ground := Ground.data } (by simp) rfl
      have HM := Lib.hid hm
      clear hall hm
      refine wpOp_plain rfl rfl (fun K' hK' => ?_)
      go_simp
      have hh := hK' _ _ (hK _ _ (below1 W (.cells #[.map (some mb)] 56)) ⟨W.heap.size, mb, n, rfl, Row.new' _ _ rfl, HM.out.below (below1 _ _), hmb⟩)
      simpa [upd, d6] using hh
    · omega
  · intro i o' Y W hin hl ho K hK
    obtain rfl : i = 0 := by simpa using hl
    simp at ho; subst ho
    refine wpOp_plain rfl rfl (fun K' hK' => ?_)
    go_simp
    have hh := hK' _ _ (hK _ (fun _ => rfl))
    simpa [upd] using hh
  · intro o' Y W ho hb hall K hK
    have e4 : Y 4 = _ := hall 4 (by decide) (by decide)
    obtain ⟨nb, mb, n, e7, hnr, hm, hmb⟩ := hall 7 (by decide) (by decide)
    have HB := Lib.hid hb
    have HNR := Lib.hid hnr
    have HM := Lib.hid hm
    have hsz := hb.size
    have hone : ∀ (j : Nat) (u : Value), [Value.map (some mb)][j]? = some u → W.cell? ((⟨nb, 0, none⟩ : Addr).add j) = some u := fun j u hj => by
      rw [List.getElem?_cons] at hj
      split at hj
      · rename_i hj0
        subst hj0
        injection hj with hj
        subst hj
        exact HNR.out.cell (j := 0) rfl
      · simp at hj
    have HONE := Lib.hid hone
    simp at ho; subst ho
    clear hall hb hnr hm hone
    refine wpOp_plain rfl rfl (fun K' hK' => ?_)
    refine wp_append_lies _ (.tmp 45) (.tmp 48) 50 rfl base 56 i0 (.map none) 1 8 Try.underlying50 hi hz0 hz1 hz2 rfl (by decide) (.slice ln k lcap) k xs e4 (ownsRow_wr HOWN.out (Wr.of_below (F := fun _ => False) HB.out) (fun _ _ h => h)) ⟨nb, 0, none⟩ 1 1 [.map (some mb)] e7 rfl HONE.out (by simp [Value.oneCell']) (by decide) (by unfold maxLen; omega) (by omega) (by omega) W.heap.size rfl (fun g cap w' r1 r2 r3 r4 => ?_)
    have hh := hK' _ _ (hK (.slice (some ⟨g, 0, none⟩) (k + 1) cap) w' ⟨W, g, cap, mb, n, rfl, HB.out, HM.out, hmb, r1, r2, r3⟩)
    simpa [upd, Act.put] using hh
  · intro Y W' ⟨W, g, cap, mb, n, e8, hb, hm, hmb, r1, r2, r3⟩ hl
    have e0 : Y 0 = _ := hl 0 (by decide) (by decide) W'
    rw [e8] at r1
    have HB := Lib.hid hb
    have HM := Lib.hid hm
    have HR1 := Lib.hid r1
    have HR2 := Lib.hid r2
    have hr0 : Row W' rb #[q0, q1, q2, q3, q4, q5, .slice ln k lcap] 52 := ((HROW.out.below hb HROW.out.lt)).wr (Wr.grown (F := fun i => (Value.slice ln k lcap).ownBlock = some i) r2 (fun i hi => hi)) (fun h => (by
      obtain ⟨_, cs, hx⟩ := ownsRow_row HOWN.out h
      exact hx.ne HROW.out (by decide) rfl))
    have f6 := hr0.free 6
    have fl := hr0.lt
    have f7 := hr0.cell (j := 6) rfl
    clear hb hm r1 r2 hl hr0
    simp only [List.drop_succ_cons, List.drop_zero, e0, e8]
    go_wp2_with fail
    have hh := HEX.out W W' g cap mb n (upd (upd (upd (upd Y 0 (.pointer (some ⟨rb, 0, none⟩))) 8 (.slice (some ⟨g, 0, none⟩) (k + 1) cap)) 9 (.pointer (some ⟨rb, 0, none⟩))) 10 (.pointer (some ⟨rb, 6, none⟩))) HB.out HM.out hmb HR1.out HR2.out r3
    simpa [upd, e0] using hh
end Go.Proofs.Ytinmgbodgecoeaa
namespace Go.Proofs.Ytinmgbodgecoeaa
open Go.RowKit

structure XBoxS (w : World) (ia is ix sz : Nat) (ty : TypeId) (boxed : Value → Array Value) (Cl : World → Nat → Value → (Nat → Prop) → Prop) (L : Array Bool) (Y : Nat → Value) (Z : Nat → Nat → Prop) (W : World) : Prop where
  below : Below w.heap.size w W
  cl : ∀ i, i ≠ ia → i ≠ is → L.getD i false = true → Cl W i (Y i) (Z i) ∧ (∀ k, Z i k → k < W.heap.size) ∧ (L.getD ia false = true → ∀ p, Y ia = .pointer (some ⟨p, 0, none⟩) → ¬ Z i p)
  box : L.getD ia false = true → ∃ p cs, Y ia = .pointer (some ⟨p, 0, none⟩) ∧ w.heap.size ≤ p ∧ Row W p cs ty ∧ cs.size = sz ∧ (L.getD is false = true → L.getD ix false = true ∧ cs = boxed (Y ix))
  dep : L.getD is false = true → L.getD ia false = true

def updZ (Z : Nat → Nat → Prop) (i : Nat) (S : Nat → Prop) : Nat → Nat → Prop := fun j => if j = i then S else Z j
theorem updZ_self (Z : Nat → Nat → Prop) (i : Nat) (S : Nat → Prop) : updZ Z i S i = S := by simp [updZ]
theorem updZ_ne (Z : Nat → Nat → Prop) {i j : Nat} (S : Nat → Prop) (h : j ≠ i) : updZ Z i S j = Z j := by simp [updZ, h]

/-- At a region's end every operation is done. -/
theorem flags_all {l : List Oper} {L : Array Bool} (hback : l.zipIdx.all (fun x => x.1.after.all fun e => !Region.binds .any e || decide (e.on < x.2)) = true) (hr : Region.ready .any l.toArray L = []) (hsz : L.size = l.length) : ∀ i, i < l.length → L.getD i false = true := by
  have key : ∀ n i, i < n → i < l.length → L.getD i false = true := by
    intro n
    induction n with
    | zero => intro i h; omega
    | succ n ih =>
      intro i hin hil
      refine flag_of_any (j := i) (by omega) hr (show l.toArray[i]? = some l[i] by simp [hil]) (fun e he hbd => ?_)
      have hlt : e.on < i := by
        have hx := List.all_eq_true.1 hback (l[i], i) (List.mem_iff_getElem?.2 ⟨i, by simp [hil]⟩)
        have hy := (Array.all_eq_true_iff_forall_mem.1 hx) e he
        rw [hbd] at hy
        simpa using hy
      exact ih e.on (by omega) (by omega)
  exact fun i hi => key (i + 1) i (by omega) hi
/-- A box made and written whole; the other operations at most make new memory; 'Cl W i v S': what is known of operation i's result v, which lies in the blocks S. -/
theorem region_boxS {P : Program} {id : Nat} {Q : Exit → Act → World → Prop} {a : Act} {w : World} {l : List Oper} (hm : P.follows .mixedOrders = true) (ia is ix sz : Nat) (ty : TypeId) (boxed : Value → Array Value)
    (Cl : World → Nat → Value → (Nat → Prop) → Prop) (mk : (Nat → Value) → Act) (Y0 : Nat → Value) (ha : a = mk Y0)
    (hback : l.zipIdx.all (fun x => x.1.after.all fun e => !Region.binds .any e || decide (e.on < x.2)) = true)
    (hia : ia < l.length) (his : is < l.length) (hne : ia ≠ is) (hxa : ix ≠ ia) (hxs : ix ≠ is)
    (hst : ∀ o, l[is]? = some o → (∃ e ∈ o.after, e.on = ia ∧ Region.binds .any e = true) ∧ (∃ e ∈ o.after, e.on = ix ∧ Region.binds .any e = true))
    (hwr : ∀ F W W' i v S, Wr F W W' → (∀ k, S k → ¬ F k) → Cl W i v S → Cl W' i v S)
    (hstep : ∀ i o Y (Z : Nat → Nat → Prop) W, i ≠ ia → i ≠ is → l[i]? = some o → Below w.heap.size w W → (∀ e ∈ o.after, Region.binds .any e = true → e.on ≠ ia → e.on ≠ is → Cl W e.on (Y e.on) (Z e.on)) →
      ∀ K : Act → World → Prop, (∀ v S W', Below W.heap.size W W' → Cl W' i v S → (∀ k, S k → (W.heap.size ≤ k ∧ k < W'.heap.size) ∨ ∃ e ∈ o.after, Region.binds .any e = true ∧ e.on ≠ ia ∧ e.on ≠ is ∧ Z e.on k) → K (mk (upd Y i v)) W') → wpOp P l.toArray Q i K (mk Y) W)
    (halloc : ∀ o Y W, l[ia]? = some o → Below w.heap.size w W → ∀ K : Act → World → Prop, (∀ cs : Array Value, cs.size = sz → K (mk (upd Y ia (.pointer (some ⟨W.heap.size, 0, none⟩)))) (W.alloc (.cells cs ty))) → wpOp P l.toArray Q ia K (mk Y) W)
    (hwrite : ∀ o Y S W p cs, l[is]? = some o → Y ia = .pointer (some ⟨p, 0, none⟩) → Row W p cs ty → cs.size = sz → Cl W ix (Y ix) S → ∀ K : Act → World → Prop, (∀ W' v, Wr (fun k => k = p) W W' → Row W' p (boxed (Y ix)) ty → (boxed (Y ix)).size = sz → K (mk (upd Y is v)) W') → wpOp P l.toArray Q is K (mk Y) W)
    (hend : ∀ Y (Z : Nat → Nat → Prop) W p, Below w.heap.size w W → w.heap.size ≤ p → Y ia = .pointer (some ⟨p, 0, none⟩) → Row W p (boxed (Y ix)) ty → (∀ i, i < l.length → i ≠ ia → i ≠ is → Cl W i (Y i) (Z i) ∧ ¬ Z i p) → Q .normal (mk Y) W) : (Code.region id l.toArray true).wp P Q a w := by
  refine wp_region_inv hm (fun L act W => L.size = l.length ∧ ∃ Y Z, act = mk Y ∧ XBoxS w ia is ix sz ty boxed Cl L Y Z W) ?_ ?_ ?_
  · have hf : ∀ j, (Array.replicate l.toArray.size false).getD j false = true → False := fun j h => by
      rcases Nat.lt_or_ge j l.length with hj | hj
      · simp [Array.getD, hj] at h
      · simp [Array.getD, Nat.not_lt.2 hj] at h
    exact ⟨by simp, Y0, fun _ _ => False, ha, (Below.refl _ _).drew, fun i _ _ h => (hf i h).elim, fun h => (hf _ h).elim, fun h => (hf _ h).elim⟩
  · rintro L act W i hi ⟨hsz, Y, Z, rfl, hJ⟩
    obtain ⟨hn, o, ho, hall⟩ := mem_ready.1 hi
    have ho' : l[i]? = some o := by simpa using ho
    have hb := hJ.below
    by_cases h1 : i = ia
    · subst h1
      refine halloc o Y W ho' hb _ (fun cs hcs => ⟨by simp [hsz], _, Z, rfl, hb.alloc hb.size _, fun j hj1 hj2 g => ?_, fun g => ?_, fun g => ?_⟩)
      · have g' := (ls_set' g).resolve_left hj1
        obtain ⟨c1, c2, c3⟩ := hJ.cl j hj1 hj2 g'
        rw [upd_ne Y _ hj1]
        refine ⟨hwr (fun _ => False) _ _ _ _ _ (Wr.of_below (below1 W _)) (fun _ _ h => h) c1, fun k hk => by have := c2 k hk; simp; omega, fun _ p hp hz => ?_⟩
        rw [upd_self] at hp
        injection hp with hp
        injection hp with hp
        injection hp with hp
        have := c2 p hz
        omega
      · refine ⟨W.heap.size, cs, upd_self _ _ _, hb.size, Row.new _ _ _, hcs, fun g2 => ?_⟩
        exact (ls_un hn (hJ.dep ((ls_set' g2).resolve_left (Ne.symm hne)))).elim
      · exact (ls_un hn (hJ.dep ((ls_set' g).resolve_left (Ne.symm hne)))).elim
    · by_cases h2 : i = is
      · subst h2
        obtain ⟨⟨e1, he1, hon1, hb1⟩, ⟨e2, he2, hon2, hb2⟩⟩ := hst o ho'
        have f1 := hall e1 he1 hb1
        have f2 := hall e2 he2 hb2
        rw [hon1] at f1
        rw [hon2] at f2
        obtain ⟨p, cs, hp, hpw, hrow, hcs, _⟩ := hJ.box f1
        refine hwrite o Y (Z ix) W p cs ho' hp hrow hcs (hJ.cl ix hxa hxs f2).1 _ (fun W' v hw' hr' hbs => ⟨by simp [hsz], _, Z, rfl, hb.trans (hw'.below hb.size (fun k hk => by omega)), fun j hj1 hj2 g => ?_, fun g => ?_, fun g => ls_keep f1⟩)
        · have g' := (ls_set' g).resolve_left hj2
          obtain ⟨c1, c2, c3⟩ := hJ.cl j hj1 hj2 g'
          rw [upd_ne Y _ hj2, upd_ne Y _ hne]
          exact ⟨hwr _ _ _ _ _ _ hw' (fun k hk e => c3 f1 p hp (by have e : k = p := e; rw [← e]; exact hk)) c1, fun k hk => Nat.lt_of_lt_of_le (c2 k hk) hw'.size, fun _ => c3 f1⟩
        · rw [upd_ne Y _ hne, upd_ne Y _ hxs]
          exact ⟨p, _, hp, hpw, hr', hbs, fun _ => ⟨ls_keep f2, rfl⟩⟩
      · refine hstep i o Y Z W h1 h2 ho' hb (fun e he hbd n1 n2 => (hJ.cl e.on n1 n2 (hall e he hbd)).1) _ (fun v S W' hb' hv hoff => ⟨by simp [hsz], _, updZ Z i S, rfl, hb.trans (hb'.mono hb.size), fun j hj1 hj2 g => ?_, fun g => ?_, fun g => ls_keep (hJ.dep ((ls_set' g).resolve_left (Ne.symm h2)))⟩)
        · by_cases hji : j = i
          · subst hji
            rw [upd_self, upd_ne Y _ (Ne.symm h1), updZ_self]
            refine ⟨hv, fun k hk => ?_, fun g2 p hp hz => ?_⟩
            · rcases hoff k hk with h | ⟨e, he, hbd, n1, n2, hz⟩
              · exact h.2
              · exact Nat.lt_of_lt_of_le ((hJ.cl e.on n1 n2 (hall e he hbd)).2.1 k hz) hb'.size
            · have g3 := (ls_set' g2).resolve_left (Ne.symm h1)
              obtain ⟨p', cs, hp', hpw, hrow, _⟩ := hJ.box g3
              have : p = p' := by rw [hp] at hp'; simpa using hp'
              subst this
              rcases hoff p hz with h | ⟨e, he, hbd, n1, n2, hz'⟩
              · have := hrow.lt; omega
              · exact (hJ.cl e.on n1 n2 (hall e he hbd)).2.2 g3 p hp hz'
          · have g' := (ls_set' g).resolve_left hji
            obtain ⟨c1, c2, c3⟩ := hJ.cl j hj1 hj2 g'
            rw [upd_ne Y _ hji, upd_ne Y _ (Ne.symm h1), updZ_ne Z _ hji]
            exact ⟨hwr (fun _ => False) _ _ _ _ _ (Wr.of_below hb') (fun _ _ h => h) c1, fun k hk => Nat.lt_of_lt_of_le (c2 k hk) hb'.size, fun g2 => c3 ((ls_set' g2).resolve_left (Ne.symm h1))⟩
        · obtain ⟨p, cs, hp, hpw, hrow, hcs, hw⟩ := hJ.box ((ls_set' g).resolve_left (Ne.symm h1))
          rw [upd_ne Y _ (Ne.symm h1)]
          refine ⟨p, cs, hp, hpw, hrow.below hb' hrow.lt, hcs, fun g2 => ?_⟩
          obtain ⟨x1, x2⟩ := hw ((ls_set' g2).resolve_left (Ne.symm h2))
          have hxi : ix ≠ i := fun e => ls_un hn (e ▸ x1)
          rw [upd_ne Y _ hxi]
          exact ⟨ls_keep x1, x2⟩
  · rintro L act W hr ⟨hsz, Y, Z, rfl, hJ⟩
    have fl := flags_all hback hr hsz
    obtain ⟨p, cs, hp, hpw, hrow, _, hw⟩ := hJ.box (fl ia hia)
    obtain ⟨_, rfl⟩ := hw (fl is his)
    exact hend Y Z W p hJ.below hpw hp hrow (fun i hi n1 n2 => ⟨(hJ.cl i n1 n2 (fl i hi)).1, (hJ.cl i n1 n2 (fl i hi)).2.2 (fl ia hia) p hp⟩)

structure XPut (w : World) (is ix p sz : Nat) (ty : TypeId) (boxed : Value → Array Value) (Cl : World → Nat → Value → Prop) (L : Array Bool) (Y : Nat → Value) (W : World) : Prop where
  wr : Wr (fun k => k = p) w W
  cl : ∀ i, i ≠ is → L.getD i false = true → Cl W i (Y i)
  box : ∃ cs, Row W p cs ty ∧ cs.size = sz ∧ (L.getD is false = true → L.getD ix false = true ∧ cs = boxed (Y ix))

/-- An old box is written whole; the other operations at most make new memory. -/
theorem region_put {P : Program} {id : Nat} {Q : Exit → Act → World → Prop} {a : Act} {w : World} {l : List Oper} (hm : P.follows .mixedOrders = true) (is ix p sz : Nat) (ty : TypeId) (boxed : Value → Array Value)
    (Cl : World → Nat → Value → Prop) (mk : (Nat → Value) → Act) (Y0 : Nat → Value) (ha : a = mk Y0)
    (hback : l.zipIdx.all (fun x => x.1.after.all fun e => !Region.binds .any e || decide (e.on < x.2)) = true)
    (his : is < l.length) (hxs : ix ≠ is) (hrow0 : ∃ cs, Row w p cs ty ∧ cs.size = sz)
    (hst : ∀ o, l[is]? = some o → (∃ e ∈ o.after, e.on = ix ∧ Region.binds .any e = true))
    (hmono : ∀ W W' i v, Below W.heap.size W W' → Cl W i v → Cl W' i v)
    (hstore : ∀ W W' i v, Wr (fun k => k = p) W W' → Cl W i v → Cl W' i v)
    (hstep : ∀ i o Y W, i ≠ is → l[i]? = some o → Wr (fun k => k = p) w W → (∀ e ∈ o.after, Region.binds .any e = true → e.on ≠ is → Cl W e.on (Y e.on)) →
      ∀ K : Act → World → Prop, (∀ v W', Below W.heap.size W W' → Cl W' i v → K (mk (upd Y i v)) W') → wpOp P l.toArray Q i K (mk Y) W)
    (hwrite : ∀ o Y W cs, l[is]? = some o → Row W p cs ty → cs.size = sz → Cl W ix (Y ix) → ∀ K : Act → World → Prop, (∀ W' v, Wr (fun k => k = p) W W' → Row W' p (boxed (Y ix)) ty → (boxed (Y ix)).size = sz → K (mk (upd Y is v)) W') → wpOp P l.toArray Q is K (mk Y) W)
    (hend : ∀ Y W, Wr (fun k => k = p) w W → Row W p (boxed (Y ix)) ty → (∀ i, i < l.length → i ≠ is → Cl W i (Y i)) → Q .normal (mk Y) W) : (Code.region id l.toArray true).wp P Q a w := by
  refine wp_region_inv hm (fun L act W => L.size = l.length ∧ ∃ Y, act = mk Y ∧ XPut w is ix p sz ty boxed Cl L Y W) ?_ ?_ ?_
  · have hf : ∀ j, (Array.replicate l.toArray.size false).getD j false = true → False := fun j h => by
      rcases Nat.lt_or_ge j l.length with hj | hj
      · simp [Array.getD, hj] at h
      · simp [Array.getD, Nat.not_lt.2 hj] at h
    obtain ⟨cs, hc1, hc2⟩ := hrow0
    exact ⟨by simp, Y0, ha, Wr.of_below (Below.refl _ _).drew, fun i _ h => (hf i h).elim, ⟨cs, hc1.below (Below.refl w.heap.size w).drew hc1.lt, hc2, fun h => (hf _ h).elim⟩⟩
  · rintro L act W i hi ⟨hsz, Y, rfl, hJ⟩
    obtain ⟨hn, o, ho, hall⟩ := mem_ready.1 hi
    have ho' : l[i]? = some o := by simpa using ho
    have hb := hJ.wr
    by_cases h2 : i = is
    · subst h2
      obtain ⟨e2, he2, hon2, hb2⟩ := hst o ho'
      have f2 := hall e2 he2 hb2
      rw [hon2] at f2
      obtain ⟨cs, hrow, hcs, _⟩ := hJ.box
      refine hwrite o Y W cs ho' hrow hcs (hJ.cl ix hxs f2) _ (fun W' v hw' hr' hbs => ⟨by simp [hsz], _, rfl, hb.trans hw' (fun _ h => Or.inl h), fun j hj2 g => ?_, ?_⟩)
      · have g' := (ls_set' g).resolve_left hj2
        rw [upd_ne Y _ hj2]
        exact hstore _ _ _ _ hw' (hJ.cl j hj2 g')
      · rw [upd_ne Y _ hxs]
        exact ⟨_, hr', hbs, fun _ => ⟨ls_keep f2, rfl⟩⟩
    · refine hstep i o Y W h2 ho' hb (fun e he hbd n2 => hJ.cl e.on n2 (hall e he hbd)) _ (fun v W' hb' hv => ⟨by simp [hsz], _, rfl, hb.trans (Wr.of_below (F := fun _ => False) hb') (fun _ h => h.elim), fun j hj2 g => ?_, ?_⟩)
      · by_cases hji : j = i
        · subst hji
          rw [upd_self]
          exact hv
        · have g' := (ls_set' g).resolve_left hji
          rw [upd_ne Y _ hji]
          exact hmono _ _ _ _ hb' (hJ.cl j hj2 g')
      · obtain ⟨cs, hrow, hcs, hw⟩ := hJ.box
        refine ⟨cs, hrow.below hb' hrow.lt, hcs, fun g2 => ?_⟩
        obtain ⟨x1, x2⟩ := hw ((ls_set' g2).resolve_left (Ne.symm h2))
        have hxi : ix ≠ i := fun e => ls_un hn (e ▸ x1)
        rw [upd_ne Y _ hxi]
        exact ⟨ls_keep x1, x2⟩
  · rintro L act W hr ⟨hsz, Y, rfl, hJ⟩
    have fl := flags_all hback hr hsz
    obtain ⟨cs, hrow, _, hw⟩ := hJ.box
    obtain ⟨_, rfl⟩ := hw (fl is his)
    exact hend Y W hJ.wr hrow (fun i hi n2 => hJ.cl i n2 (fl i hi))
end Go.Proofs.Ytinmgbodgecoeaa
namespace Go.Proofs.Ytinmgbodgecoeaa
open Go.RowKit

/-- A register's value. -/
def regF (tp : List V) (r : Int) : V := tp.getD r.toNat ⟨0, 0⟩
def addrF (M : List MO) (tp : List V) (x : InsS) : Option V := binF twoR M 12 (regF tp x.a) ⟨0, x.b⟩
/-- What an instruction that makes a value makes; none: it is stuck. -/
def reckF (M : List MO) (tp : List V) (lo : List Nat) (x : InsS) : Option V :=
  if x.op = 1 then some ⟨0, x.n⟩
  else if x.op = 2 then some (regF tp x.a)
  else if x.op = 3 then some ⟨lo.getD x.n.toNat 0, 0⟩
  else if x.op = 4 then some ⟨x.n.toNat + 1, 0⟩
  else if x.op = 5 then binF twoR M x.n (regF tp x.a) (regF tp x.b)
  else if x.op = 6 then binF twoR M x.n (regF tp x.a) ⟨0, x.arg.getD 0 0⟩
  else if x.op = 7 then (if (regF tp x.a).obj = 0 then some ⟨0, unR x.n (regF tp x.a).n⟩ else none)
  else match addrF M tp x with
    | none => none
    | some v => loadF M x.n v
section
variable {M : List MO} {tp : List V} {lo : List Nat}
theorem evalTs_one (t : T) : evalTs M tp lo [t] = (evalT M tp lo t).map ([·]) := by
  rw [evalTs, evalTs]
  cases evalT M tp lo t <;> rfl
theorem evalT_two {op : Int} {t u : T} (h : 12 ≤ op ∧ op ≤ 30) {a b : V} (ha : evalT M tp lo t = some a) (hb : evalT M tp lo u = some b) : evalT M tp lo (.node op 0 [t, u]) = binF twoR M op a b := by
  rw [evalT, evalTs, evalTs, evalTs, ha, hb]
  show opF M tp lo op 0 [a, b] = _
  unfold opF applyF
  rw [if_neg (by omega), if_neg (by omega), if_neg (by omega), if_neg (by omega), if_neg (by omega), if_neg (by omega)]
  rfl
theorem evalT_addr (x : InsS) : evalT M tp lo (.node 12 0 [tmpT x.a, conT x.b]) = addrF M tp x := evalT_two (by decide) (evalT_tmp _ _ _ _) (evalT_con _ _ _ _)
theorem reck_eval {c : CodeS} {ng nf : Nat} {par : Int → Int → Bool} {x : InsS} (h : InsOk c ng nf par x) (h8 : x.op ≤ 8) : evalTs M tp lo (stepI x).args = (reckF M tp lo x).map ([·]) := by
  obtain ⟨hop, _, _, _, hn⟩ := h
  obtain ⟨op, dst, a, b, n, arg⟩ := x
  simp only at *
  have hs : op = 1 ∨ op = 2 ∨ op = 3 ∨ op = 4 ∨ op = 5 ∨ op = 6 ∨ op = 7 ∨ op = 8 := by omega
  rcases hs with rfl | rfl | rfl | rfl | rfl | rfl | rfl | rfl
  · rw [show (stepI ⟨1, dst, a, b, n, arg⟩).args = [conT n] from rfl, evalTs_one, evalT_con]; rfl
  · rw [show (stepI ⟨2, dst, a, b, n, arg⟩).args = [tmpT a] from rfl, evalTs_one, evalT_tmp]; rfl
  · rw [show (stepI ⟨3, dst, a, b, n, arg⟩).args = [.node 3 n []] from rfl, evalTs_one, evalT, evalTs]; rfl
  · rw [show (stepI ⟨4, dst, a, b, n, arg⟩).args = [.node 4 n []] from rfl, evalTs_one, evalT, evalTs]; rfl
  · simp [numberI] at hn
    rw [show (stepI ⟨5, dst, a, b, n, arg⟩).args = [.node n 0 [tmpT a, tmpT b]] from rfl, evalTs_one, evalT_two hn (evalT_tmp _ _ _ _) (evalT_tmp _ _ _ _)]; rfl
  · simp [numberI] at hn
    rw [show (stepI ⟨6, dst, a, b, n, arg⟩).args = [.node n 0 [tmpT a, conT (arg.getD 0 0)]] from rfl, evalTs_one, evalT_two hn.1 (evalT_tmp _ _ _ _) (evalT_con _ _ _ _)]; rfl
  · simp [numberI] at hn
    rw [show (stepI ⟨7, dst, a, b, n, arg⟩).args = [.node n 0 [tmpT a]] from rfl, evalTs_one, evalT, evalTs_one, evalT_tmp]
    show (opF M tp lo n 0 [tp.getD a.toNat ⟨0, 0⟩]).map _ = _
    unfold opF applyF
    rw [if_neg (by omega), if_neg (by omega), if_neg (by omega), if_neg (by omega), if_neg (by omega), if_pos (by omega)]
    rfl
  · simp [numberI] at hn
    rw [show (stepI ⟨8, dst, a, b, n, arg⟩).args = [.node n 0 [.node 12 0 [tmpT a, conT b]]] from rfl, evalTs_one, evalT, evalTs_one, show evalT M tp lo (.node 12 0 [tmpT a, conT b]) = addrF M tp ⟨8, dst, a, b, n, arg⟩ from evalT_addr ⟨8, dst, a, b, n, arg⟩]
    have e : reckF M tp lo ⟨8, dst, a, b, n, arg⟩ = match addrF M tp ⟨8, dst, a, b, n, arg⟩ with
      | none => none
      | some v => loadF M n v := rfl
    rw [e]
    cases addrF M tp ⟨8, dst, a, b, n, arg⟩ with
    | none => rfl
    | some v =>
      show (opF M tp lo n 0 [v]).map _ = _
      unfold opF applyF
      rw [if_neg (by omega), if_neg (by omega), if_neg (by omega), if_neg (by omega), if_pos (by omega)]
      rfl
end
end Go.Proofs.Ytinmgbodgecoeaa
