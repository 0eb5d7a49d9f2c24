/- The graph's heap: an op of two. Conditions: as stated. -/
import Derived.Test.YtikbdplllopjlaaGBinZz
set_option linter.unusedVariables false
set_option linter.unusedSimpArgs false
namespace Go.Proofs.Ytikbdplllopjlaa
open Go.RowKit

theorem gtwo_any (hb n cap B : Nat) (op : Int) (a b : V) (A : Option Addr) (M : List MO) (w : World) (hB : B ≤ w.heap.size) (hpb : hb < w.heap.size) (hc : w.cell? ⟨hb, 0, none⟩ = some (.slice A n cap)) (hM : MemRG w B A n M) (hka : a.obj ≠ 0 → a.obj < M.length ∧ 0 ≤ a.n ∧ a.n ≤ 512) (hkb : b.obj ≠ 0 → b.obj < M.length ∧ 0 ≤ b.n ∧ b.n ≤ 512) (hib : In64 b.n) (h0 : 12 ≤ op) (h1 : op ≤ 30) :
    Calls Try.prog 46 #[.pointer (some ⟨hb, 0, none⟩), .int .i64 op, .agg #[.int .i64 a.obj, .int .i64 a.n], .agg #[.int .i64 b.obj, .int .i64 b.n]] w fun e w' => AnsV (binF twoR M op a b) e ∧ Below w.heap.size w w' := by
  have no : ∀ {x : Int} {w' : World} {e : Ending}, e = .returned (.tuple #[.agg #[.int .i64 0, .int .i64 x], .bool false]) ∧ Below w.heap.size w w' → AnsV none e ∧ Below w.heap.size w w' := fun h => ⟨⟨_, _, h.1⟩, h.2⟩
  have yes : ∀ {x : Int} {w' : World} {e : Ending}, e = .returned (.tuple #[.agg #[.int .i64 0, .int .i64 x], .bool true]) ∧ Below w.heap.size w w' → AnsV (some ⟨0, x⟩) e ∧ Below w.heap.size w w' := fun h => ⟨by show _ = _; rw [h.1]; simp [ansV], h.2⟩
  by_cases ha : a.obj = 0
  · by_cases hz : b.obj = 0
    · have e : binF twoR M op a b = some ⟨0, twoR op a.n b.n⟩ := by unfold binF; rw [if_pos ⟨ha, hz⟩]
      rw [e]
      exact (two_nums hb n cap B op a b A M w hB hpb hc hM hka hkb h0 h1 ha hz).mono fun _ _ => yes
    · have hab : a ≠ b := fun h => hz (h ▸ ha)
      by_cases h2 : op = 12
      · have e : binF twoR M op a b = movedF M b a.n := by unfold binF; rw [if_neg (fun h => hz h.2), if_pos ⟨h2, ha⟩]
        rw [e]
        exact two_add_r hb n cap B op a b A M w hB hpb hc hM hka hkb h0 h1 ha hz h2
      · by_cases h3 : op = 25 ∨ op = 26
        · by_cases hn : a.n = 0
          · have e : binF twoR M op a b = some ⟨0, op - 25⟩ := by
              unfold binF
              rw [if_neg (fun h => hz h.2), if_neg (fun h => h2 h.1), if_neg (fun h => h2 h.1), if_neg (fun h => hz h.2), if_pos h3, if_neg (fun h => by rcases h with h | h; exact h.2 hn; exact hz h.1), if_neg (fun h => by omega), if_neg hab]
              rcases h3 with rfl | rfl
              · rw [eq_25]; rfl
              · rw [ne_26]; rfl
            rw [e]
            have hn' : (a.n == 0) = true := by simpa using hn
            rcases h3 with h3 | h3
            · subst h3
              exact (two_eq_r25_yes hb n cap B 25 a b A M w hB hpb hc hM hka hkb h0 h1 ha hz rfl hn').mono fun _ _ => yes
            · subst h3
              exact (two_eq_r26_yes hb n cap B 26 a b A M w hB hpb hc hM hka hkb h0 h1 ha hz rfl hn').mono fun _ _ => yes
          · have e : binF twoR M op a b = none := by
              unfold binF
              rw [if_neg (fun h => hz h.2), if_neg (fun h => h2 h.1), if_neg (fun h => h2 h.1), if_neg (fun h => hz h.2), if_pos h3, if_pos (Or.inl ⟨ha, hn⟩)]
            rw [e]
            have hn' : (a.n == 0) = false := by simpa using hn
            rcases h3 with h3 | h3
            · subst h3
              exact (two_eq_r25_no hb n cap B 25 a b A M w hB hpb hc hM hka hkb h0 h1 ha hz rfl hn').mono fun _ _ => no
            · subst h3
              exact (two_eq_r26_no hb n cap B 26 a b A M w hB hpb hc hM hka hkb h0 h1 ha hz rfl hn').mono fun _ _ => no
        · have e : binF twoR M op a b = none := by
            unfold binF
            rw [if_neg (fun h => hz h.2), if_neg (fun h => h2 h.1), if_neg (fun h => h2 h.1), if_neg (fun h => hz h.2), if_neg h3, if_pos (Or.inl (by omega))]
          rw [e]
          by_cases h4 : op = 13
          · exact (two_no_r13 hb n cap B op a b A M w hB hpb hc hM hka hkb h0 h1 ha hz h4).mono fun _ _ => no
          · exact (two_no_r hb n cap B op a b A M w hB hpb hc hM hka hkb h0 h1 ha hz (by omega) h4).mono fun _ _ => no
  · by_cases hz : b.obj = 0
    · have hab : a ≠ b := fun h => ha (h ▸ hz)
      by_cases h2 : op = 12
      · have e : binF twoR M op a b = movedF M a b.n := by unfold binF; rw [if_neg (fun h => ha h.1), if_neg (fun h => ha h.2), if_pos ⟨h2, hz⟩]
        rw [e]
        exact two_add_l hb n cap B op a b A M w hB hpb hc hM hka hkb h0 h1 ha hz h2
      · by_cases h4 : op = 13
        · have e : binF twoR M op a b = if b.n = -9223372036854775808 then none else movedF M a (-b.n) := by unfold binF; rw [if_neg (fun h => ha h.1), if_neg (fun h => ha h.2), if_neg (fun h => h2 h.1), if_pos ⟨h4, hz⟩]
          rw [e]
          by_cases hm : b.n = -9223372036854775808
          · rw [if_pos hm]
            have hw : IntKind.i64.wrap (-b.n) = b.n := by rw [hm]; rfl
            exact (two_sub_min hb n cap B op a b A M w hB hpb hc hM hka hkb h0 h1 ha hz h4 (by rw [hm]; rfl) hw).mono fun _ _ => no
          · rw [if_neg hm]
            have hw : IntKind.i64.wrap (-b.n) = -b.n := IntWalk.i64_in _ (by unfold In64 at hib; omega)
            by_cases hn : b.n = 0
            · exact two_sub0 hb n cap B op a b A M w hB hpb hc hM hka hkb h0 h1 ha hz h4 (by simp [hn]) hw (by simp [hn])
            · exact two_sub hb n cap B op a b A M w hB hpb hc hM hka hkb h0 h1 ha hz h4 hn hw (by simp; omega)
        · by_cases h3 : op = 25 ∨ op = 26
          · by_cases hn : b.n = 0
            · have e : binF twoR M op a b = some ⟨0, op - 25⟩ := by
                unfold binF
                rw [if_neg (fun h => ha h.1), if_neg (fun h => ha h.2), if_neg (fun h => h2 h.1), if_neg (fun h => h4 h.1), if_pos h3, if_neg (fun h => by rcases h with h | h; exact ha h.1; exact h.2 hn), if_neg (fun h => by omega), if_neg hab]
                rcases h3 with rfl | rfl
                · rw [eq_25]; rfl
                · rw [ne_26]; rfl
              rw [e]
              have hn' : (b.n == 0) = true := by simpa using hn
              rcases h3 with h3 | h3
              · subst h3
                exact (two_eq_l25_yes hb n cap B 25 a b A M w hB hpb hc hM hka hkb h0 h1 ha hz rfl hn').mono fun _ _ => yes
              · subst h3
                exact (two_eq_l26_yes hb n cap B 26 a b A M w hB hpb hc hM hka hkb h0 h1 ha hz rfl hn').mono fun _ _ => yes
            · have e : binF twoR M op a b = none := by
                unfold binF
                rw [if_neg (fun h => ha h.1), if_neg (fun h => ha h.2), if_neg (fun h => h2 h.1), if_neg (fun h => h4 h.1), if_pos h3, if_pos (Or.inr ⟨hz, hn⟩)]
              rw [e]
              have hn' : (b.n == 0) = false := by simpa using hn
              rcases h3 with h3 | h3
              · subst h3
                exact (two_eq_l25_no hb n cap B 25 a b A M w hB hpb hc hM hka hkb h0 h1 ha hz rfl hn').mono fun _ _ => no
              · subst h3
                exact (two_eq_l26_no hb n cap B 26 a b A M w hB hpb hc hM hka hkb h0 h1 ha hz rfl hn').mono fun _ _ => no
          · have e : binF twoR M op a b = none := by
              unfold binF
              rw [if_neg (fun h => ha h.1), if_neg (fun h => ha h.2), if_neg (fun h => h2 h.1), if_neg (fun h => h4 h.1), if_neg h3, if_pos (Or.inl (by omega))]
            rw [e]
            exact (two_no_l hb n cap B op a b A M w hB hpb hc hM hka hkb h0 h1 ha hz (by omega) h4).mono fun _ _ => no
    · exact two_places hb n cap B op a b A M w hB hpb hc hM hka hkb h0 h1 ha hz
end Go.Proofs.Ytikbdplllopjlaa
