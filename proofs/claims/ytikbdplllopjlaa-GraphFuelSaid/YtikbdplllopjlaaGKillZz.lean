/- The graph's heap: objects are no more. Conditions: as stated. -/
import Derived.Test.YtikbdplllopjlaaQ06Zz
set_option linter.unusedVariables false
set_option linter.unusedSimpArgs false
namespace Go.Proofs.Ytikbdplllopjlaa
open Go.RowKit

theorem GMemW.kill {w : World} {base : Nat} {own : Nat → Prop} {rb : Nat → Nat} {M : List MO} {g cap : Nat} (h : GMemW w base own (.slice (some ⟨g, 0, none⟩) M.tail.length cap) rb M) (y : Nat) :
    GMemW ((w.setCell ⟨g, y * 3 + 2, none⟩ (.bool true)).setCell ⟨g, y * 3 + 1, none⟩ (.slice none 0 0)) base own (.slice (some ⟨g, 0, none⟩) M.tail.length cap) rb (M.modify (y + 1) dead) := by
  have hw := wr_pair w g (y * 3 + 2) (y * 3 + 1) (.bool true) (.slice none 0 0)
  obtain ⟨⟨xs, hx, hox⟩, hm, hi, hok, hn⟩ := h
  have htail : (M.modify (y + 1) dead).tail = M.tail.modify y dead := by cases M <;> simp [List.modify_succ_cons]
  obtain ⟨_, cs, hgr⟩ := ownsRow_row hx (g := g) rfl
  have h1 := ((hx.stored (y * 3 + 2) (.bool true)).1.stored (y * 3 + 1) (.slice none 0 0)).1
  refine ⟨⟨(xs.set (y * 3 + 2) (.bool true)).set (y * 3 + 1) (.slice none 0 0), by rw [htail, List.length_modify]; exact h1, fun k o ho => ?_⟩, fun k o ho => ?_, fun a b ha hb => hi a b (by simpa [htail] using ha) (by simpa [htail] using hb), hok.kill (y + 1), hn.kill1 (y + 1)⟩
  · rw [htail] at ho
    obtain ⟨o0, h0, rfl⟩ := modify_get ho
    obtain ⟨p0, p1, p2⟩ := hox k o0 h0
    have hkl : k < M.tail.length := by
      rcases Nat.lt_or_ge k M.tail.length with h | h
      · exact h
      · rw [List.getElem?_eq_none h] at h0; cases h0
    have hxl := hx.1
    unfold GObjIn
    rw [List.getElem?_set_ne (by omega), List.getElem?_set_ne (by omega)]
    by_cases e : y = k
    · subst e
      rw [if_pos rfl, List.getElem?_set_self (by simp; omega), List.getElem?_set_ne (by omega), List.getElem?_set_self (by omega)]
      exact ⟨p0, rfl, rfl⟩
    · rw [if_neg e, List.getElem?_set_ne (by omega), List.getElem?_set_ne (by omega), List.getElem?_set_ne (by omega), List.getElem?_set_ne (by omega)]
      exact ⟨p0, p1, p2⟩
  · rw [htail] at ho
    obtain ⟨o0, h0, rfl⟩ := modify_get ho
    obtain ⟨q1, cv, q2, q3⟩ := hm k o0 h0
    refine ⟨q1, cv, q2.wr hw (fun e => q2.ne hgr (by decide) e), ?_⟩
    split
    · exact q3
    · exact q3
theorem HC.kill1 {w : World} {base : Nat} {own : Nat → Prop} {cb hb : Nat} {fuel : Int} {s : St} {inv outv : Value} {rb : Nat → Nat} {g q cap : Nat} (h : HC w base own cb hb fuel s inv outv (.slice (some ⟨g, 0, none⟩) q cap) rb) (hq : q = (memBase s.mem).tail.length) (y : Nat) :
    HC ((w.setCell ⟨g, y * 3 + 2, none⟩ (.bool true)).setCell ⟨g, y * 3 + 1, none⟩ (.slice none 0 0)) base own cb hb fuel { s with mem := s.mem.modify (y + 1) dead } inv outv (.slice (some ⟨g, 0, none⟩) q cap) rb ∧ Wr own w ((w.setCell ⟨g, y * 3 + 2, none⟩ (.bool true)).setCell ⟨g, y * 3 + 1, none⟩ (.slice none 0 0)) := by
  have hw := wr_pair w g (y * 3 + 2) (y * 3 + 1) (.bool true) (.slice none 0 0)
  have hgo := h.memo g rfl
  have hgr : ∃ cs, Row w g cs 92 := by
    obtain ⟨⟨xs, hx, _⟩, _⟩ := h.mem
    exact (ownsRow_row hx (g := g) rfl).2
  obtain ⟨cs, hgr⟩ := hgr
  subst hq
  refine ⟨HC.remem (own' := own) (M := s.mem.modify (y + 1) dead) h hw (fun k hk => ?_) (fun _ h => h) (fun _ h => Or.inl h) (fun k hk => ?_) ⟨?_, ?_, h.memo⟩, hw.mono (fun i hi => Or.inl (hi ▸ hgo))⟩
  · subst hk
    exact ⟨hgo, cs, _, hgr, Or.inr (Or.inl rfl)⟩
  · have := (h.own k hk).2
    simpa using this
  · exact h.heap.wr hw (fun e => h.heap.ne hgr (by decide) e)
  · have e : memBase (s.mem.modify (y + 1) dead) = (memBase s.mem).modify (y + 1) dead := (killF_base s.mem [y + 1]).symm
    rw [e]
    exact h.mem.kill y
theorem killF_take {M : List MO} {lo : List Nat} {k x : Nat} (h : lo[k]? = some x) : killF M (lo.take (k + 1)) = (killF M (lo.take k)).modify x dead := by
  rw [take_succ_of h, killF_snoc]

set_option maxRecDepth 100000 in
set_option maxHeartbeats 8000000 in
theorem kill_hc {base : Nat} {own : Nat → Prop} {cb hb : Nat} {fuel : Int} {s : St} {w : World} (lo : List Nat) (A : Option Addr) (n cap : Nat) (h : HCs w base own cb hb fuel s) (hlo : ∀ x, x ∈ lo → 1 ≤ x ∧ x < (memBase s.mem).length) (hn : lo.length = n) (hnb : n ≤ 1000000)
    (hp : ∀ j v, (locV lo)[j]? = some v → ∃ b off, A = some ⟨b, off, none⟩ ∧ b < w.heap.size ∧ ¬ own b ∧ ValCells w b (off + j * 2) v) :
    Calls Try.prog 25 #[.pointer (some ⟨hb, 0, none⟩), .slice A n cap] w fun e w' => e = .returned (.tuple #[]) ∧ HCs w' base own cb hb fuel { s with mem := killF s.mem lo } ∧ Wr own w w' := by
  have H := Lib.hid h
  have HLO := Lib.hid hlo
  have HN := Lib.hid hn
  have HP := Lib.hid hp
  clear h hlo hn hp
  go_enter Try.func25, Try.ntmps25
  refine wp_letter (fun Q hQ => ?_)
  have HQ := Lib.hid hQ
  clear hQ
  go_wp2_with fail
  go_loopw [9] (fun i wr => ∃ k : Nat, k ≤ n ∧ i = .int .i64 k ∧ HCs wr base own cb hb fuel { s with mem := killF s.mem (lo.take k) } ∧ Wr own w wr) (fun i _ => n - (intOf i).toNat)
  case atStart => exact ⟨0, by omega, rfl, H.out, Wr.refl _ _⟩
  case round =>
    obtain ⟨k, hk, rfl, hHk, hwr⟩ := hrel
    have hzw := hwr.size
    have HWR := Lib.hid hwr
    by_cases hlt : k < n
    · have hkl : k < lo.length := by have := HN.out; omega
      obtain ⟨b, off, rfl, hbl, hbn, hv0, hv1⟩ := HP.out k _ (locV_get hkl)
      have hx := HLO.out (lo.getD k 0) (by rw [List.getD_eq_getElem?_getD, List.getElem?_eq_getElem hkl]; exact List.getElem_mem _)
      have HGX := Lib.hid (show lo[k]? = some (lo.getD k 0) from by rw [List.getD_eq_getElem?_getD, List.getElem?_eq_getElem hkl]; rfl)
      obtain ⟨y, hy⟩ : ∃ y, lo.getD k 0 = y + 1 := ⟨lo.getD k 0 - 1, by omega⟩
      rw [hy] at hv0 hv1 hx HGX
      have hc0 : wr.cell? ⟨b, off + k * 2, none⟩ = some (.int .i64 ((y : Int) + 1)) := (World.cell?_of_block (a := ⟨b, _, none⟩) (hwr.block b hbl hbn)).trans (by simpa using hv0)
      have hc1 : wr.cell? ⟨b, off + k * 2 + 1, none⟩ = some (.int .i64 0) := (World.cell?_of_block (a := ⟨b, _, none⟩) (hwr.block b hbl hbn)).trans hv1
      obtain ⟨inv, outv, memv, rb, hC⟩ := id hHk
      have hkm : (memBase (killF s.mem (lo.take k))).length = (memBase s.mem).length := by rw [← killF_base, killF_length]
      obtain ⟨MM, hMM⟩ : ∃ MM, MM = memBase (killF s.mem (lo.take k)) := ⟨_, rfl⟩
      have hmem := hC.mem
      have hmemo := hC.memo
      simp only at hmem
      rw [← hMM] at hmem hkm
      obtain ⟨q, hq⟩ : ∃ q, q = MM.tail.length := ⟨_, rfl⟩
      have hyq : y < q := by rw [hq, List.length_tail]; omega
      have hml := hmem.ok.many
      have hq2 : q ≤ 4294967296 := by rw [hq, List.length_tail]; omega
      obtain ⟨⟨xs, hxx, hox⟩, _⟩ := id hmem
      rw [← hq] at hxx
      obtain ⟨g, cap1, hmv⟩ : ∃ g cap1, memv = .slice (some ⟨g, 0, none⟩) q cap1 := (by obtain ⟨_, h | ⟨g, c, cur, h, _⟩⟩ := id hxx; exact absurd h.2 (by omega); exact ⟨_, _, h⟩)
      subst hmv
      have p0 : wr.cell? ⟨hb, 0, none⟩ = some (.slice (some ⟨g, 0, none⟩) q cap1) := hC.heap.cell rfl
      obtain ⟨_, cs, hgr⟩ := ownsRow_row hxx (g := g) rfl
      have hgo := hmemo g rfl
      have hgl := hgr.lt
      have hbl2 := hC.heap.lt
      obtain ⟨oy, hoy⟩ : ∃ oy, MM.tail[y]? = some oy := ⟨_, List.getElem?_eq_getElem (hq ▸ hyq)⟩
      obtain ⟨o0, o1, o2⟩ := hox y oy hoy
      have d1 := hxx.cells (g := g) rfl (y * 3 + 1) _ o1
      have d2 := hxx.cells (g := g) rfl (y * 3 + 2) _ o2
      rw [addr0] at d1 d2
      have e1 := hgr.free (y * 3 + 1)
      have e2 := hgr.free (y * 3 + 2)
      have hy0 : (0 : Int) ≤ (y : Int) := by omega
      have hy1 : (y : Int) < (q : Int) := by omega
      have hw1 : IntKind.i64.wrap (y : Int) = (y : Int) := IntWalk.i64_in _ (by omega)
      have hw2 : IntKind.i64.wrap ((y : Int) + 1 - 1) = (y : Int) := by rw [Int.add_sub_cancel]; exact hw1
      have hk0 : (0 : Int) ≤ (k : Int) := by omega
      have hklt : (k : Int) < (n : Int) := by omega
      have hbw : b < wr.heap.size := by omega
      have HC1 := Lib.hid hC
      have HMEM := Lib.hid hmem
      have HMM := Lib.hid hMM
      have HQ0 := Lib.hid hq
      have HG := Lib.hid (And.intro hgo hgr)
      clear hHk hwr hC hmem hmemo hMM hq hxx hox hgr hgo hoy o0 o1 o2 hv0 hv1 hx hkm hml hy hbn
      have hz1 : hb < wr.heap.size + 1 := by omega
      have hz2 : g < wr.heap.size + 1 := by omega
      have hz3 : ¬ g = wr.heap.size := by omega
      go_wp2_with fail
      go_quiet (fail)
      go_wp2_with fail
      go_roundw
      case rel =>
        obtain ⟨a1, a2⟩ := (HC1.out.wr (F := fun _ => False) (Wr.of_below (below_drewN (below1 wr (.cells #[.int .i64 ((y : Int) + 1), .int .i64 0] 55)) nq)) (fun _ h => h.elim)).kill1 (by rw [HQ0.out, HMM.out]) y
        refine ⟨k + 1, by omega, by go_num, ?_, (HWR.out.trans (Wr.of_below (F := fun _ => False) (below_drewN (below1 wr (.cells #[.int .i64 ((y : Int) + 1), .int .i64 0] 55)) nq)) (fun _ h => h.elim)).trans a2 (fun _ h => Or.inl h)⟩
        rw [killF_take HGX.out]
        exact ⟨_, _, _, _, a1⟩
      case measure => simp [intOf]; omega
    · obtain rfl : k = n := by omega
      have e : lo.take k = lo := by rw [← HN.out]; exact List.take_length
      rw [e] at hHk
      have HHK := Lib.hid hHk
      clear hwr hHk
      go_wp2_with fail
      refine HQ.out _ _ _ ?_
      go_end0
      exact ⟨rfl, HHK.out, HWR.out⟩
end Go.Proofs.Ytikbdplllopjlaa
