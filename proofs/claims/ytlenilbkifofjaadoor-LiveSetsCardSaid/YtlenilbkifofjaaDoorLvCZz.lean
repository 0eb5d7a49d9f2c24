/- live's sets: list. Conditions: as stated. -/
import Derived.Test.YtlenilbkifofjaaDoorLvBZz
set_option linter.unusedVariables false
set_option linter.unusedSimpArgs false
namespace Go.Proofs.YtlenilbkifofjaaDoor
open Go.RowKit

theorem bits_and_less {v : Nat} (h0 : v ≠ 0) (h : v < 2 ^ 64) : bits BinOp.and IntKind.u64 (v : Int) (IntKind.u64.wrap ((v : Int) - 1)) = ((v &&& (v - 1) : Nat) : Int) := by
  have e : IntKind.u64.wrap ((v : Int) - 1) = ((v - 1 : Nat) : Int) := by
    rw [IntKind.wrap_u64]
    omega
  rw [e]
  exact bits_and_u64_nat _ _ (by omega) (by omega)
theorem listW_take {ws : List Nat} {k : Nat} (h : k < ws.length) : listW 0 (ws.take (k + 1)) = listW 0 (ws.take k) ++ (bitsW ws[k]).map (fun j => ((k * 64 + j : Nat) : Int)) := by
  have g : ∀ (l : List Nat) (i v : Nat), listW i (l ++ [v]) = listW i l ++ (bitsW v).map (fun j => (((i + l.length) * 64 + j : Nat) : Int)) := by
    intro l
    induction l with
    | nil => intro i v; simp [listW]
    | cons a l ih =>
      intro i v
      rw [List.cons_append, listW, ih, listW, List.append_assoc]
      congr 3
      simp only [List.length_cons]
      funext j
      congr 3
      omega
  rw [List.take_succ_eq_append_getElem h, g]
  simp [Nat.min_eq_left (Nat.le_of_lt h)]
theorem listW_len {ws : List Nat} : (listW 0 ws).length ≤ ws.length * 64 := by
  refine listW_rise.bound fun x hx => ?_
  have := listW_low hx
  omega
theorem WordsAt.word {w : World} {b : Nat} {ws : List Nat} (h : WordsAt w b ws) {j x : Nat} (hj : ws[j]? = some x) : w.cell? ⟨b, j, none⟩ = some (.int .u64 (x : Nat)) ∧ x < 2 ^ 64 := by
  obtain ⟨cs, h1, _, h3, h4⟩ := h
  exact ⟨h1.cell (h3 j _ hj), h4 _ (List.mem_of_getElem? hj)⟩
theorem listW_word {ws : List Nat} {k v : Nat} (h : ws[k]? = some v) : listW 0 (ws.take (k + 1)) = listW 0 (ws.take k) ++ (bitsW v).map (fun j => ((k * 64 + j : Nat) : Int)) := by
  obtain ⟨hk, hv⟩ := List.getElem?_eq_some_iff.1 h
  rw [listW_take hk, hv]
/-- A list under way: what stands in it, and what is still in the word. -/
def Mid (ws : List Nat) (k v : Nat) (l : List Int) : Prop := v < 2 ^ 64 ∧ l ++ (bitsW v).map (fun j => ((k * 64 + j : Nat) : Int)) = listW 0 (ws.take (k + 1))
set_option maxRecDepth 100000 in
set_option maxHeartbeats 8000000 in
theorem llist_any (b : Nat) (ws : List Nat) (cap : Nat) (w : World) (h : WordsAt w b ws) (h62 : ws.length ≤ 1000) (hT : TabAt 0 Lib.deBruijn64tab w) (hg : 0 < w.heap.size) :
    Calls Tryd.prog 43 #[.slice (some ⟨b, 0, none⟩) ws.length cap] w (ListEnd LongE 1 (listW 0 ws) w) := by
  have HS := Lib.hid h
  have HT := Lib.hid (fun W (hW : Below w.heap.size w W) => tab_below hT hW hg)
  have H64 := Lib.hid (show In64W ws from by obtain ⟨_, _, _, _, h4⟩ := h; exact h4)
  clear h hT hg
  obtain ⟨i0, hi, hz0, hz1, hz2⟩ := info_parts cint_info
  go_enter Tryd.func43, Tryd.ntmps43
  refine wp_letter (fun Q hQ => ?_)
  have HQ := Lib.hid hQ
  clear hQ
  go_wp2_with fail
  go_loopw [2, 7] (fun r i wr => ∃ (k : Nat) (LA : Option Addr) (ln lc : Nat) (xs : List Value), k ≤ ws.length ∧ i = .int .i64 k ∧ r = .slice LA ln lc ∧ RowE LongE 3 1 w.heap.size wr (.slice LA ln lc) (listW 0 (ws.take k)) xs ∧ Below w.heap.size w wr) (fun _ i _ => ws.length - (intOf i).toNat)
  case atStart => exact ⟨0, none, 0, 0, [], by omega, rfl, rfl, RowE.nil _ _ _ _ _, Below.refl _ _⟩
  case round =>
    obtain ⟨k, LA, ln, lc, xs, hk, rfl, rfl, hR, hbw⟩ := hrel
    by_cases hlt : k < ws.length
    · have hm := HS.out.below hbw HS.out.lt
      obtain ⟨v0, hv0⟩ : ∃ v, ws[k]? = some v := ⟨_, List.getElem?_eq_getElem hlt⟩
      obtain ⟨c0, hv64⟩ := hm.word hv0
      have cl := hm.lt
      have hk0 : (k : Int) < (ws.length : Int) := by omega
      have HR := Lib.hid hR
      have HBW := Lib.hid hbw
      have HLT := Lib.hid hlt
      have HM := Lib.hid (show Mid ws k v0 (listW 0 (ws.take k)) from ⟨hv64, (listW_word hv0).symm⟩)
      obtain ⟨l0, hl0⟩ : ∃ l, l = listW 0 (ws.take k) := ⟨_, rfl⟩
      rw [← hl0] at HM HR
      clear hR hbw hm hv0 hv64 hl0
      go_wp2_with fail
      obtain ⟨w1, hw1⟩ : ∃ w1 : World, w1 = wr := ⟨_, rfl⟩
      have HW1 := Lib.hid hw1
      clear hw1
      go_loopw [2, 4] (fun r v wr => ∃ (n : Nat) (l : List Int) (LA : Option Addr) (ln lc : Nat) (xs : List Value), v = .int .u64 n ∧ r = .slice LA ln lc ∧ Mid ws k n l ∧ RowE LongE 3 1 w.heap.size wr (.slice LA ln lc) l xs ∧ Below w.heap.size w wr) (fun _ v _ => (intOf v).toNat)
      case atStart => exact ⟨v0, l0, LA, ln, lc, xs, rfl, rfl, HM.out, HR.out, HBW.out⟩
      case round =>
        obtain ⟨n, l, LA, ln, lc, xs, rfl, rfl, hM, hR, hbw⟩ := hrel
        have hzw := hbw.size
        by_cases h0 : n = 0
        · subst h0
          have HM2 := Lib.hid (show l = listW 0 (ws.take (k + 1)) from by have := hM.2; rwa [bitsW_zero, List.map_nil, List.append_nil] at this)
          rw [HM2.out] at hR
          have HR2 := Lib.hid hR
          have HB2 := Lib.hid hbw
          clear hM hR hbw
          go_wp2_with fail
          go_roundw
          case rel => exact ⟨k + 1, _, _, _, _, HLT.out, by go_num, rfl, HR2.out, HB2.out⟩
          case measure => have := HLT.out; simp [intOf]; omega
        · have d1 : ((n : Int) == 0) = false := beq_eq_false_iff_ne.2 (by omega)
          have d2 : ((n : Int) != 0) = true := bne_iff_ne.2 (by omega)
          obtain ⟨e1, e2, e3⟩ := bitsW_next h0 hM.1
          have hn64 := hM.1
          have key := bits_and_less h0 hn64
          obtain ⟨z, hz⟩ : ∃ z, z = Lib.ctz 64 n := ⟨_, rfl⟩
          have HTZ := Lib.hid (fun W (hW : Below w.heap.size w W) => ltz_any n h0 hn64 W (HT.out W hW))
          rw [← hz] at e1 e2 HTZ
          have hM2 : Mid ws k (n &&& (n - 1)) (l ++ [((k * 64 + z : Nat) : Int)]) := ⟨by omega, by rw [← hM.2, e1]; simp⟩
          have hlen : (l ++ [((k * 64 + z : Nat) : Int)]).length ≤ ws.length * 64 := by
            have h1 := hM2.2
            have h2 := listW_len (ws := ws.take (k + 1))
            rw [← h1] at h2
            have h3 : (ws.take (k + 1)).length ≤ ws.length := by simp; omega
            simp at h2 ⊢
            omega
          have hzl : l.length < 64000 := by simp at hlen; omega
          have hlt2 := HLT.out
          have HX := Lib.hid (show In64 ((k * 64 + z : Nat) : Int) from by unfold In64; omega)
          have hcast : (k : Int) * 64 + (z : Int) = ((k * 64 + z : Nat) : Int) := by omega
          obtain ⟨q, hq⟩ : ∃ q, q = k * 64 + z := ⟨_, rfl⟩
          rw [← hq] at hM2 HX hcast
          have HR := Lib.hid hR
          have HBW := Lib.hid hbw
          have HM2 := Lib.hid hM2
          have HE3 := Lib.hid e3
          have hqb : (q : Int) ≤ 64000 := by omega
          have hkb : (k : Int) ≤ 1000 := by omega
          have hzb : (z : Int) < 64 := by omega
          clear hM hM2 hR hbw e1 e2 e3 h0 hz hlen hq
          go_wp2_with (first | (go_at_call 68; refine (HTZ.out _ HBW.out).mono ?_; rintro e w' ⟨rfl, hw'⟩; rw [hw']; clear hw' w') | (at_builtin; refine wpList_append_lies _ rfl (.tmp 18) (.tmp 24) 35 rfl w.heap.size 3 i0 (.int .i64 0) 1 8 Tryd.underlying35 hi hz0 hz1 hz2 rfl (by decide) _ l.length xs rfl (by have h := HR.out.own; exact (ownsRow_wr h ((Wr.refl (fun _ => False) _).allocR _) (fun _ _ h => h))) ⟨wr.heap.size, 0, none⟩ 1 1 [.int .i64 (q : Nat)] rfl rfl ?c1 ?c2 (by decide) ?c3 ?c4 ?c5 _ rfl ?_))
          case c1 => exact cells_new _ _ _
          case c2 => intro u hu; simp at hu; rcases hu with rfl; rfl
          case c3 => unfold maxLen; omega
          case c4 => omega
          case c5 => first | omega | (simp <;> omega)
          · intro g cap' w3 hown3 hgrow hat hglt
            have HN := Lib.hid (show RowE LongE 3 1 w.heap.size w3 (.slice (some ⟨g, 0, none⟩) (l.length + 1) cap') (l ++ [(q : Int)]) (xs ++ [.int .i64 q]) from
              RowE.next LongE.mono HR.out (by omega) (Below.refl _ _) (us := [.int .i64 q]) (x := (q : Int)) ⟨rfl, HX.out⟩ rfl (below1 wr _) hown3 hgrow (by simpa using hat))
            have HBN := Lib.hid (show Below w.heap.size w w3 from HBW.out.trans (((Below.refl _ _).alloc (by omega) _).grown hgrow (by first | omega | (simp <;> omega)) (fun g hg => by have := (HR.out.lt hg); omega)))
            clear hown3 hgrow hat
            go_wp2_with fail
            go_roundw
            case rel => exact ⟨n &&& (n - 1), _, _, _, _, _, by first | rfl | rw [key], rfl, HM2.out, HN.out, HBN.out⟩
            case measure =>
              have := HE3.out
              try rw [key]
              simp [intOf]
              omega
    · obtain rfl : k = ws.length := by omega
      rw [List.take_length] at hR
      have HR2 := Lib.hid hR
      have HBW := Lib.hid hbw
      clear hR hbw
      go_wp2_with fail
      refine HQ.out _ _ _ ?_
      exact bodyPost_ret (v := .slice LA ln lc) (by simp [results, Tryd.results43, go_sem]) rfl (ListEnd.of_row LongE.mono HR2.out HBW.out)
end Go.Proofs.YtlenilbkifofjaaDoor
