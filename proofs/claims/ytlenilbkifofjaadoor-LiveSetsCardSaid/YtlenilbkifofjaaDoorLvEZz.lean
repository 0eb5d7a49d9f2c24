/- The page's put: a number into a rising list. Conditions: as stated. -/
import Derived.Test.YtlenilbkifofjaaDoorLvDZz
import Derived.Laws.AppendOwnNone
set_option linter.unusedVariables false
set_option linter.unusedSimpArgs false
namespace Go.Proofs.YtlenilbkifofjaaDoor
open Go.RowKit

def encI' (l : List Int) : List Value := l.map (Value.int .i64)
/-- New numbers in memory of their own. -/
def NewInts (l : List Int) (w : World) (e : Ending) (w' : World) : Prop := ∃ A c, e = .returned (.slice A l.length c) ∧ LongsAt w' w'.heap.size l (.slice A l.length c) ∧ (l = [] → A = none ∧ c = 0) ∧ l.length ≤ c ∧ Below w.heap.size w w'
theorem owns_longs {w : World} {base : Nat} {v : Value} {l : List Int} (h : w.ownsRow base 3 1 v l.length (encI' l)) (h64 : ∀ x, x ∈ l → In64 x) : LongsAt w w.heap.size l v := by
  obtain ⟨hl, ⟨hv, hn⟩ | ⟨g, c, cur, hv, hg, hh, hc1, hc2, hc3, hc4⟩⟩ := id h
  · exact ⟨none, 0, by rw [hv, hn], by omega, fun hp => by omega⟩
  · have hglt : g < w.heap.size := Row.lt (t := 3) hh
    refine ⟨some ⟨g, 0, none⟩, c, hv, by unfold maxLen at hc2; omega, fun hp => ⟨g, 0, rfl, hglt, fun i x hi => ⟨?_, h64 _ (List.mem_of_getElem? hi)⟩⟩⟩
    have hil := (List.getElem?_eq_some_iff.1 hi).1
    subst hv
    show w.cell? ⟨g, 0 + i * 1 + 0, none⟩ = _
    rw [show 0 + i * 1 + 0 = i from by omega, World.ownsRow.cellAt h i (by omega)]
    unfold encI'
    rw [List.getElem?_map, hi]
    rfl
theorem newInts_own {w w' : World} {v : Value} {l : List Int} (h : w'.ownsRow w.heap.size 3 1 v l.length (encI' l)) (h64 : ∀ x, x ∈ l → In64 x) (hne : l ≠ []) (hb : Below w.heap.size w w') : NewInts l w (.returned v) w' := by
  have hl := owns_longs h h64
  have hp := List.length_pos_iff.2 hne
  obtain ⟨_, ⟨h1, h2⟩ | ⟨g, c, cur, rfl, hg, hh, hc1, hc2, hc3, hc4⟩⟩ := id h
  · omega
  · exact ⟨_, c, rfl, hl, fun e => absurd e hne, hc1, hb⟩
theorem longs_cell {w : World} {B b off cap : Nat} {l : List Int} (hv : LongsAt w B l (.slice (some ⟨b, off, none⟩) l.length cap)) {k : Nat} {x : Int} (hk : l[k]? = some x) : w.cell? ⟨b, off + k, none⟩ = some (.int .i64 x) ∧ In64 x := by
  obtain ⟨hk1, hk2⟩ := List.getElem?_eq_some_iff.1 hk
  obtain ⟨b', off', x', e, hb', h1, h2, h3⟩ := SliceAt.get hv hk1
  injection e with e
  injection e with e1 e2
  subst e1 e2
  rw [hk] at h1
  injection h1 with h1
  subst h1
  exact ⟨by simpa using h2, h3⟩
theorem longs_take {w : World} {B b off cap : Nat} {l : List Int} (hb : b < B) (hv : LongsAt w B l (.slice (some ⟨b, off, none⟩) l.length cap)) {k : Nat} (hk : k ≤ l.length) : LongsAt w B (l.take k) (.slice (some ⟨b, off, none⟩) k cap) := by
  have hn := (SliceAt.len hv).2
  refine ⟨some ⟨b, off, none⟩, cap, by rw [List.length_take, Nat.min_eq_left hk], by rw [List.length_take]; omega, fun _ => ⟨b, off, rfl, hb, fun i x hi => ?_⟩⟩
  rw [List.getElem?_take] at hi
  split at hi
  · obtain ⟨h1, h2⟩ := longs_cell hv hi
    exact ⟨by simpa using h1, h2⟩
  · simp at hi
theorem putL_ne {l : List Int} {n : Int} : putL l n ≠ [] := by
  intro h
  have : n ∈ putL l n := putL_mem.2 (Or.inl rfl)
  rw [h] at this
  simp at this
theorem putL_split : ∀ {l : List Int} {k : Nat} {n : Int}, (∀ x, x ∈ l.take k → x < n) → (∀ y, l[k]? = some y → n < y) → putL l n = l.take k ++ n :: l.drop k
  | [], k, n, _, _ => by simp [putL]
  | x :: r, 0, n, _, h => by
    have := h x rfl
    rw [putL, if_neg (by omega), if_neg (by omega)]
    rfl
  | x :: r, k + 1, n, h1, h2 => by
    have := h1 x (by simp)
    rw [putL, if_pos this, putL_split (k := k) (fun y hy => h1 y (by simp [hy])) (fun y hy => h2 y (by simpa using hy))]
    simp
theorem putL_same : ∀ {l : List Int} {k : Nat} {n : Int}, (∀ x, x ∈ l.take k → x < n) → l[k]? = some n → putL l n = l
  | [], k, n, _, h => by simp at h
  | x :: r, 0, n, _, h => by
    simp at h
    rw [putL, if_neg (by omega), if_pos h]
  | x :: r, k + 1, n, h1, h2 => by
    have := h1 x (by simp)
    rw [putL, if_pos this, putL_same (k := k) (fun y hy => h1 y (by simp [hy])) (by simpa using h2)]
theorem encI_len {l : List Int} : (encI' l).length = l.length := by simp [encI']
theorem encI_get {l : List Int} {j : Nat} {u : Value} (h : (encI' l)[j]? = some u) : ∃ x, l[j]? = some x ∧ u = .int .i64 x := by
  unfold encI' at h
  rw [List.getElem?_map] at h
  cases hx : l[j]? with
  | none => rw [hx] at h; simp at h
  | some x => rw [hx] at h; simp at h; exact ⟨x, rfl, h.symm⟩
theorem encI_one {l : List Int} : ∀ u, u ∈ encI' l → u.oneCell' = true := by
  intro u hu
  unfold encI' at hu
  obtain ⟨x, _, rfl⟩ := List.mem_map.1 hu
  rfl
theorem encI_app {l m : List Int} : encI' (l ++ m) = encI' l ++ encI' m := by simp [encI']
set_option maxRecDepth 100000 in
set_option maxHeartbeats 8000000 in
theorem copyNumbers_own (l : List Int) (A : Option Addr) (cap : Nat) (B : Nat) (w : World) (hB : B ≤ w.heap.size) (hv : LongsAt w B l (.slice A l.length cap)) (hln : l.length * 8 ≤ 140737488351232) :
    Calls Tryd.prog 35 #[.slice A l.length cap] w fun e w' => ∃ v, e = .returned v ∧ w'.ownsRow w.heap.size 3 1 v l.length (encI' l) ∧ Below w.heap.size w w' := by
  have hn := (SliceAt.len hv).2
  have HV := Lib.hid hv
  clear hv
  obtain ⟨i0, hi, hz0, hz1, hz2⟩ := info_parts cint_info
  go_enter Tryd.func35, Tryd.ntmps35
  refine wp_letter (fun Q hQ => ?_)
  have HQ := Lib.hid hQ
  clear hQ
  go_wp2_with fail
  go_loopw [3, 4] (fun r i wr => ∃ (k : Nat) (v : Value), k ≤ l.length ∧ i = .int .i64 k ∧ r = v ∧ wr.ownsRow w.heap.size 3 1 v k (encI' (l.take k)) ∧ Below w.heap.size w wr) (fun _ i _ => l.length - (intOf i).toNat)
  case atStart => exact ⟨0, _, by omega, rfl, rfl, World.ownsRow_nil _ _ _ _, Below.refl _ _⟩
  case round =>
    obtain ⟨k, v, hk, rfl, rfl, hR, hbw⟩ := hrel
    have HR := Lib.hid hR
    have HBW := Lib.hid hbw
    have hzw := hbw.size
    by_cases hlt : k < l.length
    · obtain ⟨b, off, x, rfl, hb, hk1, hx, hx64⟩ := SliceAt.get (LongsAt.below HV.out (hbw.mono hB) (Nat.le_refl _)) hlt
      have HK1 := Lib.hid hk1
      have hklt : (k : Int) < (l.length : Int) := by omega
      have hbl : b < wr.heap.size := by omega
      simp only [Nat.add_zero, Nat.mul_one] at hx
      clear hR hbw hk1 hx64
      go_wp2_with (at_builtin; refine wpList_append_lies _ rfl (.tmp 11) (.tmp 16) 35 rfl w.heap.size 3 i0 (.int .i64 0) 1 8 Tryd.underlying35 hi hz0 hz1 hz2 rfl (by decide) _ k (encI' (l.take k)) rfl (ownsRow_wr HR.out ((Wr.refl (fun _ => False) _).allocR _) (fun _ _ h => h)) ⟨wr.heap.size, 0, none⟩ 1 1 [.int .i64 x] rfl rfl ?c1 ?c2 (by decide) ?c3 ?c4 ?c5 _ rfl ?_)
      case c1 => exact cells_new _ _ _
      case c2 => intro u hu; simp at hu; rcases hu with rfl; rfl
      case c3 => unfold maxLen; omega
      case c4 => omega
      case c5 => first | omega | (simp <;> omega)
      · intro g cap' w3 hown3 hgrow hat hglt
        have HN := Lib.hid (show w3.ownsRow w.heap.size 3 1 (.slice (some ⟨g, 0, none⟩) (k + 1) cap') (k + 1) (encI' (l.take (k + 1))) from by
          rw [take_succ_of HK1.out, encI_app]
          exact hown3)
        have HBN := Lib.hid (show Below w.heap.size w w3 from HBW.out.trans (((Below.refl _ _).alloc (by omega) _).grown hgrow (by first | omega | (simp <;> omega)) (fun g hg => (HR.out.lt g hg).1)))
        clear hown3 hgrow hat
        go_wp2_with fail
        go_roundw
        case rel => exact ⟨k + 1, _, by omega, by go_num, rfl, HN.out, HBN.out⟩
        case measure => simp [intOf]; omega
    · obtain rfl : k = l.length := by omega
      rw [List.take_length] at hR
      have HR2 := Lib.hid hR
      clear hR hbw
      go_wp2_with fail
      refine HQ.out _ _ _ ?_
      exact bodyPost_ret (v := u3) (by simp [results, Tryd.results35, go_sem]) rfl ⟨_, rfl, HR2.out, HBW.out⟩
set_option maxRecDepth 100000 in
set_option maxHeartbeats 8000000 in
theorem rput_any (l : List Int) (n : Int) (A : Option Addr) (cap : Nat) (B : Nat) (w : World) (hB : B ≤ w.heap.size) (hv : LongsAt w B l (.slice A l.length cap)) (hA : l = [] → A = none ∧ cap = 0) (hcapl : l.length ≤ cap) (hln : l.length * 8 ≤ 140737488351232) (hn64 : In64 n) :
    Calls Tryd.prog 22 #[.slice A l.length cap, .int .i64 n] w fun e w' => NewInts (putL l n) w e w' := by
  obtain ⟨i0, hi, hz0, hz1, hz2⟩ := info_parts cint_info
  have h64 : ∀ x, x ∈ putL l n → In64 x := by
    intro x hx
    rcases putL_mem.1 hx with rfl | hx
    · exact hn64
    · obtain ⟨k, hk, rfl⟩ := List.mem_iff_getElem.1 hx
      obtain ⟨_, _, _, _, _, h1, _, h2⟩ := SliceAt.get hv hk
      rw [List.getElem?_eq_getElem hk] at h1
      injection h1 with h1
      rw [h1]
      exact h2
  have H64 := Lib.hid h64
  clear h64
  by_cases he : l = []
  · subst he
    obtain ⟨rfl, rfl⟩ := hA rfl
    have HC := Lib.hid (fun W => copyNumbers_own [] none 0 0 W (Nat.zero_le _) ⟨none, 0, rfl, by simp, fun hp => by simp at hp⟩ (by simp))
    simp only [List.length_nil] at HC ⊢
    clear hv hA
    go_enter Tryd.func22, Tryd.ntmps22
    refine wp_letter (fun Q hQ => ?_)
    have HQ := Lib.hid hQ
    clear hQ
    go_wp2_with fail
    go_loopw [5] (fun i wr => i = .int .i64 0 ∧ wr = w) (fun _ _ => 0)
    case atStart => exact ⟨rfl, rfl⟩
    case round =>
      obtain ⟨rfl, rfl⟩ := hrel
      go_wp2_with (first | (go_at_call 35; refine (HC.out _).mono ?_; rintro e w1 ⟨v, rfl, hown, hb1⟩) | (at_builtin; refine wpList_append_own _ rfl (.tmp 37) (.tmp 39) 35 rfl wr.heap.size 3 i0 (.int .i64 0) 1 8 Tryd.underlying35 hi hz0 hz1 hz2 rfl (by decide) _ 0 _ rfl (ownsRow_wr hown ((Wr.refl (fun _ => False) _).allocR _) (fun _ _ h => h)) ⟨w1.heap.size, 0, none⟩ 1 1 [.int .i64 n] rfl rfl ?c1 ?c2 ?c3 ?c4 ?c5 ?_))
      case c1 => exact cells_new _ _ _
      case c2 => intro u hu; simp at hu; rcases hu with rfl; rfl
      case c3 => unfold maxLen; omega
      case c4 => omega
      case c5 => have := hb1.size; first | omega | (simp <;> omega)
      · intro v2 w3 hown3 hgrow hnil
        have hzw1 := hb1.size
        have HBN := Lib.hid (show Below wr.heap.size wr w3 from hb1.trans (((Below.refl _ _).alloc (by omega) _).grown hgrow (by first | omega | (simp <;> omega)) (fun g hg => (hown.lt g hg).1)))
        have HO := Lib.hid (show w3.ownsRow wr.heap.size 3 1 v2 (putL [] n).length (encI' (putL [] n)) from hown3)
        clear hown3 hgrow hown hb1 hnil
        go_wp2_with (at_builtin; refine wpList_append_own_none rfl (.tmp 41) (.tmp 44) 35 rfl wr.heap.size 3 i0 1 Tryd.underlying35 hi _ _ _ rfl HO.out rfl ?_)
        refine HQ.out _ _ _ ?_
        exact bodyPost_ret (v := v2) (by simp [results, Tryd.results22, go_sem]) rfl (newInts_own HO.out H64.out putL_ne HBN.out)
  · have hl0 : 0 < l.length := List.length_pos_iff.2 he
    obtain ⟨b, off, x0, rfl, hb, _, _, _⟩ := SliceAt.get hv hl0
    have HCELL := Lib.hid (fun (k : Nat) (x : Int) (hk : l[k]? = some x) => longs_cell hv hk)
    have HV := Lib.hid hv
    have hbw : b < w.heap.size := by omega
    have HC := Lib.hid (fun (k : Nat) (hk : k ≤ l.length) => copyNumbers_own (l.take k) (some ⟨b, off, none⟩) cap B w hB (by rw [List.length_take, Nat.min_eq_left hk]; exact longs_take hb hv hk) (by rw [List.length_take, Nat.min_eq_left hk]; omega))
    have HA := Lib.hid hA
    clear hv hA
    go_enter Tryd.func22, Tryd.ntmps22
    refine wp_letter (fun Q hQ => ?_)
    have HQ := Lib.hid hQ
    clear hQ
    go_wp2_with fail
    go_loopw [5] (fun i wr => ∃ k : Nat, i = .int .i64 (k : Nat) ∧ k ≤ l.length ∧ (∀ x, x ∈ l.take k → x < n) ∧ wr = w) (fun i _ => l.length - (intOf i).toNat)
    case atStart => exact ⟨0, rfl, Nat.zero_le _, by simp, rfl⟩
    case round =>
      obtain ⟨k, rfl, hk, hlow, rfl⟩ := hrel
      have HLOW := Lib.hid hlow
      have HCK := HC.out k hk
      rw [show (l.take k).length = k from by rw [List.length_take, Nat.min_eq_left hk]] at HCK
      have HCK := Lib.hid HCK
      have hkc : (k : Int) ≤ (cap : Int) := by omega
      clear hlow
      by_cases hlt : k < l.length
      · obtain ⟨x, hx⟩ : ∃ x, l[k]? = some x := ⟨_, List.getElem?_eq_getElem hlt⟩
        have c0 := (HCELL.out k x hx).1
        have hk0 : (k : Int) < (l.length : Int) := by omega
        have HX := Lib.hid hx
        clear hx
        by_cases hxn : x < n
        · have d0 : decide (x < n) = true := decide_eq_true hxn
          go_wp2_with fail
          go_roundw
          case rel =>
            refine ⟨k + 1, by go_num, hlt, fun y hy => ?_, by first | rfl | trivial⟩
            rw [take_succ_of HX.out] at hy
            rcases List.mem_append.1 hy with hy | hy
            · exact HLOW.out y hy
            · simp at hy
              omega
          case measure => simp [intOf]; omega
        · have d0 : decide (x < n) = false := decide_eq_false hxn
          by_cases hxe : x = n
          · subst hxe
            have HP := Lib.hid (show putL l x = l from putL_same HLOW.out HX.out)
            have d1 : (x == x) = true := beq_self_eq_true x
            go_wp2_with fail
            refine HQ.out _ _ _ ?_
            exact bodyPost_ret (v := .slice (some ⟨b, off, none⟩) l.length cap) (by simp [results, Tryd.results22, go_sem]) rfl (by rw [HP.out]; exact ⟨_, _, rfl, HV.out.below (Below.refl _ _) hB, HA.out, hcapl, Below.refl _ _⟩)
          · have d1 : (x == n) = false := beq_eq_false_iff_ne.2 hxe
            have HP := Lib.hid (show putL l n = l.take k ++ n :: l.drop k from putL_split HLOW.out (fun y hy => by rw [HX.out] at hy; injection hy with hy; omega))
            clear hxn hxe
            go_wp2_with (first | (go_at_call 35; refine (HCK.out).mono ?_; rintro e w1 ⟨v, rfl, hown, hb1⟩) | (at_builtin; refine wpList_append_own _ rfl (.tmp 37) (.tmp 39) 35 rfl wr.heap.size 3 i0 (.int .i64 0) 1 8 Tryd.underlying35 hi hz0 hz1 hz2 rfl (by decide) _ k _ rfl (ownsRow_wr hown ((Wr.refl (fun _ => False) _).allocR _) (fun _ _ h => h)) ⟨w1.heap.size, 0, none⟩ 1 1 [.int .i64 n] rfl rfl ?c1 ?c2 ?c3 ?c4 ?c5 ?_))
            case c1 => exact cells_new _ _ _
            case c2 => intro u hu; simp at hu; rcases hu with rfl; rfl
            case c3 => unfold maxLen; omega
            case c4 => omega
            case c5 => have := hb1.size; first | omega | (simp <;> omega)
            · intro v2 w3 hown3 hgrow hnil
              have hzw1 := hb1.size
              have hbn : Below wr.heap.size wr w3 := hb1.trans (((Below.refl _ _).alloc (by omega) _).grown hgrow (by first | omega | (simp <;> omega)) (fun g hg => (hown.lt g hg).1))
              have hzn := hbn.size
              have HBN := Lib.hid hbn
              have HO := Lib.hid hown3
              have HN := Lib.hid (show ∀ j u, (encI' (l.drop k))[j]? = some u → w3.cell? ((⟨b, off + k, none⟩ : Addr).add j) = some u from fun j u hu => by
                obtain ⟨y, hy, rfl⟩ := encI_get hu
                rw [List.getElem?_drop] at hy
                have := cell_below (HCELL.out _ _ hy).1 hbn hbw
                rw [← this]
                congr 1
                simp [Addr.add, Nat.add_assoc])
              clear hown3 hgrow hown hb1 hnil hbn
              go_wp2_with (at_builtin; refine wpList_append_own _ rfl (.tmp 41) (.tmp 44) 35 rfl wr.heap.size 3 i0 (.int .i64 0) 1 8 Tryd.underlying35 hi hz0 hz1 hz2 rfl (by decide) _ (k + 1) _ rfl HO.out ⟨b, off + k, none⟩ (l.length - k) _ (encI' (l.drop k)) rfl ?d1 HN.out encI_one ?d3 ?d4 ?d5 ?_)
              case d1 => rw [encI_len, List.length_drop]; omega
              case d3 => unfold maxLen; omega
              case d4 => omega
              case d5 => omega
              · intro v4 w5 hown5 hgrow5 hnil5
                have HBN5 := Lib.hid (show Below wr.heap.size wr w5 from HBN.out.trans ((Below.refl _ _).grown hgrow5 (by omega) (fun g hg => (HO.out.lt g hg).1)))
                have HO5 := Lib.hid (show w5.ownsRow wr.heap.size 3 1 v4 (putL l n).length (encI' (putL l n)) from by
                  rw [HP.out, encI_app, show encI' (n :: l.drop k) = Value.int .i64 n :: encI' (l.drop k) from rfl, show (l.take k ++ n :: l.drop k).length = k + 1 + (l.length - k) from by simp; omega]
                  exact hown5)
                clear hown5 hgrow5 hnil5
                go_wp2_with fail
                refine HQ.out _ _ _ ?_
                exact bodyPost_ret (v := v4) (by simp [results, Tryd.results22, go_sem]) rfl (newInts_own HO5.out H64.out putL_ne HBN5.out)
      · obtain rfl : k = l.length := by omega
        have HP := Lib.hid (show putL l n = l.take l.length ++ n :: l.drop l.length from putL_split HLOW.out (fun y hy => by rw [List.getElem?_eq_none (Nat.le_refl _)] at hy; simp at hy))
        have hcc : cap = l.length ∨ ¬ cap = l.length := Decidable.em _
        rcases hcc with rfl | hcl
        rotate_left
        have hcl' : (cap = l.length) = False := eq_false hcl
        all_goals
          go_wp2_with (first | (go_at_call 35; refine (HCK.out).mono ?_; rintro e w1 ⟨v, rfl, hown, hb1⟩) | (at_builtin; refine wpList_append_own _ rfl (.tmp 37) (.tmp 39) 35 rfl wr.heap.size 3 i0 (.int .i64 0) 1 8 Tryd.underlying35 hi hz0 hz1 hz2 rfl (by decide) _ l.length _ rfl (ownsRow_wr hown ((Wr.refl (fun _ => False) _).allocR _) (fun _ _ h => h)) ⟨w1.heap.size, 0, none⟩ 1 1 [.int .i64 n] rfl rfl ?c1 ?c2 ?c3 ?c4 ?c5 ?_))
          case c1 => exact cells_new _ _ _
          case c2 => intro u hu; simp at hu; rcases hu with rfl; rfl
          case c3 => unfold maxLen; omega
          case c4 => omega
          case c5 => have := hb1.size; first | omega | (simp <;> omega)
          · intro v2 w3 hown3 hgrow hnil
            have hzw1 := hb1.size
            have hbn : Below wr.heap.size wr w3 := hb1.trans (((Below.refl _ _).alloc (by omega) _).grown hgrow (by first | omega | (simp <;> omega)) (fun g hg => (hown.lt g hg).1))
            have hzn := hbn.size
            have HBN := Lib.hid hbn
            have HO := Lib.hid hown3
            clear hown3 hgrow hown hb1 hnil hbn
            go_wp2_with (at_builtin; refine wpList_append_own _ rfl (.tmp 41) (.tmp 44) 35 rfl wr.heap.size 3 i0 (.int .i64 0) 1 8 Tryd.underlying35 hi hz0 hz1 hz2 rfl (by decide) _ (l.length + 1) _ rfl HO.out _ 0 _ [] rfl rfl (fun j u hu => by simp at hu) (fun u hu => by simp at hu) ?d3 ?d4 ?d5 ?_)
            case d3 => unfold maxLen; omega
            case d4 => omega
            case d5 => omega
            · intro v4 w5 hown5 hgrow5 hnil5
              have HBN5 := Lib.hid (show Below wr.heap.size wr w5 from HBN.out.trans ((Below.refl _ _).grown hgrow5 (by omega) (fun g hg => (HO.out.lt g hg).1)))
              have HO5 := Lib.hid (show w5.ownsRow wr.heap.size 3 1 v4 (putL l n).length (encI' (putL l n)) from by
                have e : putL l n = l ++ [n] := by rw [HP.out, List.take_length, List.drop_length]
                rw [e, encI_app, show (l ++ [n]).length = l.length + 1 from by simp, show encI' [n] = [Value.int .i64 n] from rfl]
                exact hown5)
              clear hown5 hgrow5 hnil5
              go_wp2_with fail
              refine HQ.out _ _ _ ?_
              exact bodyPost_ret (v := v4) (by simp [results, Tryd.results22, go_sem]) rfl (newInts_own HO5.out H64.out putL_ne HBN5.out)
end Go.Proofs.YtlenilbkifofjaaDoor
