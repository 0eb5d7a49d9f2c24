/- A tree's value in the graph's machine is the page's. Conditions: as stated. The graph's heap: objects are made, one by one. Conditions: as stated. -/
import Derived.Test.YtikbdplllopjlaaGNodeBZz
import Derived.Test.YtikbdplllopjlaaGPutZz
set_option linter.unusedVariables false
set_option linter.unusedSimpArgs false
namespace Go.Proofs.Ytikbdplllopjlaa
open Go.RowKit

def TreeG (m : Nat) : Prop := ∀ (t : T) (B rb fb : Nat) (M : List MO) (tp : List V) (lo : List Nat) (ng : Nat) (w : World) (v0 v1 v2 : Value), t.size ≤ m → B ≤ w.heap.size → RunR w B rb fb M tp lo ng → MemOk M → NumOk M → FrOk M tp lo ng → TOk tp.length lo.length ng t →
    tp.length ≤ 1000000 → lo.length ≤ 1000000 → ng ≤ 1000000 → TreeAt w (Under B) t v0 v1 v2 →
    Calls Try.prog 34 #[.pointer (some ⟨rb, 0, none⟩), .pointer (some ⟨fb, 0, none⟩), .agg #[v0, v1, v2]] w fun e w' => AnsV (evalT M tp lo t) e ∧ Below w.heap.size w w'
theorem TreeAt.rootG {w : World} {C : Nat → Nat → Prop} {t : T} {v0 v1 v2 : Value} (h : TreeAt w C t v0 v1 v2) : ∃ A n c, v0 = .int .i64 t.op ∧ v1 = .int .i64 t.n ∧ v2 = .slice A n c := by
  cases t with
  | node op n ks =>
    rw [TreeAt] at h
    obtain ⟨h0, h1, _, _, _, A, c, h2, _⟩ := h
    exact ⟨A, _, c, h0, h1, h2⟩
theorem geval_node (M : List MO) (tp : List V) (lo : List Nat) (op x : Int) (ks : List T) : evalT M tp lo (.node op x ks) = (evalTs M tp lo ks).bind (opF M tp lo op x) := by rw [evalT]
theorem RunR.row {w : World} {B rb fb : Nat} {M : List MO} {tp : List V} {lo : List Nat} {ng : Nat} (h : RunR w B rb fb M tp lo ng) : rb < B ∧ fb < B ∧ ∃ hb n cap A, w.cell? ⟨rb, 4, none⟩ = some (.pointer (some ⟨hb, 0, none⟩)) ∧ w.cell? ⟨hb, 0, none⟩ = some (.slice A n cap) ∧ MemRG w B A n M ∧ hb < B := by
  obtain ⟨hb', n, cap, tc, lc, gc, A, TA, LA, GA, h1, h2, h3, h4, h5, h6, h7, h8, h9, h10, h11, h12⟩ := h
  exact ⟨h10, h11, hb', n, cap, A, h1, h2, h3, h12⟩

theorem treeg_all (m : Nat) : TreeG m := by
  induction m with
  | zero => intro t _ _ _ _ _ _ _ _ _ _ _ hm; have := t.size_pos; omega
  | succ m ih =>
    rintro ⟨op, x, ks⟩ B rb fb M tp lo ng w v0 v1 v2 hm hB hR hMo hNo hF hok ht1 ht2 ht3 hv
    have hin := TreeAt.tin _ hv
    obtain ⟨A, cap, len, rfl, rfl, ho64, hx64, rfl, hk⟩ := KidsV.of_tree hv
    simp only [T.size] at hm
    rw [TIn] at hin
    have hok' := hok
    rw [TOk] at hok
    obtain ⟨t1, t2, t3, t4, t5, t6, t7⟩ := hok
    have hkl := hk.1
    obtain ⟨hrb, hfb, hb, n, hcap, HA, q1, q2, q3, hhb⟩ := hR.row
    rw [geval_node]
    have kid : ∀ i k, ks[i]? = some k → ∃ b off A1 n1 c1, A = some ⟨b, off, none⟩ ∧ b < B ∧ w.cell? ⟨b, off + i * 3, none⟩ = some (.int .i64 k.op) ∧ w.cell? ⟨b, off + i * 3 + 1, none⟩ = some (.int .i64 k.n) ∧ w.cell? ⟨b, off + i * 3 + 2, none⟩ = some (.slice A1 n1 c1) ∧
        (∀ W, Below w.heap.size w W → Calls Try.prog 34 #[.pointer (some ⟨rb, 0, none⟩), .pointer (some ⟨fb, 0, none⟩), .agg #[.int .i64 k.op, .int .i64 k.n, .slice A1 n1 c1]] W fun e w' => AnsV (evalT M tp lo k) e ∧ Below W.heap.size W w') ∧
        (∀ r, evalT M tp lo k = some r → VOk M.length r) := by
      intro i k hi
      have hil : i < ks.length := by
        rcases Nat.lt_or_ge i ks.length with h | h
        · exact h
        · rw [List.getElem?_eq_none h] at hi; cases hi
      obtain ⟨b, off, k', u0, u1, u2, hA, hbB, hk1, c0, c1, c2, hkt⟩ := hk.get (k := i) (by omega)
      rw [hi] at hk1
      obtain rfl := Option.some.inj hk1
      obtain ⟨A1, n1, d1, rfl, rfl, rfl⟩ := hkt.rootG
      have hsz := T.sizes_get hi
      exact ⟨b, off, A1, n1, d1, hA, hbB, c0, c1, c2, fun W hbw => ih k B rb fb M tp lo ng W _ _ _ (by omega) (Nat.le_trans hB hbw.size) (hR.below (hbw.mono hB) (Nat.le_refl _)) hMo hNo hF (t7.get hi) ht1 ht2 ht3 (hkt.below (hbw.mono hB) (Nat.le_refl _)),
        fun r hr => eval_ok hMo hF k (hin.2.get hi) (t7.get hi) hr⟩
    have up : ∀ W, Below w.heap.size w W → B ≤ W.heap.size ∧ hb < W.heap.size ∧ W.cell? ⟨hb, 0, none⟩ = some (.slice HA n hcap) ∧ MemRG W B HA n M := fun W hbw =>
      ⟨Nat.le_trans hB hbw.size, by have := hbw.size; omega, cell_below q2 hbw (by omega), q3.below (hbw.mono hB) (Nat.le_refl _)⟩
    by_cases hleaf : op ≤ 4
    · have hks : ks = [] := List.length_eq_zero_iff.1 (by rw [t3]; unfold kidsN; rw [if_pos hleaf])
      subst hks
      have e : (evalTs M tp lo []).bind (opF M tp lo op x) = opF M tp lo op x [] := by rw [evalTs]; rfl
      rw [e]
      obtain ⟨hb', n', cap', tc, lc, gc, A', TA, LA, GA, h1, h2, h3, h4, h5, h6, h7, h8, h9, h10, h11, h12⟩ := hR
      have hop : op = 1 ∨ op = 2 ∨ op = 3 ∨ op = 4 := by omega
      rcases hop with rfl | rfl | rfl | rfl
      · have e2 : opF M tp lo 1 x [] = some ⟨0, x⟩ := by unfold opF; rw [if_pos rfl]
        rw [e2]
        exact leaf_con rb fb x _ A _ _ w rfl
      · obtain ⟨hx0, hx1⟩ := t4 rfl
        obtain ⟨k, rfl⟩ := Int.eq_ofNat_of_zero_le hx0
        have hkl : k < tp.length := by omega
        have e2 : opF M tp lo 2 (k : Int) [] = some (tp.getD k ⟨0, 0⟩) := by unfold opF; simp
        rw [e2]
        have hg : tp[k]? = some (tp.getD k ⟨0, 0⟩) := by rw [List.getD_eq_getElem?_getD, List.getElem?_eq_getElem hkl]; rfl
        obtain ⟨b, off, rfl, hbB, hcell⟩ := h7 k _ hg
        exact leaf_tmp rb fb b off _ tc k _ _ A _ _ w rfl h6 hcell hkl (by omega) (by omega) ht1
      · obtain ⟨hx0, hx1⟩ := t5 rfl
        obtain ⟨k, rfl⟩ := Int.eq_ofNat_of_zero_le hx0
        have hkl : k < lo.length := by omega
        have e2 : opF M tp lo 3 (k : Int) [] = some ⟨lo.getD k 0, 0⟩ := by unfold opF; simp
        rw [e2]
        obtain ⟨b, off, rfl, hbB, hcell⟩ := h9 k _ (locV_get hkl)
        exact leaf_loc rb fb b off _ lc k _ _ A _ _ w rfl h8 hcell hkl (by omega) (by omega) ht2
      · obtain ⟨hx0, hx1⟩ := t6 rfl
        obtain ⟨k, rfl⟩ := Int.eq_ofNat_of_zero_le hx0
        have hkl : k < ng := by omega
        have e2 : opF M tp lo 4 (k : Int) [] = some ⟨k + 1, 0⟩ := by unfold opF; simp
        rw [e2]
        obtain ⟨b, off, rfl, hbB, hcell⟩ := h5 k _ (globV_get hkl)
        exact leaf_glo rb fb b off _ gc k _ _ A _ _ w rfl h4 hcell hkl (by omega) (by omega) ht3
    · have hop : ∀ l, opF M tp lo op x l = applyF M op l := fun l => by unfold opF; rw [if_neg (by omega), if_neg (by omega), if_neg (by omega), if_neg (by omega)]
      by_cases hbin : 12 ≤ op ∧ op ≤ 30
      · obtain ⟨k1, k2, rfl⟩ : ∃ k1 k2, ks = [k1, k2] := by
          have : ks.length = 2 := by rw [t3]; unfold kidsN; rw [if_neg hleaf, if_pos hbin]
          match ks, this with
          | [a, b], _ => exact ⟨a, b, rfl⟩
        obtain ⟨b, off, A1, n1, c1, rfl, hbB, a0, a1, a2, hka, hva⟩ := kid 0 k1 rfl
        obtain ⟨b', off', B1, m1, d1, hA, _, b0, b1, b2, hkb, hvb⟩ := kid 1 k2 rfl
        simp only [Option.some.injEq, Addr.mk.injEq, and_true] at hA
        obtain ⟨rfl, rfl⟩ := hA
        simp only [Nat.zero_mul, Nat.add_zero, Nat.one_mul] at a0 a1 a2 b0 b1 b2
        have hlen : (2 : Nat) = len := hkl
        subst hlen
        cases he1 : evalT M tp lo k1 with
        | none =>
          have e : (evalTs M tp lo [k1, k2]).bind (opF M tp lo op x) = none := by simp [evalTs, he1]
          rw [e]
          rw [he1] at hka
          exact node_none rb fb b off 2 cap op x _ _ A1 n1 c1 w (by omega) (by omega) (by omega) (by omega) a0 a1 a2 hka
        | some v =>
          rw [he1] at hka
          have hvv := hva v he1
          cases he2 : evalT M tp lo k2 with
          | none =>
            have e : (evalTs M tp lo [k1, k2]).bind (opF M tp lo op x) = none := by simp [evalTs, he1, he2]
            rw [e]
            rw [he2] at hkb
            exact node_bin_none rb fb hb b off 2 cap op x _ _ A1 n1 c1 _ _ B1 m1 d1 v w hbin.1 hbin.2 (by omega) (by omega) (by omega) a0 a1 a2 b0 b1 b2 (by omega) q1 hka hkb
          | some u =>
            rw [he2] at hkb
            have hvu := hvb u he2
            have e : (evalTs M tp lo [k1, k2]).bind (opF M tp lo op x) = binF twoR M op v u := by
              simp only [evalTs, he1, he2, Option.map_some, Option.bind_some, hop]
              unfold applyF
              rw [if_neg (by omega), if_neg (by omega)]
              rfl
            rw [e]
            refine node_bin rb fb hb b off 2 cap op x _ _ A1 n1 c1 _ _ B1 m1 d1 v u _ w hbin.1 hbin.2 (by omega) (by omega) (by omega) a0 a1 a2 b0 b1 b2 (by omega) q1 hka hkb (fun W hbw => ?_)
            obtain ⟨u1, u2, u3, u4⟩ := up W hbw
            exact gtwo_any hb n hcap B op v u HA M W u1 u2 u3 u4 (fun h => ⟨hvv.1, hvv.2.1 h⟩) (fun h => ⟨hvu.1, hvu.2.1 h⟩) hvu.2.2 hbin.1 hbin.2
      · obtain ⟨k1, rfl⟩ : ∃ k1, ks = [k1] := by
          have : ks.length = 1 := by rw [t3]; unfold kidsN; rw [if_neg hleaf, if_neg hbin]
          match ks, this with
          | [a], _ => exact ⟨a, rfl⟩
        obtain ⟨b, off, A1, n1, c1, rfl, hbB, a0, a1, a2, hka, hva⟩ := kid 0 k1 rfl
        simp only [Nat.zero_mul, Nat.add_zero] at a0 a1 a2
        have hlen : (1 : Nat) = len := hkl
        subst hlen
        cases he1 : evalT M tp lo k1 with
        | none =>
          have e : (evalTs M tp lo [k1]).bind (opF M tp lo op x) = none := by simp [evalTs, he1]
          rw [e]
          rw [he1] at hka
          exact node_none rb fb b off 1 cap op x _ _ A1 n1 c1 w (by omega) (by omega) (by omega) (by omega) a0 a1 a2 hka
        | some v =>
          rw [he1] at hka
          have hvv := hva v he1
          by_cases hld : op ≤ 11
          · have e : (evalTs M tp lo [k1]).bind (opF M tp lo op x) = loadF M op v := by
              simp only [evalTs, he1, Option.map_some, Option.bind_some, hop]
              unfold applyF
              rw [if_pos (by omega)]
              rfl
            rw [e]
            refine node_load rb fb hb b off 1 cap op x _ _ A1 n1 c1 v _ w (by omega) hld (by omega) (by omega) (by omega) a0 a1 a2 (by omega) q1 hka (fun W hbw => ?_)
            obtain ⟨u1, u2, u3, u4⟩ := up W hbw
            exact gload_any hb HA n hcap B op v M W u1 u2 u3 u4 hNo (fun _ => hvv.1) hvv.2.1 (by omega) hld
          · have e : (evalTs M tp lo [k1]).bind (opF M tp lo op x) = if v.obj = 0 then some ⟨0, unR op v.n⟩ else none := by
              simp only [evalTs, he1, Option.map_some, Option.bind_some, hop]
              unfold applyF
              rw [if_neg (by omega), if_pos (by omega)]
              rfl
            rw [e]
            exact node_un rb fb hb b off 1 cap op x _ _ A1 n1 c1 v _ w (by omega) (by omega) (by omega) (by omega) (by omega) a0 a1 a2 (by omega) q1 hka (fun W hbw => goneh_any hb op v W (by omega) (by omega))
end Go.Proofs.Ytikbdplllopjlaa
namespace Go.Proofs.Ytikbdplllopjlaa
open Go.RowKit
attribute [local go_sem ↓] Go.wp_at_zero Go.wp_at_succ

theorem makesF_size (M : List MO) (l : List ObS) : (memBase (makesF M l)).length = (memBase M).length + l.length := by
  rw [← makesF_base, makesF_length, memBase_twice]
  split
  · rename_i h; subst h; rfl
  · rfl
theorem flat_succ (M : List MO) (k : Nat) : flatV (locV (numsF M (k + 1))) = flatV (locV (numsF M k)) ++ [.int .i64 (((memBase M).length : Int) + (k : Int)), .int .i64 0] := by
  rw [numsF_succ]
  unfold locV
  rw [List.map_append, flatV_append]
  simp [flatV, memBase_length]

theorem make_hc {base : Nat} {own : Nat → Prop} {cb hb : Nat} {fuel : Int} {s : St} {w : World} (o : ObS) (v : Value) (h : HCs w base own cb hb fuel s) (ho : ObOk o) (hl : LongsAt w base o.init v) (hmany : (memBase s.mem).length + 1 ≤ 1000000000) :
    Calls Try.prog 21 #[.pointer (some ⟨hb, 0, none⟩), .agg #[.int .i64 o.size, .int .i64 o.count, v]] w fun e w' => e = .returned (.agg #[.int .i64 ((memBase s.mem).length : Nat), .int .i64 0]) ∧ ∃ own' : Nat → Prop, (∀ k, own k → own' k) ∧ (∀ k, own' k → own k ∨ w.heap.size ≤ k) ∧ HCs w' base own' cb hb fuel { s with mem := makeF s.mem o } ∧ Wr own w w' := by
  obtain ⟨inv, outv, memv, rb, h⟩ := h
  refine (gmake_any hb base own memv rb (memBase s.mem) o v w h.heapAt h.own h.pos (memBase_pos _) ho hl hmany).mono ?_
  rintro e w' ⟨he, own', memv', rb', h1, h2, h3, h4, h5⟩
  refine ⟨he, own', h1, h2, ⟨inv, outv, memv', rb', HC.remem (M := makeF s.mem o) h h5 (fun k hk => ?_) h1 h2 h3 ?_⟩, h5.mono (fun k hk => Or.inl ?_)⟩
  · rcases hk with ⟨hk, cs, hr⟩ | rfl
    · exact ⟨hk, cs, _, hr, Or.inr (Or.inl rfl)⟩
    · exact ⟨h.ohb, _, _, h.heap, Or.inr (Or.inr rfl)⟩
  · rw [makeF_based, ← makeF_base]
    exact h4
  · rcases hk with ⟨hk, _⟩ | rfl
    · exact hk
    · exact h.ohb

/-- What making objects answers. -/
def AllSays (base : Nat) (own : Nat → Prop) (cb hb : Nat) (fuel : Int) (s : St) (l : List ObS) (w : World) (e : Ending) (w' : World) : Prop :=
  ∃ (pv : Value) (own' : Nat → Prop), e = .returned pv ∧ (∀ k, own k → own' k) ∧ (∀ k, own' k → own k ∨ w.heap.size ≤ k) ∧ HCs w' base own' cb hb fuel { s with mem := makesF s.mem l } ∧
    w'.ownsRow w.heap.size 55 2 pv l.length (flatV (locV (numsF s.mem l.length))) ∧ (∀ g, pv.ownBlock = some g → ¬ own' g) ∧ Wr own w w'

set_option maxRecDepth 100000 in
set_option maxHeartbeats 8000000 in
theorem all_hc {base : Nat} {own : Nat → Prop} {cb hb : Nat} {fuel : Int} {s : St} {w : World} (l : List ObS) (A : Option Addr) (n cap : Nat) (h : HCs w base own cb hb fuel s) (hobs : ∀ o, o ∈ l → ObOk o) (hl : SliceAt w base 3 (ObE w base) l (.slice A n cap)) (hnl : l.length ≤ 1000) (hmany : (memBase s.mem).length ≤ 900000000) :
    Calls Try.prog 12 #[.pointer (some ⟨hb, 0, none⟩), .slice A n cap] w fun e w' => AllSays base own cb hb fuel s l w e w' := by
  have hbk := h.blocks
  have hbs : base ≤ w.heap.size := by have := hbk.2.2 cb hbk.1; omega
  have hln := hl.len
  obtain ⟨i0, hi, hz0, hz1, hz2⟩ := info_parts val_info
  have H := Lib.hid h
  have HOBS := Lib.hid hobs
  have HL := Lib.hid hl
  have HLN := Lib.hid hln.1
  have HOW := Lib.hid hbk.2.2
  have hn1 : n ≤ 1000 := by omega
  have hn2 := hln.2
  have HMANY := Lib.hid hmany
  clear h hobs hl hbk hln hmany
  go_enter Try.func12, Try.ntmps12
  refine wp_letter (fun Q hQ => ?_)
  have HQ := Lib.hid hQ
  clear hQ
  go_wp2_with fail
  go_loopw [4, 9] (fun pv0 i wr => ∃ (k : Nat) (ownk : Nat → Prop) (pv : Value), pv = pv0 ∧ k ≤ n ∧ i = .int .i64 k ∧ (∀ x, own x → ownk x) ∧ (∀ x, ownk x → own x ∨ w.heap.size ≤ x) ∧ HCs wr base ownk cb hb fuel { s with mem := makesF s.mem (l.take k) } ∧ wr.ownsRow w.heap.size 55 2 pv k (flatV (locV (numsF s.mem k))) ∧ (∀ g, pv.ownBlock = some g → ¬ ownk g) ∧ Wr own w wr) (fun _ i _ => n - (intOf i).toNat)
  case atStart => exact ⟨0, own, _, rfl, by omega, rfl, fun _ h => h, fun _ h => Or.inl h, H.out, World.ownsRow_nil _ _ _ _, fun g h => (by cases h), Wr.refl _ _⟩
  case round =>
    obtain ⟨k, ownk, pv, rfl, hk, rfl, ho1, ho2, hHk, hrow, hnot, hwr⟩ := hrel
    have hzw := hwr.size
    have hB' : Below base w wr := hwr.below hbs (fun k hk => (HOW.out k hk).1)
    have HO1 := Lib.hid ho1
    have HO2 := Lib.hid ho2
    have HHK := Lib.hid hHk
    have HROW := Lib.hid hrow
    have HNOT := Lib.hid hnot
    have HWR := Lib.hid hwr
    by_cases hlt : k < n
    · obtain ⟨b, off, o, rfl, hbB, hok, c0, c1, ⟨v, c2, hv⟩, _, _⟩ := (HL.out.below hB' (Nat.le_refl _) (fun _ _ h => h.below hB' (Nat.le_refl _))).get hlt
      simp only [Nat.add_zero] at c0 c1 c2
      obtain ⟨IA, icap, hiv⟩ : ∃ IA icap, v = .slice IA o.init.length icap := (by obtain ⟨A', c', h, _⟩ := hv; exact ⟨_, _, h⟩)
      subst hiv
      have HOK := Lib.hid hok
      have hkl : (k : Int) < (n : Int) := by omega
      have hbl : b < wr.heap.size := by omega
      have hsz := makesF_size s.mem (l.take k)
      rw [List.length_take, Nat.min_eq_left (by have := HLN.out; omega)] at hsz
      have hmk := HMANY.out
      have HSZ := Lib.hid hsz
      have HMK := Lib.hid (make_hc (s := { s with mem := makesF s.mem (l.take k) }) (w := wr.alloc (.cells #[.int .i64 o.size, .int .i64 o.count, .slice IA o.init.length icap] 78)) o _ (hHk.below (below1 _ _)) (HOBS.out o (List.mem_of_getElem? hok)) (hv.below ((below1 wr _).mono (by omega)) (Nat.le_refl _)) (by show (memBase (makesF s.mem (l.take k))).length + 1 ≤ 1000000000; omega))
      simp only at HMK
      rw [hsz, Int.natCast_add] at HMK
      clear hok hv hwr hB' ho1 ho2 hHk hrow hnot hsz hmk
      go_wp2_with fail
      refine HMK.out.mono ?_
      rintro e w1 ⟨rfl, own', h1, h2, h3, h4⟩
      have hz4 := h4.size
      simp only [World.size_alloc] at hz4
      have hown1 := ownsRow_wr (ownsRow_wr HROW.out (Wr.of_below (F := fun _ => False) (below1 wr (.cells #[.int .i64 o.size, .int .i64 o.count, .slice IA o.init.length icap] 78))) (fun _ _ h => h)) h4 HNOT.out
      have H1 := Lib.hid (And.intro h1 (And.intro h2 h3))
      have H4 := Lib.hid h4
      have HOWN1 := Lib.hid hown1
      clear h1 h2 h3 h4 hown1
      go_wp2_with (at_builtin; refine wpList_append_lies _ rfl (.tmp 13) (.tmp 17) 50 rfl w.heap.size 55 i0 (.agg #[.int .i64 0, .int .i64 0]) 2 16 Try.underlying50 hi hz0 hz1 hz2 rfl (by decide) _ _ _ rfl (ownsRow_wr HOWN1.out (Wr.of_below (F := fun _ => False) (below1 w1 _)) (fun _ _ h => h)) ⟨w1.heap.size, 0, none⟩ 1 1 [.int .i64 (((memBase s.mem).length : Int) + (k : Int)), .int .i64 0] rfl rfl ?c1 ?c2 ?c3 ?c4 ?c5 ?c6 (w1.heap.size + 1) (by simp) ?_)
      case c1 => exact pair_cells _ _ _ _ _ (by simp)
      case c2 => exact pair_one _ _
      case c3 => omega
      case c4 => unfold maxLen; omega
      case c5 => omega
      case c6 => simp; omega
      · intro gg cap3 w2 hown2 hgrow hat hlt2
        have hpv : ∀ g, pv.ownBlock = some g → w.heap.size ≤ g ∧ g < wr.heap.size := fun g hg => (by obtain ⟨h, cs, hr⟩ := ownsRow_row HROW.out hg; exact ⟨h, hr.lt⟩)
        have hno : ∀ g, pv.ownBlock = some g → ¬ own' g := fun g hg h => (by
          rcases H1.out.2.1 g h with h' | h'
          · exact HNOT.out g hg h'
          · have := (hpv g hg).2; simp only [World.size_alloc] at h'; omega)
        have hwg : Wr (fun k => pv.ownBlock = some k) (w1.alloc (.cells #[.int .i64 (((memBase s.mem).length : Int) + (k : Int)), .int .i64 0] 55)) w2 := Wr.grown hgrow (fun k hk => hk)
        have HF := Lib.hid (show HCs w2 base own' cb hb fuel { s with mem := makeF (makesF s.mem (l.take k)) o } from (H1.out.2.2.below (below1 _ _)).wr hwg (fun g hg => ⟨by have := (hpv g hg).1; omega, hno g hg⟩))
        have HNG := Lib.hid (show ¬ own' gg from fun h => by
          rcases hat with h' | h'
          · exact hno gg h' h
          · have := (H1.out.2.2.blocks.2.2 gg h).2; omega)
        have HWF := Lib.hid (show Wr own w w2 from ((((HWR.out.trans (Wr.of_below (F := fun _ => False) (below1 wr (.cells #[.int .i64 o.size, .int .i64 o.count, .slice IA o.init.length icap] 78))) (fun _ h => h.elim)).trans H4.out HO2.out).trans (Wr.of_below (F := fun _ => False) (below1 w1 (.cells #[.int .i64 (((memBase s.mem).length : Int) + (k : Int)), .int .i64 0] 55))) (fun _ h => h.elim)).trans hwg (fun g hg => Or.inr (hpv g hg).1)))
        have HROW2 := Lib.hid hown2
        clear hown2 hgrow hat hwg hpv hno
        go_wp2_with fail
        go_roundw
        case rel =>
          refine ⟨k + 1, own', _, rfl, by omega, by go_num, fun x hx => H1.out.1 x (HO1.out x hx), fun x hx => ?_, ?_, ?_, fun g hg => ?_, HWF.out⟩
          · rcases H1.out.2.1 x hx with h' | h'
            · exact HO2.out x h'
            · simp only [World.size_alloc] at h'; exact Or.inr (by omega)
          · rw [take_succ_of HOK.out, makesF_append]
            exact HF.out
          · rw [flat_succ]
            exact HROW2.out
          · simp only [Value.ownBlock, Option.some.injEq] at hg
            exact hg ▸ HNG.out
        case measure => simp [intOf]; omega
    · obtain rfl : k = n := by omega
      have e : l.take k = l := by rw [← HLN.out]; exact List.take_length
      rw [e] at HHK
      clear hwr hB' ho1 ho2 hHk hrow hnot
      go_wp2_with fail
      refine HQ.out _ _ _ ?_
      refine bodyPost_ret (v := _) (by simp [results, Try.results12, go_sem]) rfl ⟨_, ownk, rfl, HO1.out, HO2.out, HHK.out, ?_, HNOT.out, HWR.out⟩
      rw [HLN.out]
      exact HROW.out
end Go.Proofs.Ytikbdplllopjlaa
