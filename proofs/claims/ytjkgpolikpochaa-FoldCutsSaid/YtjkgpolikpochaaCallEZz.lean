/- The page's machine: a call's rounds, one a block. Conditions: as stated. -/
import Derived.Test.YtjkgpolikpochaaCallFZz
import Derived.WalkLawsBesides
import Derived.Deep.RegionWith
import Derived.Deep.RegionHeld3
import Derived.Outline
set_option linter.unusedVariables false
set_option linter.unusedSimpArgs false
namespace Go.Proofs.Ytjkgpolikpochaa
open Go.RowKit

set_option maxRecDepth 1000000 in
set_option maxHeartbeats 8000000 in
theorem call_rounds (base mc : Nat) (own own0 : Nat → Prop) (P : Value × Value × Value) (fuel d : Int) (p : ProgS) (ng fb tb nt gr gas0 k0 : Nat) (g : GraphS) (LA BA : Option Addr) (lcap bcap : Nat) (lvk : Value) (lo : List Nat) (R : CallR) (st0 : St) (tp0 : List V) (w w3 : World)
    (hf : fuel ≤ 100000000) (hbs : base ≤ w.heap.size) (hP : ProgAt w base P p) (how : ∀ k, own k → base ≤ k ∧ k < w.heap.size) (hBS : SliceAt w base 7 (BlockE w base) g.blocks (.slice BA g.blocks.length bcap)) (hlol : lo.length = g.locs.length)
    (hB0 : BlkAt base mc own P fuel d ng fb tb nt (.int .i64 g.params, .int .i64 nt, .slice LA g.locs.length lcap, .slice BA g.blocks.length bcap) lvk lo gr #[.int .i64 g.params, .int .i64 nt, .slice LA g.locs.length lcap, .slice BA g.blocks.length bcap] w w3 own0 st0 tp0) (hk0 : k0 < g.blocks.length) (hgas0 : (fuel - st0.steps).toNat < gas0) (hd0 : 0 ≤ d) (hd1 : d ≤ 64)
    (hblk : ∀ b, b ∈ g.blocks → (b.fin = 1 ∨ b.fin = 2 ∨ b.fin = 3) ∧ (0 ≤ b.next ∧ b.next < g.blocks.length) ∧ (0 ≤ b.els ∧ b.els < g.blocks.length) ∧ (b.fin ≠ 1 → TOk nt g.locs.length ng b.cond) ∧ ∀ x, x ∈ b.steps → DoesOk R fuel p d ng nt g.locs.length x)
    (c1 c2 c3 c4 c5 c7 c10 c11 c12 c13 c15 c16 c17 c18 c19 c20 c21 c22 c23 c24 c25 c26 c27 c28 c29 c30 c31 c32 c33 c34 c35 c36 c37 c38 c39 c40 c41 c42 c43 c44 c45 c46 c47 c48 c49 c50 c51 c52 c53 c54 c55 c56 c57 c58 c59 c60 c61 c62 c63 c64 c65 c66 c67 c68 c69 c70 c71 c72 c73 c74 c75 c76 c77 c78 c79 c80 c81 c82 c83 c84 c85 c86 c87 c88 c89 c90 c91 c92 c93 c94 c95 c96 c97 c98 c99 c100 c101 c102 c103 c104 c105 c106 c107 c108 c109 c110 c111 c112 c113 c114 c115 c116 c117 c118 c119 c120 c121 c122 c123 c124 c125 c126 c127 c128 c129 c130 c131 c132 c133 c134 c135 c136 c137 c138 c139 c140 c141 c142 c143 c144 c145 c146 c147 c148 c149 c150 c151 c152 c153 c154 c155 c156 c157 c158 c159 c160 c161 c162 c163 c164 c165 c166 c167 c168 c169 c170 c171 c172 c173 c174 c175 c176 c177 c178 c179 c180 c181 c182 c183 c184 c185 c186 c187 c188 c189 c190 c191 c192 c193 c194 c195 c196 c197 c198 c199 c200 c201 c202 c203 c204 c205 c206 : Value) (Q : Exit → Act → World → Prop) (hQ : ∀ a w', bodyPost Try.prog Try.f50 (fun e w' => CallSays base mc own P fuel (blocksF R fuel lo g.blocks gas0 k0 st0 tp0) w e w') Exit.ret a w' → Q Exit.ret a w') :
    Code.wp Try.prog callRounds Q ⟨List.toArray ((Value.pointer (some ⟨mc, 0, none⟩)) :: c1 :: c2 :: c3 :: c4 :: c5 :: (Value.pointer (some ⟨w.heap.size, 0, none⟩)) :: c7 :: (Value.pointer (some ⟨gr, 0, none⟩)) :: (Value.pointer (some ⟨fb, 0, none⟩)) :: c10 :: c11 :: c12 :: c13 :: (Value.int .i64 (k0 : Nat)) :: c15 :: c16 :: c17 :: c18 :: c19 :: c20 :: c21 :: c22 :: c23 :: c24 :: c25 :: c26 :: c27 :: c28 :: c29 :: c30 :: c31 :: c32 :: c33 :: c34 :: c35 :: c36 :: c37 :: c38 :: c39 :: c40 :: c41 :: c42 :: c43 :: c44 :: c45 :: c46 :: c47 :: c48 :: c49 :: c50 :: c51 :: c52 :: c53 :: c54 :: c55 :: c56 :: c57 :: c58 :: c59 :: c60 :: c61 :: c62 :: c63 :: c64 :: c65 :: c66 :: c67 :: c68 :: c69 :: c70 :: c71 :: c72 :: c73 :: c74 :: c75 :: c76 :: c77 :: c78 :: c79 :: c80 :: c81 :: c82 :: c83 :: c84 :: c85 :: c86 :: c87 :: c88 :: c89 :: c90 :: c91 :: c92 :: c93 :: c94 :: c95 :: c96 :: c97 :: c98 :: c99 :: c100 :: c101 :: c102 :: c103 :: c104 :: c105 :: c106 :: c107 :: c108 :: c109 :: c110 :: c111 :: c112 :: c113 :: c114 :: c115 :: c116 :: c117 :: c118 :: c119 :: c120 :: c121 :: c122 :: c123 :: c124 :: c125 :: c126 :: c127 :: c128 :: c129 :: c130 :: c131 :: c132 :: c133 :: c134 :: c135 :: c136 :: c137 :: c138 :: c139 :: c140 :: c141 :: c142 :: c143 :: c144 :: c145 :: c146 :: c147 :: c148 :: c149 :: c150 :: c151 :: c152 :: c153 :: c154 :: c155 :: c156 :: c157 :: c158 :: c159 :: c160 :: c161 :: c162 :: c163 :: c164 :: c165 :: c166 :: c167 :: c168 :: c169 :: c170 :: c171 :: c172 :: c173 :: c174 :: c175 :: c176 :: c177 :: c178 :: c179 :: c180 :: c181 :: c182 :: c183 :: c184 :: c185 :: c186 :: c187 :: c188 :: c189 :: c190 :: c191 :: c192 :: c193 :: c194 :: c195 :: c196 :: c197 :: c198 :: c199 :: c200 :: c201 :: c202 :: c203 :: c204 :: c205 :: c206 :: []), []⟩ w3 := by
  have HP := Lib.hid hP
  have HOW := Lib.hid how
  have HBS := Lib.hid hBS
  have HBLK := Lib.hid hblk
  have HNBL := Lib.hid (show g.blocks.length ≤ 9223372036854775807 from by obtain ⟨_, _, _, h, _⟩ := hBS; exact h)
  have HQ := Lib.hid hQ
  clear hP how hBS hblk hQ
  conv => arg 2; whnf
  go_loopw [14] (fun a wr => ∃ (gas k : Nat) (own' : Nat → Prop) (st : St) (tp : List V), a = .int .i64 k ∧ k < g.blocks.length ∧ BlkAt base mc own P fuel d ng fb tb nt (.int .i64 g.params, .int .i64 nt, .slice LA g.locs.length lcap, .slice BA g.blocks.length bcap) lvk lo gr #[.int .i64 g.params, .int .i64 nt, .slice LA g.locs.length lcap, .slice BA g.blocks.length bcap] w wr own' st tp ∧ (fuel - st.steps).toNat < gas ∧ blocksF R fuel lo g.blocks gas k st tp = blocksF R fuel lo g.blocks gas0 k0 st0 tp0)
    (fun _ wr => (fuel - intOf ((wr.cell? ⟨mc, 8, none⟩).getD undef)).toNat)
  case atStart => exact ⟨gas0, k0, own0, st0, tp0, rfl, hk0, hB0, hgas0, rfl⟩
  case round =>
    obtain ⟨gas, k, own', st, tp, rfl, hk, hB, hgas, heq⟩ := hrel
    obtain ⟨gas', rfl⟩ : ∃ g', gas = g' + 1 := ⟨gas - 1, by omega⟩
    have HB := Lib.hid hB
    have HEQ := Lib.hid heq
    have hBr : Below base w wr := hB.wr.below (by omega) (fun i hi => (HOW.out i hi).1)
    obtain ⟨bb, boff, b, rfl, hbb, hbk, ⟨sv, b0, hst⟩, b1, ⟨cv0, cv1, cv2, b2, b3, b4, hct⟩, b5, b6, _, _, _⟩ := (HBS.out.below hBr (Nat.le_refl _) (fun _ _ h => h.below hBr (Nat.le_refl _))).get hk
    simp only [Nat.add_zero] at b0 b1 b2 b3 b4 b5 b6
    obtain ⟨SA, scap, hsv⟩ : ∃ SA scap, sv = .slice SA b.steps.length scap := (by obtain ⟨A', c', h, _⟩ := hst; exact ⟨_, _, h⟩)
    subst hsv
    obtain ⟨ca, cb, CA, cl, cc, rfl, rfl, rfl⟩ := hct.shape
    have e3 : wr.cell? ⟨gr, 3, none⟩ = some (.slice (some ⟨bb, boff, none⟩) g.blocks.length bcap) := hB.grow.cell (j := 3) rfl
    have hbbl : bb < wr.heap.size := by have := hBr.size; omega
    have hkb : (k : Int) < (g.blocks.length : Int) := by omega
    have hnbl : g.blocks.length ≤ 9223372036854775807 := HNBL.out
    have hsl := hst.len.2
    have HBK := Lib.hid hbk
    have HST2 := Lib.hid hst
    have HCT := Lib.hid hct
    have HBR := Lib.hid hBr
    have hgwr := hB.grow.lt
    clear hB heq hBr hbk hst hct
    go_wp2_with fail
    have hbase : base ≤ wr.heap.size := by have := HBR.out.size; omega
    obtain ⟨w4, rfl⟩ : ∃ w4 : World, w4 = wr := ⟨_, rfl⟩
    go_loopw [16] (fun i wr => ∃ (j : Nat) (own2 : Nat → Prop) (st2 : St) (tp2 : List V), j ≤ b.steps.length ∧ i = .int .i64 j ∧ BlkAt base mc own P fuel d ng fb tb nt (.int .i64 g.params, .int .i64 nt, .slice LA g.locs.length lcap, .slice (some ⟨bb, boff, none⟩) g.blocks.length bcap) lvk lo gr #[.int .i64 g.params, .int .i64 nt, .slice LA g.locs.length lcap, .slice (some ⟨bb, boff, none⟩) g.blocks.length bcap] w wr own2 st2 tp2 ∧
        stepsF R fuel lo st2 tp2 (b.steps.drop j) = stepsF R fuel lo st tp b.steps ∧ Row wr w4.heap.size #[.slice SA b.steps.length scap, .int .i64 b.fin, .int .i64 ca, .int .i64 cb, .slice CA cl cc, .int .i64 b.next, .int .i64 b.els] 74 ∧ ¬ own2 w4.heap.size ∧ ¬ w4.heap.size = tb ∧ st.steps ≤ st2.steps ∧ Below base w4 wr)
      (fun i _ => b.steps.length - (intOf i).toNat)
    case atStart => exact ⟨0, own', st, tp, by omega, rfl, HB.out.below (below1 _ _), rfl, Row.new _ _ _, fun h => by obtain ⟨_, _, _, _, hq⟩ := HB.out.mach; have := (hq.rest.own _ h).2; omega, (by obtain ⟨_, h, _⟩ := HB.out.fr.temps; have := h.lt; omega), Int.le_refl _, (below1 _ _).mono hbase⟩
    case round =>
      obtain ⟨j, own2, st2, tp2, hj, rfl, hB2, hse, hbrow, hbn, hbt, hsle, hBr3⟩ := hrel
      have r0' : wr.cell? ⟨w4.heap.size, 0, none⟩ = some (.slice SA b.steps.length scap) := hbrow.cell (j := 0) rfl
      have HB2 := Lib.hid hB2
      have HSE := Lib.hid hse
      have HBROW := Lib.hid hbrow
      have hBr2 : Below base w wr := hB2.wr.below (by omega) (fun i hi => (HOW.out i hi).1)
      have HBR3 := Lib.hid hBr3
      have hw4l := hbrow.lt
      by_cases hlt3 : j < b.steps.length
      · obtain ⟨xb, xoff, x, rfl, hxb, hxk, x0, x1, x2, x3, ⟨xv, x4, hxa⟩, _⟩ := (HST2.out.below hBr3 (Nat.le_refl _) (fun _ _ h => h.below hBr3 (Nat.le_refl _))).get hlt3
        simp only [Nat.add_zero] at x0 x1 x2 x3 x4
        obtain ⟨XA, xn, xcap, rfl, hxk2⟩ := hxa
        have hDO := (HBLK.out b (List.mem_of_getElem? HBK.out)).2.2.2.2 x (List.mem_of_getElem? hxk) base mc own2 P st2 fb tb _ tp2 lvk _ XA xn xcap wr hB2.mach (HP.out.below hBr2) hB2.inv hB2.calls hB2.fr hB2.off hB2.frok hB2.len hlol hxk2
        have hxbl : xb < wr.heap.size := by have := hBr2.size; omega
        have hjl : (j : Int) < (b.steps.length : Int) := by omega
        have HXK := Lib.hid hxk
        have HOWB := Lib.hid (show ∀ k, own2 k → base ≤ k from by obtain ⟨_, _, _, _, h⟩ := hB2.mach; exact fun k hk => (h.rest.own k hk).1)
        by_cases hdo : (doesF R fuel lo st2 tp2 x).1 = true
        · have HC := Lib.hid (hDO.mono (R' := fun e w' => e = .returned (.bool true) ∧ DoesSays base mc own2 P fuel fb tb (.int .i64 g.params, .int .i64 nt, .slice LA g.locs.length lcap, .slice (some ⟨bb, boff, none⟩) g.blocks.length bcap) lvk lo (doesF R fuel lo st2 tp2 x) wr e w' ∧ Kept fuel st2 tp2 lo ng (doesF R fuel lo st2 tp2 x).2.1 (doesF R fuel lo st2 tp2 x).2.2) (fun e w' h => ⟨hdo ▸ h.1.1, h.1, h.2 hdo⟩))
          have HDO := Lib.hid hdo
          clear hDO hB2 hse hbrow hBr2 hBr3 hxk hxk2 hdo
          go_wp2_with fail
          refine HC.out.mono ?_
          rintro e w5 ⟨rfl, hds, hkp⟩
          have HDS := Lib.hid hds
          have HKP := Lib.hid hkp
          clear hds hkp
          go_wp2_with fail
          go_roundw
          case rel =>
            obtain ⟨own3, hB3⟩ := HB2.out.does HDS.out HKP.out HDO.out
            have hx1 : stepsF R fuel lo (doesF R fuel lo st2 tp2 x).2.1 (doesF R fuel lo st2 tp2 x).2.2 (b.steps.drop (j + 1)) = stepsF R fuel lo st tp b.steps := by
              have := HSE.out
              rw [drop_get HXK.out, stepsF_cons_true HDO.out] at this
              exact this
            have hx2 : st.steps ≤ (doesF R fuel lo st2 tp2 x).2.1.steps := Int.le_trans hsle HKP.out.steps
            have hx3 : j + 1 ≤ b.steps.length := hlt3
            have hx4 := doesSays_keep HDS.out HBROW.out hbn hbt
            have hx5 := HBR3.out.trans (doesSays_below HDS.out HOWB.out HB2.out.off.tb.2 (by have := HBR3.out.size; omega))
            obtain ⟨hB3, hB4⟩ := hB3
            exact ⟨j + 1, own3, _, _, hx3, by go_num, hB3, hx1, hx4, fun h => (by rcases hB4 _ h with h | h; exact hbn h; omega), hbt, hx2, hx5⟩
          case measure => simp [intOf]; omega
        · have hdo' : (doesF R fuel lo st2 tp2 x).1 = false := by simpa using hdo
          have HC := Lib.hid (hDO.mono (R' := fun e w' => e = .returned (.bool false) ∧ DoesSays base mc own2 P fuel fb tb (.int .i64 g.params, .int .i64 nt, .slice LA g.locs.length lcap, .slice (some ⟨bb, boff, none⟩) g.blocks.length bcap) lvk lo (doesF R fuel lo st2 tp2 x) wr e w') (fun e w' h => ⟨hdo' ▸ h.1.1, h.1⟩))
          have HDO := Lib.hid hdo'
          clear hDO hB2 hse hbrow hBr2 hBr3 hxk hxk2 hdo hdo'
          go_wp2_with fail
          refine HC.out.mono ?_
          rintro e w5 ⟨rfl, hds⟩
          have hdn := HB2.out.done hds
          obtain ⟨own5, n1, n2, n3, n4, n5, n6⟩ := hdn
          have r0 : w5.cell? ⟨w.heap.size, 0, none⟩ = some (.int .i64 0) := n5.cell (j := 0) rfl
          have r1 : w5.cell? ⟨w.heap.size, 1, none⟩ = some (.int .i64 0) := n5.cell (j := 1) rfl
          have r2 := n5.free 0
          have r3 := n5.free 1
          have HN3 := Lib.hid n3
          have HN4 := Lib.hid n4
          have HN := Lib.hid (And.intro n1 (And.intro n2 n6))
          clear hds n1 n2 n3 n4 n5 n6
          go_wp2_with fail
          refine HQ.out _ _ ?_
          refine bodyPost_ret (v := ansV none) ?_ rfl ?_
          · simp [results, Try.results50, go_sem, ansV, r0, r1]
          · have hres := blocksF_over (R := R) (fuel := fuel) (lo := lo) (bs := g.blocks) (g := gas') (k := k) (s := st) (tp := tp) HBK.out (blockF_steps (show stepsF R fuel lo st tp b.steps = (false, (doesF R fuel lo st2 tp2 x).2.1, (doesF R fuel lo st2 tp2 x).2.2) from (by
              have h1 := HSE.out
              rw [drop_get HXK.out, stepsF_cons_false HDO.out] at h1
              exact h1.symm)))
            have h2 := HEQ.out
            rw [hres] at h2
            rw [← h2]
            exact call_pair none HN.out.1 HN.out.2.1 HN3.out HN4.out HN.out.2.2 (by omega) 0 0
      · obtain rfl : j = b.steps.length := by omega
        have hs5 : stepsF R fuel lo st tp b.steps = (true, st2, tp2) := by
          rw [← hse, List.drop_length]; rfl
        have r1' : wr.cell? ⟨w4.heap.size, 1, none⟩ = some (.int .i64 b.fin) := hbrow.cell (j := 1) rfl
        have r2' : wr.cell? ⟨w4.heap.size, 2, none⟩ = some (.int .i64 ca) := hbrow.cell (j := 2) rfl
        have r3' : wr.cell? ⟨w4.heap.size, 3, none⟩ = some (.int .i64 cb) := hbrow.cell (j := 3) rfl
        have r4' : wr.cell? ⟨w4.heap.size, 4, none⟩ = some (.slice CA cl cc) := hbrow.cell (j := 4) rfl
        have r5' : wr.cell? ⟨w4.heap.size, 5, none⟩ = some (.int .i64 b.next) := hbrow.cell (j := 5) rfl
        have r6' : wr.cell? ⟨w4.heap.size, 6, none⟩ = some (.int .i64 b.els) := hbrow.cell (j := 6) rfl
        have HS5 := Lib.hid hs5
        have hmcw : ¬ w4.heap.size = mc := fun e => hbn (by rw [e]; exact hB2.mine)
        have hrmc : ¬ w.heap.size = mc := fun e => hB2.rn.1 (by rw [e]; exact hB2.mine)
        by_cases hy2 : (stepF fuel 1 st2).1 = true
        · obtain ⟨hk2, hlt5, hs6⟩ := stepF_yes hy2
          have HST := Lib.hid (hy2 ▸ hs6 ▸ step_any base mc own2 P fuel 1 st2 wr hB2.mach hB2.inv.lo hB2.inv.hi (by omega) (by omega) (by omega) : Calls Try.prog 64 #[.pointer (some ⟨mc, 0, none⟩), .int .i64 1] wr fun e w' => e = .returned (.bool true) ∧ Mach w' base mc own2 P fuel { st2 with steps := st2.steps + 1 } ∧ Wr (fun b => b = mc) wr w')
          have HY2 := Lib.hid hy2
          have HS6 := Lib.hid hs6
          have HK2 := Lib.hid hk2
          have HOWM := Lib.hid (show base ≤ mc from by obtain ⟨_, _, _, _, h⟩ := hB2.mach; exact (h.rest.own mc h.mine).1)
          have hlo2 := hB2.inv.lo
          have hhi2 := hB2.inv.hi
          obtain ⟨hfin, hnx, hel, hcond, _⟩ := HBLK.out b (List.mem_of_getElem? HBK.out)
          have HCO := Lib.hid hcond
          obtain ⟨kn, hkn⟩ := Int.eq_ofNat_of_zero_le hnx.1
          obtain ⟨ke, hke⟩ := Int.eq_ofNat_of_zero_le hel.1
          have hknl : kn < g.blocks.length := by omega
          have hkel : ke < g.blocks.length := by omega
          rw [hkn] at r5'
          rw [hke] at r6'
          have HKN := Lib.hid hkn
          have HKE := Lib.hid hke
          have HFIN := Lib.hid hfin
          clear hB2 hse hbrow hBr2 hBr3 hs5 hy2 hs6 hk2 hcond hkn hke hnx hel hfin
          by_cases hf1 : b.fin = 1
          · rw [hf1] at r1'
            have HF1 := Lib.hid hf1
            clear hf1
            go_wp2_with (go_at_call 64; refine HST.out.mono ?_; rintro e w5 ⟨rfl, hM5, hw5⟩; have q1 := (HBROW.out.wr hw5 hmcw).cell (j := 1) (v := .int .i64 1) (by simp [HF1.out]); have q5 := (HBROW.out.wr hw5 hmcw).cell (j := 5) (v := .int .i64 kn) (by simp [HKN.out]); have HM5 := Lib.hid hM5; have HW5 := Lib.hid hw5; clear hM5 hw5)
            go_roundw
            case rel =>
              have hB5 := HB2.out.mach' HW5.out HM5.out ⟨HK2.out, by show 0 ≤ st2.steps + 1; omega, by show st2.steps + 1 ≤ fuel; omega, by have := HB2.out.inv.many; show st2.mem.length ≤ 20 + (st2.steps + 1).toNat; omega, HB2.out.inv.mem⟩ HB2.out.frok HB2.out.calls
              have h2 := HEQ.out
              rw [blocksF_next HBK.out (show blockF R fuel lo st tp b = (.next b.next, { st2 with steps := st2.steps + 1 }, tp2) from by simp [blockF, HS5.out, HY2.out, HS6.out, HF1.out]), HKN.out] at h2
              exact ⟨gas', kn, own2, _, tp2, rfl, hknl, hB5, by show (fuel - (st2.steps + 1)).toNat < gas'; omega, h2⟩
            case measure =>
              rw [HM5.out.steps, HB.out.mach.steps]
              show (fuel - (st2.steps + 1)).toNat < (fuel - st.steps).toNat
              omega
          · have hf1' : (b.fin == 1) = false := by simpa using hf1
            have hT := HCO.out hf1
            rw [← HB2.out.len, ← hlol] at hT
            have HT := Lib.hid hT
            have HF1 := Lib.hid hf1
            clear hf1 hT
            cases hv : evalT st2.mem tp2 lo b.cond with
            | none =>
              go_wp2_with (go_at_call 64; refine HST.out.mono ?_; rintro e w5 ⟨rfl, hM5, hw5⟩; have hrw := HBROW.out.wr hw5 hmcw; have q1 := hrw.cell (j := 1) rfl; have q2 := hrw.cell (j := 2) rfl; have q3 := hrw.cell (j := 3) rfl; have q4 := hrw.cell (j := 4) rfl; have q5 := hrw.cell (j := 5) (v := .int .i64 kn) (by simp [HKN.out]); have q6 := hrw.cell (j := 6) (v := .int .i64 ke) (by simp [HKE.out]); have hrwl := hrw.lt; have HRW := Lib.hid hrw; have HM5 := Lib.hid hM5; have HW5 := Lib.hid hw5; clear hM5 hw5 hrw)
              have hB5 := HB2.out.mach' HW5.out HM5.out ⟨HK2.out, by show 0 ≤ st2.steps + 1; omega, by show st2.steps + 1 ≤ fuel; omega, by have := HB2.out.inv.many; show st2.mem.length ≤ 20 + (st2.steps + 1).toNat; omega, HB2.out.inv.mem⟩ HB2.out.frok HB2.out.calls
              have hTA := HCT.out.below (HBR3.out.trans (HW5.out.below (by have := HBR3.out.size; omega) (fun i hi => by have := HOWM.out; omega))) (Nat.le_refl _)
              have htr := tree_all b.cond.size b.cond base mc own2 P fuel { st2 with steps := st2.steps + 1 } fb tb _ tp2 lvk lo ng w5 _ _ _ (Nat.le_refl _) HM5.out HK2.out hB5.fr hB5.inv.mem hB5.frok HT.out hTA
              rw [show evalT ({ st2 with steps := st2.steps + 1 } : St).mem tp2 lo b.cond = _ from hv] at htr
              have HTR := Lib.hid htr
              have HB5 := Lib.hid hB5
              clear hB5 hTA htr
              refine HTR.out.mono ?_
              rintro e w6 ⟨⟨x', y', rfl⟩, hM6, hw6⟩
              have n5 := HB5.out.rrow.wr hw6 hrmc
              have r0 : w6.cell? ⟨w.heap.size, 0, none⟩ = some (.int .i64 0) := n5.cell (j := 0) rfl
              have r1 : w6.cell? ⟨w.heap.size, 1, none⟩ = some (.int .i64 0) := n5.cell (j := 1) rfl
              have r2 := n5.free 0
              have r3 := n5.free 1
              have r4 := n5.lt
              have HM6 := Lib.hid hM6
              have HW6 := Lib.hid hw6
              clear hM6 hw6 n5 q1 q2 q3 q4 q5 q6
              go_wp2_with fail
              refine HQ.out _ _ ?_
              refine bodyPost_ret (v := ansV none) ?_ rfl ?_
              · simp [results, Try.results50, go_sem, ansV, r0, r1, r4]
              · have h2 := HEQ.out
                rw [blocksF_over HBK.out (show blockF R fuel lo st tp b = (.over, { st2 with steps := st2.steps + 1, kind := 3 }, tp2) from by simp [blockF, HS5.out, HY2.out, HS6.out, HF1.out, hv])] at h2
                rw [← h2]
                have hcp := call_pair none HB5.out.up HB5.out.down HM6.out (HB5.out.wr.trans HW6.out (fun i hi => ?_)) HB5.out.rn.1 (by omega) 0 0
                · exact hcp.below (below1 _ _)
                · rcases HB5.out.down mc HB5.out.mine with h | h
                  · exact Or.inl (hi ▸ h)
                  · exact Or.inr (hi ▸ h)
            | some v =>
              by_cases hf3 : b.fin = 3
              · have HF3 := Lib.hid hf3
                have hf3' : (b.fin == 3) = true := by simpa using hf3
                clear hf3
                go_wp2_with (go_at_call 64; refine HST.out.mono ?_; rintro e w5 ⟨rfl, hM5, hw5⟩; have hrw := HBROW.out.wr hw5 hmcw; have q1 := hrw.cell (j := 1) rfl; have q2 := hrw.cell (j := 2) rfl; have q3 := hrw.cell (j := 3) rfl; have q4 := hrw.cell (j := 4) rfl; have q5 := hrw.cell (j := 5) (v := .int .i64 kn) (by simp [HKN.out]); have q6 := hrw.cell (j := 6) (v := .int .i64 ke) (by simp [HKE.out]); have hrwl := hrw.lt; have HRW := Lib.hid hrw; have HM5 := Lib.hid hM5; have HW5 := Lib.hid hw5; clear hM5 hw5 hrw)
                have hB5 := HB2.out.mach' HW5.out HM5.out ⟨HK2.out, by show 0 ≤ st2.steps + 1; omega, by show st2.steps + 1 ≤ fuel; omega, by have := HB2.out.inv.many; show st2.mem.length ≤ 20 + (st2.steps + 1).toNat; omega, HB2.out.inv.mem⟩ HB2.out.frok HB2.out.calls
                have hTA := HCT.out.below (HBR3.out.trans (HW5.out.below (by have := HBR3.out.size; omega) (fun i hi => by have := HOWM.out; omega))) (Nat.le_refl _)
                have htr := tree_all b.cond.size b.cond base mc own2 P fuel { st2 with steps := st2.steps + 1 } fb tb _ tp2 lvk lo ng w5 _ _ _ (Nat.le_refl _) HM5.out HK2.out hB5.fr hB5.inv.mem hB5.frok HT.out hTA
                rw [show evalT ({ st2 with steps := st2.steps + 1 } : St).mem tp2 lo b.cond = _ from hv] at htr
                have HTR := Lib.hid htr
                have HB5 := Lib.hid hB5
                clear hB5 hTA htr
                refine HTR.out.mono ?_
                rintro e w6 ⟨rfl, hb6⟩
                simp only [ansV]
                have hrw6 := HRW.out.below hb6 hrwl
                have p1 := hrw6.cell (j := 1) rfl
                have pl := hrw6.lt
                have HB6 := Lib.hid hb6
                have hB7 := (HB5.out.below hb6).below (below1 _ (.cells #[.int .i64 v.obj, .int .i64 v.n] 90))
                have HB7 := Lib.hid hB7
                clear q1 q2 q3 q4 q5 q6 hrw6 hb6 hB7
                go_wp2_with fail
                have hmq : ∀ i, own2 i → i < w6.heap.size := fun i hi => by obtain ⟨_, _, _, _, h⟩ := (HB5.out.below HB6.out).mach; exact (h.rest.own i hi).2
                have HMQ := Lib.hid hmq
                have HVR := Lib.hid (Row.new w6 #[.int .i64 v.obj, .int .i64 v.n] 90)
                clear hmq p1 pl
                refine call_kills base mc own2 P fuel { st2 with steps := st2.steps + 1 } fb tb _ tp2 lvk lo _ HB7.out.mach HB7.out.fr HB7.out.off (HB2.out.frok.locs) (HB2.out.inv.mem.many) _ _ _ _ _ _ _ _ _ _ _ _ _ _ _ _ _ _ _ _ _ _ _ _ _ _ _ _ _ _ _ _ _ _ _ _ _ _ _ _ _ _ _ _ _ _ _ _ _ _ _ _ _ _ _ _ _ _ _ _ _ _ _ _ _ _ _ _ _ _ _ _ _ _ _ _ _ _ _ _ _ _ _ _ _ _ _ _ _ _ _ _ _ _ _ _ _ _ _ _ _ _ _ _ _ _ _ _ _ _ _ _ _ _ _ _ _ _ _ _ _ _ _ _ _ _ _ _ _ _ _ _ _ _ _ _ _ _ _ _ _ _ _ _ _ _ _ _ _ _ _ _ _ _ _ _ _ _ _ _ _ _ _ _ _ _ _ _ _ _ _ _ _ _ _ _ _ _ _ _ _ _ _ _ _ _ _ _ _ _ _ _ _ _ _ _ _ _ _ _ _ _ _ _ _ ?_
                intro u19 u169 u170 u171 u172 u173 u174 u175 u176 u177 u178 u179 u180 u181 u182 u183 u184 u185 u186 u187 u188 u189 u190 u191 wr hMk hwk
                have hzk := hwk.size
                simp only [World.size_alloc] at hzk
                have hn5 := HB7.out.rrow.wr hwk HB7.out.rn.1
                have r0 : wr.cell? ⟨w.heap.size, 0, none⟩ = some (.int .i64 0) := hn5.cell (j := 0) rfl
                have r1 : wr.cell? ⟨w.heap.size, 1, none⟩ = some (.int .i64 0) := hn5.cell (j := 1) rfl
                have r2 := hn5.free 0
                have r3 := hn5.free 1
                have hvr := HVR.out.wr hwk (fun h => by have := HMQ.out _ h; omega)
                have v0 : wr.cell? ⟨w6.heap.size, 0, none⟩ = some (.int .i64 v.obj) := hvr.cell (j := 0) rfl
                have v1 : wr.cell? ⟨w6.heap.size, 1, none⟩ = some (.int .i64 v.n) := hvr.cell (j := 1) rfl
                obtain ⟨inv, outv, memv, rb, hMA⟩ := hMk
                have e11 : wr.cell? ⟨mc, 11, none⟩ = some (.int .i64 st2.calls) := hMA.row.cell (j := 11) rfl
                have e12 := hMA.row.free 11
                have HMA := Lib.hid (hMA.calls (st2.calls - 1))
                have hcl := HB2.out.calls
                have hrmc2 : ¬ mc = w.heap.size := fun e => hrmc e.symm
                have hvmc : ¬ w6.heap.size = mc := fun e => by have := HMQ.out mc HB2.out.mine; omega
                have hvr2 : ¬ w6.heap.size = w.heap.size := fun e => by have := (HB5.out.below HB6.out).rrow.lt; omega
                have HCL := Lib.hid hcl
                have hcl0 : 0 ≤ st2.calls := by rw [HCL.out]; exact hd0
                have hcl1 : st2.calls ≤ 64 := by rw [HCL.out]; exact hd1
                have HWK := Lib.hid hwk
                clear hMA hn5 hvr hwk hcl
                have r4 : w.heap.size < wr.heap.size := by have := HB7.out.rrow.lt; simp only [World.size_alloc] at this; omega
                go_wp2_with fail
                refine HQ.out _ _ ?_
                refine bodyPost_ret (v := ansV (some v)) ?_ rfl ?_
                · simp [results, Try.results50, go_sem, ansV, r0, r1, hrmc, hrmc2]
                · have h2 := HEQ.out
                  rw [blocksF_ret HBK.out (show blockF R fuel lo st tp b = (.ret v, { st2 with steps := st2.steps + 1 }, tp2) from by simp [blockF, HS5.out, HY2.out, HS6.out, HF1.out, HF3.out, hv])] at h2
                  rw [← h2]
                  refine call_pair (some v) HB7.out.up HB7.out.down ⟨_, _, _, _, HMA.out⟩ ((HB7.out.wr.trans HWK.out (fun i hi => HB7.out.down i hi)).trans (Wr.setCell (F := fun b => b = mc) wr ⟨mc, 11, none⟩ _ rfl) (fun i hi => ?_)) HB7.out.rn.1 (by omega) _ _
                  rcases HB7.out.down mc HB7.out.mine with h | h
                  · exact Or.inl (hi ▸ h)
                  · exact Or.inr (hi ▸ h)
              · have hf3' : (b.fin == 3) = false := by simpa using hf3
                have HF3 := Lib.hid hf3
                clear hf3
                go_wp2_with (go_at_call 64; refine HST.out.mono ?_; rintro e w5 ⟨rfl, hM5, hw5⟩; have hrw := HBROW.out.wr hw5 hmcw; have q1 := hrw.cell (j := 1) rfl; have q2 := hrw.cell (j := 2) rfl; have q3 := hrw.cell (j := 3) rfl; have q4 := hrw.cell (j := 4) rfl; have q5 := hrw.cell (j := 5) (v := .int .i64 kn) (by simp [HKN.out]); have q6 := hrw.cell (j := 6) (v := .int .i64 ke) (by simp [HKE.out]); have hrwl := hrw.lt; have HRW := Lib.hid hrw; have HM5 := Lib.hid hM5; have HW5 := Lib.hid hw5; clear hM5 hw5 hrw)
                have hB5 := HB2.out.mach' HW5.out HM5.out ⟨HK2.out, by show 0 ≤ st2.steps + 1; omega, by show st2.steps + 1 ≤ fuel; omega, by have := HB2.out.inv.many; show st2.mem.length ≤ 20 + (st2.steps + 1).toNat; omega, HB2.out.inv.mem⟩ HB2.out.frok HB2.out.calls
                have hTA := HCT.out.below (HBR3.out.trans (HW5.out.below (by have := HBR3.out.size; omega) (fun i hi => by have := HOWM.out; omega))) (Nat.le_refl _)
                have htr := tree_all b.cond.size b.cond base mc own2 P fuel { st2 with steps := st2.steps + 1 } fb tb _ tp2 lvk lo ng w5 _ _ _ (Nat.le_refl _) HM5.out HK2.out hB5.fr hB5.inv.mem hB5.frok HT.out hTA
                rw [show evalT ({ st2 with steps := st2.steps + 1 } : St).mem tp2 lo b.cond = _ from hv] at htr
                have HTR := Lib.hid htr
                have HB5 := Lib.hid hB5
                clear hB5 hTA htr
                refine HTR.out.mono ?_
                rintro e w6 ⟨rfl, hb6⟩
                simp only [ansV]
                have hrw6 := HRW.out.below hb6 hrwl
                have p5 := hrw6.cell (j := 5) (v := .int .i64 kn) (by simp [HKN.out])
                have p6 := hrw6.cell (j := 6) (v := .int .i64 ke) (by simp [HKE.out])
                have p1 := hrw6.cell (j := 1) rfl
                have pl := hrw6.lt
                have HB6 := Lib.hid hb6
                clear q1 q2 q3 q4 q5 q6 hrw6 hb6
                go_wp2_with fail
                all_goals
                  go_roundw
                  case rel =>
                    have hbf : blockF R fuel lo st tp b = (.next (if v = ⟨0, 0⟩ then b.els else b.next), { st2 with steps := st2.steps + 1 }, tp2) := by simp [blockF, HS5.out, HY2.out, HS6.out, HF1.out, HF3.out, hv]
                    have h2 := HEQ.out
                    rw [blocksF_next HBK.out hbf] at h2
                    have hg7 : (fuel - (st2.steps + 1)).toNat < gas' := by omega
                    first
                      | (have h5 : v.obj = 0 := by assumption
                         have h6 : v.n = 0 := by assumption
                         rw [if_pos (vzero h5 h6), HKE.out] at h2
                         exact ⟨gas', ke, own2, _, tp2, rfl, hkel, (HB5.out.below HB6.out).below (below1 _ _), hg7, h2⟩)
                      | (have h5 : ¬ v.n = 0 := by assumption
                         rw [if_neg (fun e => h5 (by rw [e])), HKN.out] at h2
                         exact ⟨gas', kn, own2, _, tp2, rfl, hknl, (HB5.out.below HB6.out).below (below1 _ _), hg7, h2⟩)
                      | (have h5 : ¬ v.obj = 0 := by assumption
                         rw [if_neg (fun e => h5 (by rw [e])), HKN.out] at h2
                         exact ⟨gas', kn, own2, _, tp2, rfl, hknl, (HB5.out.below HB6.out).below (below1 _ _), hg7, h2⟩)
                  case measure =>
                    rw [(fun o => ((HB5.out.below HB6.out).below (below1 w6 o)).mach.steps : ∀ o, (w6.alloc o).cell? ⟨mc, 8, none⟩ = some (.int .i64 (st2.steps + 1))), HB.out.mach.steps]
                    show (fuel - (st2.steps + 1)).toNat < (fuel - st.steps).toNat
                    omega
        · have hy3 : (stepF fuel 1 st2).1 = false := by simpa using hy2
          have HST := Lib.hid (hy3 ▸ step_any base mc own2 P fuel 1 st2 wr hB2.mach hB2.inv.lo hB2.inv.hi (by omega) (by omega) (by omega) : Calls Try.prog 64 #[.pointer (some ⟨mc, 0, none⟩), .int .i64 1] wr fun e w' => e = .returned (.bool false) ∧ Mach w' base mc own2 P fuel (stepF fuel 1 st2).2 ∧ Wr (fun b => b = mc) wr w')
          have HY3 := Lib.hid hy3
          clear hB2 hse hbrow hBr2 hBr3 hs5 hy2 hy3
          go_wp2_with fail
          refine HST.out.mono ?_
          rintro e w5 ⟨rfl, hM5, hw5⟩
          have n5 := HB2.out.rrow.wr hw5 hrmc
          have r0 : w5.cell? ⟨w.heap.size, 0, none⟩ = some (.int .i64 0) := n5.cell (j := 0) rfl
          have r1 : w5.cell? ⟨w.heap.size, 1, none⟩ = some (.int .i64 0) := n5.cell (j := 1) rfl
          have r2 := n5.free 0
          have r3 := n5.free 1
          have HM5 := Lib.hid hM5
          have HW5 := Lib.hid hw5
          clear hM5 hw5 n5
          go_wp2_with fail
          refine HQ.out _ _ ?_
          refine bodyPost_ret (v := ansV none) ?_ rfl ?_
          · simp [results, Try.results50, go_sem, ansV, r0, r1]
          · have h2 := HEQ.out
            rw [blocksF_over HBK.out (show blockF R fuel lo st tp b = (.over, (stepF fuel 1 st2).2, tp2) from by simp only [blockF, HS5.out, HY3.out, if_true])] at h2
            rw [← h2]
            refine call_pair none HB2.out.up HB2.out.down HM5.out (HB2.out.wr.trans HW5.out (fun i hi => ?_)) HB2.out.rn.1 (by omega) 0 0
            rcases HB2.out.down mc HB2.out.mine with h | h
            · exact Or.inl (hi ▸ h)
            · exact Or.inr (hi ▸ h)
end Go.Proofs.Ytjkgpolikpochaa
