/- The page's machine: a call's locals are no more, one by one. Conditions: as stated. -/
import Derived.Test.YtjkgpolikpochaaQ07Zz
import Derived.Test.YtjkgpolikpochaaQ02Zz
import Derived.Deep.RegionHeld3
set_option linter.unusedVariables false
set_option linter.unusedSimpArgs false
namespace Go.Proofs.Ytjkgpolikpochaa
open Go.RowKit

/-- The outermost loops of a code. -/
def loopsOf : Code → List Code
  | .loop c => [.loop c]
  | .seq a b => loopsOf a ++ loopsOf b
  | .block _ c => loopsOf c
  | .scope c => loopsOf c
  | .cond _ a b => loopsOf a ++ loopsOf b
  | _ => []
def bodyOf : Code → Code
  | .loop c => c
  | c => c
noncomputable def callRounds : Code := (loopsOf (Try.f50.body.getD .skip)).getD 3 .skip
theorem wanted_none (d : Option Nat) (op : Op) (t : TypeId) (ps : String) (af : Array Edge) (y : Nat → Option Bool) : Region.wanted ⟨d, op, t, ps, af, none⟩ y = true := rfl
attribute [local go_sem ↓] wanted_none
noncomputable def callKills : Code := (loopsOf (bodyOf callRounds)).getD 1 .skip

set_option maxRecDepth 1000000 in
set_option maxHeartbeats 8000000 in
theorem call_kills (base mc : Nat) (own2 : Nat → Prop) (P : Value × Value × Value) (fuel : Int) (s : St) (fb tb : Nat) (G : Value × Value × Value × Value) (tp : List V) (lvk : Value) (lo : List Nat) (w7 : World)
    (hM : Mach w7 base mc own2 P fuel s) (hF : FrameAt w7 fb G tb tp lvk lo) (hO : OffAt base own2 fb tb lvk) (hlo : ∀ x, x ∈ lo → x < s.mem.length) (hmany : s.mem.length ≤ 4294967296)
    (c1 c2 c3 c4 c5 c6 c7 c8 c10 c11 c12 c13 c14 c15 c16 c17 c18 c20 c21 c22 c23 c24 c25 c26 c27 c28 c29 c30 c31 c32 c33 c34 c35 c36 c37 c38 c39 c40 c41 c42 c43 c44 c45 c46 c47 c48 c49 c50 c51 c52 c53 c54 c55 c56 c57 c58 c59 c60 c61 c62 c63 c64 c65 c66 c67 c68 c69 c70 c71 c72 c73 c74 c75 c76 c77 c78 c79 c80 c81 c82 c83 c84 c85 c86 c87 c88 c89 c90 c91 c92 c93 c94 c95 c96 c97 c98 c99 c100 c101 c102 c103 c104 c105 c106 c107 c108 c109 c110 c111 c112 c113 c114 c115 c116 c117 c118 c119 c120 c121 c122 c123 c124 c125 c126 c127 c128 c129 c130 c131 c132 c133 c134 c135 c136 c137 c138 c139 c140 c141 c142 c143 c144 c145 c146 c147 c148 c149 c150 c151 c152 c153 c154 c155 c156 c157 c158 c159 c160 c161 c162 c163 c164 c165 c166 c167 c168 c169 c170 c171 c172 c173 c174 c175 c176 c177 c178 c179 c180 c181 c182 c183 c184 c185 c186 c187 c188 c189 c190 c191 c192 c193 c194 c195 c196 c197 c198 c199 c200 c201 c202 c203 c204 c205 c206 : Value) (Q : Exit → Act → World → Prop)
    (hexit : ∀ (u19 u169 u170 u171 u172 u173 u174 u175 u176 u177 u178 u179 u180 u181 u182 u183 u184 u185 u186 u187 u188 u189 u190 u191 : Value) (w' : World), Mach w' base mc own2 P fuel { s with mem := killF s.mem lo } → Wr own2 w7 w' → Q (.exit 10) ⟨List.toArray ((Value.pointer (some ⟨mc, 0, none⟩)) :: c1 :: c2 :: c3 :: c4 :: c5 :: c6 :: c7 :: c8 :: (Value.pointer (some ⟨fb, 0, none⟩)) :: c10 :: c11 :: c12 :: c13 :: c14 :: c15 :: c16 :: c17 :: c18 :: u19 :: c20 :: c21 :: c22 :: c23 :: c24 :: c25 :: c26 :: c27 :: c28 :: c29 :: c30 :: c31 :: c32 :: c33 :: c34 :: c35 :: c36 :: c37 :: c38 :: c39 :: c40 :: c41 :: c42 :: c43 :: c44 :: c45 :: c46 :: c47 :: c48 :: c49 :: c50 :: c51 :: c52 :: c53 :: c54 :: c55 :: c56 :: c57 :: c58 :: c59 :: c60 :: c61 :: c62 :: c63 :: c64 :: c65 :: c66 :: c67 :: c68 :: c69 :: c70 :: c71 :: c72 :: c73 :: c74 :: c75 :: c76 :: c77 :: c78 :: c79 :: c80 :: c81 :: c82 :: c83 :: c84 :: c85 :: c86 :: c87 :: c88 :: c89 :: c90 :: c91 :: c92 :: c93 :: c94 :: c95 :: c96 :: c97 :: c98 :: c99 :: c100 :: c101 :: c102 :: c103 :: c104 :: c105 :: c106 :: c107 :: c108 :: c109 :: c110 :: c111 :: c112 :: c113 :: c114 :: c115 :: c116 :: c117 :: c118 :: c119 :: c120 :: c121 :: c122 :: c123 :: c124 :: c125 :: c126 :: c127 :: c128 :: c129 :: c130 :: c131 :: c132 :: c133 :: c134 :: c135 :: c136 :: c137 :: c138 :: c139 :: c140 :: c141 :: c142 :: c143 :: c144 :: c145 :: c146 :: c147 :: c148 :: c149 :: c150 :: c151 :: c152 :: c153 :: c154 :: c155 :: c156 :: c157 :: c158 :: c159 :: c160 :: c161 :: c162 :: c163 :: c164 :: c165 :: c166 :: c167 :: c168 :: u169 :: u170 :: u171 :: u172 :: u173 :: u174 :: u175 :: u176 :: u177 :: u178 :: u179 :: u180 :: u181 :: u182 :: u183 :: u184 :: u185 :: u186 :: u187 :: u188 :: u189 :: u190 :: u191 :: c192 :: c193 :: c194 :: c195 :: c196 :: c197 :: c198 :: c199 :: c200 :: c201 :: c202 :: c203 :: c204 :: c205 :: c206 :: []), []⟩ w') :
    Code.wp Try.prog callKills Q ⟨List.toArray ((Value.pointer (some ⟨mc, 0, none⟩)) :: c1 :: c2 :: c3 :: c4 :: c5 :: c6 :: c7 :: c8 :: (Value.pointer (some ⟨fb, 0, none⟩)) :: c10 :: c11 :: c12 :: c13 :: c14 :: c15 :: c16 :: c17 :: c18 :: (Value.int .i64 0) :: c20 :: c21 :: c22 :: c23 :: c24 :: c25 :: c26 :: c27 :: c28 :: c29 :: c30 :: c31 :: c32 :: c33 :: c34 :: c35 :: c36 :: c37 :: c38 :: c39 :: c40 :: c41 :: c42 :: c43 :: c44 :: c45 :: c46 :: c47 :: c48 :: c49 :: c50 :: c51 :: c52 :: c53 :: c54 :: c55 :: c56 :: c57 :: c58 :: c59 :: c60 :: c61 :: c62 :: c63 :: c64 :: c65 :: c66 :: c67 :: c68 :: c69 :: c70 :: c71 :: c72 :: c73 :: c74 :: c75 :: c76 :: c77 :: c78 :: c79 :: c80 :: c81 :: c82 :: c83 :: c84 :: c85 :: c86 :: c87 :: c88 :: c89 :: c90 :: c91 :: c92 :: c93 :: c94 :: c95 :: c96 :: c97 :: c98 :: c99 :: c100 :: c101 :: c102 :: c103 :: c104 :: c105 :: c106 :: c107 :: c108 :: c109 :: c110 :: c111 :: c112 :: c113 :: c114 :: c115 :: c116 :: c117 :: c118 :: c119 :: c120 :: c121 :: c122 :: c123 :: c124 :: c125 :: c126 :: c127 :: c128 :: c129 :: c130 :: c131 :: c132 :: c133 :: c134 :: c135 :: c136 :: c137 :: c138 :: c139 :: c140 :: c141 :: c142 :: c143 :: c144 :: c145 :: c146 :: c147 :: c148 :: c149 :: c150 :: c151 :: c152 :: c153 :: c154 :: c155 :: c156 :: c157 :: c158 :: c159 :: c160 :: c161 :: c162 :: c163 :: c164 :: c165 :: c166 :: c167 :: c168 :: c169 :: c170 :: c171 :: c172 :: c173 :: c174 :: c175 :: c176 :: c177 :: c178 :: c179 :: c180 :: c181 :: c182 :: c183 :: c184 :: c185 :: c186 :: c187 :: c188 :: c189 :: c190 :: c191 :: c192 :: c193 :: c194 :: c195 :: c196 :: c197 :: c198 :: c199 :: c200 :: c201 :: c202 :: c203 :: c204 :: c205 :: c206 :: []), []⟩ w7 := by
  obtain ⟨LV, lvc, hlvk⟩ : ∃ A c, lvk = .slice A lo.length c := (by obtain ⟨_, h | ⟨g, c, cur, h, _⟩⟩ := hF.locs; exact ⟨none, 0, by rw [h.1, h.2]⟩; exact ⟨_, _, h⟩)
  subst hlvk
  have hlvm : lo.length ≤ 9223372036854775807 := by
    obtain ⟨_, h | ⟨g, c, cur, _, _, _, h1, h2, _⟩⟩ := hF.locs
    · omega
    · unfold maxLen at h2; omega
  have HF := Lib.hid hF
  have HM := Lib.hid hM
  have HO := Lib.hid hO
  have HLO := Lib.hid hlo
  have HEX := Lib.hid hexit
  clear hM hF hO hlo hexit
  conv => arg 2; whnf
  go_loopw [19] (fun i wr => ∃ k : Nat, k ≤ lo.length ∧ i = .int .i64 k ∧ Mach wr base mc own2 P fuel { s with mem := killF s.mem (lo.take k) } ∧ Wr own2 w7 wr) (fun i _ => lo.length - (intOf i).toNat)
  case atStart => exact ⟨0, by omega, rfl, HM.out, Wr.refl _ _⟩
  case round =>
    obtain ⟨k2, hk2, rfl, hMk, hwk⟩ := hrel
    have hFk := HF.out.wr hwk HO.out.fb.1 HO.out.tb.1 (fun g hg => (HO.out.lv g hg).1)
    have e5 : wr.cell? ⟨fb, 5, none⟩ = some (.slice LV lo.length lvc) := hFk.row.cell (j := 5) rfl
    have HMk := Lib.hid hMk
    have HWK := Lib.hid hwk
    by_cases hlt6 : k2 < lo.length
    · obtain ⟨x, hx⟩ : ∃ x, lo[k2]? = some x := ⟨_, List.getElem?_eq_getElem hlt6⟩
      obtain ⟨lg, rfl, hlgl⟩ : ∃ lg, LV = some ⟨lg, 0, none⟩ ∧ lg < wr.heap.size := (by
        obtain ⟨_, h | ⟨g, c, cur, h, _, hh, _⟩⟩ := hFk.locs
        · omega
        · injection h with h; exact ⟨g, h, Row.lt hh⟩)
      have e6 : wr.cell? ⟨lg, k2, none⟩ = some (.int .i64 (x : Nat)) := (by
        have := hFk.locs.cells (g := lg) rfl k2 (.int .i64 (x : Nat)) (by rw [List.getElem?_map, hx]; rfl)
        rw [addr0] at this
        exact this)
      have hxl : x < s.mem.length := HLO.out x (List.mem_of_getElem? hx)
      obtain ⟨inv, outv, memv, rb, hMA⟩ := hMk
      have hkl : (killF s.mem (lo.take k2)).length = s.mem.length := killF_length _ _
      obtain ⟨⟨xs, hxs, _⟩, _⟩ := hMA.rest.mem
      obtain ⟨mg, mcap, hmv⟩ : ∃ mg mcap, memv = .slice (some ⟨mg, 0, none⟩) (killF s.mem (lo.take k2)).length mcap := (by
        obtain ⟨_, h | ⟨g, c, cur, h, _⟩⟩ := id hxs
        · have := h.2; simp only at this; omega
        · exact ⟨g, c, h⟩)
      subst hmv
      have e10 : wr.cell? ⟨mc, 10, none⟩ = some (.slice (some ⟨mg, 0, none⟩) s.mem.length mcap) := (by rw [← hkl]; exact hMA.row.cell (j := 10) rfl)
      obtain ⟨u11, e11⟩ : ∃ u, wr.cell? ⟨mg, x * 3 + 2, none⟩ = some u := ⟨_, by rw [hxs.cellAt (x * 3 + 2) (by rw [hkl]; omega)]; exact List.getElem?_eq_getElem (by rw [hxs.1]; show _ < (killF s.mem (lo.take k2)).length * 3; omega)⟩
      have e12 := hxs.frozenAt (x * 3 + 2)
      have hk1 : (k2 : Int) < (lo.length : Int) := by omega
      obtain ⟨_, csm, hmgr⟩ := ownsRow_row hxs (g := mg) rfl
      have hmn1 : ¬ fb = mg := fun e => hFk.row.ne hmgr (by decide) e
      have hmn2 : ¬ mg = fb := fun e => hmn1 e.symm
      have hmn3 : ¬ mc = mg := fun e => hMA.row.ne hmgr (by decide) e
      have hmn4 : ¬ mg = mc := fun e => hmn3 e.symm
      have hmn5 : ¬ lg = mg := (by obtain ⟨_, csl, hr⟩ := ownsRow_row hFk.locs (g := lg) rfl; exact fun e => hr.ne hmgr (by decide) e)
      have hmn6 : ¬ mg = lg := fun e => hmn5 e.symm
      clear hmgr
      have hk0 : (0 : Int) ≤ (k2 : Int) := by omega
      have hx1 : (x : Int) < (s.mem.length : Int) := by omega
      have hx0 : (0 : Int) ≤ (x : Int) := by omega
      have HMA := Lib.hid hMA
      have HX := Lib.hid hx
      clear hMA hxs hx hFk hwk hkl hlgl hxl
      go_wp2_with fail
      refine still_tailq 14 (by kernel_rfl) (by kernel_rfl) ?_
      simp only [List.take_succ_cons, List.take_zero, List.drop_succ_cons, List.drop_zero]
      repeat (go_big_quiet_step (fail))
      refine wpQuiet_nil ?_
      go_wp2_with fail
      go_roundw
      case rel =>
        obtain ⟨hA, hB⟩ := HMA.out.kill x (by show x < (killF s.mem (lo.take k2)).length; rw [killF_length]; omega)
        have hC := (Mach.below ⟨_, _, _, _, hA⟩ (Below.refl _ _).drew : Mach _ base mc own2 P fuel _)
        have e : killF s.mem (lo.take (k2 + 1)) = (killF s.mem (lo.take k2)).modify x dead := by rw [take_succ_of HX.out, killF_snoc]
        refine ⟨k2 + 1, hlt6, by go_num, ?_, (HWK.out.trans hB (fun i hi => Or.inl hi)).trans (Wr.of_below (F := fun _ => False) (Below.refl _ _).drew) (fun i hi => hi.elim)⟩
        rw [e]
        exact hC
      case measure => simp [intOf]; omega
    · obtain rfl : k2 = lo.length := by omega
      rw [List.take_length] at hMk
      clear hFk HMk HWK
      go_wp2_with fail
      exact HEX.out _ _ _ _ _ _ _ _ _ _ _ _ _ _ _ _ _ _ _ _ _ _ _ _ _ hMk hwk
end Go.Proofs.Ytjkgpolikpochaa
