/- step: its loop over a step's trees. Conditions: as stated. -/
import Derived.Test.YtjkgpolikpochaaQ08Zz
import Derived.Test.YtjkgpolikpochaaCallFZz
set_option linter.unusedVariables false
set_option linter.unusedSimpArgs false
namespace Go.Proofs.Ytjkgpolikpochaa
open Go.RowKit

theorem argsC_false {na nb nc : Int} : ∀ {l : List T} {n : Int}, (argsC na nb nc l n).2 = false → argsC na nb nc l n = (0, false)
  | [], n, h => by simp [argsC] at h
  | t :: l, n, h => by
    unfold argsC at h ⊢
    split at h
    · rename_i h1; rw [if_pos h1]
    · rename_i h1; rw [if_neg h1]; exact argsC_false h
noncomputable def stepArgs : Code := (loopsOf (Try.f60.body.getD .skip)).getD 0 .skip

set_option maxRecDepth 1000000 in
set_option maxHeartbeats 8000000 in
theorem step_args (na : Int) (nb nc pb gb sb B len : Nat) (ks : List T) (A GA LA : Option Addr) (cap gc lc : Nat) (w : World)
    (hB : B ≤ w.heap.size) (hk : KidsV w B ks A len) (hlen : len ≤ 1000000000) (hnb : nb ≤ 9223372036854775807) (hnc : nc ≤ 9223372036854775807)
    (p0 : w.cell? ⟨pb, 0, none⟩ = some (.slice GA nc gc)) (g1 : w.cell? ⟨gb, 1, none⟩ = some (.int .i64 na)) (g2 : w.cell? ⟨gb, 2, none⟩ = some (.slice LA nb lc)) (s4 : w.cell? ⟨sb, 4, none⟩ = some (.slice A len cap)) (hpb : pb < w.heap.size) (hgb : gb < w.heap.size) (hsb : sb < w.heap.size)
    (c0 c1 c2 c6 c7 c8 c9 c12 c13 c14 c15 c16 c17 c18 c19 c20 c21 c22 c23 c24 c25 c26 c27 c28 c29 c30 c31 c32 c33 c34 c35 c36 c37 c38 c39 c40 c41 c42 c43 c44 c45 c46 c47 c48 c49 c50 c51 c52 c53 c54 c55 c56 c57 c58 c59 c60 c61 c62 c63 c64 c65 c66 c67 c68 c69 c70 c71 c72 c73 c74 c75 c76 c77 c78 c79 c80 c81 c82 c83 c84 c85 c86 c87 c88 c89 c90 c91 c92 c93 c94 c95 c96 c97 c98 c99 c100 c101 c102 c103 c104 c105 c106 c107 c108 c109 c110 c111 c112 c113 c114 c115 c116 c117 c118 c119 c120 c121 c122 c123 c124 c125 c126 c127 c128 c129 c130 c131 c132 c133 c134 c135 c136 c137 c138 c139 c140 c141 c142 c143 c144 c145 : Value) (Q : Exit → Act → World → Prop)
    (hyes : (argsC na nb nc ks 0).2 = true → ∀ (u6 u7 u11 u12 u13 u116 u117 u118 u119 u120 u121 u122 u123 u124 u125 u126 u127 u128 u129 u130 u131 u132 u133 u134 u135 u136 u137 u138 u139 u140 u141 u142 u143 u144 : Value) (w' : World), Below w.heap.size w w' → Q (.exit 1) ⟨List.toArray (c0 :: c1 :: c2 :: (Value.pointer (some ⟨pb, 0, none⟩)) :: (Value.pointer (some ⟨gb, 0, none⟩)) :: (Value.pointer (some ⟨sb, 0, none⟩)) :: u6 :: u7 :: c8 :: c9 :: (Value.int .i64 (argsC na nb nc ks 0).1) :: u11 :: u12 :: u13 :: c14 :: c15 :: c16 :: c17 :: c18 :: c19 :: c20 :: c21 :: c22 :: c23 :: c24 :: c25 :: c26 :: c27 :: c28 :: c29 :: c30 :: c31 :: c32 :: c33 :: c34 :: c35 :: c36 :: c37 :: c38 :: c39 :: c40 :: c41 :: c42 :: c43 :: c44 :: c45 :: c46 :: c47 :: c48 :: c49 :: c50 :: c51 :: c52 :: c53 :: c54 :: c55 :: c56 :: c57 :: c58 :: c59 :: c60 :: c61 :: c62 :: c63 :: c64 :: c65 :: c66 :: c67 :: c68 :: c69 :: c70 :: c71 :: c72 :: c73 :: c74 :: c75 :: c76 :: c77 :: c78 :: c79 :: c80 :: c81 :: c82 :: c83 :: c84 :: c85 :: c86 :: c87 :: c88 :: c89 :: c90 :: c91 :: c92 :: c93 :: c94 :: c95 :: c96 :: c97 :: c98 :: c99 :: c100 :: c101 :: c102 :: c103 :: c104 :: c105 :: c106 :: c107 :: c108 :: c109 :: c110 :: c111 :: c112 :: c113 :: c114 :: c115 :: u116 :: u117 :: u118 :: u119 :: u120 :: u121 :: u122 :: u123 :: u124 :: u125 :: u126 :: u127 :: u128 :: u129 :: u130 :: u131 :: u132 :: u133 :: u134 :: u135 :: u136 :: u137 :: u138 :: u139 :: u140 :: u141 :: u142 :: u143 :: u144 :: c145 :: []), []⟩ w')
    (hno : (argsC na nb nc ks 0).2 = false → ∀ (u11 u12 u13 u116 u117 u118 u119 u120 u121 u122 u123 u124 u125 u126 u127 u128 u129 u130 u131 u132 u133 u134 u135 u136 u137 u138 u139 u140 u141 u142 u143 u144 u10 : Value) (w' : World), Below w.heap.size w w' → Q .ret ⟨List.toArray (c0 :: c1 :: c2 :: (Value.pointer (some ⟨pb, 0, none⟩)) :: (Value.pointer (some ⟨gb, 0, none⟩)) :: (Value.pointer (some ⟨sb, 0, none⟩)) :: (Value.int .i64 0) :: (Value.bool false) :: c8 :: c9 :: u10 :: u11 :: u12 :: u13 :: c14 :: c15 :: c16 :: c17 :: c18 :: c19 :: c20 :: c21 :: c22 :: c23 :: c24 :: c25 :: c26 :: c27 :: c28 :: c29 :: c30 :: c31 :: c32 :: c33 :: c34 :: c35 :: c36 :: c37 :: c38 :: c39 :: c40 :: c41 :: c42 :: c43 :: c44 :: c45 :: c46 :: c47 :: c48 :: c49 :: c50 :: c51 :: c52 :: c53 :: c54 :: c55 :: c56 :: c57 :: c58 :: c59 :: c60 :: c61 :: c62 :: c63 :: c64 :: c65 :: c66 :: c67 :: c68 :: c69 :: c70 :: c71 :: c72 :: c73 :: c74 :: c75 :: c76 :: c77 :: c78 :: c79 :: c80 :: c81 :: c82 :: c83 :: c84 :: c85 :: c86 :: c87 :: c88 :: c89 :: c90 :: c91 :: c92 :: c93 :: c94 :: c95 :: c96 :: c97 :: c98 :: c99 :: c100 :: c101 :: c102 :: c103 :: c104 :: c105 :: c106 :: c107 :: c108 :: c109 :: c110 :: c111 :: c112 :: c113 :: c114 :: c115 :: u116 :: u117 :: u118 :: u119 :: u120 :: u121 :: u122 :: u123 :: u124 :: u125 :: u126 :: u127 :: u128 :: u129 :: u130 :: u131 :: u132 :: u133 :: u134 :: u135 :: u136 :: u137 :: u138 :: u139 :: u140 :: u141 :: u142 :: u143 :: u144 :: c145 :: []), []⟩ w') :
    Code.wp Try.prog stepArgs Q ⟨List.toArray (c0 :: c1 :: c2 :: (Value.pointer (some ⟨pb, 0, none⟩)) :: (Value.pointer (some ⟨gb, 0, none⟩)) :: (Value.pointer (some ⟨sb, 0, none⟩)) :: c6 :: c7 :: c8 :: c9 :: (Value.int .i64 0) :: (Value.int .i64 0) :: c12 :: c13 :: c14 :: c15 :: c16 :: c17 :: c18 :: c19 :: c20 :: c21 :: c22 :: c23 :: c24 :: c25 :: c26 :: c27 :: c28 :: c29 :: c30 :: c31 :: c32 :: c33 :: c34 :: c35 :: c36 :: c37 :: c38 :: c39 :: c40 :: c41 :: c42 :: c43 :: c44 :: c45 :: c46 :: c47 :: c48 :: c49 :: c50 :: c51 :: c52 :: c53 :: c54 :: c55 :: c56 :: c57 :: c58 :: c59 :: c60 :: c61 :: c62 :: c63 :: c64 :: c65 :: c66 :: c67 :: c68 :: c69 :: c70 :: c71 :: c72 :: c73 :: c74 :: c75 :: c76 :: c77 :: c78 :: c79 :: c80 :: c81 :: c82 :: c83 :: c84 :: c85 :: c86 :: c87 :: c88 :: c89 :: c90 :: c91 :: c92 :: c93 :: c94 :: c95 :: c96 :: c97 :: c98 :: c99 :: c100 :: c101 :: c102 :: c103 :: c104 :: c105 :: c106 :: c107 :: c108 :: c109 :: c110 :: c111 :: c112 :: c113 :: c114 :: c115 :: c116 :: c117 :: c118 :: c119 :: c120 :: c121 :: c122 :: c123 :: c124 :: c125 :: c126 :: c127 :: c128 :: c129 :: c130 :: c131 :: c132 :: c133 :: c134 :: c135 :: c136 :: c137 :: c138 :: c139 :: c140 :: c141 :: c142 :: c143 :: c144 :: c145 :: []), []⟩ w := by
  have HK := Lib.hid hk
  have HYES := Lib.hid hyes
  have HNO := Lib.hid hno
  have hkl := hk.1
  have hlm := hk.2.1
  clear hk hyes hno
  conv => arg 2; whnf
  go_loopw [10, 11] (fun a i wr => ∃ (k : Nat) (m : Int), k ≤ len ∧ i = .int .i64 k ∧ a = .int .i64 m ∧ 0 ≤ m ∧ m ≤ 300 * k ∧ argsC na nb nc (ks.drop k) m = argsC na nb nc ks 0 ∧ Below w.heap.size w wr) (fun _ i _ => len - (intOf i).toNat)
  case atStart => exact ⟨0, 0, by omega, rfl, rfl, by omega, by omega, rfl, Below.refl _ _⟩
  case round =>
    obtain ⟨k, m, hk, rfl, rfl, hm0, hm1, hcs, hbw⟩ := hrel
    have HCS := Lib.hid hcs
    have hzw := hbw.size
    have q0 := cell_below p0 hbw hpb
    have q1 := cell_below g1 hbw hgb
    have q2 := cell_below g2 hbw hgb
    have q3 := cell_below s4 hbw hsb
    clear hcs
    by_cases hlt : k < len
    · obtain ⟨b, off, t, v0, v1, v2, rfl, hb, hk1, c0, c1, c2, ht⟩ := (HK.out.below (hbw.mono hB) (Nat.le_refl _)).get hlt
      have hklt : (k : Int) < (len : Int) := by omega
      have hbl : b < wr.heap.size := by omega
      have hpb' : pb < wr.heap.size := by omega
      have hgb' : gb < wr.heap.size := by omega
      have hsb' : sb < wr.heap.size := by omega
      have hbd := cnt_bd t 0 (by omega) (by omega)
      have HC := Lib.hid (fun W (hb : Below wr.heap.size wr W) => within_any na nb nc t B W v0 v1 v2 (by have := hb.size; omega) (ht.below (hb.mono (by omega)) (Nat.le_refl _)))
      have HD := Lib.hid (show argsC na nb nc (ks.drop k) m = if (withC na nb nc t).2 = false then (0, false) else argsC na nb nc (ks.drop (k + 1)) (m + (withC na nb nc t).1) from by rw [drop_of hk1]; rfl)
      obtain ⟨⟨q, ok⟩, hq⟩ : ∃ q, q = withC na nb nc t := ⟨_, rfl⟩
      have hq1 : 0 ≤ q ∧ q ≤ 201 := (by have e : q = (cnt t 0).1 := (by have := congrArg Prod.fst hq; exact this); rw [e]; exact ⟨hbd.1, hbd.2.1⟩)
      rw [← hq] at HC HD
      obtain ⟨hq10, hq11⟩ := hq1
      obtain ⟨a0, b0, A0, n0, cc0, rfl, rfl, rfl⟩ := ht.shape0
      clear hk1 ht hq hbd
      cases ok with
      | false =>
        go_wp2_with fail
        refine region_grow (by kernel_rfl) (by kernel_rfl) (fun hG => ?_)
        repeat (go_big_quiet_step ((go_at_call 70; exact call_grow (HC.out _ (grow_below (Below.refl _ _) (Nat.le_refl _) _)))))
        refine wpQuiet_nil ?_
        rintro ⟨w1, hb1⟩
        simp only []
        have HB1 := Lib.hid hb1
        clear hG hb1
        go_wp2_with fail
        refine HNO.out (by rw [← HCS.out, HD.out]; simp) _ _ _ _ _ _ _ _ _ _ _ _ _ _ _ _ _ _ _ _ _ _ _ _ _ _ _ _ _ _ _ _ _ _ (hbw.trans (HB1.out.mono hzw))
      | true =>
        go_wp2_with fail
        refine region_grow (by kernel_rfl) (by kernel_rfl) (fun hG => ?_)
        repeat (go_big_quiet_step ((go_at_call 70; exact call_grow (HC.out _ (grow_below (Below.refl _ _) (Nat.le_refl _) _)))))
        refine wpQuiet_nil ?_
        rintro ⟨w1, hb1⟩
        simp only []
        have HB1 := Lib.hid hb1
        clear hG hb1
        go_wp2_with fail
        go_roundw
        case rel =>
          refine ⟨k + 1, m + q, by omega, by go_num, rfl, by omega, by omega, ?_, hbw.trans (HB1.out.mono hzw)⟩
          rw [← HCS.out, HD.out]; simp
        case measure => simp [intOf]; omega
    · obtain rfl : k = len := by omega
      have he : argsC na nb nc ks 0 = (m, true) := by rw [← HCS.out, drop_nil_of (by omega)]; rfl
      have HE := Lib.hid (show ∀ (u6 u7 u11 u12 u13 u116 u117 u118 u119 u120 u121 u122 u123 u124 u125 u126 u127 u128 u129 u130 u131 u132 u133 u134 u135 u136 u137 u138 u139 u140 u141 u142 u143 u144 : Value), Below w.heap.size w wr → Q (.exit 1) ⟨List.toArray (c0 :: c1 :: c2 :: (Value.pointer (some ⟨pb, 0, none⟩)) :: (Value.pointer (some ⟨gb, 0, none⟩)) :: (Value.pointer (some ⟨sb, 0, none⟩)) :: u6 :: u7 :: c8 :: c9 :: (Value.int .i64 (argsC na nb nc ks 0).1) :: u11 :: u12 :: u13 :: c14 :: c15 :: c16 :: c17 :: c18 :: c19 :: c20 :: c21 :: c22 :: c23 :: c24 :: c25 :: c26 :: c27 :: c28 :: c29 :: c30 :: c31 :: c32 :: c33 :: c34 :: c35 :: c36 :: c37 :: c38 :: c39 :: c40 :: c41 :: c42 :: c43 :: c44 :: c45 :: c46 :: c47 :: c48 :: c49 :: c50 :: c51 :: c52 :: c53 :: c54 :: c55 :: c56 :: c57 :: c58 :: c59 :: c60 :: c61 :: c62 :: c63 :: c64 :: c65 :: c66 :: c67 :: c68 :: c69 :: c70 :: c71 :: c72 :: c73 :: c74 :: c75 :: c76 :: c77 :: c78 :: c79 :: c80 :: c81 :: c82 :: c83 :: c84 :: c85 :: c86 :: c87 :: c88 :: c89 :: c90 :: c91 :: c92 :: c93 :: c94 :: c95 :: c96 :: c97 :: c98 :: c99 :: c100 :: c101 :: c102 :: c103 :: c104 :: c105 :: c106 :: c107 :: c108 :: c109 :: c110 :: c111 :: c112 :: c113 :: c114 :: c115 :: u116 :: u117 :: u118 :: u119 :: u120 :: u121 :: u122 :: u123 :: u124 :: u125 :: u126 :: u127 :: u128 :: u129 :: u130 :: u131 :: u132 :: u133 :: u134 :: u135 :: u136 :: u137 :: u138 :: u139 :: u140 :: u141 :: u142 :: u143 :: u144 :: c145 :: []), []⟩ wr from fun u6 u7 u11 u12 u13 u116 u117 u118 u119 u120 u121 u122 u123 u124 u125 u126 u127 u128 u129 u130 u131 u132 u133 u134 u135 u136 u137 u138 u139 u140 u141 u142 u143 u144 h => HYES.out (by rw [he]) u6 u7 u11 u12 u13 u116 u117 u118 u119 u120 u121 u122 u123 u124 u125 u126 u127 u128 u129 u130 u131 u132 u133 u134 u135 u136 u137 u138 u139 u140 u141 u142 u143 u144 wr h)
      clear HYES HNO
      rw [he] at HE
      clear he
      go_wp2_with fail
      exact HE.out _ _ _ _ _ _ _ _ _ _ _ _ _ _ _ _ _ _ _ _ _ _ _ _ _ _ _ _ _ _ _ _ _ _ hbw
end Go.Proofs.Ytjkgpolikpochaa
