/- The page's Form: its last region. Conditions: as stated. -/
import Derived.Test.YtlenilbkifofjaaDoorRFormZz
import Derived.Test.YtlenilbkifofjaaDoorQ03Zz
set_option linter.unusedVariables false
set_option linter.unusedSimpArgs false
namespace Go.Proofs.YtlenilbkifofjaaDoor
open Go.RowKit

def rfeC (xb : Nat) (x y : InsS) (A : Option Addr) (c : Nat) (s0 s1 s2 s3 E L O : Bool) (ar : Int) : Nat → Value
  | 0 => .agg #[.bool s0, .bool s1, .bool s2, .bool s3]
  | 1 => .agg #[.int .i64 x.op, .int .i64 x.dst, .int .i64 x.a, .int .i64 x.b, .int .i64 x.n, .slice A x.arg.length c]
  | 2 => .agg #[.int .i64 y.op, .int .i64 y.dst, .int .i64 y.a, .int .i64 y.b, .int .i64 y.n, .slice A x.arg.length c]
  | 3 | 4 => .bool E
  | 5 => if E then .pointer (some ⟨xb, 5, none⟩) else undef
  | 6 => if E then .slice A x.arg.length c else undef
  | 7 => if E then .int .i64 x.arg.length else undef
  | 8 => if E then .int .i64 ar else undef
  | 9 => if E then .bool L else undef
  | 10 | 11 => .bool (E && L)
  | 12 => if E && L then .agg #[.int .i64 x.op, .int .i64 x.dst, .int .i64 x.a, .int .i64 x.b, .int .i64 x.n, .slice A x.arg.length c] else undef
  | 13 => if E && L then .bool O else undef
  | 14 => .bool (E && (L && O))
  | _ => undef
noncomputable def rfeR : Code := (regsOf (Tryd.f46.body.getD .skip)).getD 55 .skip
set_option maxRecDepth 100000 in
set_option maxHeartbeats 16000000 in
theorem rfe_region (xb yb sb rb : Nat) (x y : InsS) (A : Option Addr) (c : Nat) (s0 s1 s2 s3 E L O : Bool) (ar : Int) (w : World)
    (hx : Row w xb #[.int .i64 x.op, .int .i64 x.dst, .int .i64 x.a, .int .i64 x.b, .int .i64 x.n, .slice A x.arg.length c] 38) (hy : Row w yb #[.int .i64 y.op, .int .i64 y.dst, .int .i64 y.a, .int .i64 y.b, .int .i64 y.n, .slice A x.arg.length c] 38) (hs : Row w sb #[.bool s0, .bool s1, .bool s2, .bool s3] 91) (hr : Row w rb #[.bool false, .bool false, .bool false, .bool false] 91)
    (hE : ∀ W, Below w.heap.size w W → Calls Tryd.prog 48 #[.agg #[.int .i64 x.op, .int .i64 x.dst, .int .i64 x.a, .int .i64 x.b, .int .i64 x.n, .slice A x.arg.length c], .agg #[.int .i64 y.op, .int .i64 y.dst, .int .i64 y.a, .int .i64 y.b, .int .i64 y.n, .slice A x.arg.length c]] W fun e w' => e = .returned (.bool E) ∧ Below W.heap.size W w')
    (hO : ∀ W, Below w.heap.size w W → Calls Tryd.prog 71 #[.agg #[.int .i64 x.op, .int .i64 x.dst, .int .i64 x.a, .int .i64 x.b, .int .i64 x.n, .slice A x.arg.length c]] W fun e w' => e = .returned (.bool O) ∧ Below W.heap.size W w')
    (hL : ((x.arg.length : Int) == ar) = L)
    (c0 c1 c2 c3 c5 c6 c7 c9 c13 c14 c15 c16 c17 c18 c19 c20 c21 c22 c23 c24 c25 c26 c27 c28 c29 c30 c31 c32 c33 c34 c35 c36 c37 c38 c39 c40 c41 c42 c43 c44 c45 c46 c47 c48 c49 c50 c51 c52 c53 c54 c55 c56 c57 c58 c59 c60 c61 c62 c63 c64 c65 c66 c67 c68 c69 c70 c71 c72 c73 c74 c75 c76 c77 c78 c79 c80 c81 c82 c83 c84 c85 c86 c87 c88 c89 c90 c91 c92 c93 c94 c95 c96 c97 c98 c99 c100 c101 c102 c103 c104 c105 c106 c107 c108 c109 c110 c111 c112 c113 c114 c115 c116 c117 c118 c119 c120 c121 c122 c123 c124 c125 c126 c127 c128 c129 c130 c131 c132 c133 c134 c135 c136 c137 c138 c139 c140 c141 c142 c143 c144 c145 c146 c147 c148 c149 c150 c151 c152 c153 c154 c155 c156 c157 c158 c159 c160 c161 c162 c163 c164 c165 c166 c167 c168 c169 c170 c171 c172 c173 c174 c175 c176 c177 c178 c179 c180 c181 c182 c183 c184 c185 c186 c187 c188 c189 : Value) (Q : Exit → Act → World → Prop)
    (hexit : ∀ (W : World) (Y : Nat → Value), Wr (fun i => i = rb) w W → Row W rb #[.bool s0, .bool s1, .bool s2, .bool s3] 91 → Q .normal ⟨List.toArray (c0 :: c1 :: c2 :: c3 :: (Value.pointer (some ⟨xb, 0, none⟩)) :: c5 :: c6 :: c7 :: (Value.pointer (some ⟨rb, 0, none⟩)) :: (Value.bool (E && (L && O))) :: (Value.pointer (some ⟨yb, 0, none⟩)) :: (Value.pointer (some ⟨sb, 0, none⟩)) :: (Value.int .i64 ar) :: c13 :: c14 :: c15 :: c16 :: c17 :: c18 :: c19 :: c20 :: c21 :: c22 :: c23 :: c24 :: c25 :: c26 :: c27 :: c28 :: c29 :: c30 :: c31 :: c32 :: c33 :: c34 :: c35 :: c36 :: c37 :: c38 :: c39 :: c40 :: c41 :: c42 :: c43 :: c44 :: c45 :: c46 :: c47 :: c48 :: c49 :: c50 :: c51 :: c52 :: c53 :: c54 :: c55 :: c56 :: c57 :: c58 :: c59 :: c60 :: c61 :: c62 :: c63 :: c64 :: c65 :: c66 :: c67 :: c68 :: c69 :: c70 :: c71 :: c72 :: c73 :: c74 :: c75 :: c76 :: c77 :: c78 :: c79 :: c80 :: c81 :: c82 :: c83 :: c84 :: c85 :: c86 :: c87 :: c88 :: c89 :: c90 :: c91 :: c92 :: c93 :: c94 :: c95 :: c96 :: c97 :: c98 :: c99 :: c100 :: c101 :: c102 :: c103 :: c104 :: c105 :: c106 :: c107 :: c108 :: c109 :: c110 :: c111 :: c112 :: c113 :: c114 :: c115 :: c116 :: c117 :: c118 :: c119 :: c120 :: c121 :: c122 :: c123 :: c124 :: c125 :: c126 :: c127 :: c128 :: c129 :: c130 :: c131 :: c132 :: c133 :: c134 :: c135 :: c136 :: c137 :: c138 :: c139 :: c140 :: c141 :: c142 :: c143 :: c144 :: c145 :: c146 :: c147 :: c148 :: c149 :: c150 :: c151 :: c152 :: c153 :: c154 :: c155 :: c156 :: c157 :: c158 :: c159 :: c160 :: c161 :: c162 :: c163 :: c164 :: c165 :: c166 :: c167 :: c168 :: c169 :: c170 :: c171 :: c172 :: c173 :: c174 :: Y 0 :: Y 1 :: Y 2 :: Y 3 :: Y 4 :: Y 5 :: Y 6 :: Y 7 :: Y 8 :: Y 9 :: Y 10 :: Y 11 :: Y 12 :: Y 13 :: Y 14 :: []), []⟩ W) :
    Code.wp Tryd.prog rfeR Q ⟨List.toArray (c0 :: c1 :: c2 :: c3 :: (Value.pointer (some ⟨xb, 0, none⟩)) :: c5 :: c6 :: c7 :: (Value.pointer (some ⟨rb, 0, none⟩)) :: c9 :: (Value.pointer (some ⟨yb, 0, none⟩)) :: (Value.pointer (some ⟨sb, 0, none⟩)) :: (Value.int .i64 ar) :: c13 :: c14 :: c15 :: c16 :: c17 :: c18 :: c19 :: c20 :: c21 :: c22 :: c23 :: c24 :: c25 :: c26 :: c27 :: c28 :: c29 :: c30 :: c31 :: c32 :: c33 :: c34 :: c35 :: c36 :: c37 :: c38 :: c39 :: c40 :: c41 :: c42 :: c43 :: c44 :: c45 :: c46 :: c47 :: c48 :: c49 :: c50 :: c51 :: c52 :: c53 :: c54 :: c55 :: c56 :: c57 :: c58 :: c59 :: c60 :: c61 :: c62 :: c63 :: c64 :: c65 :: c66 :: c67 :: c68 :: c69 :: c70 :: c71 :: c72 :: c73 :: c74 :: c75 :: c76 :: c77 :: c78 :: c79 :: c80 :: c81 :: c82 :: c83 :: c84 :: c85 :: c86 :: c87 :: c88 :: c89 :: c90 :: c91 :: c92 :: c93 :: c94 :: c95 :: c96 :: c97 :: c98 :: c99 :: c100 :: c101 :: c102 :: c103 :: c104 :: c105 :: c106 :: c107 :: c108 :: c109 :: c110 :: c111 :: c112 :: c113 :: c114 :: c115 :: c116 :: c117 :: c118 :: c119 :: c120 :: c121 :: c122 :: c123 :: c124 :: c125 :: c126 :: c127 :: c128 :: c129 :: c130 :: c131 :: c132 :: c133 :: c134 :: c135 :: c136 :: c137 :: c138 :: c139 :: c140 :: c141 :: c142 :: c143 :: c144 :: c145 :: c146 :: c147 :: c148 :: c149 :: c150 :: c151 :: c152 :: c153 :: c154 :: c155 :: c156 :: c157 :: c158 :: c159 :: c160 :: c161 :: c162 :: c163 :: c164 :: c165 :: c166 :: c167 :: c168 :: c169 :: c170 :: c171 :: c172 :: c173 :: c174 :: c175 :: c176 :: c177 :: c178 :: c179 :: c180 :: c181 :: c182 :: c183 :: c184 :: c185 :: c186 :: c187 :: c188 :: c189 :: []), []⟩ w := by
  have HX := Lib.hid hx
  have HY := Lib.hid hy
  have HS := Lib.hid hs
  have HR := Lib.hid hr
  have HE := Lib.hid hE
  have HO := Lib.hid hO
  have HL := Lib.hid hL
  have HEX := Lib.hid hexit
  clear hx hy hs hr hE hO hL hexit
  conv => arg 2; whnf
  refine region_ci_tail 15 (fun i => decide (i = 14)) (by kernel_rfl) (by kernel_rfl) (by kernel_rfl) (fun i v => v = rfeC xb x y A c s0 s1 s2 s3 E L O ar i) (fun W => Wr (fun i => i = rb) w W ∧ Row W rb #[.bool s0, .bool s1, .bool s2, .bool s3] 91) (fun Y => ⟨List.toArray (c0 :: c1 :: c2 :: c3 :: (Value.pointer (some ⟨xb, 0, none⟩)) :: c5 :: c6 :: c7 :: (Value.pointer (some ⟨rb, 0, none⟩)) :: c9 :: (Value.pointer (some ⟨yb, 0, none⟩)) :: (Value.pointer (some ⟨sb, 0, none⟩)) :: (Value.int .i64 ar) :: c13 :: c14 :: c15 :: c16 :: c17 :: c18 :: c19 :: c20 :: c21 :: c22 :: c23 :: c24 :: c25 :: c26 :: c27 :: c28 :: c29 :: c30 :: c31 :: c32 :: c33 :: c34 :: c35 :: c36 :: c37 :: c38 :: c39 :: c40 :: c41 :: c42 :: c43 :: c44 :: c45 :: c46 :: c47 :: c48 :: c49 :: c50 :: c51 :: c52 :: c53 :: c54 :: c55 :: c56 :: c57 :: c58 :: c59 :: c60 :: c61 :: c62 :: c63 :: c64 :: c65 :: c66 :: c67 :: c68 :: c69 :: c70 :: c71 :: c72 :: c73 :: c74 :: c75 :: c76 :: c77 :: c78 :: c79 :: c80 :: c81 :: c82 :: c83 :: c84 :: c85 :: c86 :: c87 :: c88 :: c89 :: c90 :: c91 :: c92 :: c93 :: c94 :: c95 :: c96 :: c97 :: c98 :: c99 :: c100 :: c101 :: c102 :: c103 :: c104 :: c105 :: c106 :: c107 :: c108 :: c109 :: c110 :: c111 :: c112 :: c113 :: c114 :: c115 :: c116 :: c117 :: c118 :: c119 :: c120 :: c121 :: c122 :: c123 :: c124 :: c125 :: c126 :: c127 :: c128 :: c129 :: c130 :: c131 :: c132 :: c133 :: c134 :: c135 :: c136 :: c137 :: c138 :: c139 :: c140 :: c141 :: c142 :: c143 :: c144 :: c145 :: c146 :: c147 :: c148 :: c149 :: c150 :: c151 :: c152 :: c153 :: c154 :: c155 :: c156 :: c157 :: c158 :: c159 :: c160 :: c161 :: c162 :: c163 :: c164 :: c165 :: c166 :: c167 :: c168 :: c169 :: c170 :: c171 :: c172 :: c173 :: c174 :: Y 0 :: Y 1 :: Y 2 :: Y 3 :: Y 4 :: Y 5 :: Y 6 :: Y 7 :: Y 8 :: Y 9 :: Y 10 :: Y 11 :: Y 12 :: Y 13 :: Y 14 :: []), []⟩) (fun i => if i = 0 then c175 else if i = 1 then c176 else if i = 2 then c177 else if i = 3 then c178 else if i = 4 then c179 else if i = 5 then c180 else if i = 6 then c181 else if i = 7 then c182 else if i = 8 then c183 else if i = 9 then c184 else if i = 10 then c185 else if i = 11 then c186 else if i = 12 then c187 else if i = 13 then c188 else if i = 14 then c189 else undef) rfl ?_ ?_ ?_ ?_
  · intro i o' Y W hin hnl ho hb hall K hK
    have HW := Lib.hid hb
    clear hb
    rcases i with _ | _ | _ | _ | _ | _ | _ | _ | _ | _ | _ | _ | _ | _ | _ | i
    · simp at ho; subst ho
      have q0 := cell_below (HS.out.cell (j := 0) rfl) HW.out HS.out.lt
      have q1 := cell_below (HS.out.cell (j := 1) rfl) HW.out HS.out.lt
      have q2 := cell_below (HS.out.cell (j := 2) rfl) HW.out HS.out.lt
      have q3 := cell_below (HS.out.cell (j := 3) rfl) HW.out HS.out.lt
      have ql := Nat.lt_of_lt_of_le HS.out.lt HW.out.size
      clear hall
      refine wpOp_plain rfl rfl (fun K' hK' => ?_)
      go_simp
      have hh := hK' _ _ (hK _ _ (Below.refl _ _) rfl)
      simpa [upd, rfeC] using hh
    · simp at ho; subst ho
      have q0 := cell_below (HX.out.cell (j := 0) rfl) HW.out HX.out.lt
      have q1 := cell_below (HX.out.cell (j := 1) rfl) HW.out HX.out.lt
      have q2 := cell_below (HX.out.cell (j := 2) rfl) HW.out HX.out.lt
      have q3 := cell_below (HX.out.cell (j := 3) rfl) HW.out HX.out.lt
      have q4 := cell_below (HX.out.cell (j := 4) rfl) HW.out HX.out.lt
      have q5 := cell_below (HX.out.cell (j := 5) rfl) HW.out HX.out.lt
      have ql := Nat.lt_of_lt_of_le HX.out.lt HW.out.size
      clear hall
      refine wpOp_plain rfl rfl (fun K' hK' => ?_)
      go_simp
      have hh := hK' _ _ (hK _ _ (Below.refl _ _) rfl)
      simpa [upd, rfeC] using hh
    · simp at ho; subst ho
      have q0 := cell_below (HY.out.cell (j := 0) rfl) HW.out HY.out.lt
      have q1 := cell_below (HY.out.cell (j := 1) rfl) HW.out HY.out.lt
      have q2 := cell_below (HY.out.cell (j := 2) rfl) HW.out HY.out.lt
      have q3 := cell_below (HY.out.cell (j := 3) rfl) HW.out HY.out.lt
      have q4 := cell_below (HY.out.cell (j := 4) rfl) HW.out HY.out.lt
      have q5 := cell_below (HY.out.cell (j := 5) rfl) HW.out HY.out.lt
      have ql := Nat.lt_of_lt_of_le HY.out.lt HW.out.size
      clear hall
      refine wpOp_plain rfl rfl (fun K' hK' => ?_)
      go_simp
      have hh := hK' _ _ (hK _ _ (Below.refl _ _) rfl)
      simpa [upd, rfeC] using hh
    · simp at ho; subst ho
      have d1 : Y 1 = _ := hall { on := 1, ground := Ground.data } (by simp) rfl
      have d2 : Y 2 = _ := hall { on := 2, ground := Ground.data } (by simp) rfl
      simp only [rfeC] at d1 d2
      clear hall
      refine wpOp_plain rfl rfl (fun K' hK' => ?_)
      go_simp
      refine (HE.out W HW.out).mono ?_
      rintro e W5 ⟨rfl, hb5⟩
      have HB5 := Lib.hid hb5
      clear hb5
      go_simp
      have hh := hK' _ _ (hK _ _ (HB5.out) rfl)
      simpa [upd, rfeC, d1, d2] using hh
    · simp at ho; subst ho
      have d3 : Y 3 = _ := hall { on := 3, ground := Ground.data } (by simp) rfl
      simp only [rfeC] at d3
      clear hall
      refine wpOp_plain rfl rfl (fun K' hK' => ?_)
      go_simp
      have hh := hK' _ _ (hK _ _ (Below.refl _ _) rfl)
      simpa [upd, rfeC, d3] using hh
    · simp at ho; subst ho
      have d4 : Y 4 = _ := hall { on := 4, ground := Ground.guard } (by simp) rfl
      clear hall
      obtain hE | hE : E = true ∨ E = false := by cases E <;> simp
      · simp [rfeC, hE] at d4
        refine wpOp_want rfl (by simp [Region.wanted, yielded, d4]) (fun K' hK' => ?_)
        go_simp
        have hh := hK' _ _ (hK (rfeC xb x y A c s0 s1 s2 s3 E L O ar 5) _ (Below.refl _ _) rfl)
        simpa [upd, rfeC, hE, d4] using hh
      · simp [rfeC, hE] at d4
        refine wpOp_skip rfl (by simp [Region.wanted, yielded, d4]) ?_
        have hh := hK (rfeC xb x y A c s0 s1 s2 s3 E L O ar 5) _ (Below.refl _ _) rfl
        simpa [upd, Act.put, rfeC, hE] using hh
    · simp at ho; subst ho
      have d4 : Y 4 = _ := hall { on := 4, ground := Ground.guard } (by simp) rfl
      have d5 : Y 5 = _ := hall { on := 5, ground := Ground.data } (by simp) rfl
      have q0 := cell_below (HX.out.cell (j := 0) rfl) HW.out HX.out.lt
      have q1 := cell_below (HX.out.cell (j := 1) rfl) HW.out HX.out.lt
      have q2 := cell_below (HX.out.cell (j := 2) rfl) HW.out HX.out.lt
      have q3 := cell_below (HX.out.cell (j := 3) rfl) HW.out HX.out.lt
      have q4 := cell_below (HX.out.cell (j := 4) rfl) HW.out HX.out.lt
      have q5 := cell_below (HX.out.cell (j := 5) rfl) HW.out HX.out.lt
      have ql := Nat.lt_of_lt_of_le HX.out.lt HW.out.size
      clear hall
      obtain hE | hE : E = true ∨ E = false := by cases E <;> simp
      · simp [rfeC, hE] at d4 d5
        refine wpOp_want rfl (by simp [Region.wanted, yielded, d4]) (fun K' hK' => ?_)
        go_simp
        have hh := hK' _ _ (hK (rfeC xb x y A c s0 s1 s2 s3 E L O ar 6) _ (Below.refl _ _) rfl)
        simpa [upd, rfeC, hE, d4, d5] using hh
      · simp [rfeC, hE] at d4 d5
        refine wpOp_skip rfl (by simp [Region.wanted, yielded, d4]) ?_
        have hh := hK (rfeC xb x y A c s0 s1 s2 s3 E L O ar 6) _ (Below.refl _ _) rfl
        simpa [upd, Act.put, rfeC, hE] using hh
    · simp at ho; subst ho
      have d4 : Y 4 = _ := hall { on := 4, ground := Ground.guard } (by simp) rfl
      have d6 : Y 6 = _ := hall { on := 6, ground := Ground.data } (by simp) rfl
      clear hall
      obtain hE | hE : E = true ∨ E = false := by cases E <;> simp
      · simp [rfeC, hE] at d4 d6
        refine wpOp_want rfl (by simp [Region.wanted, yielded, d4]) (fun K' hK' => ?_)
        go_simp
        have hh := hK' _ _ (hK (rfeC xb x y A c s0 s1 s2 s3 E L O ar 7) _ (Below.refl _ _) rfl)
        simpa [upd, rfeC, hE, d4, d6] using hh
      · simp [rfeC, hE] at d4 d6
        refine wpOp_skip rfl (by simp [Region.wanted, yielded, d4]) ?_
        have hh := hK (rfeC xb x y A c s0 s1 s2 s3 E L O ar 7) _ (Below.refl _ _) rfl
        simpa [upd, Act.put, rfeC, hE] using hh
    · simp at ho; subst ho
      have d4 : Y 4 = _ := hall { on := 4, ground := Ground.guard } (by simp) rfl
      clear hall
      obtain hE | hE : E = true ∨ E = false := by cases E <;> simp
      · simp [rfeC, hE] at d4
        refine wpOp_want rfl (by simp [Region.wanted, yielded, d4]) (fun K' hK' => ?_)
        go_simp
        have hh := hK' _ _ (hK (rfeC xb x y A c s0 s1 s2 s3 E L O ar 8) _ (Below.refl _ _) rfl)
        simpa [upd, rfeC, hE, d4] using hh
      · simp [rfeC, hE] at d4
        refine wpOp_skip rfl (by simp [Region.wanted, yielded, d4]) ?_
        have hh := hK (rfeC xb x y A c s0 s1 s2 s3 E L O ar 8) _ (Below.refl _ _) rfl
        simpa [upd, Act.put, rfeC, hE] using hh
    · simp at ho; subst ho
      have d4 : Y 4 = _ := hall { on := 4, ground := Ground.guard } (by simp) rfl
      have d7 : Y 7 = _ := hall { on := 7, ground := Ground.data } (by simp) rfl
      have d8 : Y 8 = _ := hall { on := 8, ground := Ground.data } (by simp) rfl
      have hLL := HL.out
      clear hall
      obtain hE | hE : E = true ∨ E = false := by cases E <;> simp
      · simp [rfeC, hE] at d4 d7 d8
        refine wpOp_want rfl (by simp [Region.wanted, yielded, d4]) (fun K' hK' => ?_)
        go_simp
        have hh := hK' _ _ (hK (rfeC xb x y A c s0 s1 s2 s3 E L O ar 9) _ (Below.refl _ _) rfl)
        simpa [upd, rfeC, hE, d4, d7, d8] using hh
      · simp [rfeC, hE] at d4 d7 d8
        refine wpOp_skip rfl (by simp [Region.wanted, yielded, d4]) ?_
        have hh := hK (rfeC xb x y A c s0 s1 s2 s3 E L O ar 9) _ (Below.refl _ _) rfl
        simpa [upd, Act.put, rfeC, hE] using hh
    · simp at ho; subst ho
      have d4 : Y 4 = _ := hall { on := 4, ground := Ground.data } (by simp) rfl
      have d9 : Y 9 = _ := hall { on := 9, ground := Ground.data } (by simp) rfl
      clear hall
      cases hE : E <;> simp [rfeC, hE] at d4 d9
      all_goals refine wpOp_plain rfl rfl (fun K' hK' => ?_)
      all_goals go_simp
      all_goals have hh := hK' _ _ (hK (rfeC xb x y A c s0 s1 s2 s3 _ L O ar 10) _ (Below.refl _ _) rfl)
      all_goals simpa [upd, rfeC, hE, d4, d9] using hh
    · simp at ho; subst ho
      have d10 : Y 10 = _ := hall { on := 10, ground := Ground.data } (by simp) rfl
      simp only [rfeC] at d10
      clear hall
      refine wpOp_plain rfl rfl (fun K' hK' => ?_)
      go_simp
      have hh := hK' _ _ (hK _ _ (Below.refl _ _) rfl)
      simpa [upd, rfeC, d10] using hh
    · simp at ho; subst ho
      have d11 : Y 11 = _ := hall { on := 11, ground := Ground.guard } (by simp) rfl
      have q0 := cell_below (HX.out.cell (j := 0) rfl) HW.out HX.out.lt
      have q1 := cell_below (HX.out.cell (j := 1) rfl) HW.out HX.out.lt
      have q2 := cell_below (HX.out.cell (j := 2) rfl) HW.out HX.out.lt
      have q3 := cell_below (HX.out.cell (j := 3) rfl) HW.out HX.out.lt
      have q4 := cell_below (HX.out.cell (j := 4) rfl) HW.out HX.out.lt
      have q5 := cell_below (HX.out.cell (j := 5) rfl) HW.out HX.out.lt
      have ql := Nat.lt_of_lt_of_le HX.out.lt HW.out.size
      clear hall
      obtain hE | hE : (E && L) = true ∨ (E && L) = false := by cases (E && L) <;> simp
      · simp [rfeC, hE] at d11
        refine wpOp_want rfl (by simp [Region.wanted, yielded, d11]) (fun K' hK' => ?_)
        go_simp
        have hh := hK' _ _ (hK (rfeC xb x y A c s0 s1 s2 s3 E L O ar 12) _ (Below.refl _ _) rfl)
        simpa [upd, rfeC, hE, d11] using hh
      · simp [rfeC, hE] at d11
        refine wpOp_skip rfl (by simp [Region.wanted, yielded, d11]) ?_
        have hh := hK (rfeC xb x y A c s0 s1 s2 s3 E L O ar 12) _ (Below.refl _ _) rfl
        simpa [upd, Act.put, rfeC, hE] using hh
    · simp at ho; subst ho
      have d11 : Y 11 = _ := hall { on := 11, ground := Ground.guard } (by simp) rfl
      have d12 : Y 12 = _ := hall { on := 12, ground := Ground.data } (by simp) rfl
      clear hall
      obtain hE | hE : (E && L) = true ∨ (E && L) = false := by cases (E && L) <;> simp
      · simp [rfeC, hE] at d11 d12
        refine wpOp_want rfl (by simp [Region.wanted, yielded, d11]) (fun K' hK' => ?_)
        go_simp
        refine (HO.out W HW.out).mono ?_
        rintro e W5 ⟨rfl, hb5⟩
        have HB5 := Lib.hid hb5
        clear hb5
        go_simp
        have hh := hK' _ _ (hK (rfeC xb x y A c s0 s1 s2 s3 E L O ar 13) _ (HB5.out) rfl)
        simpa [upd, rfeC, hE, d11, d12] using hh
      · simp [rfeC, hE] at d11 d12
        refine wpOp_skip rfl (by simp [Region.wanted, yielded, d11]) ?_
        have hh := hK (rfeC xb x y A c s0 s1 s2 s3 E L O ar 13) _ (Below.refl _ _) rfl
        simpa [upd, Act.put, rfeC, hE] using hh
    · simp at hnl
    · omega
  · intro i o' Y W hin hl ho hall K hK
    obtain rfl : i = 14 := by simpa using hl
    simp at ho; subst ho
    have d11 : Y 11 = _ := hall { on := 11, ground := Ground.data } (by simp) rfl
    have d13 : Y 13 = _ := hall { on := 13, ground := Ground.data } (by simp) rfl
    clear hall
    cases hE : E <;> cases hL : L <;> simp [rfeC, hE, hL] at d11 d13
    all_goals refine wpOp_plain rfl rfl (fun K' hK' => ?_)
    all_goals go_simp
    all_goals have hh := hK' _ _ (hK (rfeC xb x y A c s0 s1 s2 s3 _ _ O ar 14) rfl)
    all_goals simpa [upd, rfeC, hE, hL, d11, d13] using hh
  · intro o' Y W ho hb hall K hK
    simp at ho; subst ho
    have d0 : Y 0 = _ := hall { on := 0, ground := Ground.data } (by simp) rfl
    simp only [rfeC] at d0
    clear hall
    have hrw := HR.out.below hb HR.out.lt
    have HWW := Lib.hid hb
    have HRW := Lib.hid hrw
    have k0 := hrw.cell (j := 0) rfl
    have k1 := hrw.cell (j := 1) rfl
    have k2 := hrw.cell (j := 2) rfl
    have k3 := hrw.cell (j := 3) rfl
    have g0 := hrw.free 0
    have g1 := hrw.free 1
    have g2 := hrw.free 2
    have g3 := hrw.free 3
    have kl := hrw.lt
    clear hb hrw
    refine wpOp_plain rfl rfl (fun K' hK' => ?_)
    go_simp
    have hh := hK' _ _ (hK undef _ ⟨((((((Wr.of_below (F := fun i => i = rb) HWW.out).setR rb 0 (.bool s0) (Or.inl rfl)).setR rb 1 (.bool s1) (Or.inl rfl)).setR rb 2 (.bool s2) (Or.inl rfl)).setR rb 3 (.bool s3) (Or.inl rfl))), (((HRW.out.set 0 (.bool s0)).set 1 (.bool s1)).set 2 (.bool s2)).set 3 (.bool s3)⟩)
    simpa [upd, d0] using hh
  · intro Y W ⟨hw, hr⟩ hall
    have e14 : Y 14 = _ := hall 14 (by decide)
    simp only [rfeC] at e14
    have HHW := Lib.hid hw
    have HHR := Lib.hid hr
    clear hall hw hr
    simp only [List.drop_succ_cons, List.drop_zero, e14]
    go_wp2_with fail
    have hh := HEX.out W Y HHW.out HHR.out
    simpa [e14] using hh
end Go.Proofs.YtlenilbkifofjaaDoor
