/- VirtFuel: its four runs. Conditions: as stated. -/
import Derived.Test.YtinmgbodgecoeaaQ11Zz
import Derived.Test.YtinmgbodgecoeaaQ03Zz
set_option linter.unusedVariables false
set_option linter.unusedSimpArgs false
namespace Go.Proofs.Ytinmgbodgecoeaa
open Go.RowKit

def vfuAC (pb qb qoff k pn pc il ic gn gc fn fc : Nat) (IA GA FA : Option Addr) (mn : Int) : Nat → Value
  | 0 => .pointer (some ⟨pb, 0, none⟩)
  | 1 => .slice (some ⟨qb, qoff, none⟩) pn pc
  | 2 => .int .i64 (k : Nat)
  | 3 => .pointer (some ⟨qb, qoff + k * 3, none⟩)
  | 4 => .agg #[.slice GA gn gc, .slice FA fn fc, .int .i64 mn]
  | 5 => .pointer (some ⟨pb, 1, none⟩)
  | 6 => .slice IA il ic
  | _ => undef
noncomputable def vfuAR : Code := (regsOf (Try.f3.body.getD .skip)).getD 5 .skip
set_option maxRecDepth 100000 in
set_option maxHeartbeats 8000000 in
theorem vfuA_region (pb qb qoff k pn pc il ic gn gc fn fc : Nat) (IA GA FA : Option Addr) (mn : Int) (fu af : Int) (w : World) (o : OutS) (er : Int) 
    (hbox : Row w pb #[.slice (some ⟨qb, qoff, none⟩) pn pc, .slice IA il ic, .int .i64 af] 25) (hqb : qb < w.heap.size) (hk : k < pn)
    (g0 : w.cell? ⟨qb, qoff + k * 3, none⟩ = some (.slice GA gn gc)) (g1 : w.cell? ⟨qb, qoff + k * 3 + 1, none⟩ = some (.slice FA fn fc)) (g2 : w.cell? ⟨qb, qoff + k * 3 + 2, none⟩ = some (.int .i64 mn))
    (hrun : ∀ W, Below w.heap.size w W → Calls Try.prog 5 #[.agg #[.slice GA gn gc, .slice FA fn fc, .int .i64 mn], .slice IA il ic, .int .i64 (2000)] W fun e w' => RanG o er W e w')
    (c0 c2 c4 c5 c6 c7 c8 c9 c10 c11 c12 c13 c14 c15 c16 c17 c18 c19 c20 c21 c22 c23 c24 c25 c26 c27 c28 c29 c30 c31 c32 c33 c34 c35 c36 c37 c38 c39 c40 c41 c42 c43 c44 c45 c46 c47 c48 c49 c50 c51 c52 c53 c54 c55 c56 c57 c58 c59 c60 c61 c62 c63 c64 c65 c66 c67 c68 c69 c70 c71 c72 c73 c74 c75 c76 c77 c78 c79 c80 c81 c82 c83 c84 c85 c86 c87 c88 c89 c90 c91 c92 c93 c94 c95 c96 c97 c98 c99 c100 c101 c102 c103 c104 c105 c106 c107 c108 c109 c110 c111 c112 c113 c114 c115 : Value) (Q : Exit → Act → World → Prop)
    (hexit : ∀ (W : World) (p' : Nat) (u : Value) (Y : Nat → Value), Below w.heap.size w W → w.heap.size ≤ p' → Row W p' #[.int .i64 o.kind, .int .i64 o.code, u, .int .i64 o.steps, .int .i64 o.deep] 28 → W.ownsRow w.heap.size 2 1 u o.out.length (o.out.map (Value.int .i64)) →
      Q .normal ⟨List.toArray (c0 :: (Value.pointer (some ⟨pb, 0, none⟩)) :: c2 :: (Value.int .i64 (k : Nat)) :: (Value.pointer (some ⟨p', 0, none⟩)) :: (Value.int .i64 er) :: c6 :: c7 :: c8 :: c9 :: c10 :: c11 :: c12 :: c13 :: c14 :: c15 :: c16 :: c17 :: c18 :: c19 :: c20 :: c21 :: c22 :: c23 :: c24 :: Y 8 :: Y 0 :: Y 1 :: Y 2 :: Y 3 :: Y 4 :: Y 5 :: Y 6 :: Y 7 :: Y 9 :: Y 10 :: c36 :: c37 :: c38 :: c39 :: c40 :: c41 :: c42 :: c43 :: c44 :: c45 :: c46 :: c47 :: c48 :: c49 :: c50 :: c51 :: c52 :: c53 :: c54 :: c55 :: c56 :: c57 :: c58 :: c59 :: c60 :: c61 :: c62 :: c63 :: c64 :: c65 :: c66 :: c67 :: c68 :: c69 :: c70 :: c71 :: c72 :: c73 :: c74 :: c75 :: c76 :: c77 :: c78 :: c79 :: c80 :: c81 :: c82 :: c83 :: c84 :: c85 :: c86 :: c87 :: c88 :: c89 :: c90 :: c91 :: c92 :: c93 :: c94 :: c95 :: c96 :: c97 :: c98 :: c99 :: c100 :: c101 :: c102 :: c103 :: c104 :: c105 :: c106 :: c107 :: c108 :: c109 :: c110 :: c111 :: c112 :: c113 :: c114 :: c115 :: []), []⟩ W) :
    Code.wp Try.prog vfuAR Q ⟨List.toArray (c0 :: (Value.pointer (some ⟨pb, 0, none⟩)) :: c2 :: (Value.int .i64 (k : Nat)) :: c4 :: c5 :: c6 :: c7 :: c8 :: c9 :: c10 :: c11 :: c12 :: c13 :: c14 :: c15 :: c16 :: c17 :: c18 :: c19 :: c20 :: c21 :: c22 :: c23 :: c24 :: c25 :: c26 :: c27 :: c28 :: c29 :: c30 :: c31 :: c32 :: c33 :: c34 :: c35 :: c36 :: c37 :: c38 :: c39 :: c40 :: c41 :: c42 :: c43 :: c44 :: c45 :: c46 :: c47 :: c48 :: c49 :: c50 :: c51 :: c52 :: c53 :: c54 :: c55 :: c56 :: c57 :: c58 :: c59 :: c60 :: c61 :: c62 :: c63 :: c64 :: c65 :: c66 :: c67 :: c68 :: c69 :: c70 :: c71 :: c72 :: c73 :: c74 :: c75 :: c76 :: c77 :: c78 :: c79 :: c80 :: c81 :: c82 :: c83 :: c84 :: c85 :: c86 :: c87 :: c88 :: c89 :: c90 :: c91 :: c92 :: c93 :: c94 :: c95 :: c96 :: c97 :: c98 :: c99 :: c100 :: c101 :: c102 :: c103 :: c104 :: c105 :: c106 :: c107 :: c108 :: c109 :: c110 :: c111 :: c112 :: c113 :: c114 :: c115 :: []), []⟩ w := by
  have hk0 : (0 : Int) ≤ (k : Int) := by omega
  have hk1 : (k : Int) < (pn : Int) := by omega
  have HBOX := Lib.hid hbox
  have HQB := Lib.hid hqb
  have HG0 := Lib.hid g0
  have HG1 := Lib.hid g1
  have HG2 := Lib.hid g2
  have HRUN := Lib.hid hrun
  clear hbox hqb g0 g1 g2 hrun
  have HEX := Lib.hid hexit
  clear hexit
  conv => arg 2; whnf
  refine region_box (by kernel_rfl) 11 12 9 5 28 aggOf (RunCl 2 w.heap.size 7 (vfuAC pb qb qoff k pn pc il ic gn gc fn fc IA GA FA mn) o er) (RunOff 7 o er) (fun Y => ⟨List.toArray (c0 :: (Value.pointer (some ⟨pb, 0, none⟩)) :: c2 :: (Value.int .i64 (k : Nat)) :: Y 11 :: Y 13 :: c6 :: c7 :: c8 :: c9 :: c10 :: c11 :: c12 :: c13 :: c14 :: c15 :: c16 :: c17 :: c18 :: c19 :: c20 :: c21 :: c22 :: c23 :: c24 :: Y 8 :: Y 0 :: Y 1 :: Y 2 :: Y 3 :: Y 4 :: Y 5 :: Y 6 :: Y 7 :: Y 9 :: Y 10 :: c36 :: c37 :: c38 :: c39 :: c40 :: c41 :: c42 :: c43 :: c44 :: c45 :: c46 :: c47 :: c48 :: c49 :: c50 :: c51 :: c52 :: c53 :: c54 :: c55 :: c56 :: c57 :: c58 :: c59 :: c60 :: c61 :: c62 :: c63 :: c64 :: c65 :: c66 :: c67 :: c68 :: c69 :: c70 :: c71 :: c72 :: c73 :: c74 :: c75 :: c76 :: c77 :: c78 :: c79 :: c80 :: c81 :: c82 :: c83 :: c84 :: c85 :: c86 :: c87 :: c88 :: c89 :: c90 :: c91 :: c92 :: c93 :: c94 :: c95 :: c96 :: c97 :: c98 :: c99 :: c100 :: c101 :: c102 :: c103 :: c104 :: c105 :: c106 :: c107 :: c108 :: c109 :: c110 :: c111 :: c112 :: c113 :: c114 :: c115 :: []), []⟩) (fun i => if i = 0 then c26 else if i = 1 then c27 else if i = 2 then c28 else if i = 3 then c29 else if i = 4 then c30 else if i = 5 then c31 else if i = 6 then c32 else if i = 7 then c33 else if i = 8 then c25 else if i = 9 then c34 else if i = 10 then c35 else if i = 11 then c4 else if i = 13 then c5 else undef) rfl (by kernel_rfl) (by simp) (by simp) (by decide) (by decide) (by decide) ?_ (fun _ _ _ _ hb h => h.below hb) (fun W W' i v p _ hw hoff h => h.wr hw (fun g hg u => by subst hg; exact ⟨fun hi e => hoff.1 hi u e, fun hi e => hoff.2 hi u e⟩)) (fun W i v _ h => h.fresh) ?_ ?_ ?_ ?_
  · intro o' ho
    simp at ho; subst ho
    exact ⟨⟨{ on := 11, ground := Ground.data }, by simp, rfl, rfl⟩, ⟨{ on := 9, ground := Ground.data }, by simp, rfl, rfl⟩⟩
  · intro i o' Y W h1 h2 ho hb hall K hK
    have HW := Lib.hid hb
    clear hb
    rcases i with _ | _ | _ | _ | _ | _ | _ | _ | _ | _ | _ | _ | _ | _ | i
    · simp at ho; subst ho
      clear hall
      refine wpOp_plain rfl rfl (fun K' hK' => ?_)
      go_simp
      have hh := hK' _ _ (hK _ _ (Below.refl _ _) (RunCl.const (by decide)) (fun p _ _ _ => RunOff.const (by decide) p))
      simpa [upd, vfuAC] using hh
    · simp at ho; subst ho
      have d0 : Y 0 = _ := (hall { on := 0, ground := Ground.data } (by simp) rfl (by decide) (by decide)).c (by decide)
      simp only [vfuAC] at d0
      have q0 := cell_below (HBOX.out.cell (j := 0) rfl) HW.out HBOX.out.lt
      clear hall
      refine wpOp_plain rfl rfl (fun K' hK' => ?_)
      go_simp
      have hh := hK' _ _ (hK _ _ (Below.refl _ _) (RunCl.const (by decide)) (fun p _ _ _ => RunOff.const (by decide) p))
      simpa [upd, vfuAC, d0] using hh
    · simp at ho; subst ho
      clear hall
      refine wpOp_plain rfl rfl (fun K' hK' => ?_)
      go_simp
      have hh := hK' _ _ (hK _ _ (Below.refl _ _) (RunCl.const (by decide)) (fun p _ _ _ => RunOff.const (by decide) p))
      simpa [upd, vfuAC] using hh
    · simp at ho; subst ho
      have d1 : Y 1 = _ := (hall { on := 1, ground := Ground.data } (by simp) rfl (by decide) (by decide)).c (by decide)
      have d2 : Y 2 = _ := (hall { on := 2, ground := Ground.data } (by simp) rfl (by decide) (by decide)).c (by decide)
      simp only [vfuAC] at d1 d2
      clear hall
      refine wpOp_plain rfl rfl (fun K' hK' => ?_)
      go_simp
      have hh := hK' _ _ (hK _ _ (Below.refl _ _) (RunCl.const (by decide)) (fun p _ _ _ => RunOff.const (by decide) p))
      simpa [upd, vfuAC, d1, d2] using hh
    · simp at ho; subst ho
      have d3 : Y 3 = _ := (hall { on := 3, ground := Ground.data } (by simp) rfl (by decide) (by decide)).c (by decide)
      simp only [vfuAC] at d3
      have q0 := cell_below HG0.out HW.out HQB.out
      have q1 := cell_below HG1.out HW.out HQB.out
      have q2 := cell_below HG2.out HW.out HQB.out
      clear hall
      refine wpOp_plain rfl rfl (fun K' hK' => ?_)
      go_simp
      have hh := hK' _ _ (hK _ _ (Below.refl _ _) (RunCl.const (by decide)) (fun p _ _ _ => RunOff.const (by decide) p))
      simpa [upd, vfuAC, d3] using hh
    · simp at ho; subst ho
      clear hall
      refine wpOp_plain rfl rfl (fun K' hK' => ?_)
      go_simp
      have hh := hK' _ _ (hK _ _ (Below.refl _ _) (RunCl.const (by decide)) (fun p _ _ _ => RunOff.const (by decide) p))
      simpa [upd, vfuAC] using hh
    · simp at ho; subst ho
      have d5 : Y 5 = _ := (hall { on := 5, ground := Ground.data } (by simp) rfl (by decide) (by decide)).c (by decide)
      simp only [vfuAC] at d5
      have q0 := cell_below (HBOX.out.cell (j := 1) rfl) HW.out HBOX.out.lt
      clear hall
      refine wpOp_plain rfl rfl (fun K' hK' => ?_)
      go_simp
      have hh := hK' _ _ (hK _ _ (Below.refl _ _) (RunCl.const (by decide)) (fun p _ _ _ => RunOff.const (by decide) p))
      simpa [upd, vfuAC, d5] using hh
    · simp at ho; subst ho
      have d4 : Y 4 = _ := (hall { on := 4, ground := Ground.data } (by simp) rfl (by decide) (by decide)).c (by decide)
      have d6 : Y 6 = _ := (hall { on := 6, ground := Ground.data } (by simp) rfl (by decide) (by decide)).c (by decide)
      simp only [vfuAC] at d4 d6
      clear hall
      refine wpOp_plain rfl rfl (fun K' hK' => ?_)
      go_simp
      refine (HRUN.out W HW.out).mono ?_
      rintro e W5 ⟨u, rfl, hu, hb5⟩
      go_simp
      have hh := hK' _ _ (hK (outT o er u) W5 hb5 (RunCl.call (Or.inl rfl) (ownsRow_base hu HW.out.size)) (fun p _ hp _ => RunOff.call (Or.inl rfl) (fun h => by have := (hu.lt _ h).1; omega)))
      simpa [upd, outT, outA, d4, d6] using hh
    · simp at ho; subst ho
      obtain ⟨u, dT, hu⟩ := (hall { on := 7, ground := Ground.data } (by simp) rfl (by decide) (by decide)).t (Or.inl rfl)
      clear hall
      refine wpOp_plain rfl rfl (fun K' hK' => ?_)
      go_simp
      have hh := hK' _ _ (hK (outT o er u) _ (Below.refl _ _) (RunCl.call (Or.inr rfl) hu) (fun p _ _ hoff => RunOff.call (Or.inr rfl) ((hoff { on := 7, ground := Ground.data } (by simp) rfl (by decide) (by decide)).1 (Or.inl rfl) u dT)))
      simpa [upd, outT, outA, dT] using hh
    · simp at ho; subst ho
      obtain ⟨u, dT, hu⟩ := (hall { on := 8, ground := Ground.data } (by simp) rfl (by decide) (by decide)).t (Or.inr rfl)
      clear hall
      refine wpOp_plain rfl rfl (fun K' hK' => ?_)
      simp only [outT, outA] at dT
      go_simp
      have hh := hK' _ _ (hK (outA o u) _ (Below.refl _ _) (RunCl.part rfl hu) (fun p _ _ hoff => RunOff.part rfl ((hoff { on := 8, ground := Ground.data } (by simp) rfl (by decide) (by decide)).1 (Or.inr rfl) u dT)))
      simpa [upd, outT, outA, dT] using hh
    · simp at ho; subst ho
      obtain ⟨u, dT, hu⟩ := (hall { on := 8, ground := Ground.data } (by simp) rfl (by decide) (by decide)).t (Or.inr rfl)
      clear hall
      refine wpOp_plain rfl rfl (fun K' hK' => ?_)
      simp only [outT, outA] at dT
      go_simp
      have hh := hK' _ _ (hK (.int .i64 er) _ (Below.refl _ _) (RunCl.err (Or.inl rfl)) (fun p _ _ _ => RunOff.err (Or.inl rfl) p))
      simpa [upd, outT, outA, dT] using hh
    · exact absurd rfl h1
    · exact absurd rfl h2
    · simp at ho; subst ho
      have dE := (hall { on := 10, ground := Ground.data } (by simp) rfl (by decide) (by decide)).e (Or.inl rfl)
      clear hall
      refine wpOp_plain rfl rfl (fun K' hK' => ?_)
      go_simp
      have hh := hK' _ _ (hK (.int .i64 er) _ (Below.refl _ _) (RunCl.err (Or.inr rfl)) (fun p _ _ _ => RunOff.err (Or.inr rfl) p))
      simpa [upd, dE] using hh
    · simp at ho
  · intro o' Y W ho hb K hK
    simp at ho; subst ho
    clear hb
    refine wpOp_plain rfl rfl (fun K' hK' => ?_)
    go_simp
    have hh := hK' _ _ (hK #[.int .i64 0, .int .i64 0, .slice none 0 0, .int .i64 0, .int .i64 0] rfl)
    simpa [upd] using hh
  · intro o' Y W p cs ho hp hrow hcs hcl K hK
    simp at ho; subst ho
    obtain ⟨u, dA, hu⟩ := hcl.a rfl
    obtain ⟨UA, uc, rfl⟩ := slice_of_own hu
    obtain ⟨e0, e1, e2, e3, e4, rfl⟩ := size5 hcs
    have q0 := hrow.cell (j := 0) rfl
    have q1 := hrow.cell (j := 1) rfl
    have q2 := hrow.cell (j := 2) rfl
    have q3 := hrow.cell (j := 3) rfl
    have q4 := hrow.cell (j := 4) rfl
    have k0 := hrow.free 0
    have k1 := hrow.free 1
    have k2 := hrow.free 2
    have k3 := hrow.free 3
    have k4 := hrow.free 4
    have HROW := Lib.hid hrow
    clear hrow hcs hcl
    simp only [outA] at dA
    refine wpOp_plain rfl rfl (fun K' hK' => ?_)
    go_simp
    have hh := hK' _ _ (hK _ undef (((((((Wr.refl (fun i => i = p) W).setR p _ _ (Or.inl rfl)).setR p _ _ (Or.inl rfl)).setR p _ _ (Or.inl rfl)).setR p _ _ (Or.inl rfl)).setR p _ _ (Or.inl rfl))) (by rw [dA]; exact (((((HROW.out.set 0 _).set 1 _).set 2 _).set 3 _).set 4 _)) (by rw [dA]; rfl))
    simpa [upd, hp, dA] using hh
  · intro Y W p hb hpw hp hrow hall
    obtain ⟨u, dA, hu⟩ := (hall 9 (by simp) (by decide) (by decide)).1.a rfl
    have dE := (hall 13 (by simp) (by decide) (by decide)).1.e (Or.inr rfl)
    rw [dA] at hrow
    show Q .normal ⟨List.toArray (c0 :: (Value.pointer (some ⟨pb, 0, none⟩)) :: c2 :: (Value.int .i64 (k : Nat)) :: Y 11 :: Y 13 :: c6 :: c7 :: c8 :: c9 :: c10 :: c11 :: c12 :: c13 :: c14 :: c15 :: c16 :: c17 :: c18 :: c19 :: c20 :: c21 :: c22 :: c23 :: c24 :: Y 8 :: Y 0 :: Y 1 :: Y 2 :: Y 3 :: Y 4 :: Y 5 :: Y 6 :: Y 7 :: Y 9 :: Y 10 :: c36 :: c37 :: c38 :: c39 :: c40 :: c41 :: c42 :: c43 :: c44 :: c45 :: c46 :: c47 :: c48 :: c49 :: c50 :: c51 :: c52 :: c53 :: c54 :: c55 :: c56 :: c57 :: c58 :: c59 :: c60 :: c61 :: c62 :: c63 :: c64 :: c65 :: c66 :: c67 :: c68 :: c69 :: c70 :: c71 :: c72 :: c73 :: c74 :: c75 :: c76 :: c77 :: c78 :: c79 :: c80 :: c81 :: c82 :: c83 :: c84 :: c85 :: c86 :: c87 :: c88 :: c89 :: c90 :: c91 :: c92 :: c93 :: c94 :: c95 :: c96 :: c97 :: c98 :: c99 :: c100 :: c101 :: c102 :: c103 :: c104 :: c105 :: c106 :: c107 :: c108 :: c109 :: c110 :: c111 :: c112 :: c113 :: c114 :: c115 :: []), []⟩ W
    rw [hp, dE]
    exact HEX.out W p u Y hb hpw hrow hu

def vfuBC (pb qb qoff k pn pc il ic gn gc fn fc : Nat) (IA GA FA : Option Addr) (mn : Int) : Nat → Value
  | 0 => .pointer (some ⟨pb, 0, none⟩)
  | 1 => .slice (some ⟨qb, qoff, none⟩) pn pc
  | 2 => .int .i64 (k : Nat)
  | 3 => .pointer (some ⟨qb, qoff + k * 3, none⟩)
  | 4 => .agg #[.slice GA gn gc, .slice FA fn fc, .int .i64 mn]
  | 5 => .pointer (some ⟨pb, 1, none⟩)
  | 6 => .slice IA il ic
  | _ => undef
noncomputable def vfuBR : Code := (regsOf (Try.f3.body.getD .skip)).getD 6 .skip
set_option maxRecDepth 100000 in
set_option maxHeartbeats 8000000 in
theorem vfuB_region (pb qb qoff k pn pc il ic gn gc fn fc : Nat) (IA GA FA : Option Addr) (mn : Int) (fu af : Int) (w : World) (o : OutS) (er : Int) 
    (hbox : Row w pb #[.slice (some ⟨qb, qoff, none⟩) pn pc, .slice IA il ic, .int .i64 af] 25) (hqb : qb < w.heap.size) (hk : k < pn)
    (g0 : w.cell? ⟨qb, qoff + k * 3, none⟩ = some (.slice GA gn gc)) (g1 : w.cell? ⟨qb, qoff + k * 3 + 1, none⟩ = some (.slice FA fn fc)) (g2 : w.cell? ⟨qb, qoff + k * 3 + 2, none⟩ = some (.int .i64 mn))
    (hrun : ∀ W, Below w.heap.size w W → Calls Try.prog 5 #[.agg #[.slice GA gn gc, .slice FA fn fc, .int .i64 mn], .slice IA il ic, .int .i64 (3000)] W fun e w' => RanG o er W e w')
    (c0 c2 c4 c5 c6 c7 c8 c9 c10 c11 c12 c13 c14 c15 c16 c17 c18 c19 c20 c21 c22 c23 c24 c25 c26 c27 c28 c29 c30 c31 c32 c33 c34 c35 c36 c37 c38 c39 c40 c41 c42 c43 c44 c45 c46 c47 c48 c49 c50 c51 c52 c53 c54 c55 c56 c57 c58 c59 c60 c61 c62 c63 c64 c65 c66 c67 c68 c69 c70 c71 c72 c73 c74 c75 c76 c77 c78 c79 c80 c81 c82 c83 c84 c85 c86 c87 c88 c89 c90 c91 c92 c93 c94 c95 c96 c97 c98 c99 c100 c101 c102 c103 c104 c105 c106 c107 c108 c109 c110 c111 c112 c113 c114 c115 : Value) (Q : Exit → Act → World → Prop)
    (hexit : ∀ (W : World) (p' : Nat) (u : Value) (Y : Nat → Value), Below w.heap.size w W → w.heap.size ≤ p' → Row W p' #[.int .i64 o.kind, .int .i64 o.code, u, .int .i64 o.steps, .int .i64 o.deep] 28 → W.ownsRow w.heap.size 2 1 u o.out.length (o.out.map (Value.int .i64)) →
      Q .normal ⟨List.toArray (c0 :: (Value.pointer (some ⟨pb, 0, none⟩)) :: c2 :: (Value.int .i64 (k : Nat)) :: c4 :: c5 :: (Value.pointer (some ⟨p', 0, none⟩)) :: (Value.int .i64 er) :: c8 :: c9 :: c10 :: c11 :: c12 :: c13 :: c14 :: c15 :: c16 :: c17 :: c18 :: c19 :: c20 :: c21 :: c22 :: c23 :: c24 :: c25 :: c26 :: c27 :: c28 :: c29 :: c30 :: c31 :: c32 :: c33 :: c34 :: c35 :: Y 8 :: Y 0 :: Y 1 :: Y 2 :: Y 3 :: Y 4 :: Y 5 :: Y 6 :: Y 7 :: Y 9 :: Y 10 :: c47 :: c48 :: c49 :: c50 :: c51 :: c52 :: c53 :: c54 :: c55 :: c56 :: c57 :: c58 :: c59 :: c60 :: c61 :: c62 :: c63 :: c64 :: c65 :: c66 :: c67 :: c68 :: c69 :: c70 :: c71 :: c72 :: c73 :: c74 :: c75 :: c76 :: c77 :: c78 :: c79 :: c80 :: c81 :: c82 :: c83 :: c84 :: c85 :: c86 :: c87 :: c88 :: c89 :: c90 :: c91 :: c92 :: c93 :: c94 :: c95 :: c96 :: c97 :: c98 :: c99 :: c100 :: c101 :: c102 :: c103 :: c104 :: c105 :: c106 :: c107 :: c108 :: c109 :: c110 :: c111 :: c112 :: c113 :: c114 :: c115 :: []), []⟩ W) :
    Code.wp Try.prog vfuBR Q ⟨List.toArray (c0 :: (Value.pointer (some ⟨pb, 0, none⟩)) :: c2 :: (Value.int .i64 (k : Nat)) :: c4 :: c5 :: c6 :: c7 :: c8 :: c9 :: c10 :: c11 :: c12 :: c13 :: c14 :: c15 :: c16 :: c17 :: c18 :: c19 :: c20 :: c21 :: c22 :: c23 :: c24 :: c25 :: c26 :: c27 :: c28 :: c29 :: c30 :: c31 :: c32 :: c33 :: c34 :: c35 :: c36 :: c37 :: c38 :: c39 :: c40 :: c41 :: c42 :: c43 :: c44 :: c45 :: c46 :: c47 :: c48 :: c49 :: c50 :: c51 :: c52 :: c53 :: c54 :: c55 :: c56 :: c57 :: c58 :: c59 :: c60 :: c61 :: c62 :: c63 :: c64 :: c65 :: c66 :: c67 :: c68 :: c69 :: c70 :: c71 :: c72 :: c73 :: c74 :: c75 :: c76 :: c77 :: c78 :: c79 :: c80 :: c81 :: c82 :: c83 :: c84 :: c85 :: c86 :: c87 :: c88 :: c89 :: c90 :: c91 :: c92 :: c93 :: c94 :: c95 :: c96 :: c97 :: c98 :: c99 :: c100 :: c101 :: c102 :: c103 :: c104 :: c105 :: c106 :: c107 :: c108 :: c109 :: c110 :: c111 :: c112 :: c113 :: c114 :: c115 :: []), []⟩ w := by
  have hk0 : (0 : Int) ≤ (k : Int) := by omega
  have hk1 : (k : Int) < (pn : Int) := by omega
  have HBOX := Lib.hid hbox
  have HQB := Lib.hid hqb
  have HG0 := Lib.hid g0
  have HG1 := Lib.hid g1
  have HG2 := Lib.hid g2
  have HRUN := Lib.hid hrun
  clear hbox hqb g0 g1 g2 hrun
  have HEX := Lib.hid hexit
  clear hexit
  conv => arg 2; whnf
  refine region_box (by kernel_rfl) 11 12 9 5 28 aggOf (RunCl 2 w.heap.size 7 (vfuBC pb qb qoff k pn pc il ic gn gc fn fc IA GA FA mn) o er) (RunOff 7 o er) (fun Y => ⟨List.toArray (c0 :: (Value.pointer (some ⟨pb, 0, none⟩)) :: c2 :: (Value.int .i64 (k : Nat)) :: c4 :: c5 :: Y 11 :: Y 13 :: c8 :: c9 :: c10 :: c11 :: c12 :: c13 :: c14 :: c15 :: c16 :: c17 :: c18 :: c19 :: c20 :: c21 :: c22 :: c23 :: c24 :: c25 :: c26 :: c27 :: c28 :: c29 :: c30 :: c31 :: c32 :: c33 :: c34 :: c35 :: Y 8 :: Y 0 :: Y 1 :: Y 2 :: Y 3 :: Y 4 :: Y 5 :: Y 6 :: Y 7 :: Y 9 :: Y 10 :: c47 :: c48 :: c49 :: c50 :: c51 :: c52 :: c53 :: c54 :: c55 :: c56 :: c57 :: c58 :: c59 :: c60 :: c61 :: c62 :: c63 :: c64 :: c65 :: c66 :: c67 :: c68 :: c69 :: c70 :: c71 :: c72 :: c73 :: c74 :: c75 :: c76 :: c77 :: c78 :: c79 :: c80 :: c81 :: c82 :: c83 :: c84 :: c85 :: c86 :: c87 :: c88 :: c89 :: c90 :: c91 :: c92 :: c93 :: c94 :: c95 :: c96 :: c97 :: c98 :: c99 :: c100 :: c101 :: c102 :: c103 :: c104 :: c105 :: c106 :: c107 :: c108 :: c109 :: c110 :: c111 :: c112 :: c113 :: c114 :: c115 :: []), []⟩) (fun i => if i = 0 then c37 else if i = 1 then c38 else if i = 2 then c39 else if i = 3 then c40 else if i = 4 then c41 else if i = 5 then c42 else if i = 6 then c43 else if i = 7 then c44 else if i = 8 then c36 else if i = 9 then c45 else if i = 10 then c46 else if i = 11 then c6 else if i = 13 then c7 else undef) rfl (by kernel_rfl) (by simp) (by simp) (by decide) (by decide) (by decide) ?_ (fun _ _ _ _ hb h => h.below hb) (fun W W' i v p _ hw hoff h => h.wr hw (fun g hg u => by subst hg; exact ⟨fun hi e => hoff.1 hi u e, fun hi e => hoff.2 hi u e⟩)) (fun W i v _ h => h.fresh) ?_ ?_ ?_ ?_
  · intro o' ho
    simp at ho; subst ho
    exact ⟨⟨{ on := 11, ground := Ground.data }, by simp, rfl, rfl⟩, ⟨{ on := 9, ground := Ground.data }, by simp, rfl, rfl⟩⟩
  · intro i o' Y W h1 h2 ho hb hall K hK
    have HW := Lib.hid hb
    clear hb
    rcases i with _ | _ | _ | _ | _ | _ | _ | _ | _ | _ | _ | _ | _ | _ | i
    · simp at ho; subst ho
      clear hall
      refine wpOp_plain rfl rfl (fun K' hK' => ?_)
      go_simp
      have hh := hK' _ _ (hK _ _ (Below.refl _ _) (RunCl.const (by decide)) (fun p _ _ _ => RunOff.const (by decide) p))
      simpa [upd, vfuBC] using hh
    · simp at ho; subst ho
      have d0 : Y 0 = _ := (hall { on := 0, ground := Ground.data } (by simp) rfl (by decide) (by decide)).c (by decide)
      simp only [vfuBC] at d0
      have q0 := cell_below (HBOX.out.cell (j := 0) rfl) HW.out HBOX.out.lt
      clear hall
      refine wpOp_plain rfl rfl (fun K' hK' => ?_)
      go_simp
      have hh := hK' _ _ (hK _ _ (Below.refl _ _) (RunCl.const (by decide)) (fun p _ _ _ => RunOff.const (by decide) p))
      simpa [upd, vfuBC, d0] using hh
    · simp at ho; subst ho
      clear hall
      refine wpOp_plain rfl rfl (fun K' hK' => ?_)
      go_simp
      have hh := hK' _ _ (hK _ _ (Below.refl _ _) (RunCl.const (by decide)) (fun p _ _ _ => RunOff.const (by decide) p))
      simpa [upd, vfuBC] using hh
    · simp at ho; subst ho
      have d1 : Y 1 = _ := (hall { on := 1, ground := Ground.data } (by simp) rfl (by decide) (by decide)).c (by decide)
      have d2 : Y 2 = _ := (hall { on := 2, ground := Ground.data } (by simp) rfl (by decide) (by decide)).c (by decide)
      simp only [vfuBC] at d1 d2
      clear hall
      refine wpOp_plain rfl rfl (fun K' hK' => ?_)
      go_simp
      have hh := hK' _ _ (hK _ _ (Below.refl _ _) (RunCl.const (by decide)) (fun p _ _ _ => RunOff.const (by decide) p))
      simpa [upd, vfuBC, d1, d2] using hh
    · simp at ho; subst ho
      have d3 : Y 3 = _ := (hall { on := 3, ground := Ground.data } (by simp) rfl (by decide) (by decide)).c (by decide)
      simp only [vfuBC] at d3
      have q0 := cell_below HG0.out HW.out HQB.out
      have q1 := cell_below HG1.out HW.out HQB.out
      have q2 := cell_below HG2.out HW.out HQB.out
      clear hall
      refine wpOp_plain rfl rfl (fun K' hK' => ?_)
      go_simp
      have hh := hK' _ _ (hK _ _ (Below.refl _ _) (RunCl.const (by decide)) (fun p _ _ _ => RunOff.const (by decide) p))
      simpa [upd, vfuBC, d3] using hh
    · simp at ho; subst ho
      clear hall
      refine wpOp_plain rfl rfl (fun K' hK' => ?_)
      go_simp
      have hh := hK' _ _ (hK _ _ (Below.refl _ _) (RunCl.const (by decide)) (fun p _ _ _ => RunOff.const (by decide) p))
      simpa [upd, vfuBC] using hh
    · simp at ho; subst ho
      have d5 : Y 5 = _ := (hall { on := 5, ground := Ground.data } (by simp) rfl (by decide) (by decide)).c (by decide)
      simp only [vfuBC] at d5
      have q0 := cell_below (HBOX.out.cell (j := 1) rfl) HW.out HBOX.out.lt
      clear hall
      refine wpOp_plain rfl rfl (fun K' hK' => ?_)
      go_simp
      have hh := hK' _ _ (hK _ _ (Below.refl _ _) (RunCl.const (by decide)) (fun p _ _ _ => RunOff.const (by decide) p))
      simpa [upd, vfuBC, d5] using hh
    · simp at ho; subst ho
      have d4 : Y 4 = _ := (hall { on := 4, ground := Ground.data } (by simp) rfl (by decide) (by decide)).c (by decide)
      have d6 : Y 6 = _ := (hall { on := 6, ground := Ground.data } (by simp) rfl (by decide) (by decide)).c (by decide)
      simp only [vfuBC] at d4 d6
      clear hall
      refine wpOp_plain rfl rfl (fun K' hK' => ?_)
      go_simp
      refine (HRUN.out W HW.out).mono ?_
      rintro e W5 ⟨u, rfl, hu, hb5⟩
      go_simp
      have hh := hK' _ _ (hK (outT o er u) W5 hb5 (RunCl.call (Or.inl rfl) (ownsRow_base hu HW.out.size)) (fun p _ hp _ => RunOff.call (Or.inl rfl) (fun h => by have := (hu.lt _ h).1; omega)))
      simpa [upd, outT, outA, d4, d6] using hh
    · simp at ho; subst ho
      obtain ⟨u, dT, hu⟩ := (hall { on := 7, ground := Ground.data } (by simp) rfl (by decide) (by decide)).t (Or.inl rfl)
      clear hall
      refine wpOp_plain rfl rfl (fun K' hK' => ?_)
      go_simp
      have hh := hK' _ _ (hK (outT o er u) _ (Below.refl _ _) (RunCl.call (Or.inr rfl) hu) (fun p _ _ hoff => RunOff.call (Or.inr rfl) ((hoff { on := 7, ground := Ground.data } (by simp) rfl (by decide) (by decide)).1 (Or.inl rfl) u dT)))
      simpa [upd, outT, outA, dT] using hh
    · simp at ho; subst ho
      obtain ⟨u, dT, hu⟩ := (hall { on := 8, ground := Ground.data } (by simp) rfl (by decide) (by decide)).t (Or.inr rfl)
      clear hall
      refine wpOp_plain rfl rfl (fun K' hK' => ?_)
      simp only [outT, outA] at dT
      go_simp
      have hh := hK' _ _ (hK (outA o u) _ (Below.refl _ _) (RunCl.part rfl hu) (fun p _ _ hoff => RunOff.part rfl ((hoff { on := 8, ground := Ground.data } (by simp) rfl (by decide) (by decide)).1 (Or.inr rfl) u dT)))
      simpa [upd, outT, outA, dT] using hh
    · simp at ho; subst ho
      obtain ⟨u, dT, hu⟩ := (hall { on := 8, ground := Ground.data } (by simp) rfl (by decide) (by decide)).t (Or.inr rfl)
      clear hall
      refine wpOp_plain rfl rfl (fun K' hK' => ?_)
      simp only [outT, outA] at dT
      go_simp
      have hh := hK' _ _ (hK (.int .i64 er) _ (Below.refl _ _) (RunCl.err (Or.inl rfl)) (fun p _ _ _ => RunOff.err (Or.inl rfl) p))
      simpa [upd, outT, outA, dT] using hh
    · exact absurd rfl h1
    · exact absurd rfl h2
    · simp at ho; subst ho
      have dE := (hall { on := 10, ground := Ground.data } (by simp) rfl (by decide) (by decide)).e (Or.inl rfl)
      clear hall
      refine wpOp_plain rfl rfl (fun K' hK' => ?_)
      go_simp
      have hh := hK' _ _ (hK (.int .i64 er) _ (Below.refl _ _) (RunCl.err (Or.inr rfl)) (fun p _ _ _ => RunOff.err (Or.inr rfl) p))
      simpa [upd, dE] using hh
    · simp at ho
  · intro o' Y W ho hb K hK
    simp at ho; subst ho
    clear hb
    refine wpOp_plain rfl rfl (fun K' hK' => ?_)
    go_simp
    have hh := hK' _ _ (hK #[.int .i64 0, .int .i64 0, .slice none 0 0, .int .i64 0, .int .i64 0] rfl)
    simpa [upd] using hh
  · intro o' Y W p cs ho hp hrow hcs hcl K hK
    simp at ho; subst ho
    obtain ⟨u, dA, hu⟩ := hcl.a rfl
    obtain ⟨UA, uc, rfl⟩ := slice_of_own hu
    obtain ⟨e0, e1, e2, e3, e4, rfl⟩ := size5 hcs
    have q0 := hrow.cell (j := 0) rfl
    have q1 := hrow.cell (j := 1) rfl
    have q2 := hrow.cell (j := 2) rfl
    have q3 := hrow.cell (j := 3) rfl
    have q4 := hrow.cell (j := 4) rfl
    have k0 := hrow.free 0
    have k1 := hrow.free 1
    have k2 := hrow.free 2
    have k3 := hrow.free 3
    have k4 := hrow.free 4
    have HROW := Lib.hid hrow
    clear hrow hcs hcl
    simp only [outA] at dA
    refine wpOp_plain rfl rfl (fun K' hK' => ?_)
    go_simp
    have hh := hK' _ _ (hK _ undef (((((((Wr.refl (fun i => i = p) W).setR p _ _ (Or.inl rfl)).setR p _ _ (Or.inl rfl)).setR p _ _ (Or.inl rfl)).setR p _ _ (Or.inl rfl)).setR p _ _ (Or.inl rfl))) (by rw [dA]; exact (((((HROW.out.set 0 _).set 1 _).set 2 _).set 3 _).set 4 _)) (by rw [dA]; rfl))
    simpa [upd, hp, dA] using hh
  · intro Y W p hb hpw hp hrow hall
    obtain ⟨u, dA, hu⟩ := (hall 9 (by simp) (by decide) (by decide)).1.a rfl
    have dE := (hall 13 (by simp) (by decide) (by decide)).1.e (Or.inr rfl)
    rw [dA] at hrow
    show Q .normal ⟨List.toArray (c0 :: (Value.pointer (some ⟨pb, 0, none⟩)) :: c2 :: (Value.int .i64 (k : Nat)) :: c4 :: c5 :: Y 11 :: Y 13 :: c8 :: c9 :: c10 :: c11 :: c12 :: c13 :: c14 :: c15 :: c16 :: c17 :: c18 :: c19 :: c20 :: c21 :: c22 :: c23 :: c24 :: c25 :: c26 :: c27 :: c28 :: c29 :: c30 :: c31 :: c32 :: c33 :: c34 :: c35 :: Y 8 :: Y 0 :: Y 1 :: Y 2 :: Y 3 :: Y 4 :: Y 5 :: Y 6 :: Y 7 :: Y 9 :: Y 10 :: c47 :: c48 :: c49 :: c50 :: c51 :: c52 :: c53 :: c54 :: c55 :: c56 :: c57 :: c58 :: c59 :: c60 :: c61 :: c62 :: c63 :: c64 :: c65 :: c66 :: c67 :: c68 :: c69 :: c70 :: c71 :: c72 :: c73 :: c74 :: c75 :: c76 :: c77 :: c78 :: c79 :: c80 :: c81 :: c82 :: c83 :: c84 :: c85 :: c86 :: c87 :: c88 :: c89 :: c90 :: c91 :: c92 :: c93 :: c94 :: c95 :: c96 :: c97 :: c98 :: c99 :: c100 :: c101 :: c102 :: c103 :: c104 :: c105 :: c106 :: c107 :: c108 :: c109 :: c110 :: c111 :: c112 :: c113 :: c114 :: c115 :: []), []⟩ W
    rw [hp, dE]
    exact HEX.out W p u Y hb hpw hrow hu

def vfuCC (pb qb qoff k pn pc il ic gn gc fn fc : Nat) (IA GA FA : Option Addr) (mn : Int) (ab : Nat) (st : Int) : Nat → Value
  | 0 => .pointer (some ⟨pb, 0, none⟩)
  | 1 => .slice (some ⟨qb, qoff, none⟩) pn pc
  | 2 => .int .i64 (k : Nat)
  | 3 => .pointer (some ⟨qb, qoff + k * 3, none⟩)
  | 4 => .agg #[.slice GA gn gc, .slice FA fn fc, .int .i64 mn]
  | 5 => .pointer (some ⟨pb, 1, none⟩)
  | 6 => .slice IA il ic
  | 7 => .pointer (some ⟨ab, 3, none⟩)
  | 8 => .int .i64 st
  | _ => undef
noncomputable def vfuCR : Code := (regsOf (Try.f3.body.getD .skip)).getD 10 .skip
set_option maxRecDepth 100000 in
set_option maxHeartbeats 8000000 in
theorem vfuC_region (pb qb qoff k pn pc il ic gn gc fn fc : Nat) (IA GA FA : Option Addr) (mn : Int) (ab : Nat) (st : Int) (fu af : Int) (w : World) (o : OutS) (er : Int) (a0 a1 a2 a4 : Value) (hab : Row w ab #[a0, a1, a2, .int .i64 st, a4] 28)
    (hbox : Row w pb #[.slice (some ⟨qb, qoff, none⟩) pn pc, .slice IA il ic, .int .i64 af] 25) (hqb : qb < w.heap.size) (hk : k < pn)
    (g0 : w.cell? ⟨qb, qoff + k * 3, none⟩ = some (.slice GA gn gc)) (g1 : w.cell? ⟨qb, qoff + k * 3 + 1, none⟩ = some (.slice FA fn fc)) (g2 : w.cell? ⟨qb, qoff + k * 3 + 2, none⟩ = some (.int .i64 mn))
    (hrun : ∀ W, Below w.heap.size w W → Calls Try.prog 5 #[.agg #[.slice GA gn gc, .slice FA fn fc, .int .i64 mn], .slice IA il ic, .int .i64 (st)] W fun e w' => RanG o er W e w')
    (c0 c2 c5 c6 c7 c8 c9 c10 c11 c12 c13 c14 c15 c16 c17 c18 c19 c20 c21 c22 c23 c24 c25 c26 c27 c28 c29 c30 c31 c32 c33 c34 c35 c36 c37 c38 c39 c40 c41 c42 c43 c44 c45 c46 c47 c48 c49 c50 c51 c52 c53 c54 c55 c56 c57 c58 c59 c60 c61 c62 c63 c64 c65 c66 c67 c68 c69 c70 c71 c72 c73 c74 c75 c76 c77 c78 c79 c80 c81 c82 c83 c84 c85 c86 c87 c88 c89 c90 c91 c92 c93 c94 c95 c96 c97 c98 c99 c100 c101 c102 c103 c104 c105 c106 c107 c108 c109 c110 c111 c112 c113 c114 c115 : Value) (Q : Exit → Act → World → Prop)
    (hexit : ∀ (W : World) (p' : Nat) (u : Value) (Y : Nat → Value), Below w.heap.size w W → w.heap.size ≤ p' → Row W p' #[.int .i64 o.kind, .int .i64 o.code, u, .int .i64 o.steps, .int .i64 o.deep] 28 → W.ownsRow w.heap.size 2 1 u o.out.length (o.out.map (Value.int .i64)) →
      Q .normal ⟨List.toArray (c0 :: (Value.pointer (some ⟨pb, 0, none⟩)) :: c2 :: (Value.int .i64 (k : Nat)) :: (Value.pointer (some ⟨ab, 0, none⟩)) :: c5 :: c6 :: c7 :: (Value.pointer (some ⟨p', 0, none⟩)) :: (Value.int .i64 er) :: c10 :: c11 :: c12 :: c13 :: c14 :: c15 :: c16 :: c17 :: c18 :: c19 :: c20 :: c21 :: c22 :: c23 :: c24 :: c25 :: c26 :: c27 :: c28 :: c29 :: c30 :: c31 :: c32 :: c33 :: c34 :: c35 :: c36 :: c37 :: c38 :: c39 :: c40 :: c41 :: c42 :: c43 :: c44 :: c45 :: c46 :: c47 :: c48 :: c49 :: c50 :: c51 :: c52 :: c53 :: c54 :: c55 :: c56 :: c57 :: c58 :: c59 :: c60 :: c61 :: c62 :: c63 :: c64 :: c65 :: Y 10 :: Y 0 :: Y 1 :: Y 2 :: Y 3 :: Y 4 :: Y 5 :: Y 6 :: Y 7 :: Y 8 :: Y 9 :: Y 11 :: Y 12 :: c79 :: c80 :: c81 :: c82 :: c83 :: c84 :: c85 :: c86 :: c87 :: c88 :: c89 :: c90 :: c91 :: c92 :: c93 :: c94 :: c95 :: c96 :: c97 :: c98 :: c99 :: c100 :: c101 :: c102 :: c103 :: c104 :: c105 :: c106 :: c107 :: c108 :: c109 :: c110 :: c111 :: c112 :: c113 :: c114 :: c115 :: []), []⟩ W) :
    Code.wp Try.prog vfuCR Q ⟨List.toArray (c0 :: (Value.pointer (some ⟨pb, 0, none⟩)) :: c2 :: (Value.int .i64 (k : Nat)) :: (Value.pointer (some ⟨ab, 0, none⟩)) :: c5 :: c6 :: c7 :: c8 :: c9 :: c10 :: c11 :: c12 :: c13 :: c14 :: c15 :: c16 :: c17 :: c18 :: c19 :: c20 :: c21 :: c22 :: c23 :: c24 :: c25 :: c26 :: c27 :: c28 :: c29 :: c30 :: c31 :: c32 :: c33 :: c34 :: c35 :: c36 :: c37 :: c38 :: c39 :: c40 :: c41 :: c42 :: c43 :: c44 :: c45 :: c46 :: c47 :: c48 :: c49 :: c50 :: c51 :: c52 :: c53 :: c54 :: c55 :: c56 :: c57 :: c58 :: c59 :: c60 :: c61 :: c62 :: c63 :: c64 :: c65 :: c66 :: c67 :: c68 :: c69 :: c70 :: c71 :: c72 :: c73 :: c74 :: c75 :: c76 :: c77 :: c78 :: c79 :: c80 :: c81 :: c82 :: c83 :: c84 :: c85 :: c86 :: c87 :: c88 :: c89 :: c90 :: c91 :: c92 :: c93 :: c94 :: c95 :: c96 :: c97 :: c98 :: c99 :: c100 :: c101 :: c102 :: c103 :: c104 :: c105 :: c106 :: c107 :: c108 :: c109 :: c110 :: c111 :: c112 :: c113 :: c114 :: c115 :: []), []⟩ w := by
  have hk0 : (0 : Int) ≤ (k : Int) := by omega
  have hk1 : (k : Int) < (pn : Int) := by omega
  have HBOX := Lib.hid hbox
  have HQB := Lib.hid hqb
  have HG0 := Lib.hid g0
  have HG1 := Lib.hid g1
  have HG2 := Lib.hid g2
  have HRUN := Lib.hid hrun
  clear hbox hqb g0 g1 g2 hrun
  have HAB := Lib.hid hab
  clear hab
  have HEX := Lib.hid hexit
  clear hexit
  conv => arg 2; whnf
  refine region_box (by kernel_rfl) 13 14 11 5 28 aggOf (RunCl 2 w.heap.size 9 (vfuCC pb qb qoff k pn pc il ic gn gc fn fc IA GA FA mn ab st) o er) (RunOff 9 o er) (fun Y => ⟨List.toArray (c0 :: (Value.pointer (some ⟨pb, 0, none⟩)) :: c2 :: (Value.int .i64 (k : Nat)) :: (Value.pointer (some ⟨ab, 0, none⟩)) :: c5 :: c6 :: c7 :: Y 13 :: Y 15 :: c10 :: c11 :: c12 :: c13 :: c14 :: c15 :: c16 :: c17 :: c18 :: c19 :: c20 :: c21 :: c22 :: c23 :: c24 :: c25 :: c26 :: c27 :: c28 :: c29 :: c30 :: c31 :: c32 :: c33 :: c34 :: c35 :: c36 :: c37 :: c38 :: c39 :: c40 :: c41 :: c42 :: c43 :: c44 :: c45 :: c46 :: c47 :: c48 :: c49 :: c50 :: c51 :: c52 :: c53 :: c54 :: c55 :: c56 :: c57 :: c58 :: c59 :: c60 :: c61 :: c62 :: c63 :: c64 :: c65 :: Y 10 :: Y 0 :: Y 1 :: Y 2 :: Y 3 :: Y 4 :: Y 5 :: Y 6 :: Y 7 :: Y 8 :: Y 9 :: Y 11 :: Y 12 :: c79 :: c80 :: c81 :: c82 :: c83 :: c84 :: c85 :: c86 :: c87 :: c88 :: c89 :: c90 :: c91 :: c92 :: c93 :: c94 :: c95 :: c96 :: c97 :: c98 :: c99 :: c100 :: c101 :: c102 :: c103 :: c104 :: c105 :: c106 :: c107 :: c108 :: c109 :: c110 :: c111 :: c112 :: c113 :: c114 :: c115 :: []), []⟩) (fun i => if i = 0 then c67 else if i = 1 then c68 else if i = 2 then c69 else if i = 3 then c70 else if i = 4 then c71 else if i = 5 then c72 else if i = 6 then c73 else if i = 7 then c74 else if i = 8 then c75 else if i = 9 then c76 else if i = 10 then c66 else if i = 11 then c77 else if i = 12 then c78 else if i = 13 then c8 else if i = 15 then c9 else undef) rfl (by kernel_rfl) (by simp) (by simp) (by decide) (by decide) (by decide) ?_ (fun _ _ _ _ hb h => h.below hb) (fun W W' i v p _ hw hoff h => h.wr hw (fun g hg u => by subst hg; exact ⟨fun hi e => hoff.1 hi u e, fun hi e => hoff.2 hi u e⟩)) (fun W i v _ h => h.fresh) ?_ ?_ ?_ ?_
  · intro o' ho
    simp at ho; subst ho
    exact ⟨⟨{ on := 13, ground := Ground.data }, by simp, rfl, rfl⟩, ⟨{ on := 11, ground := Ground.data }, by simp, rfl, rfl⟩⟩
  · intro i o' Y W h1 h2 ho hb hall K hK
    have HW := Lib.hid hb
    clear hb
    rcases i with _ | _ | _ | _ | _ | _ | _ | _ | _ | _ | _ | _ | _ | _ | _ | _ | i
    · simp at ho; subst ho
      clear hall
      refine wpOp_plain rfl rfl (fun K' hK' => ?_)
      go_simp
      have hh := hK' _ _ (hK _ _ (Below.refl _ _) (RunCl.const (by decide)) (fun p _ _ _ => RunOff.const (by decide) p))
      simpa [upd, vfuCC] using hh
    · simp at ho; subst ho
      have d0 : Y 0 = _ := (hall { on := 0, ground := Ground.data } (by simp) rfl (by decide) (by decide)).c (by decide)
      simp only [vfuCC] at d0
      have q0 := cell_below (HBOX.out.cell (j := 0) rfl) HW.out HBOX.out.lt
      clear hall
      refine wpOp_plain rfl rfl (fun K' hK' => ?_)
      go_simp
      have hh := hK' _ _ (hK _ _ (Below.refl _ _) (RunCl.const (by decide)) (fun p _ _ _ => RunOff.const (by decide) p))
      simpa [upd, vfuCC, d0] using hh
    · simp at ho; subst ho
      clear hall
      refine wpOp_plain rfl rfl (fun K' hK' => ?_)
      go_simp
      have hh := hK' _ _ (hK _ _ (Below.refl _ _) (RunCl.const (by decide)) (fun p _ _ _ => RunOff.const (by decide) p))
      simpa [upd, vfuCC] using hh
    · simp at ho; subst ho
      have d1 : Y 1 = _ := (hall { on := 1, ground := Ground.data } (by simp) rfl (by decide) (by decide)).c (by decide)
      have d2 : Y 2 = _ := (hall { on := 2, ground := Ground.data } (by simp) rfl (by decide) (by decide)).c (by decide)
      simp only [vfuCC] at d1 d2
      clear hall
      refine wpOp_plain rfl rfl (fun K' hK' => ?_)
      go_simp
      have hh := hK' _ _ (hK _ _ (Below.refl _ _) (RunCl.const (by decide)) (fun p _ _ _ => RunOff.const (by decide) p))
      simpa [upd, vfuCC, d1, d2] using hh
    · simp at ho; subst ho
      have d3 : Y 3 = _ := (hall { on := 3, ground := Ground.data } (by simp) rfl (by decide) (by decide)).c (by decide)
      simp only [vfuCC] at d3
      have q0 := cell_below HG0.out HW.out HQB.out
      have q1 := cell_below HG1.out HW.out HQB.out
      have q2 := cell_below HG2.out HW.out HQB.out
      clear hall
      refine wpOp_plain rfl rfl (fun K' hK' => ?_)
      go_simp
      have hh := hK' _ _ (hK _ _ (Below.refl _ _) (RunCl.const (by decide)) (fun p _ _ _ => RunOff.const (by decide) p))
      simpa [upd, vfuCC, d3] using hh
    · simp at ho; subst ho
      clear hall
      refine wpOp_plain rfl rfl (fun K' hK' => ?_)
      go_simp
      have hh := hK' _ _ (hK _ _ (Below.refl _ _) (RunCl.const (by decide)) (fun p _ _ _ => RunOff.const (by decide) p))
      simpa [upd, vfuCC] using hh
    · simp at ho; subst ho
      have d5 : Y 5 = _ := (hall { on := 5, ground := Ground.data } (by simp) rfl (by decide) (by decide)).c (by decide)
      simp only [vfuCC] at d5
      have q0 := cell_below (HBOX.out.cell (j := 1) rfl) HW.out HBOX.out.lt
      clear hall
      refine wpOp_plain rfl rfl (fun K' hK' => ?_)
      go_simp
      have hh := hK' _ _ (hK _ _ (Below.refl _ _) (RunCl.const (by decide)) (fun p _ _ _ => RunOff.const (by decide) p))
      simpa [upd, vfuCC, d5] using hh
    · simp at ho; subst ho
      clear hall
      refine wpOp_plain rfl rfl (fun K' hK' => ?_)
      go_simp
      have hh := hK' _ _ (hK _ _ (Below.refl _ _) (RunCl.const (by decide)) (fun p _ _ _ => RunOff.const (by decide) p))
      simpa [upd, vfuCC] using hh
    · simp at ho; subst ho
      have d7 : Y 7 = _ := (hall { on := 7, ground := Ground.data } (by simp) rfl (by decide) (by decide)).c (by decide)
      simp only [vfuCC] at d7
      have q0 := cell_below (HAB.out.cell (j := 3) rfl) HW.out HAB.out.lt
      clear hall
      refine wpOp_plain rfl rfl (fun K' hK' => ?_)
      go_simp
      have hh := hK' _ _ (hK _ _ (Below.refl _ _) (RunCl.const (by decide)) (fun p _ _ _ => RunOff.const (by decide) p))
      simpa [upd, vfuCC, d7] using hh
    · simp at ho; subst ho
      have d4 : Y 4 = _ := (hall { on := 4, ground := Ground.data } (by simp) rfl (by decide) (by decide)).c (by decide)
      have d6 : Y 6 = _ := (hall { on := 6, ground := Ground.data } (by simp) rfl (by decide) (by decide)).c (by decide)
      have d8 : Y 8 = _ := (hall { on := 8, ground := Ground.data } (by simp) rfl (by decide) (by decide)).c (by decide)
      simp only [vfuCC] at d4 d6 d8
      clear hall
      refine wpOp_plain rfl rfl (fun K' hK' => ?_)
      go_simp
      refine (HRUN.out W HW.out).mono ?_
      rintro e W5 ⟨u, rfl, hu, hb5⟩
      go_simp
      have hh := hK' _ _ (hK (outT o er u) W5 hb5 (RunCl.call (Or.inl rfl) (ownsRow_base hu HW.out.size)) (fun p _ hp _ => RunOff.call (Or.inl rfl) (fun h => by have := (hu.lt _ h).1; omega)))
      simpa [upd, outT, outA, d4, d6, d8] using hh
    · simp at ho; subst ho
      obtain ⟨u, dT, hu⟩ := (hall { on := 9, ground := Ground.data } (by simp) rfl (by decide) (by decide)).t (Or.inl rfl)
      clear hall
      refine wpOp_plain rfl rfl (fun K' hK' => ?_)
      go_simp
      have hh := hK' _ _ (hK (outT o er u) _ (Below.refl _ _) (RunCl.call (Or.inr rfl) hu) (fun p _ _ hoff => RunOff.call (Or.inr rfl) ((hoff { on := 9, ground := Ground.data } (by simp) rfl (by decide) (by decide)).1 (Or.inl rfl) u dT)))
      simpa [upd, outT, outA, dT] using hh
    · simp at ho; subst ho
      obtain ⟨u, dT, hu⟩ := (hall { on := 10, ground := Ground.data } (by simp) rfl (by decide) (by decide)).t (Or.inr rfl)
      clear hall
      refine wpOp_plain rfl rfl (fun K' hK' => ?_)
      simp only [outT, outA] at dT
      go_simp
      have hh := hK' _ _ (hK (outA o u) _ (Below.refl _ _) (RunCl.part rfl hu) (fun p _ _ hoff => RunOff.part rfl ((hoff { on := 10, ground := Ground.data } (by simp) rfl (by decide) (by decide)).1 (Or.inr rfl) u dT)))
      simpa [upd, outT, outA, dT] using hh
    · simp at ho; subst ho
      obtain ⟨u, dT, hu⟩ := (hall { on := 10, ground := Ground.data } (by simp) rfl (by decide) (by decide)).t (Or.inr rfl)
      clear hall
      refine wpOp_plain rfl rfl (fun K' hK' => ?_)
      simp only [outT, outA] at dT
      go_simp
      have hh := hK' _ _ (hK (.int .i64 er) _ (Below.refl _ _) (RunCl.err (Or.inl rfl)) (fun p _ _ _ => RunOff.err (Or.inl rfl) p))
      simpa [upd, outT, outA, dT] using hh
    · exact absurd rfl h1
    · exact absurd rfl h2
    · simp at ho; subst ho
      have dE := (hall { on := 12, ground := Ground.data } (by simp) rfl (by decide) (by decide)).e (Or.inl rfl)
      clear hall
      refine wpOp_plain rfl rfl (fun K' hK' => ?_)
      go_simp
      have hh := hK' _ _ (hK (.int .i64 er) _ (Below.refl _ _) (RunCl.err (Or.inr rfl)) (fun p _ _ _ => RunOff.err (Or.inr rfl) p))
      simpa [upd, dE] using hh
    · simp at ho
  · intro o' Y W ho hb K hK
    simp at ho; subst ho
    clear hb
    refine wpOp_plain rfl rfl (fun K' hK' => ?_)
    go_simp
    have hh := hK' _ _ (hK #[.int .i64 0, .int .i64 0, .slice none 0 0, .int .i64 0, .int .i64 0] rfl)
    simpa [upd] using hh
  · intro o' Y W p cs ho hp hrow hcs hcl K hK
    simp at ho; subst ho
    obtain ⟨u, dA, hu⟩ := hcl.a rfl
    obtain ⟨UA, uc, rfl⟩ := slice_of_own hu
    obtain ⟨e0, e1, e2, e3, e4, rfl⟩ := size5 hcs
    have q0 := hrow.cell (j := 0) rfl
    have q1 := hrow.cell (j := 1) rfl
    have q2 := hrow.cell (j := 2) rfl
    have q3 := hrow.cell (j := 3) rfl
    have q4 := hrow.cell (j := 4) rfl
    have k0 := hrow.free 0
    have k1 := hrow.free 1
    have k2 := hrow.free 2
    have k3 := hrow.free 3
    have k4 := hrow.free 4
    have HROW := Lib.hid hrow
    clear hrow hcs hcl
    simp only [outA] at dA
    refine wpOp_plain rfl rfl (fun K' hK' => ?_)
    go_simp
    have hh := hK' _ _ (hK _ undef (((((((Wr.refl (fun i => i = p) W).setR p _ _ (Or.inl rfl)).setR p _ _ (Or.inl rfl)).setR p _ _ (Or.inl rfl)).setR p _ _ (Or.inl rfl)).setR p _ _ (Or.inl rfl))) (by rw [dA]; exact (((((HROW.out.set 0 _).set 1 _).set 2 _).set 3 _).set 4 _)) (by rw [dA]; rfl))
    simpa [upd, hp, dA] using hh
  · intro Y W p hb hpw hp hrow hall
    obtain ⟨u, dA, hu⟩ := (hall 11 (by simp) (by decide) (by decide)).1.a rfl
    have dE := (hall 15 (by simp) (by decide) (by decide)).1.e (Or.inr rfl)
    rw [dA] at hrow
    show Q .normal ⟨List.toArray (c0 :: (Value.pointer (some ⟨pb, 0, none⟩)) :: c2 :: (Value.int .i64 (k : Nat)) :: (Value.pointer (some ⟨ab, 0, none⟩)) :: c5 :: c6 :: c7 :: Y 13 :: Y 15 :: c10 :: c11 :: c12 :: c13 :: c14 :: c15 :: c16 :: c17 :: c18 :: c19 :: c20 :: c21 :: c22 :: c23 :: c24 :: c25 :: c26 :: c27 :: c28 :: c29 :: c30 :: c31 :: c32 :: c33 :: c34 :: c35 :: c36 :: c37 :: c38 :: c39 :: c40 :: c41 :: c42 :: c43 :: c44 :: c45 :: c46 :: c47 :: c48 :: c49 :: c50 :: c51 :: c52 :: c53 :: c54 :: c55 :: c56 :: c57 :: c58 :: c59 :: c60 :: c61 :: c62 :: c63 :: c64 :: c65 :: Y 10 :: Y 0 :: Y 1 :: Y 2 :: Y 3 :: Y 4 :: Y 5 :: Y 6 :: Y 7 :: Y 8 :: Y 9 :: Y 11 :: Y 12 :: c79 :: c80 :: c81 :: c82 :: c83 :: c84 :: c85 :: c86 :: c87 :: c88 :: c89 :: c90 :: c91 :: c92 :: c93 :: c94 :: c95 :: c96 :: c97 :: c98 :: c99 :: c100 :: c101 :: c102 :: c103 :: c104 :: c105 :: c106 :: c107 :: c108 :: c109 :: c110 :: c111 :: c112 :: c113 :: c114 :: c115 :: []), []⟩ W
    rw [hp, dE]
    exact HEX.out W p u Y hb hpw hrow hu

def vfuDC (pb qb qoff k pn pc il ic gn gc fn fc : Nat) (IA GA FA : Option Addr) (mn : Int) (ab : Nat) (st : Int) : Nat → Value
  | 0 => .pointer (some ⟨pb, 0, none⟩)
  | 1 => .slice (some ⟨qb, qoff, none⟩) pn pc
  | 2 => .int .i64 (k : Nat)
  | 3 => .pointer (some ⟨qb, qoff + k * 3, none⟩)
  | 4 => .agg #[.slice GA gn gc, .slice FA fn fc, .int .i64 mn]
  | 5 => .pointer (some ⟨pb, 1, none⟩)
  | 6 => .slice IA il ic
  | 7 => .pointer (some ⟨ab, 3, none⟩)
  | 8 => .int .i64 st
  | 9 => .int .i64 (st - 1)
  | _ => undef
noncomputable def vfuDR : Code := (regsOf (Try.f3.body.getD .skip)).getD 13 .skip
set_option maxRecDepth 100000 in
set_option maxHeartbeats 8000000 in
theorem vfuD_region (pb qb qoff k pn pc il ic gn gc fn fc : Nat) (IA GA FA : Option Addr) (mn : Int) (ab : Nat) (st : Int) (fu af : Int) (w : World) (o : OutS) (er : Int) (a0 a1 a2 a4 : Value) (hab : Row w ab #[a0, a1, a2, .int .i64 st, a4] 28) (hst : 1 ≤ st ∧ st ≤ 3000)
    (hbox : Row w pb #[.slice (some ⟨qb, qoff, none⟩) pn pc, .slice IA il ic, .int .i64 af] 25) (hqb : qb < w.heap.size) (hk : k < pn)
    (g0 : w.cell? ⟨qb, qoff + k * 3, none⟩ = some (.slice GA gn gc)) (g1 : w.cell? ⟨qb, qoff + k * 3 + 1, none⟩ = some (.slice FA fn fc)) (g2 : w.cell? ⟨qb, qoff + k * 3 + 2, none⟩ = some (.int .i64 mn))
    (hrun : ∀ W, Below w.heap.size w W → Calls Try.prog 5 #[.agg #[.slice GA gn gc, .slice FA fn fc, .int .i64 mn], .slice IA il ic, .int .i64 (st - 1)] W fun e w' => RanG o er W e w')
    (c0 c2 c5 c6 c7 c8 c9 c10 c11 c12 c13 c14 c15 c16 c17 c18 c19 c20 c21 c22 c23 c24 c25 c26 c27 c28 c29 c30 c31 c32 c33 c34 c35 c36 c37 c38 c39 c40 c41 c42 c43 c44 c45 c46 c47 c48 c49 c50 c51 c52 c53 c54 c55 c56 c57 c58 c59 c60 c61 c62 c63 c64 c65 c66 c67 c68 c69 c70 c71 c72 c73 c74 c75 c76 c77 c78 c79 c80 c81 c82 c83 c84 c85 c86 c87 c88 c89 c90 c91 c92 c93 c94 c95 c96 c97 c98 c99 c100 c101 c102 c103 c104 c105 c106 c107 c108 c109 c110 c111 c112 c113 c114 c115 : Value) (Q : Exit → Act → World → Prop)
    (hexit : ∀ (W : World) (p' : Nat) (u : Value) (Y : Nat → Value), Below w.heap.size w W → w.heap.size ≤ p' → Row W p' #[.int .i64 o.kind, .int .i64 o.code, u, .int .i64 o.steps, .int .i64 o.deep] 28 → W.ownsRow w.heap.size 2 1 u o.out.length (o.out.map (Value.int .i64)) →
      Q .normal ⟨List.toArray (c0 :: (Value.pointer (some ⟨pb, 0, none⟩)) :: c2 :: (Value.int .i64 (k : Nat)) :: (Value.pointer (some ⟨ab, 0, none⟩)) :: c5 :: c6 :: c7 :: c8 :: c9 :: (Value.pointer (some ⟨p', 0, none⟩)) :: (Value.int .i64 er) :: c12 :: c13 :: c14 :: c15 :: c16 :: c17 :: c18 :: c19 :: c20 :: c21 :: c22 :: c23 :: c24 :: c25 :: c26 :: c27 :: c28 :: c29 :: c30 :: c31 :: c32 :: c33 :: c34 :: c35 :: c36 :: c37 :: c38 :: c39 :: c40 :: c41 :: c42 :: c43 :: c44 :: c45 :: c46 :: c47 :: c48 :: c49 :: c50 :: c51 :: c52 :: c53 :: c54 :: c55 :: c56 :: c57 :: c58 :: c59 :: c60 :: c61 :: c62 :: c63 :: c64 :: c65 :: c66 :: c67 :: c68 :: c69 :: c70 :: c71 :: c72 :: c73 :: c74 :: c75 :: c76 :: c77 :: c78 :: c79 :: c80 :: c81 :: c82 :: c83 :: c84 :: c85 :: c86 :: c87 :: c88 :: c89 :: c90 :: c91 :: c92 :: Y 11 :: Y 0 :: Y 1 :: Y 2 :: Y 3 :: Y 4 :: Y 5 :: Y 6 :: Y 7 :: Y 8 :: Y 9 :: Y 10 :: Y 12 :: Y 13 :: c107 :: c108 :: c109 :: c110 :: c111 :: c112 :: c113 :: c114 :: c115 :: []), []⟩ W) :
    Code.wp Try.prog vfuDR Q ⟨List.toArray (c0 :: (Value.pointer (some ⟨pb, 0, none⟩)) :: c2 :: (Value.int .i64 (k : Nat)) :: (Value.pointer (some ⟨ab, 0, none⟩)) :: c5 :: c6 :: c7 :: c8 :: c9 :: c10 :: c11 :: c12 :: c13 :: c14 :: c15 :: c16 :: c17 :: c18 :: c19 :: c20 :: c21 :: c22 :: c23 :: c24 :: c25 :: c26 :: c27 :: c28 :: c29 :: c30 :: c31 :: c32 :: c33 :: c34 :: c35 :: c36 :: c37 :: c38 :: c39 :: c40 :: c41 :: c42 :: c43 :: c44 :: c45 :: c46 :: c47 :: c48 :: c49 :: c50 :: c51 :: c52 :: c53 :: c54 :: c55 :: c56 :: c57 :: c58 :: c59 :: c60 :: c61 :: c62 :: c63 :: c64 :: c65 :: c66 :: c67 :: c68 :: c69 :: c70 :: c71 :: c72 :: c73 :: c74 :: c75 :: c76 :: c77 :: c78 :: c79 :: c80 :: c81 :: c82 :: c83 :: c84 :: c85 :: c86 :: c87 :: c88 :: c89 :: c90 :: c91 :: c92 :: c93 :: c94 :: c95 :: c96 :: c97 :: c98 :: c99 :: c100 :: c101 :: c102 :: c103 :: c104 :: c105 :: c106 :: c107 :: c108 :: c109 :: c110 :: c111 :: c112 :: c113 :: c114 :: c115 :: []), []⟩ w := by
  have hk0 : (0 : Int) ≤ (k : Int) := by omega
  have hk1 : (k : Int) < (pn : Int) := by omega
  have HBOX := Lib.hid hbox
  have HQB := Lib.hid hqb
  have HG0 := Lib.hid g0
  have HG1 := Lib.hid g1
  have HG2 := Lib.hid g2
  have HRUN := Lib.hid hrun
  clear hbox hqb g0 g1 g2 hrun
  have HAB := Lib.hid hab
  clear hab
  have HWR := Lib.hid (show IntKind.i64.wrap (st - 1) = st - 1 from IntWalk.i64_in _ (by omega))
  have HEX := Lib.hid hexit
  clear hexit
  conv => arg 2; whnf
  refine region_box (by kernel_rfl) 14 15 12 5 28 aggOf (RunCl 2 w.heap.size 10 (vfuDC pb qb qoff k pn pc il ic gn gc fn fc IA GA FA mn ab st) o er) (RunOff 10 o er) (fun Y => ⟨List.toArray (c0 :: (Value.pointer (some ⟨pb, 0, none⟩)) :: c2 :: (Value.int .i64 (k : Nat)) :: (Value.pointer (some ⟨ab, 0, none⟩)) :: c5 :: c6 :: c7 :: c8 :: c9 :: Y 14 :: Y 16 :: c12 :: c13 :: c14 :: c15 :: c16 :: c17 :: c18 :: c19 :: c20 :: c21 :: c22 :: c23 :: c24 :: c25 :: c26 :: c27 :: c28 :: c29 :: c30 :: c31 :: c32 :: c33 :: c34 :: c35 :: c36 :: c37 :: c38 :: c39 :: c40 :: c41 :: c42 :: c43 :: c44 :: c45 :: c46 :: c47 :: c48 :: c49 :: c50 :: c51 :: c52 :: c53 :: c54 :: c55 :: c56 :: c57 :: c58 :: c59 :: c60 :: c61 :: c62 :: c63 :: c64 :: c65 :: c66 :: c67 :: c68 :: c69 :: c70 :: c71 :: c72 :: c73 :: c74 :: c75 :: c76 :: c77 :: c78 :: c79 :: c80 :: c81 :: c82 :: c83 :: c84 :: c85 :: c86 :: c87 :: c88 :: c89 :: c90 :: c91 :: c92 :: Y 11 :: Y 0 :: Y 1 :: Y 2 :: Y 3 :: Y 4 :: Y 5 :: Y 6 :: Y 7 :: Y 8 :: Y 9 :: Y 10 :: Y 12 :: Y 13 :: c107 :: c108 :: c109 :: c110 :: c111 :: c112 :: c113 :: c114 :: c115 :: []), []⟩) (fun i => if i = 0 then c94 else if i = 1 then c95 else if i = 2 then c96 else if i = 3 then c97 else if i = 4 then c98 else if i = 5 then c99 else if i = 6 then c100 else if i = 7 then c101 else if i = 8 then c102 else if i = 9 then c103 else if i = 10 then c104 else if i = 11 then c93 else if i = 12 then c105 else if i = 13 then c106 else if i = 14 then c10 else if i = 16 then c11 else undef) rfl (by kernel_rfl) (by simp) (by simp) (by decide) (by decide) (by decide) ?_ (fun _ _ _ _ hb h => h.below hb) (fun W W' i v p _ hw hoff h => h.wr hw (fun g hg u => by subst hg; exact ⟨fun hi e => hoff.1 hi u e, fun hi e => hoff.2 hi u e⟩)) (fun W i v _ h => h.fresh) ?_ ?_ ?_ ?_
  · intro o' ho
    simp at ho; subst ho
    exact ⟨⟨{ on := 14, ground := Ground.data }, by simp, rfl, rfl⟩, ⟨{ on := 12, ground := Ground.data }, by simp, rfl, rfl⟩⟩
  · intro i o' Y W h1 h2 ho hb hall K hK
    have HW := Lib.hid hb
    clear hb
    rcases i with _ | _ | _ | _ | _ | _ | _ | _ | _ | _ | _ | _ | _ | _ | _ | _ | _ | i
    · simp at ho; subst ho
      clear hall
      refine wpOp_plain rfl rfl (fun K' hK' => ?_)
      go_simp
      have hh := hK' _ _ (hK _ _ (Below.refl _ _) (RunCl.const (by decide)) (fun p _ _ _ => RunOff.const (by decide) p))
      simpa [upd, vfuDC] using hh
    · simp at ho; subst ho
      have d0 : Y 0 = _ := (hall { on := 0, ground := Ground.data } (by simp) rfl (by decide) (by decide)).c (by decide)
      simp only [vfuDC] at d0
      have q0 := cell_below (HBOX.out.cell (j := 0) rfl) HW.out HBOX.out.lt
      clear hall
      refine wpOp_plain rfl rfl (fun K' hK' => ?_)
      go_simp
      have hh := hK' _ _ (hK _ _ (Below.refl _ _) (RunCl.const (by decide)) (fun p _ _ _ => RunOff.const (by decide) p))
      simpa [upd, vfuDC, d0] using hh
    · simp at ho; subst ho
      clear hall
      refine wpOp_plain rfl rfl (fun K' hK' => ?_)
      go_simp
      have hh := hK' _ _ (hK _ _ (Below.refl _ _) (RunCl.const (by decide)) (fun p _ _ _ => RunOff.const (by decide) p))
      simpa [upd, vfuDC] using hh
    · simp at ho; subst ho
      have d1 : Y 1 = _ := (hall { on := 1, ground := Ground.data } (by simp) rfl (by decide) (by decide)).c (by decide)
      have d2 : Y 2 = _ := (hall { on := 2, ground := Ground.data } (by simp) rfl (by decide) (by decide)).c (by decide)
      simp only [vfuDC] at d1 d2
      clear hall
      refine wpOp_plain rfl rfl (fun K' hK' => ?_)
      go_simp
      have hh := hK' _ _ (hK _ _ (Below.refl _ _) (RunCl.const (by decide)) (fun p _ _ _ => RunOff.const (by decide) p))
      simpa [upd, vfuDC, d1, d2] using hh
    · simp at ho; subst ho
      have d3 : Y 3 = _ := (hall { on := 3, ground := Ground.data } (by simp) rfl (by decide) (by decide)).c (by decide)
      simp only [vfuDC] at d3
      have q0 := cell_below HG0.out HW.out HQB.out
      have q1 := cell_below HG1.out HW.out HQB.out
      have q2 := cell_below HG2.out HW.out HQB.out
      clear hall
      refine wpOp_plain rfl rfl (fun K' hK' => ?_)
      go_simp
      have hh := hK' _ _ (hK _ _ (Below.refl _ _) (RunCl.const (by decide)) (fun p _ _ _ => RunOff.const (by decide) p))
      simpa [upd, vfuDC, d3] using hh
    · simp at ho; subst ho
      clear hall
      refine wpOp_plain rfl rfl (fun K' hK' => ?_)
      go_simp
      have hh := hK' _ _ (hK _ _ (Below.refl _ _) (RunCl.const (by decide)) (fun p _ _ _ => RunOff.const (by decide) p))
      simpa [upd, vfuDC] using hh
    · simp at ho; subst ho
      have d5 : Y 5 = _ := (hall { on := 5, ground := Ground.data } (by simp) rfl (by decide) (by decide)).c (by decide)
      simp only [vfuDC] at d5
      have q0 := cell_below (HBOX.out.cell (j := 1) rfl) HW.out HBOX.out.lt
      clear hall
      refine wpOp_plain rfl rfl (fun K' hK' => ?_)
      go_simp
      have hh := hK' _ _ (hK _ _ (Below.refl _ _) (RunCl.const (by decide)) (fun p _ _ _ => RunOff.const (by decide) p))
      simpa [upd, vfuDC, d5] using hh
    · simp at ho; subst ho
      clear hall
      refine wpOp_plain rfl rfl (fun K' hK' => ?_)
      go_simp
      have hh := hK' _ _ (hK _ _ (Below.refl _ _) (RunCl.const (by decide)) (fun p _ _ _ => RunOff.const (by decide) p))
      simpa [upd, vfuDC] using hh
    · simp at ho; subst ho
      have d7 : Y 7 = _ := (hall { on := 7, ground := Ground.data } (by simp) rfl (by decide) (by decide)).c (by decide)
      simp only [vfuDC] at d7
      have q0 := cell_below (HAB.out.cell (j := 3) rfl) HW.out HAB.out.lt
      clear hall
      refine wpOp_plain rfl rfl (fun K' hK' => ?_)
      go_simp
      have hh := hK' _ _ (hK _ _ (Below.refl _ _) (RunCl.const (by decide)) (fun p _ _ _ => RunOff.const (by decide) p))
      simpa [upd, vfuDC, d7] using hh
    · simp at ho; subst ho
      have d8 : Y 8 = _ := (hall { on := 8, ground := Ground.data } (by simp) rfl (by decide) (by decide)).c (by decide)
      simp only [vfuDC] at d8
      clear hall
      refine wpOp_plain rfl rfl (fun K' hK' => ?_)
      go_simp
      have hh := hK' _ _ (hK _ _ (Below.refl _ _) (RunCl.const (by decide)) (fun p _ _ _ => RunOff.const (by decide) p))
      simpa [upd, vfuDC, d8, HWR.out] using hh
    · simp at ho; subst ho
      have d4 : Y 4 = _ := (hall { on := 4, ground := Ground.data } (by simp) rfl (by decide) (by decide)).c (by decide)
      have d6 : Y 6 = _ := (hall { on := 6, ground := Ground.data } (by simp) rfl (by decide) (by decide)).c (by decide)
      have d9 : Y 9 = _ := (hall { on := 9, ground := Ground.data } (by simp) rfl (by decide) (by decide)).c (by decide)
      simp only [vfuDC] at d4 d6 d9
      clear hall
      refine wpOp_plain rfl rfl (fun K' hK' => ?_)
      go_simp
      refine (HRUN.out W HW.out).mono ?_
      rintro e W5 ⟨u, rfl, hu, hb5⟩
      go_simp
      have hh := hK' _ _ (hK (outT o er u) W5 hb5 (RunCl.call (Or.inl rfl) (ownsRow_base hu HW.out.size)) (fun p _ hp _ => RunOff.call (Or.inl rfl) (fun h => by have := (hu.lt _ h).1; omega)))
      simpa [upd, outT, outA, d4, d6, d9] using hh
    · simp at ho; subst ho
      obtain ⟨u, dT, hu⟩ := (hall { on := 10, ground := Ground.data } (by simp) rfl (by decide) (by decide)).t (Or.inl rfl)
      clear hall
      refine wpOp_plain rfl rfl (fun K' hK' => ?_)
      go_simp
      have hh := hK' _ _ (hK (outT o er u) _ (Below.refl _ _) (RunCl.call (Or.inr rfl) hu) (fun p _ _ hoff => RunOff.call (Or.inr rfl) ((hoff { on := 10, ground := Ground.data } (by simp) rfl (by decide) (by decide)).1 (Or.inl rfl) u dT)))
      simpa [upd, outT, outA, dT] using hh
    · simp at ho; subst ho
      obtain ⟨u, dT, hu⟩ := (hall { on := 11, ground := Ground.data } (by simp) rfl (by decide) (by decide)).t (Or.inr rfl)
      clear hall
      refine wpOp_plain rfl rfl (fun K' hK' => ?_)
      simp only [outT, outA] at dT
      go_simp
      have hh := hK' _ _ (hK (outA o u) _ (Below.refl _ _) (RunCl.part rfl hu) (fun p _ _ hoff => RunOff.part rfl ((hoff { on := 11, ground := Ground.data } (by simp) rfl (by decide) (by decide)).1 (Or.inr rfl) u dT)))
      simpa [upd, outT, outA, dT] using hh
    · simp at ho; subst ho
      obtain ⟨u, dT, hu⟩ := (hall { on := 11, ground := Ground.data } (by simp) rfl (by decide) (by decide)).t (Or.inr rfl)
      clear hall
      refine wpOp_plain rfl rfl (fun K' hK' => ?_)
      simp only [outT, outA] at dT
      go_simp
      have hh := hK' _ _ (hK (.int .i64 er) _ (Below.refl _ _) (RunCl.err (Or.inl rfl)) (fun p _ _ _ => RunOff.err (Or.inl rfl) p))
      simpa [upd, outT, outA, dT] using hh
    · exact absurd rfl h1
    · exact absurd rfl h2
    · simp at ho; subst ho
      have dE := (hall { on := 13, ground := Ground.data } (by simp) rfl (by decide) (by decide)).e (Or.inl rfl)
      clear hall
      refine wpOp_plain rfl rfl (fun K' hK' => ?_)
      go_simp
      have hh := hK' _ _ (hK (.int .i64 er) _ (Below.refl _ _) (RunCl.err (Or.inr rfl)) (fun p _ _ _ => RunOff.err (Or.inr rfl) p))
      simpa [upd, dE] using hh
    · simp at ho
  · intro o' Y W ho hb K hK
    simp at ho; subst ho
    clear hb
    refine wpOp_plain rfl rfl (fun K' hK' => ?_)
    go_simp
    have hh := hK' _ _ (hK #[.int .i64 0, .int .i64 0, .slice none 0 0, .int .i64 0, .int .i64 0] rfl)
    simpa [upd] using hh
  · intro o' Y W p cs ho hp hrow hcs hcl K hK
    simp at ho; subst ho
    obtain ⟨u, dA, hu⟩ := hcl.a rfl
    obtain ⟨UA, uc, rfl⟩ := slice_of_own hu
    obtain ⟨e0, e1, e2, e3, e4, rfl⟩ := size5 hcs
    have q0 := hrow.cell (j := 0) rfl
    have q1 := hrow.cell (j := 1) rfl
    have q2 := hrow.cell (j := 2) rfl
    have q3 := hrow.cell (j := 3) rfl
    have q4 := hrow.cell (j := 4) rfl
    have k0 := hrow.free 0
    have k1 := hrow.free 1
    have k2 := hrow.free 2
    have k3 := hrow.free 3
    have k4 := hrow.free 4
    have HROW := Lib.hid hrow
    clear hrow hcs hcl
    simp only [outA] at dA
    refine wpOp_plain rfl rfl (fun K' hK' => ?_)
    go_simp
    have hh := hK' _ _ (hK _ undef (((((((Wr.refl (fun i => i = p) W).setR p _ _ (Or.inl rfl)).setR p _ _ (Or.inl rfl)).setR p _ _ (Or.inl rfl)).setR p _ _ (Or.inl rfl)).setR p _ _ (Or.inl rfl))) (by rw [dA]; exact (((((HROW.out.set 0 _).set 1 _).set 2 _).set 3 _).set 4 _)) (by rw [dA]; rfl))
    simpa [upd, hp, dA] using hh
  · intro Y W p hb hpw hp hrow hall
    obtain ⟨u, dA, hu⟩ := (hall 12 (by simp) (by decide) (by decide)).1.a rfl
    have dE := (hall 16 (by simp) (by decide) (by decide)).1.e (Or.inr rfl)
    rw [dA] at hrow
    show Q .normal ⟨List.toArray (c0 :: (Value.pointer (some ⟨pb, 0, none⟩)) :: c2 :: (Value.int .i64 (k : Nat)) :: (Value.pointer (some ⟨ab, 0, none⟩)) :: c5 :: c6 :: c7 :: c8 :: c9 :: Y 14 :: Y 16 :: c12 :: c13 :: c14 :: c15 :: c16 :: c17 :: c18 :: c19 :: c20 :: c21 :: c22 :: c23 :: c24 :: c25 :: c26 :: c27 :: c28 :: c29 :: c30 :: c31 :: c32 :: c33 :: c34 :: c35 :: c36 :: c37 :: c38 :: c39 :: c40 :: c41 :: c42 :: c43 :: c44 :: c45 :: c46 :: c47 :: c48 :: c49 :: c50 :: c51 :: c52 :: c53 :: c54 :: c55 :: c56 :: c57 :: c58 :: c59 :: c60 :: c61 :: c62 :: c63 :: c64 :: c65 :: c66 :: c67 :: c68 :: c69 :: c70 :: c71 :: c72 :: c73 :: c74 :: c75 :: c76 :: c77 :: c78 :: c79 :: c80 :: c81 :: c82 :: c83 :: c84 :: c85 :: c86 :: c87 :: c88 :: c89 :: c90 :: c91 :: c92 :: Y 11 :: Y 0 :: Y 1 :: Y 2 :: Y 3 :: Y 4 :: Y 5 :: Y 6 :: Y 7 :: Y 8 :: Y 9 :: Y 10 :: Y 12 :: Y 13 :: c107 :: c108 :: c109 :: c110 :: c111 :: c112 :: c113 :: c114 :: c115 :: []), []⟩ W
    rw [hp, dE]
    exact HEX.out W p u Y hb hpw hrow hu
end Go.Proofs.Ytinmgbodgecoeaa
