/- virt: calls, whole. Conditions: as stated. -/
import Derived.Test.YtinmgbodgecoeaaVCallCZz
set_option linter.unusedVariables false
set_option linter.unusedSimpArgs false
namespace Go.Proofs.Ytinmgbodgecoeaa
open Go.RowKit

theorem vmay_codes {v : VirtS} (h : vmayB v = true) {c : CodeS} (hc : c ∈ v.funcs) : codeB c v.globs.length v.funcs.length (parV v) = true := by
  unfold vmayB at h
  by_cases hh : vmayP v
  · rw [if_pos hh] at h
    exact List.all_eq_true.1 h c hc
  · rw [if_neg hh] at h
    cases h
theorem virtG_get {p : VirtS} {f : Nat} {g : CodeS} (hg : p.funcs[f]? = some g) : (virtG p).funcs[f]? = some (codeG g) := by
  show (p.funcs.map codeG)[f]? = _
  rw [List.getElem?_map, hg]
  rfl
theorem vcall_all {p : VirtS} (hin : VirtIn p) (hm : vmayB p = true) {fuel : Int} (hf : fuel ≤ 100000000) : ∀ (d : Nat) (c : Int), (d : Int) + c = 64 → VCallOk p fuel c (callF (virtG p) fuel d)
  | 0, c, hd => by
    intro f g args s base cb hb rb own P gv bv AA an acap w hg hal h hR hP hL horb hogv hI hc hgl hva han hargs
    have hp := vmay_ok hin hm
    rw [callF]
    rw [show stopF 4 s = { s with kind := 4 } from by unfold stopF; rw [if_pos hI.kind]]
    exact vcall_over base cb hb rb own P gv bv fuel p s f g args AA an acap w hg (hp.fns _ (List.mem_of_getElem? (virtG_get hg))) hf hal h hR hP horb hogv hI hgl hva han hargs (by omega)
  | d + 1, c, hd => by
    intro f g args s base cb hb rb own P gv bv AA an acap w hg hal h hR hP hL horb hogv hI hc hgl hva han hargs
    have hp := vmay_ok hin hm
    have hg2 := virtG_get hg
    have hmem := List.mem_of_getElem? hg
    have hfn := hp.fns _ (List.mem_of_getElem? hg2)
    obtain ⟨⟨_, _, _, _, _, _, p6, _⟩, hall, hlast⟩ := codeB_ok (vmay_codes hm hmem)
    obtain ⟨nt, hnt, _⟩ := hfn.nt
    by_cases hy : (stepF fuel (countsF g.locs) { s with calls := s.calls + 1, deep := max s.deep (s.calls + 1) }).1 = true
    · rw [callF_goG hg2 hnt hy]
      exact vcall_go base cb hb rb own P gv bv fuel p s f g args AA an acap w hg hfn hall hlast (vmay_par hm) hin hmem (by omega) hf hal h hR hP horb hogv hI hgl hva han hL hargs (callF (virtG p) fuel d) (by omega) hy (vcall_all hin hm hf d _ (by omega)) (call_kept hp hf d) nt hnt
    · have hy0 : (stepF fuel (countsF g.locs) { s with calls := s.calls + 1, deep := max s.deep (s.calls + 1) }).1 = false := by simpa using hy
      rw [callF_dryG hg2 hy0]
      exact vcall_dry base cb hb rb own P gv bv fuel p s f g args AA an acap w hg hfn hf hal h hR hP horb hogv hI hgl hva han hargs (by omega) hy0
end Go.Proofs.Ytinmgbodgecoeaa
