/- VirtFuel: With more fuel, if it ended, it is the same; with just its steps it ends, with one less it does not. No condition. -/
import Derived.Test.YtinmgbodgecoeaaVFuelLZz
import Derived.Test.YtinmgbodgecoeaaQ12Zz
import Derived.ProofKit
set_option linter.unusedVariables false
set_option linter.unusedSimpArgs false
namespace Go.Proofs.Ytinmgbodgecoeaa
open Go.ChangeShapes Go.WideShapes Go.ChangeAt Go.RowKit

theorem inwV_of {w : World} {B : Nat} {l : List Int} {A : Option Addr} {c : Nat} (h : LongsAt w B l (.slice A l.length c)) (h1 : l.length ≤ c) (h2 : c ≤ 9223372036854775807) : InW w B (.slice A l.length c) l := by
  refine ⟨A, c, rfl, h1, h2, fun hp => ?_⟩
  obtain ⟨A', c', e, _, hx⟩ := h
  injection e with e1 _ _
  subst e1
  obtain ⟨b, off, hA, hb, hc⟩ := hx hp
  exact ⟨b, off, hA, hb, fun j x hj => by have := hc j x hj; simpa using this⟩
theorem virtFuel_own : ownKnob Try.prog.godebug = none := by kernel_rfl
theorem virtFuel_laidOut : laidOutB Try.prog = true := by kernel_rfl

set_option maxRecDepth 100000 in
theorem virtFuel_lifted (os : Os) (started : os.Started) (H : Type) (enc : TypeId × Value → H) :
    ReturnsInHanded {} Try.checked os 3 .any (Rows.virtFuelSpec.pre6 enc Try.prog Try.f3 Rows.virtFuelRow.domain false) (Rows.virtFuelSpec.post enc Try.prog Try.f3 false true false false) := by
  refine returnsInHanded_of_change_sized (C := Try.checked) virtFuel_own started (by kernel_rfl) Try.func3
    (ChangeSpec.witness6 (enc := enc) (C := Try.checked) false ⟨#[], #[.agg #[.slice none 0 0, .slice none 0 0, .int .i64 0]], []⟩ 8 (by kernel_rfl) (by kernel_rfl) (by kernel_rfl) (by kernel_rfl)) ?_
  intro W base args ds gs before hval0 hW _ hsz0 _
  have hval : ∀ (j : Nat) t v, Try.f3.params[j]? = some t → args[j]? = some v → Value.okWide Try.prog W .any base t v := hval0
  have hsz : (DataW.weightsEach Try.prog (Try.f3.params.toList ++ Rows.virtFuelSpec.plain.varTypes Try.prog) (ds ++ gs)).all (· ≤ reachBytes) = true := hsz0
  have hW' := hW
  obtain ⟨p, q, hA0, hV, rfl, _, _⟩ := hW
  have hA : DataW.TrodAll enc Try.prog W 0 (fun _ => true) true Try.f3.params.toList args.toList ds p := hA0
  rw [Try.params3] at hA hval hsz
  obtain ⟨v0, d0, rfl, rfl, h0⟩ := trodAll_one hA
  obtain ⟨rfl, rfl⟩ := trodVars_none hV
  have hv := hval 0 25 v0 rfl rfl
  clear hA0 hval0
  simp only [List.append_nil] at hW'
  have hlt : ∀ x ∈ p, x.block < W.heap.size := fun x hx => by simpa using hW'.lt x hx
  have hwalk : Calls Try.prog 3 #[v0] W fun e w' => e = .returned (.bool true) ∧ Below W.heap.size W w' := by
    obtain ⟨cs, hcs, _⟩ := okWide_struct Try.underlying25 hv
    obtain ⟨ps, inp, PA, IA, pc, ic, fu, rfl, hps, hpn, hil, hsz', hic1, hic2, hin, haf⟩ := ask14F_read hcs h0 hsz
    exact vfuel_any ps inp PA IA ps.length pc inp.length ic fu W.heap.size W (Nat.le_refl _) hps (inwV_of hin hic1 hic2) (by omega) (by omega) (fun p hp => ⟨by have := (hsz' p hp).1; omega, fun g hg => ⟨by have := ((hsz' p hp).2.2.2 g hg).1; omega, by have := ((hsz' p hp).2.2.2 g hg).2.2.1; omega, fun x hx => by have := ((hsz' p hp).2.2.2 g hg).2.2.2 x hx; unfold InsF at this; omega⟩⟩)
  refine hwalk.mono fun e W' ⟨he, hb⟩ => ?_
  subst he
  exact ⟨_, rfl, _, _, _, [], p, [], hW', trodAll_mk1 (shut_bool Try.underlying4 true), trodAll_mk1 (WideElems.Trod_stays virtFuel_laidOut (by kernel_rfl) (of_decide_eq_true (by kernel_rfl)) h0 (fun x hx => hb.same (hlt x hx)) (fun x hx => by simpa using hlt x hx)), rfl, hb.frame _, fun h => by cases h⟩

theorem virtFuel_holds : Rows.VirtFuelSaid :=
  OpenClaim.holds_of_wide 3 Try.f3 rfl rfl rfl rfl rfl rfl rfl ⟨rfl, rfl, rfl, rfl, rfl⟩ rfl rfl rfl rfl rfl (by kernel_rfl) Try.func3 (by kernel_rfl)
    (of_decide_eq_true (by kernel_rfl)) (by unfold Func.isWrapper; first | (rw [if_pos (by decide +kernel)]; kernel_rfl) | (rw [if_neg (by decide +kernel)]; exact ⟨rfl, rfl⟩))
    (fun os started H enc _ => virtFuel_lifted os started H enc)
end Go.Proofs.Ytinmgbodgecoeaa
