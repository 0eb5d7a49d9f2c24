/- The page's machine: a run. Conditions: as stated. -/
import Derived.Test.YtjkgpolikpochaaQ08Zz
import Derived.Test.YtjkgpolikpochaaQ02Zz
import Derived.BigRegion
set_option linter.unusedVariables false
set_option linter.unusedSimpArgs false
namespace Go.Proofs.Ytjkgpolikpochaa
open Go.RowKit

/-- The machine's state at the start. -/
def s00 (inp : List Int) : St := ⟨inp, 0, 0, [], 0, 0, 0, []⟩

theorem runF_main {p : ProgS} {inp : List Int} {fuel : Int} {f : Nat} (h : p.main = (f : Nat)) : runF p inp fuel = endF (callF p fuel (63 + 1) f [] { s00 inp with mem := makesF [] p.globs }) := by
  simp only [runF, h, s00, Nat.reduceAdd]

/-- What a run answers. -/
def RunSays (o : OutS) (base : Nat) (w : World) (e : Ending) (w' : World) : Prop :=
  ∃ outv, e = .returned (.agg #[.int .i64 o.kind, .int .i64 o.code, outv, .int .i64 o.steps, .int .i64 o.deep]) ∧ w'.ownsRow base 2 1 outv o.out.length (o.out.map (Value.int .i64)) ∧ Below w.heap.size w w'

theorem ProgAt.up {w : World} {B B' : Nat} {P : Value × Value × Value} {p : ProgS} (h : ProgAt w B P p) (hB : B ≤ B') : ProgAt w B' P p :=
  ⟨h.1.below (Below.refl _ _) hB fun _ _ h => h.below (Below.refl _ _) hB, h.2.1.below (Below.refl _ _) hB fun _ _ h => h.below (Below.refl _ _) hB, h.2.2⟩

/-- What a program must be for its run to be walked. -/
structure MainOk (p : ProgS) (f nt : Nat) (g : GraphS) : Prop where
  main : p.main = f
  fn : p.funcs[f]? = some g
  obs : ∀ o, o ∈ p.globs → ObOk o
  some : 0 < p.globs.length
  few : p.globs.length ≤ 16
  ok : FunOk (FlatOk nt g.locs.length p.globs.length) p.globs.length nt g

theorem s00_mach {w : World} {B : Nat} {P : Value × Value × Value} {fuel : Int} {inp : List Int} {inv : Value} (hB : B ≤ w.heap.size) (hin : InW w B inv inp) (o1 o2 : Obj) :
    Mach (((w.alloc o1).alloc o2).alloc (.cells (mcells P fuel (s00 inp) inv (.slice none 0 0) (.slice none 0 0)) 87)) w.heap.size (w.heap.size + 1 + 1) (fun k => k = w.heap.size + 1 + 1) P fuel (s00 inp) := by
  have hb := below3 w o1 o2 (.cells (mcells P fuel (s00 inp) inv (.slice none 0 0) (.slice none 0 0)) 87)
  refine ⟨inv, .slice none 0 0, .slice none 0 0, fun _ => 0, Row.new' _ _ (by simp), rfl, ⟨?_, World.ownsRow_nil _ _ _ _, fun g hg => (by cases hg), ⟨⟨[], World.ownsRow_nil _ _ _ _, fun k o h => (by simp [s00] at h)⟩, fun k o _ h => (by simp [s00] at h), fun i j _ h => (by simp [s00] at h), ⟨by simp [s00], fun o h => (by simp [s00] at h), fun k o _ h => (by simp [s00] at h), fun o h => (by simp [s00] at h)⟩⟩, fun g hg => (by cases hg), fun k hk => ?_⟩⟩
  · obtain ⟨A, cap, h0, h1, h2, h3⟩ := hin
    refine ⟨A, cap, h0, h1, h2, fun hp => ?_⟩
    obtain ⟨b, off, hA, hlt, hc⟩ := h3 hp
    exact ⟨b, off, hA, by omega, fun j x hj => ⟨(hb.cell (p := ⟨b, off + j, none⟩) (show b < w.heap.size by omega)).trans (hc j x hj).1, (hc j x hj).2⟩⟩
  · subst hk
    refine ⟨by omega, by simp⟩

theorem wr_five (w : World) (r : Nat) (a b c d e : Value) (o : Obj) : Wr (fun i => i = r) w ((((((w.setCell ⟨r, 0, none⟩ a).setCell ⟨r, 1, none⟩ b).setCell ⟨r, 2, none⟩ c).setCell ⟨r, 3, none⟩ d).setCell ⟨r, 4, none⟩ e).alloc o) :=
  ((((((Wr.cell1 w r 0 a).trans (Wr.cell1 _ r 1 b) (fun _ h => Or.inl h)).trans (Wr.cell1 _ r 2 c) (fun _ h => Or.inl h)).trans (Wr.cell1 _ r 3 d) (fun _ h => Or.inl h)).trans (Wr.cell1 _ r 4 e) (fun _ h => Or.inl h)).trans (Wr.of_below (F := fun _ => False) (below1 _ o)) (fun _ h => h.elim))

set_option maxRecDepth 100000 in
set_option maxHeartbeats 16000000 in
theorem run_any (B : Nat) (P : Value × Value × Value) (fuel : Int) (p : ProgS) (inp : List Int) (inv : Value) (f nt : Nat) (g : GraphS) (w : World)
    (hB : B ≤ w.heap.size) (hP : ProgAt w B P p) (hin : InW w B inv inp) (hok : MainOk p f nt g) (hf0 : 0 ≤ fuel) (hf : fuel ≤ 100000000) :
    Calls Try.prog 32 #[.agg #[P.1, P.2.1, P.2.2], inv, .int .i64 fuel] w fun e w' => RunSays (runF p inp fuel) w.heap.size w e w' := by
  obtain ⟨P0, P1, P2⟩ := P
  obtain ⟨GA, gcap, hGv⟩ : ∃ GA gcap, P0 = .slice GA p.globs.length gcap := (by obtain ⟨A', c', h, _⟩ := hP.1; exact ⟨_, _, h⟩)
  subst hGv
  obtain ⟨hmain, hfun, hobs, hgs, hgl, hfok⟩ := hok
  obtain ⟨mn, hmn⟩ : ∃ mn, P2 = .int .i64 mn := ⟨_, hP.2.2.1⟩
  subst hmn
  obtain ⟨IA, icap, hIv⟩ : ∃ IA icap, inv = .slice IA inp.length icap := (by obtain ⟨A', c', h, _⟩ := hin; exact ⟨_, _, h⟩)
  subst hIv
  obtain ⟨FA, fcap, hFv⟩ : ∃ FA fcap, P1 = .slice FA p.funcs.length fcap := (by obtain ⟨A', c', h, _⟩ := hP.2.1; exact ⟨_, _, h⟩)
  subst hFv
  have hmf : mn = f := by have := hP.2.2.1; injection this with _ h; rw [h, hmain]
  subst hmf
  have HP := Lib.hid hP
  have HIN := Lib.hid hin
  have HOBS := Lib.hid hobs
  have HFUN := Lib.hid hfun
  have HFOK := Lib.hid hfok
  have HMAIN := Lib.hid hmain
  obtain ⟨r, hr⟩ : ∃ r, r = callF p fuel (63 + 1) f [] { s00 inp with mem := makesF [] p.globs } := ⟨_, rfl⟩
  have hrun : runF p inp fuel = endF r := (runF_main hmain).trans (congrArg endF hr.symm)
  simp only [hrun]
  have HR := Lib.hid hr
  clear hP hin hobs hfun hfok hmain hrun hr
  go_enter Try.func32, Try.ntmps32
  refine wp_letter (fun Q hQ => ?_)
  have HQ := Lib.hid hQ
  clear hQ
  go_wp2_with fail
  go_loopw [8] (fun i wr => ∃ (k : Nat) (own1 : Nat → Prop), k ≤ p.globs.length ∧ i = .int .i64 k ∧ Mach wr w.heap.size (w.heap.size + 1 + 1) own1 (.slice GA p.globs.length gcap, .slice FA p.funcs.length fcap, .int .i64 (f : Nat)) fuel { s00 inp with mem := makesF [] (p.globs.take k) } ∧ (∀ i, own1 i → w.heap.size + 1 + 1 ≤ i) ∧ Row wr w.heap.size #[.slice GA p.globs.length gcap, .slice FA p.funcs.length fcap, .int .i64 (f : Nat)] 54 ∧ Row wr (w.heap.size + 1) #[.int .i64 0, .int .i64 0, .slice none 0 0, .int .i64 0, .int .i64 0] 58 ∧ Below w.heap.size w wr)
    (fun i _ => p.globs.length - (intOf i).toNat)
  case atStart => exact ⟨0, fun k => k = w.heap.size + 1 + 1, by omega, rfl, by exact s00_mach (P := (.slice GA p.globs.length gcap, .slice FA p.funcs.length fcap, .int .i64 (f : Nat))) (fuel := fuel) hB HIN.out _ _, fun i hi => Nat.le_of_eq hi.symm, ((Row.new _ _ _).alloc _).alloc _, (Row.new' _ _ (by simp)).alloc _, below3 _ _ _ _⟩
  case round =>
    obtain ⟨k, own1, hk, rfl, hM, hown, hR0, hR1, hBW⟩ := hrel
    have c0 : wr.cell? ⟨w.heap.size, 0, none⟩ = some (.slice GA p.globs.length gcap) := hR0.cell (j := 0) rfl
    have c2 : wr.cell? ⟨w.heap.size, 2, none⟩ = some (.int .i64 (f : Nat)) := hR0.cell (j := 2) rfl
    have hz := hR1.lt
    have HM := Lib.hid hM
    have HR0 := Lib.hid hR0
    have HR1 := Lib.hid hR1
    have HOWN := Lib.hid hown
    have HBW := Lib.hid hBW
    by_cases hlt : k < p.globs.length
    · obtain ⟨lb, loff, o, rfl, hlb, hok, o0, o1, ⟨ov, o2, hov⟩, _, _⟩ := ((HP.out.below (hBW.mono hB)).1).get hlt
      simp only [Nat.add_zero] at o0 o1 o2
      obtain ⟨OA, ocap, hOv⟩ : ∃ OA ocap, ov = .slice OA o.init.length ocap := (by obtain ⟨A', c', h, _⟩ := hov; exact ⟨_, _, h⟩)
      subst hOv
      have hoo := HOBS.out o (List.mem_of_getElem? hok)
      have hml : (makesF [] (p.globs.take k)).length ≤ 17 := by rw [makesF_length, List.length_take, memBase_length]; (repeat' split) <;> first | omega | (simp; done) | (simp; omega)
      have hmb : (memBase (makesF [] (p.globs.take k))).length + 1 ≤ 1000000000 := by rw [memBase_length]; split <;> omega
      have HMK := Lib.hid (make_mach w.heap.size (w.heap.size + 1 + 1) own1 _ fuel _ o (.slice OA o.init.length ocap) wr.drew (hM.below (Below.refl _ _).drew) hoo (hov.below (Below.refl _ _).drew (by omega)) hmb)
      have HOK := Lib.hid hok
      have hkl : (k : Int) < (p.globs.length : Int) := by omega
      have hk0 : (0 : Int) ≤ (k : Int) := by omega
      have hlbl : lb < wr.heap.size := by omega
      clear hM hR0 hR1 hown hBW hok hov hoo hml hmb
      go_wp2_with fail
      refine still_tailq 8 (by kernel_rfl) (by kernel_rfl) ?_
      simp only [List.take_succ_cons, List.take_zero, List.drop_succ_cons, List.drop_zero]
      repeat (go_big_quiet_step (fail))
      refine wpQuiet_nil ?_
      go_wp2_with fail
      refine HMK.out.mono ?_
      rintro e w2 ⟨rfl, own2, hu2, hd2, hM2, hw2⟩
      have HU2 := Lib.hid (And.intro hu2 hd2)
      have HM2 := Lib.hid hM2
      have HW2 := Lib.hid hw2
      clear hu2 hd2 hM2 hw2
      go_wp2_with fail
      go_roundw
      case rel => 
        have hw3 : Wr own1 wr w2 := (Wr.of_below (F := own1) (Below.refl _ _).drew).trans HW2.out (fun i hi => Or.inl hi)
        have hn0 : ¬ own1 w.heap.size := fun h => by have := HOWN.out _ h; omega
        have hn1 : ¬ own1 (w.heap.size + 1) := fun h => by have := HOWN.out _ h; omega
        have hzw : w.heap.size ≤ wr.heap.size := by omega
        have hme : makesF [] (p.globs.take (k + 1)) = makeF (makesF [] (p.globs.take k)) o := by rw [take_succ_of HOK.out, makesF_append]; rfl
        have hdn : ∀ i, own2 i → own1 i ∨ wr.heap.size ≤ i := HU2.out.2
        refine ⟨k + 1, own2, by omega, by go_num, by rw [hme]; exact HM2.out, fun i hi => ?_, HR0.out.wr hw3 hn0, HR1.out.wr hw3 hn1, HBW.out.trans (hw3.below hzw (fun i hi => by have := HOWN.out i hi; omega))⟩
        rcases hdn i hi with h | h
        · exact HOWN.out i h
        · omega
      case measure => simp [intOf]; omega
    · obtain rfl : k = p.globs.length := by omega
      rw [List.take_length] at hM
      have hml : (makesF [] p.globs).length = p.globs.length + 1 := by
        rw [makesF_length, memBase_length]
        rw [if_neg (by intro h; rw [h] at hgs; simp at hgs), if_pos rfl]
        omega
      have hmok : MemOk (makesF [] p.globs) := by obtain ⟨_, _, _, _, h⟩ := hM; exact h.rest.mem.ok
      have hcall := call_flat w.heap.size (w.heap.size + 1 + 1) own1 _ fuel p { s00 inp with mem := makesF [] p.globs } f g [] none 0 0 wr 63 nt hM (HP.out.below (hBW.mono hB) |>.up (by omega)) ⟨rfl, by show (0 : Int) ≤ 0; omega, hf0, by show (makesF [] p.globs).length ≤ 20 + 0; omega, hmok⟩ hf HFUN.out (by show (0 : Int) ≤ 0; omega) (by show (0 : Int) < 64; omega) ⟨by show (0 : Int) ≤ 0; omega, by show (0 : Int) ≤ 64; omega⟩ (fun j v h => by simp at h) rfl (Nat.zero_le _) (fun v h => by simp at h) (by show p.globs.length < (makesF [] p.globs).length; omega) HFOK.out
      rw [← HR.out] at hcall
      have HCA := Lib.hid hcall
      obtain ⟨rv, rs⟩ := r
      clear hM hR0 hR1 hown hBW hml hmok hcall HR
      go_wp2_with fail
      refine HCA.out.mono ?_
      rintro e w3 ⟨rfl, own3, hu3, hd3, hM3, hw3⟩
      obtain ⟨inv3, outv3, memv3, rb3, hA3⟩ := hM3
      obtain ⟨OA, on, oc, hov⟩ : ∃ A n c, outv3 = .slice A n c := (by obtain ⟨_, h | ⟨g, c, cur, h, _⟩⟩ := hA3.rest.out; exact ⟨_, _, _, h.1⟩; exact ⟨_, _, _, h⟩)
      subst hov
      have hn0 : ¬ own1 w.heap.size := fun h => by have := HOWN.out _ h; omega
      have hn1 : ¬ own1 (w.heap.size + 1) := fun h => by have := HOWN.out _ h; omega
      have hq1 := HR1.out.wr hw3 hn1
      have q0 := hq1.free 0
      have q1 := hq1.free 1
      have q2 := hq1.free 2
      have q3 := hq1.free 3
      have q4 := hq1.free 4
      have hq1l := hq1.lt
      have p0 : w3.cell? ⟨w.heap.size + 1, 0, none⟩ = some (.int .i64 0) := hq1.cell (j := 0) rfl
      have p1 : w3.cell? ⟨w.heap.size + 1, 1, none⟩ = some (.int .i64 0) := hq1.cell (j := 1) rfl
      have p2 : w3.cell? ⟨w.heap.size + 1, 2, none⟩ = some (.slice none 0 0) := hq1.cell (j := 2) rfl
      have p3 : w3.cell? ⟨w.heap.size + 1, 3, none⟩ = some (.int .i64 0) := hq1.cell (j := 3) rfl
      have p4 : w3.cell? ⟨w.heap.size + 1, 4, none⟩ = some (.int .i64 0) := hq1.cell (j := 4) rfl
      have hmcl := hA3.lt
      have HA3 := Lib.hid hA3
      have HQ1 := Lib.hid hq1
      have HW3 := Lib.hid hw3
      have hne1 : ¬ w.heap.size + 1 = w.heap.size + 1 + 1 := by omega
      have hne2 : ¬ w.heap.size + 1 + 1 = w.heap.size + 1 := by omega
      have HB3 := Lib.hid (show Below w.heap.size w w3 from HBW.out.trans (hw3.below (by omega) (fun i hi => by have := HOWN.out i hi; omega)))
      have HOUT := Lib.hid (show ∀ g, (Value.slice OA on oc).ownBlock = some g → ¬ (g = w.heap.size + 1 ∨ g = w.heap.size + 1 + 1) from fun g hg h => by
        obtain ⟨_, cs, hr⟩ := ownsRow_row hA3.rest.out hg
        rcases h with h | h
        · subst h; exact hr.ne hq1 (by decide) rfl
        · subst h; exact hr.ne hA3.row (by decide) rfl)
      have hz3 : w.heap.size + 1 + 1 ≤ w3.heap.size := by omega
      have hnm : ¬ w.heap.size + 1 = w.heap.size := by omega
      clear hne1 hne2 hnm
      have hne1 : ¬ w.heap.size + 1 = w.heap.size + 1 + 1 := by omega
      have hne2 : ¬ w.heap.size + 1 + 1 = w.heap.size + 1 := by omega
      have hge1 : w.heap.size ≤ w.heap.size + 1 := by omega
      have hge2 : w.heap.size ≤ w.heap.size + 1 + 1 := by omega
      generalize hmb : w.heap.size + 1 + 1 = mb at *
      generalize hrb : w.heap.size + 1 = rb at *
      have HMB := Lib.hid hmb
      have HRB := Lib.hid hrb
      clear hmb hrb
      cases rv with
      | none =>
        simp only [ansV]
        have k5 : w3.cell? ⟨mb, 5, none⟩ = some (.int .i64 rs.kind) := hA3.row.cell (j := 5) rfl
        have k3 : w3.cell? ⟨mb, 6, none⟩ = some (.int .i64 rs.code) := hA3.row.cell (j := 6) rfl
        have k7 : w3.cell? ⟨mb, 7, none⟩ = some (.slice OA on oc) := hA3.row.cell (j := 7) rfl
        have k8 : w3.cell? ⟨mb, 8, none⟩ = some (.int .i64 rs.steps) := hA3.row.cell (j := 8) rfl
        have k9 : w3.cell? ⟨mb, 9, none⟩ = some (.int .i64 rs.deep) := hA3.row.cell (j := 9) rfl
        by_cases hk3 : rs.kind = 3
        · rw [hk3] at k5
          have HK3 := Lib.hid hk3
          clear hk3 hA3 hq1 hw3 hu3 hd3
          go_wp2_with fail
          refine HQ.out _ _ _ ?_
          refine bodyPost_ret (v := .agg #[.int .i64 3, .int .i64 0, .slice none 0 0, .int .i64 0, .int .i64 0]) ?_ rfl ?_
          · simp [results, Try.results32, go_sem, p0, p1, p2, p3, p4, hq1l]
          · have he : endF (none, rs) = ⟨3, 0, [], 0, 0⟩ := by simp [endF, HK3.out]
            rw [he]
            exact ⟨_, rfl, World.ownsRow_nil _ _ _ _, HB3.out.trans ((wr_five w3 (rb) _ _ _ _ _ _).below (by omega) (fun i hi => by omega))⟩
        · have hk3' : (rs.kind == 3) = false := by simpa using hk3
          have HK3 := Lib.hid hk3
          clear hk3 hA3 hq1 hw3 hu3 hd3
          go_wp2_with fail
          refine HQ.out _ _ _ ?_
          refine bodyPost_ret (v := .agg #[.int .i64 rs.kind, .int .i64 rs.code, .slice OA on oc, .int .i64 rs.steps, .int .i64 rs.deep]) ?_ rfl ?_
          · simp [results, Try.results32, go_sem, p0, p1, p2, p3, p4, hq1l]
          · have he : endF (none, rs) = ⟨rs.kind, rs.code, rs.out, rs.steps, rs.deep⟩ := by simp [endF, HK3.out]
            rw [he]
            exact ⟨_, rfl, ownsRow_wr HA3.out.rest.out (wr_five w3 (rb) _ _ _ _ _ _) (fun g hg h => HOUT.out g hg (Or.inl h)), HB3.out.trans ((wr_five w3 (rb) _ _ _ _ _ _).below (by omega) (fun i hi => by omega))⟩
      | some v =>
        simp only [ansV]
        have k5 : w3.cell? ⟨mb, 5, none⟩ = some (.int .i64 rs.kind) := hA3.row.cell (j := 5) rfl
        have k6 : w3.cell? ⟨mb, 6, none⟩ = some (.int .i64 rs.code) := hA3.row.cell (j := 6) rfl
        have k7 : w3.cell? ⟨mb, 7, none⟩ = some (.slice OA on oc) := hA3.row.cell (j := 7) rfl
        have k8 : w3.cell? ⟨mb, 8, none⟩ = some (.int .i64 rs.steps) := hA3.row.cell (j := 8) rfl
        have k9 : w3.cell? ⟨mb, 9, none⟩ = some (.int .i64 rs.deep) := hA3.row.cell (j := 9) rfl
        have f5 := hA3.row.free 5
        have f6 := hA3.row.free 6
        obtain ⟨vo, vn⟩ := v
        by_cases hv : vo = 0
        · subst hv
          have HV := Lib.hid (True.intro)
          clear hA3 hq1 hw3 hu3 hd3
          go_wp2_with fail
          go_region
          all_goals go_wp2_with fail
          all_goals
            refine HQ.out _ _ _ ?_
            refine bodyPost_ret (v := .agg #[.int .i64 1, .int .i64 vn, .slice OA on oc, .int .i64 rs.steps, .int .i64 rs.deep]) ?_ rfl ?_
            · simp [results, Try.results32, go_sem, p0, p1, p2, p3, p4, hq1l, hne1, hne2]
            · have he : endF (some ⟨0, vn⟩, rs) = ⟨1, vn, rs.out, rs.steps, rs.deep⟩ := by simp [endF]
              rw [he]
              have hWR : ∀ {W : World}, Wr (fun i => i = rb ∨ i = mb) w3 W → Below w.heap.size w W := fun h => HB3.out.trans (h.below (by omega) (fun i hi => by omega))
              refine ⟨_, rfl, ownsRow_wr HA3.out.rest.out (F := fun i => i = rb ∨ i = mb) ?_ HOUT.out, hWR ?_⟩
              all_goals
                repeat (first | (with_reducible exact Wr.refl _ _) | (with_reducible refine Wr.drewR ?_) | (with_reducible refine Wr.allocR ?_ _) | (with_reducible refine Wr.setR ?_ _ _ _ (Or.inl ?_)) | exact Or.inl rfl | exact Or.inr rfl)
        · have hv' : (0 : Int) < (vo : Int) := by omega
          have hv2 : 0 < vo := by omega
          have HV := Lib.hid hv
          clear hv hA3 hq1 hw3 hu3 hd3
          go_wp2_with fail
          go_region
          all_goals go_wp2_with fail
          all_goals
            refine HQ.out _ _ _ ?_
            refine bodyPost_ret (v := .agg #[.int .i64 3, .int .i64 0, .slice none 0 0, .int .i64 0, .int .i64 0]) ?_ rfl ?_
            · simp [results, Try.results32, go_sem, p0, p1, p2, p3, p4, hq1l, hne1, hne2]
            · have he : endF (some ⟨vo, vn⟩, rs) = ⟨3, 0, [], 0, 0⟩ := by simp [endF, Nat.pos_of_ne_zero HV.out]
              rw [he]
              have hWR : ∀ {W : World}, Wr (fun i => i = rb ∨ i = mb) w3 W → Below w.heap.size w W := fun h => HB3.out.trans (h.below (by omega) (fun i hi => by omega))
              refine ⟨_, rfl, World.ownsRow_nil _ _ _ _, hWR ?_⟩
              repeat (first | (with_reducible exact Wr.refl _ _) | (with_reducible refine Wr.drewR ?_) | (with_reducible refine Wr.allocR ?_ _) | (with_reducible refine Wr.setR ?_ _ _ _ (Or.inl ?_)) | exact Or.inl rfl | exact Or.inr rfl)
end Go.Proofs.Ytjkgpolikpochaa
