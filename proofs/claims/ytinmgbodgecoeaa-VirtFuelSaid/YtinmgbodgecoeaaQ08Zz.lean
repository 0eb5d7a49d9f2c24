/- virt: reckon, every instruction. Conditions: as stated. virt: an instruction: what it reckons is laid into a register; stuck; a label. Conditions: as stated. virt: an instruction: a label, a number put out, an exit. Conditions: as stated. A region that draws its order, whose operations read, but for one call and, when all else is done, one store. No program in sight. No condition. -/
import Derived.Test.YtinmgbodgecoeaaVReckZz
import Derived.Test.YtinmgbodgecoeaaQ07Zz
import Derived.Test.YtinmgbodgecoeaaGPutZz
set_option linter.unusedVariables false
set_option linter.unusedSimpArgs false
namespace Go.Proofs.Ytinmgbodgecoeaa
open Go.RowKit

theorem vreck_any {c : CodeS} {ng nf : Nat} {par : Int → Int → Bool} (x : InsS) (A : Option Addr) (cap B : Nat) (rb fb : Nat) (M : List MO) (tp : List V) (lo : List Nat) (w : World) (h : InsOk c ng nf par x) (h8 : x.op ≤ 8) (hregs : c.regs = (tp.length : Int)) (hlo : c.locs.length = lo.length) (hb64 : In64 x.b) (hB : B ≤ w.heap.size) (harg : LongsAt w B x.arg (.slice A x.arg.length cap))
    (hR : RunR w w.heap.size rb fb M tp lo ng) (hMO : MemOk M) (hN : NumOk M) (hFr : FrOk M tp lo ng) (hf1 : tp.length ≤ 1000000) (hf2 : lo.length ≤ 1000000) (hf3 : ng ≤ 1000000) :
    Calls Try.prog 42 #[.pointer (some ⟨rb, 0, none⟩), .pointer (some ⟨fb, 0, none⟩), .agg #[.int .i64 x.op, .int .i64 x.dst, .int .i64 x.a, .int .i64 x.b, .int .i64 x.n, .slice A x.arg.length cap]] w fun e w' => AnsV (reckF M tp lo x) e ∧ Below w.heap.size w w' := by
  obtain ⟨hop, _, ha, hb, hn⟩ := h
  obtain ⟨op, dst, a, b, n, arg⟩ := x
  simp only at *
  have hs : op = 1 ∨ op = 2 ∨ op = 3 ∨ op = 4 ∨ op = 5 ∨ op = 6 ∨ op = 7 ∨ op = 8 := by omega
  rcases hs with rfl | rfl | rfl | rfl | rfl | rfl | rfl | rfl
  · exact vreck1 dst b n a _ _ _ w
  · obtain ⟨ma, rfl⟩ := Int.eq_ofNat_of_zero_le (ha (by simp)).1
    exact vreck2 dst b n _ ma rb fb M tp lo ng w hR hN hFr (by have := (ha (by simp)).2; omega) hf1
  · simp [numberI] at hn
    obtain ⟨ma, rfl⟩ := Int.eq_ofNat_of_zero_le hn.1
    exact vreck3 dst b a _ ma rb fb M tp lo ng w hR hN hFr (by omega) hf2
  · simp [numberI] at hn
    obtain ⟨ma, rfl⟩ := Int.eq_ofNat_of_zero_le hn.1
    exact vreck4 dst b a _ ma rb fb M tp lo ng w hR hN hFr (by omega) hf3
  · simp [numberI] at hn
    obtain ⟨ma, rfl⟩ := Int.eq_ofNat_of_zero_le (ha (by simp)).1
    obtain ⟨mb, rfl⟩ := Int.eq_ofNat_of_zero_le (hb rfl).1
    exact vreck5 dst n _ ma mb rb fb M tp lo ng w hR hN hFr (by have := (ha (by simp)).2; omega) (by have := (hb rfl).2; omega) hn
  · simp [numberI] at hn
    obtain ⟨ma, rfl⟩ := Int.eq_ofNat_of_zero_le (ha (by simp)).1
    obtain ⟨xv, rfl⟩ : ∃ xv, arg = [xv] := by
      match arg, hn.2.1 with
      | [q], _ => exact ⟨q, rfl⟩
    obtain ⟨ab, aof, x', rfl, hab, hx, hc0, hx64⟩ := SliceAt.get harg (k := 0) (by simp)
    obtain rfl : xv = x' := by simpa using hx
    simp only [Nat.zero_mul, Nat.add_zero] at hc0
    exact vreck6 dst b n xv ab aof cap ma rb fb M tp lo ng w hR hN hFr (by have := (ha (by simp)).2; omega) hn.1 hx64 (by omega) hc0
  · simp [numberI] at hn
    obtain ⟨ma, rfl⟩ := Int.eq_ofNat_of_zero_le (ha (by simp)).1
    exact vreck7 dst b n _ ma rb fb M tp lo ng w hR hN hFr (by have := (ha (by simp)).2; omega) hn
  · simp [numberI] at hn
    obtain ⟨ma, rfl⟩ := Int.eq_ofNat_of_zero_le (ha (by simp)).1
    exact vreck8 dst b n _ ma rb fb M tp lo ng w hR hN hFr hMO (by have := (ha (by simp)).2; omega) hb64 hn.1
end Go.Proofs.Ytinmgbodgecoeaa
namespace Go.Proofs.Ytinmgbodgecoeaa
open Go.RowKit

/-- A step behind its tick. -/
def afterF (R : CallR) (lo : List Nat) (s : St) (tp : List V) (y : StepS) : Bool × St × List V :=
  match evalTs s.mem tp lo y.args with
  | none => (false, { s with kind := 3 }, tp)
  | some l => actF R s tp y l
theorem doesF_after {R : CallR} {fuel : Int} {lo : List Nat} {s : St} {tp : List V} {y : StepS} (h : (stepF fuel 1 s).1 = true) : doesF R fuel lo s tp y = afterF R lo (stepF fuel 1 s).2 tp y := by
  unfold doesF afterF
  rw [if_neg (by rw [h]; simp)]
  rfl
theorem setT_natV {tp : List V} {m : Nat} {v : V} : setT tp (m : Int) v = tp.set m v := by
  unfold setT
  rw [if_pos (by omega), Int.toNat_natCast]
/-- What an instruction's call answers. -/
def VSays (base cb hb : Nat) (fuel : Int) (fb tb mb : Nat) (lv : Value) (lo : List Nat) (own : Nat → Prop) (r : Bool × St × List V) (w : World) (e : Ending) (w' : World) : Prop :=
  e = .returned (.bool r.1) ∧ ∃ own' : Nat → Prop, (∀ k, own k → own' k) ∧ (∀ k, own' k → own k ∨ w.heap.size ≤ k) ∧ HCs w' base own' cb hb fuel r.2.1 ∧ (r.1 = true → VFrame w' fb tb r.2.2 lv lo mb) ∧ Wr (fun b => own b ∨ b = tb) w w'
theorem VFrame.set {w : World} {fb tb mb : Nat} {tp : List V} {lv : Value} {lo : List Nat} (h : VFrame w fb tb tp lv lo mb) (k : Nat) (v : V) :
    VFrame ((w.setCell ⟨tb, k * 2, none⟩ (.int .i64 v.obj)).setCell ⟨tb, k * 2 + 1, none⟩ (.int .i64 v.n)) fb tb (tp.set k v) lv lo mb := by
  obtain ⟨h1, h2, h3, h4, h5, h6⟩ := h
  have hw := wr_pair w tb (k * 2) (k * 2 + 1) (.int .i64 v.obj) (.int .i64 v.n)
  obtain ⟨cs, hr, hv⟩ := id h2
  refine ⟨?_, h2.set k v, ownsRow_wr h3 hw h4, h4, by simpa using h5, h6⟩
  rw [List.length_set]
  exact h1.wr hw (fun e => h1.ne hr (by decide) e)
theorem vend_set {base cb hb fb tb rb mb : Nat} {own : Nat → Prop} {fuel : Int} {s : St} {tp : List V} {lv gv : Value} {lo : List Nat} {w W : World} (h : HCs w base own cb hb fuel s) (hF : VFrame w fb tb tp lv lo mb) (hO : VOff base own rb fb tb lv gv) (hb2 : Below w.heap.size w W) (m : Nat) (v : V) :
    HCs ((W.setCell ⟨tb, m * 2, none⟩ (.int .i64 v.obj)).setCell ⟨tb, m * 2 + 1, none⟩ (.int .i64 v.n)) base own cb hb fuel s ∧ VFrame ((W.setCell ⟨tb, m * 2, none⟩ (.int .i64 v.obj)).setCell ⟨tb, m * 2 + 1, none⟩ (.int .i64 v.n)) fb tb (tp.set m v) lv lo mb ∧
    Wr (fun b => own b ∨ b = tb) w ((W.setCell ⟨tb, m * 2, none⟩ (.int .i64 v.obj)).setCell ⟨tb, m * 2 + 1, none⟩ (.int .i64 v.n)) := by
  have hwp := wr_pair W tb (m * 2) (m * 2 + 1) (.int .i64 v.obj) (.int .i64 v.n)
  exact ⟨(h.below hb2).wr hwp (fun k hk => (by subst hk; exact ⟨hO.otb.2, hO.otb.1⟩)), (hF.below hb2).set m v,
    (Wr.of_below (F := fun b => own b ∨ b = tb) hb2).trans hwp (fun i hi => Or.inl (Or.inr hi))⟩

set_option maxRecDepth 100000 in
set_option maxHeartbeats 8000000 in
theorem vdoes_reck {c : CodeS} {ng nf : Nat} {par : Int → Int → Bool} (base cb hb rb fb tb mb : Nat) (own : Nat → Prop) (P : Value × Value × Value) (gv bv lv : Value) (fuel : Int) (s : St) (tp : List V) (lo : List Nat) (R : CallR) (op : Int) (m : Nat) (a b n : Int) (arg : List Int) (A : Option Addr) (cap : Nat) (w : World)
    (hi : InsOk c ng nf par ⟨op, (m : Int), a, b, n, arg⟩) (h8 : op ≤ 8) (hregs : c.regs = (tp.length : Int)) (hlo : c.locs.length = lo.length) (hb64 : In64 b) (harg : LongsAt w base arg (.slice A arg.length cap)) (hmt : m < tp.length)
    (h : HCs w base own cb hb fuel s) (hR : VRun w rb cb hb P gv bv ng) (hF : VFrame w fb tb tp lv lo mb) (hO : VOff base own rb fb tb lv gv) (hFr : FrOk (memBase s.mem) tp lo ng) :
    Calls Try.prog 33 #[.pointer (some ⟨rb, 0, none⟩), .pointer (some ⟨fb, 0, none⟩), .agg #[.int .i64 op, .int .i64 (m : Int), .int .i64 a, .int .i64 b, .int .i64 n, .slice A arg.length cap]] w fun e w' => VSays base cb hb fuel fb tb mb lv lo own (afterF R lo s tp (stepI ⟨op, (m : Int), a, b, n, arg⟩)) w e w' := by
  have hev := reck_eval (M := memBase s.mem) (tp := tp) (lo := lo) hi h8
  rw [evalTs_base] at hev
  have hop := hi.ops
  simp only at hop
  have hst : (stepI ⟨op, (m : Int), a, b, n, arg⟩).op = 1 ∧ (stepI ⟨op, (m : Int), a, b, n, arg⟩).to = (m : Int) := by
    have hs : op = 1 ∨ op = 2 ∨ op = 3 ∨ op = 4 ∨ op = 5 ∨ op = 6 ∨ op = 7 ∨ op = 8 := by omega
    rcases hs with rfl | rfl | rfl | rfl | rfl | rfl | rfl | rfl <;> exact ⟨rfl, rfl⟩
  have haf : afterF R lo s tp (stepI ⟨op, (m : Int), a, b, n, arg⟩) = (match reckF (memBase s.mem) tp lo ⟨op, (m : Int), a, b, n, arg⟩ with | none => (false, { s with kind := 3 }, tp) | some v => (true, s, tp.set m v)) := by
    unfold afterF
    rw [hev]
    cases reckF (memBase s.mem) tp lo ⟨op, (m : Int), a, b, n, arg⟩ with
    | none => rfl
    | some v =>
      show actF R s tp _ [v] = _
      unfold actF
      rw [if_pos hst.1, hst.2, setT_natV]
      rfl
  rw [haf]
  clear haf hev hst
  have hbk := h.blocks
  have HRK := Lib.hid (fun W (hW : Below w.heap.size w W) => vreck_any (c := c) (ng := ng) (nf := nf) (par := par) ⟨op, (m : Int), a, b, n, arg⟩ A cap base rb fb (memBase s.mem) tp lo W hi h8 hregs hlo hb64 (by have := hW.size; have := hbk.2.2 cb hbk.1; omega) (harg.below (hW.mono (by have := hbk.2.2 cb hbk.1; omega)) (Nat.le_refl _))
    (vrunR_of (h.below hW) (hR.below hW) (hF.below hW)).1 (vrunR_of h hR hF).2.1 (vrunR_of h hR hF).2.2 hFr hF.few hF.fewl hR.few)
  obtain ⟨r, hr⟩ : ∃ r, r = reckF (memBase s.mem) tp lo ⟨op, (m : Int), a, b, n, arg⟩ := ⟨_, rfl⟩
  rw [← hr] at HRK ⊢
  have t9 : (op == 9) = false := by simp; omega
  have t10 : (op == 10) = false := by simp; omega
  have t11 : (op == 11) = false := by simp; omega
  have t12 : (op == 12) = false := by simp; omega
  have t13 : (op == 13) = false := by simp; omega
  have t14 : (op == 14) = false := by simp; omega
  have HB1 := Lib.hid (below1 w (.cells #[.int .i64 op, .int .i64 (m : Int), .int .i64 a, .int .i64 b, .int .i64 n, .slice A arg.length cap] 68))
  have HX0 := Lib.hid (Row.new w #[.int .i64 op, .int .i64 (m : Int), .int .i64 a, .int .i64 b, .int .i64 n, .slice A arg.length cap] 68)
  have HH := Lib.hid h
  have HR := Lib.hid hR
  have HF := Lib.hid hF
  have HO := Lib.hid hO
  have HBK := Lib.hid hbk
  have hrb := hR.row.lt
  clear hi hop h8 hregs hlo hb64 harg h hR hF hO hFr hbk hr
  cases r with
  | none =>
    go_enter Try.func33, Try.ntmps33
    refine wp_letter (fun Q hQ => ?_)
    have HQ := Lib.hid hQ
    clear hQ
    go_wp2_with fail
    refine (HRK.out _ HB1.out).mono ?_
    rintro e w3 ⟨⟨y0, y1, rfl⟩, hb3⟩
    have HB3 := Lib.hid (HB1.out.trans (hb3.mono HB1.out.size))
    have hr3 := (HR.out.below HB3.out).row
    have k0 := hr3.cell (j := 0) rfl
    have hrb3 := hr3.lt
    have HSK := Lib.hid (fun W (hW : Below w3.heap.size w3 W) => stuck_hc (w := W) ((HH.out.below HB3.out).below hW))
    clear hb3 hr3
    go_wp2_with fail
    refine (HSK.out _ (below1 _ _)).mono ?_
    rintro e w4 ⟨rfl, hH4, hw4⟩
    have HH4 := Lib.hid hH4
    have HW4 := Lib.hid ((Wr.of_below (F := fun b => own b ∨ b = tb) (HB3.out.trans ((below1 w3 (.cells #[.int .i64 y0, .int .i64 y1] 60)).mono HB3.out.size))).trans hw4 (fun i hi => Or.inl (Or.inl (hi ▸ HBK.out.1))))
    clear hH4 hw4
    go_wp2_with fail
    refine HQ.out _ _ _ ?_
    exact bodyPost_ret (v := .bool false) (by simp [results, Try.results33, go_sem]) rfl ⟨rfl, own, fun _ h => h, fun _ h => Or.inl h, HH4.out, fun h => (by cases h), HW4.out⟩
  | some v =>
    go_enter Try.func33, Try.ntmps33
    refine wp_letter (fun Q hQ => ?_)
    have HQ := Lib.hid hQ
    clear hQ
    go_wp2_with fail
    refine (HRK.out _ HB1.out).mono ?_
    rintro e w3 ⟨he, hb3⟩
    simp only [AnsV, ansV] at he
    subst he
    have HB3 := Lib.hid (HB1.out.trans (hb3.mono HB1.out.size))
    have hx3 := HX0.out.below hb3 (by simp)
    have x1 := hx3.cell (j := 1) rfl
    have hxl := hx3.lt
    have hF3 := HF.out.below HB3.out
    have ft := hF3.row.cell (j := 0) rfl
    have hfb3 := hF3.row.lt
    have htb3 := hF3.lt.2
    obtain ⟨cs, htr, hvi⟩ := id hF3.temps
    obtain ⟨tv0, tv1⟩ := hvi.2 m _ (List.getElem?_eq_getElem hmt)
    have t0 := htr.cell tv0
    have t1 := htr.cell tv1
    have t2 := htr.free (m * 2)
    have t3 := htr.free (m * 2 + 1)
    have hfb4 : fb < w3.heap.size + 1 := by omega
    have htb4 : tb < w3.heap.size + 1 := by omega
    have htne : ¬ tb = w3.heap.size := by omega
    have hxl4 : w.heap.size < w3.heap.size + 1 := by omega
    have hm0 : (0 : Int) ≤ (m : Int) := by omega
    have hm1 : (m : Int) < (tp.length : Int) := by omega
    have htpl : (tp.length : Int) ≤ 1000000 := by have := hF3.few; omega
    have HF3 := Lib.hid hF3
    clear hb3 hx3 hvi tv0 tv1 htr hF3
    go_wp2_with fail
    refine still_tailq 8 (by kernel_rfl) (by kernel_rfl) ?_
    simp only [List.take_succ_cons, List.take_zero, List.drop_succ_cons, List.drop_zero]
    repeat (go_big_quiet_step (fail))
    refine wpQuiet_nil ?_
    go_wp2_with fail
    refine HQ.out _ _ _ ?_
    obtain ⟨z1, z2, z3⟩ := vend_set HH.out HF.out HO.out HB3.out m v
    have hbz := (below1 ((w3.setCell ⟨tb, m * 2, none⟩ (.int .i64 v.obj)).setCell ⟨tb, m * 2 + 1, none⟩ (.int .i64 v.n)) (.cells #[.int .i64 v.obj, .int .i64 v.n] 60)).drew
    exact bodyPost_ret (v := .bool true) (by simp [results, Try.results33, go_sem]) rfl ⟨rfl, own, fun _ h => h, fun _ h => Or.inl h, z1.below hbz, fun _ => z2.below hbz, z3.trans (Wr.of_below (F := fun _ => False) hbz) (fun _ h => h.elim)⟩
end Go.Proofs.Ytinmgbodgecoeaa
namespace Go.Proofs.Ytinmgbodgecoeaa
open Go.RowKit

theorem num_zero {w : World} {b o : Nat} {v : V} (h : w.cell? ⟨b, o, none⟩ = some (.int .i64 v.obj)) (hv : v.obj = 0) : w.cell? ⟨b, o, none⟩ = some (.int .i64 0) := by
  rw [hv] at h
  exact h
theorem afterF_one {R : CallR} {lo : List Nat} {s : St} {tp : List V} {y : StepS} {r : Int} (h : y.args = [tmpT r]) : afterF R lo s tp y = actF R s tp y [tp.getD r.toNat ⟨0, 0⟩] := by
  unfold afterF
  rw [h, evalTs_one, evalT_tmp]
  rfl
set_option maxRecDepth 100000 in
set_option maxHeartbeats 8000000 in
theorem vdoes_label (base cb hb rb fb tb mb : Nat) (own : Nat → Prop) (P : Value × Value × Value) (gv bv lv : Value) (fuel : Int) (s : St) (tp : List V) (lo : List Nat) (R : CallR) (ng : Nat) (dst a b n : Int) (AV : Value) (l : List Int) (w : World)
    (h : HCs w base own cb hb fuel s) (hR : VRun w rb cb hb P gv bv ng) (hF : VFrame w fb tb tp lv lo mb) (hO : VOff base own rb fb tb lv gv) :
    Calls Try.prog 33 #[.pointer (some ⟨rb, 0, none⟩), .pointer (some ⟨fb, 0, none⟩), .agg #[.int .i64 14, .int .i64 dst, .int .i64 a, .int .i64 b, .int .i64 n, AV]] w fun e w' => VSays base cb hb fuel fb tb mb lv lo own (afterF R lo s tp (stepI ⟨14, dst, a, b, n, l⟩)) w e w' := by
  have haf : afterF R lo s tp (stepI ⟨14, dst, a, b, n, l⟩) = (true, s, tp) := by
    unfold afterF
    rw [show (stepI ⟨14, dst, a, b, n, l⟩).args = [conT 0] from rfl, evalTs_one, evalT_con]
    rfl
  rw [haf]
  clear haf
  have HB1 := Lib.hid (below1 w (.cells #[.int .i64 14, .int .i64 dst, .int .i64 a, .int .i64 b, .int .i64 n, AV] 68))
  have HH := Lib.hid h
  have HF := Lib.hid hF
  clear h hR hF hO
  go_enter Try.func33, Try.ntmps33
  refine wp_letter (fun Q hQ => ?_)
  have HQ := Lib.hid hQ
  clear hQ
  go_wp2_with fail
  refine HQ.out _ _ _ ?_
  exact bodyPost_ret (v := .bool true) (by simp [results, Try.results33, go_sem]) rfl ⟨rfl, own, fun _ h => h, fun _ h => Or.inl h, HH.out.below HB1.out, fun _ => HF.out.below HB1.out, Wr.of_below HB1.out⟩
set_option maxRecDepth 100000 in
set_option maxHeartbeats 8000000 in
theorem vdoes_put (base cb hb rb fb tb mb : Nat) (own : Nat → Prop) (P : Value × Value × Value) (gv bv lv : Value) (fuel : Int) (s : St) (tp : List V) (lo : List Nat) (R : CallR) (ng : Nat) (dst b n : Int) (ma : Nat) (AV : Value) (l : List Int) (w : World)
    (h : HCs w base own cb hb fuel s) (hR : VRun w rb cb hb P gv bv ng) (hF : VFrame w fb tb tp lv lo mb) (hO : VOff base own rb fb tb lv gv) (hma : ma < tp.length) (hz : (tp.getD ma ⟨0, 0⟩).obj = 0) (hout : s.out.length ≤ 1000000000) :
    Calls Try.prog 33 #[.pointer (some ⟨rb, 0, none⟩), .pointer (some ⟨fb, 0, none⟩), .agg #[.int .i64 11, .int .i64 dst, .int .i64 (ma : Int), .int .i64 b, .int .i64 n, AV]] w fun e w' => VSays base cb hb fuel fb tb mb lv lo own (afterF R lo s tp (stepI ⟨11, dst, (ma : Int), b, n, l⟩)) w e w' := by
  have haf : afterF R lo s tp (stepI ⟨11, dst, (ma : Int), b, n, l⟩) = (true, { s with out := s.out ++ [(tp.getD ma ⟨0, 0⟩).n] }, tp) := by
    rw [show stepI ⟨11, dst, (ma : Int), b, n, l⟩ = ⟨4, -1, 0, 0, [tmpT (ma : Int)]⟩ from rfl, afterF_one (r := (ma : Int)) rfl, Int.toNat_natCast]
    unfold actF
    simp only [List.getD_cons_zero]
    rw [if_neg (show ¬ (4 : Int) = 1 by decide), if_neg (show ¬ (4 : Int) = 2 by decide), if_neg (show ¬ (4 : Int) = 3 by decide), if_neg (show ¬ (4 : Int) = 5 by decide), if_neg (show ¬ (tp.getD ma ⟨0, 0⟩).obj > 0 by omega), if_neg (show ¬ (4 : Int) = 6 by decide)]
  rw [haf]
  clear haf
  have hbk := h.blocks
  have HB1 := Lib.hid (below1 w (.cells #[.int .i64 11, .int .i64 dst, .int .i64 (ma : Int), .int .i64 b, .int .i64 n, AV] 68))
  have HX1 := Lib.hid (Row.new w #[.int .i64 11, .int .i64 dst, .int .i64 (ma : Int), .int .i64 b, .int .i64 n, AV] 68)
  have HH1 := Lib.hid (h.below (below1 w (.cells #[.int .i64 11, .int .i64 dst, .int .i64 (ma : Int), .int .i64 b, .int .i64 n, AV] 68)))
  have hR1 := hR.below (below1 w (.cells #[.int .i64 11, .int .i64 dst, .int .i64 (ma : Int), .int .i64 b, .int .i64 n, AV] 68))
  have hF1 := hF.below (below1 w (.cells #[.int .i64 11, .int .i64 dst, .int .i64 (ma : Int), .int .i64 b, .int .i64 n, AV] 68))
  have k0 := hR.row.cell (j := 0) rfl
  have hrb := hR.row.lt
  have hrb1 : rb < w.heap.size + 1 := by omega
  have ft := hF.row.cell (j := 0) rfl
  have hfb := hF.row.lt
  have htb := hF.lt.2
  have hfb1 : fb < w.heap.size + 1 := by omega
  have htb1 : tb < w.heap.size + 1 := by omega
  have htne : ¬ tb = w.heap.size := by omega
  obtain ⟨v, hv⟩ : ∃ v, tp[ma]? = some v := ⟨_, List.getElem?_eq_getElem hma⟩
  obtain ⟨cs, htr, hvi⟩ := id hF.temps
  obtain ⟨tv0, tv1⟩ := hvi.2 ma v hv
  have t0 := htr.cell tv0
  have t1 := htr.cell tv1
  have hm0 : (0 : Int) ≤ (ma : Int) := by omega
  have hm1 : (ma : Int) < (tp.length : Int) := by omega
  have htpl : (tp.length : Int) ≤ 1000000 := by have := hF.few; omega
  have HF := Lib.hid hF
  have HO := Lib.hid hO
  have HBK := Lib.hid hbk
  have hgd : tp.getD ma ⟨0, 0⟩ = v := by rw [List.getD_eq_getElem?_getD, hv]; rfl
  rw [hgd] at hz
  rw [hgd]
  have t0' := num_zero t0 hz
  clear t0
  clear h hR hF hO hbk hR1 hF1 hvi tv0 tv1 htr hv hgd
  go_enter Try.func33, Try.ntmps33
  refine wp_letter (fun Q hQ => ?_)
  have HQ := Lib.hid hQ
  clear hQ
  go_wp2_with fail
  refine still_tailq 12 (by kernel_rfl) (by kernel_rfl) ?_
  simp only [List.take_succ_cons, List.take_zero, List.drop_succ_cons, List.drop_zero]
  repeat (go_big_quiet_step (fail))
  refine wpQuiet_nil ?_
  go_wp2_with fail
  refine (put_hc v.n (HH1.out.below (Below.refl _ _).drew) hout).mono ?_
  rintro e w3 ⟨rfl, own', h1, h2, h3, h4⟩
  have hz4 := h4.size
  simp only [World.size_drew, World.size_alloc] at hz4
  have HH3 := Lib.hid (And.intro h1 (And.intro h2 h3))
  have HW3 := Lib.hid h4
  clear h1 h2 h3 h4
  go_wp2_with fail
  refine HQ.out _ _ _ ?_
  refine bodyPost_ret (v := .bool true) (by simp [results, Try.results33, go_sem]) rfl ⟨rfl, own', HH3.out.1, fun k hk => ?_, HH3.out.2.2, fun _ => (HF.out.below HB1.out.drew).wr HW3.out HO.out.ofb.1 HO.out.otb.1 (fun g hg => (HO.out.olv g hg).1), (Wr.of_below (F := fun b => own b ∨ b = tb) HB1.out.drew).trans HW3.out (fun i hi => Or.inl (Or.inl hi))⟩
  rcases HH3.out.2.1 k hk with h' | h'
  · exact Or.inl h'
  · simp only [World.size_drew, World.size_alloc] at h'; exact Or.inr (by omega)
set_option maxRecDepth 100000 in
set_option maxHeartbeats 8000000 in
theorem vdoes_put_stuck (base cb hb rb fb tb mb : Nat) (own : Nat → Prop) (P : Value × Value × Value) (gv bv lv : Value) (fuel : Int) (s : St) (tp : List V) (lo : List Nat) (R : CallR) (ng : Nat) (dst b n : Int) (ma : Nat) (AV : Value) (l : List Int) (w : World)
    (h : HCs w base own cb hb fuel s) (hR : VRun w rb cb hb P gv bv ng) (hF : VFrame w fb tb tp lv lo mb) (hO : VOff base own rb fb tb lv gv) (hma : ma < tp.length) (hz : (tp.getD ma ⟨0, 0⟩).obj ≠ 0) :
    Calls Try.prog 33 #[.pointer (some ⟨rb, 0, none⟩), .pointer (some ⟨fb, 0, none⟩), .agg #[.int .i64 11, .int .i64 dst, .int .i64 (ma : Int), .int .i64 b, .int .i64 n, AV]] w fun e w' => VSays base cb hb fuel fb tb mb lv lo own (afterF R lo s tp (stepI ⟨11, dst, (ma : Int), b, n, l⟩)) w e w' := by
  have haf : afterF R lo s tp (stepI ⟨11, dst, (ma : Int), b, n, l⟩) = (false, { s with kind := 3 }, tp) := by
    rw [show stepI ⟨11, dst, (ma : Int), b, n, l⟩ = ⟨4, -1, 0, 0, [tmpT (ma : Int)]⟩ from rfl, afterF_one (r := (ma : Int)) rfl, Int.toNat_natCast]
    unfold actF
    simp only [List.getD_cons_zero]
    rw [if_neg (show ¬ (4 : Int) = 1 by decide), if_neg (show ¬ (4 : Int) = 2 by decide), if_neg (show ¬ (4 : Int) = 3 by decide), if_neg (show ¬ (4 : Int) = 5 by decide), if_pos (show (tp.getD ma ⟨0, 0⟩).obj > 0 by omega)]
  rw [haf]
  clear haf
  have hbk := h.blocks
  have HB1 := Lib.hid (below1 w (.cells #[.int .i64 11, .int .i64 dst, .int .i64 (ma : Int), .int .i64 b, .int .i64 n, AV] 68))
  have HX1 := Lib.hid (Row.new w #[.int .i64 11, .int .i64 dst, .int .i64 (ma : Int), .int .i64 b, .int .i64 n, AV] 68)
  have HH1 := Lib.hid (h.below (below1 w (.cells #[.int .i64 11, .int .i64 dst, .int .i64 (ma : Int), .int .i64 b, .int .i64 n, AV] 68)))
  have hR1 := hR.below (below1 w (.cells #[.int .i64 11, .int .i64 dst, .int .i64 (ma : Int), .int .i64 b, .int .i64 n, AV] 68))
  have hF1 := hF.below (below1 w (.cells #[.int .i64 11, .int .i64 dst, .int .i64 (ma : Int), .int .i64 b, .int .i64 n, AV] 68))
  have k0 := hR.row.cell (j := 0) rfl
  have hrb := hR.row.lt
  have hrb1 : rb < w.heap.size + 1 := by omega
  have ft := hF.row.cell (j := 0) rfl
  have hfb := hF.row.lt
  have htb := hF.lt.2
  have hfb1 : fb < w.heap.size + 1 := by omega
  have htb1 : tb < w.heap.size + 1 := by omega
  have htne : ¬ tb = w.heap.size := by omega
  obtain ⟨v, hv⟩ : ∃ v, tp[ma]? = some v := ⟨_, List.getElem?_eq_getElem hma⟩
  obtain ⟨cs, htr, hvi⟩ := id hF.temps
  obtain ⟨tv0, tv1⟩ := hvi.2 ma v hv
  have t0 := htr.cell tv0
  have t1 := htr.cell tv1
  have hm0 : (0 : Int) ≤ (ma : Int) := by omega
  have hm1 : (ma : Int) < (tp.length : Int) := by omega
  have htpl : (tp.length : Int) ≤ 1000000 := by have := hF.few; omega
  have HF := Lib.hid hF
  have HO := Lib.hid hO
  have HBK := Lib.hid hbk
  have hgd : tp.getD ma ⟨0, 0⟩ = v := by rw [List.getD_eq_getElem?_getD, hv]; rfl
  rw [hgd] at hz
  clear h hR hF hO hbk hR1 hF1 hvi tv0 tv1 htr hv hgd
  go_enter Try.func33, Try.ntmps33
  refine wp_letter (fun Q hQ => ?_)
  have HQ := Lib.hid hQ
  clear hQ
  go_wp2_with fail
  refine still_tailq 12 (by kernel_rfl) (by kernel_rfl) ?_
  simp only [List.take_succ_cons, List.take_zero, List.drop_succ_cons, List.drop_zero]
  repeat (go_big_quiet_step (fail))
  refine wpQuiet_nil ?_
  go_wp2_with fail
  refine (putStuck_hc v (HH1.out.below (Below.refl _ _).drew) hz).mono ?_
  rintro e w3 ⟨rfl, hH3, hw3⟩
  have HH3 := Lib.hid hH3
  have HW3 := Lib.hid ((Wr.of_below (F := fun b => own b ∨ b = tb) HB1.out.drew).trans hw3 (fun i hi => Or.inl (Or.inl (hi ▸ HBK.out.1))))
  clear hH3 hw3
  go_wp2_with fail
  refine HQ.out _ _ _ ?_
  exact bodyPost_ret (v := .bool false) (by simp [results, Try.results33, go_sem]) rfl ⟨rfl, own, fun _ h => h, fun _ h => Or.inl h, HH3.out, fun h => (by cases h), HW3.out⟩
set_option maxRecDepth 100000 in
set_option maxHeartbeats 8000000 in
theorem vdoes_exit (base cb hb rb fb tb mb : Nat) (own : Nat → Prop) (P : Value × Value × Value) (gv bv lv : Value) (fuel : Int) (s : St) (tp : List V) (lo : List Nat) (R : CallR) (ng : Nat) (dst b n : Int) (ma : Nat) (AV : Value) (l : List Int) (w : World)
    (h : HCs w base own cb hb fuel s) (hR : VRun w rb cb hb P gv bv ng) (hF : VFrame w fb tb tp lv lo mb) (hO : VOff base own rb fb tb lv gv) (hma : ma < tp.length) :
    Calls Try.prog 33 #[.pointer (some ⟨rb, 0, none⟩), .pointer (some ⟨fb, 0, none⟩), .agg #[.int .i64 13, .int .i64 dst, .int .i64 (ma : Int), .int .i64 b, .int .i64 n, AV]] w fun e w' => VSays base cb hb fuel fb tb mb lv lo own (afterF R lo s tp (stepI ⟨13, dst, (ma : Int), b, n, l⟩)) w e w' := by
  have haf : afterF R lo s tp (stepI ⟨13, dst, (ma : Int), b, n, l⟩) = (false, (if (tp.getD ma ⟨0, 0⟩).obj > 0 then { s with kind := 3 } else { s with code := (tp.getD ma ⟨0, 0⟩).n, kind := 1 }), tp) := by
    rw [show stepI ⟨13, dst, (ma : Int), b, n, l⟩ = ⟨6, -1, 0, 0, [tmpT (ma : Int)]⟩ from rfl, afterF_one (r := (ma : Int)) rfl, Int.toNat_natCast]
    unfold actF
    simp only [List.getD_cons_zero]
    rw [if_neg (show ¬ (6 : Int) = 1 by decide), if_neg (show ¬ (6 : Int) = 2 by decide), if_neg (show ¬ (6 : Int) = 3 by decide), if_neg (show ¬ (6 : Int) = 5 by decide)]
    by_cases hz : (tp.getD ma ⟨0, 0⟩).obj > 0
    · rw [if_pos hz, if_pos hz]
    · rw [if_neg hz, if_neg hz]; rfl
  rw [haf]
  clear haf
  have hbk := h.blocks
  have HB1 := Lib.hid (below1 w (.cells #[.int .i64 13, .int .i64 dst, .int .i64 (ma : Int), .int .i64 b, .int .i64 n, AV] 68))
  have HX1 := Lib.hid (Row.new w #[.int .i64 13, .int .i64 dst, .int .i64 (ma : Int), .int .i64 b, .int .i64 n, AV] 68)
  have HH1 := Lib.hid (h.below (below1 w (.cells #[.int .i64 13, .int .i64 dst, .int .i64 (ma : Int), .int .i64 b, .int .i64 n, AV] 68)))
  have hR1 := hR.below (below1 w (.cells #[.int .i64 13, .int .i64 dst, .int .i64 (ma : Int), .int .i64 b, .int .i64 n, AV] 68))
  have hF1 := hF.below (below1 w (.cells #[.int .i64 13, .int .i64 dst, .int .i64 (ma : Int), .int .i64 b, .int .i64 n, AV] 68))
  have k0 := hR.row.cell (j := 0) rfl
  have hrb := hR.row.lt
  have hrb1 : rb < w.heap.size + 1 := by omega
  have ft := hF.row.cell (j := 0) rfl
  have hfb := hF.row.lt
  have htb := hF.lt.2
  have hfb1 : fb < w.heap.size + 1 := by omega
  have htb1 : tb < w.heap.size + 1 := by omega
  have htne : ¬ tb = w.heap.size := by omega
  obtain ⟨v, hv⟩ : ∃ v, tp[ma]? = some v := ⟨_, List.getElem?_eq_getElem hma⟩
  obtain ⟨cs, htr, hvi⟩ := id hF.temps
  obtain ⟨tv0, tv1⟩ := hvi.2 ma v hv
  have t0 := htr.cell tv0
  have t1 := htr.cell tv1
  have hm0 : (0 : Int) ≤ (ma : Int) := by omega
  have hm1 : (ma : Int) < (tp.length : Int) := by omega
  have htpl : (tp.length : Int) ≤ 1000000 := by have := hF.few; omega
  have HF := Lib.hid hF
  have HO := Lib.hid hO
  have HBK := Lib.hid hbk
  have hgd : tp.getD ma ⟨0, 0⟩ = v := by rw [List.getD_eq_getElem?_getD, hv]; rfl
  rw [hgd]
  clear h hR hF hO hbk hR1 hF1 hvi tv0 tv1 htr hv hgd
  go_enter Try.func33, Try.ntmps33
  refine wp_letter (fun Q hQ => ?_)
  have HQ := Lib.hid hQ
  clear hQ
  go_wp2_with fail
  refine still_tailq 12 (by kernel_rfl) (by kernel_rfl) ?_
  simp only [List.take_succ_cons, List.take_zero, List.drop_succ_cons, List.drop_zero]
  repeat (go_big_quiet_step (fail))
  refine wpQuiet_nil ?_
  go_wp2_with fail
  refine (exit_hc v (HH1.out.below (Below.refl _ _).drew)).mono ?_
  rintro e w3 ⟨rfl, hH3, hw3⟩
  have HH3 := Lib.hid hH3
  have HW3 := Lib.hid ((Wr.of_below (F := fun b => own b ∨ b = tb) HB1.out.drew).trans hw3 (fun i hi => Or.inl (Or.inl (hi ▸ HBK.out.1))))
  clear hH3 hw3
  go_wp2_with fail
  refine HQ.out _ _ _ ?_
  exact bodyPost_ret (v := .bool false) (by simp [results, Try.results33, go_sem]) rfl ⟨rfl, own, fun _ h => h, fun _ h => Or.inl h, HH3.out, fun h => (by cases h), HW3.out⟩
end Go.Proofs.Ytinmgbodgecoeaa
namespace Go.Proofs.Ytinmgbodgecoeaa
open Go.RowKit

structure XGet (n : Nat) (w : World) (ic is : Nat) (Cl : Nat → Value → Prop) (Post : World → Value → Prop) (Fin : World → Prop) (L : Array Bool) (Y : Nat → Value) (W : World) : Prop where
  cl : ∀ i, i ≠ ic → i ≠ is → L.getD i false = true → Cl i (Y i)
  pre : L.getD ic false = false → W = w.drew
  post : L.getD ic false = true → L.getD is false = false → Post W (Y ic)
  fin : L.getD is false = true → Fin W ∧ ∀ j, j < n → j ≠ is → L.getD j false = true
theorem ls_no {L : Array Bool} {i : Nat} (hn : L.getD i true = false) : L.getD i false = false := by
  rcases Nat.lt_or_ge i L.size with hj | hj
  · simp [Array.getD, hj] at hn ⊢; exact hn
  · simp [Array.getD, Nat.not_lt.2 hj]
theorem region_get {P : Program} {id : Nat} {Q : Exit → Act → World → Prop} {a : Act} {w : World} {l : List Oper} (hm : P.follows .mixedOrders = true) (ic is : Nat) (Cl : Nat → Value → Prop) (Post : World → Value → Prop) (Fin : World → Prop) (mk : (Nat → Value) → Act) (Y0 : Nat → Value) (ha : a = mk Y0)
    (hback : l.zipIdx.all (fun x => x.1.after.all fun e => !Region.binds .any e || decide (e.on < x.2)) = true)
    (his : is < l.length) (hne : ic ≠ is) (hilt : ic < is)
    (hall : ∀ o, l[is]? = some o → ∀ j, j < l.length → j ≠ is → ∃ e ∈ o.after, e.on = j ∧ Region.binds .any e = true)
    (hstep : ∀ i o Y W, i ≠ ic → i ≠ is → l[i]? = some o → (W = w.drew ∨ ∃ v, Post W v) → (∀ e ∈ o.after, Region.binds .any e = true → e.on ≠ ic → e.on ≠ is → Cl e.on (Y e.on)) →
      ∀ K : Act → World → Prop, (∀ v, Cl i v → K (mk (upd Y i v)) W) → wpOp P l.toArray Q i K (mk Y) W)
    (hcall : ∀ o Y, l[ic]? = some o → (∀ e ∈ o.after, Region.binds .any e = true → e.on ≠ ic → e.on ≠ is → Cl e.on (Y e.on)) → ∀ K : Act → World → Prop, (∀ v W', Post W' v → K (mk (upd Y ic v)) W') → wpOp P l.toArray Q ic K (mk Y) w.drew)
    (hstore : ∀ o Y W, l[is]? = some o → Post W (Y ic) → (∀ i, i < l.length → i ≠ ic → i ≠ is → Cl i (Y i)) → ∀ K : Act → World → Prop, (∀ v W', Fin W' → K (mk (upd Y is v)) W') → wpOp P l.toArray Q is K (mk Y) W)
    (hend : ∀ Y W, Fin W → (∀ i, i < l.length → i ≠ ic → i ≠ is → Cl i (Y i)) → Q .normal (mk Y) W) : (Code.region id l.toArray true).wp P Q a w := by
  refine wp_region_inv hm (fun L act W => L.size = l.length ∧ ∃ Y, act = mk Y ∧ XGet l.length w ic is Cl Post Fin L Y W) ?_ ?_ ?_
  · have hf : ∀ j, (Array.replicate l.toArray.size false).getD j false = true → False := fun j h => by
      rcases Nat.lt_or_ge j l.length with hj | hj
      · simp [Array.getD, hj] at h
      · simp [Array.getD, Nat.not_lt.2 hj] at h
    exact ⟨by simp, Y0, ha, fun i _ _ h => (hf i h).elim, fun _ => rfl, fun h => (hf _ h).elim, fun h => (hf _ h).elim⟩
  · rintro L act W i hi ⟨hsz, Y, rfl, hJ⟩
    obtain ⟨hn, o, ho, hready⟩ := mem_ready.1 hi
    have ho' : l[i]? = some o := by simpa using ho
    have hil : i < L.size := by rw [hsz]; exact (List.getElem?_eq_some_iff.1 ho').1
    by_cases h1 : i = ic
    · subst h1
      have hW := hJ.pre (ls_no hn)
      subst hW
      refine hcall o Y ho' (fun e he hbd n1 n2 => hJ.cl e.on n1 n2 (hready e he hbd)) _ (fun v W' hp => ⟨by simp [hsz], _, rfl, fun j hj1 hj2 g => ?_, fun g => ?_, fun _ _ => by rw [upd_self]; exact hp, fun g => ?_⟩)
      · rw [upd_ne Y _ hj1]
        exact hJ.cl j hj1 hj2 ((ls_set' g).resolve_left hj1)
      · simp [Array.getD, hil] at g
      · exact (ls_un hn ((hJ.fin ((ls_set' g).resolve_left (Ne.symm hne))).2 i (by omega) hne)).elim
    · by_cases h2 : i = is
      · subst h2
        have hd : ∀ j, j < l.length → j ≠ i → L.getD j false = true := fun j hj hji => by
          obtain ⟨e, he, hon, hb⟩ := hall o ho' j hj hji
          have := hready e he hb
          rwa [hon] at this
        have hic := hd ic (by omega) hne
        refine hstore o Y W ho' (hJ.post hic (ls_no hn)) (fun j hj n1 n2 => hJ.cl j n1 n2 (hd j hj n2)) _ (fun v W' hf => ⟨by simp [hsz], _, rfl, fun j hj1 hj2 g => ?_, fun g => ?_, fun g g2 => ?_, fun _ => ⟨hf, fun j hj hji => ls_keep (hd j hj hji)⟩⟩)
        · rw [upd_ne Y _ hj2]
          exact hJ.cl j hj1 hj2 ((ls_set' g).resolve_left hj2)
        · rw [ls_keep hic] at g; cases g
        · simp [Array.getD, hil] at g2
      · have hW : W = w.drew ∨ ∃ v, Post W v := by
          cases hc : L.getD ic false with
          | false => exact Or.inl (hJ.pre hc)
          | true =>
            refine Or.inr ⟨_, hJ.post hc ?_⟩
            cases hs : L.getD is false with
            | false => rfl
            | true => exact (ls_un hn ((hJ.fin hs).2 i (by omega) h2)).elim
        refine hstep i o Y W h1 h2 ho' hW (fun e he hbd n1 n2 => hJ.cl e.on n1 n2 (hready e he hbd)) _ (fun v hv => ⟨by simp [hsz], _, rfl, fun j hj1 hj2 g => ?_, fun g => ?_, fun g g2 => ?_, fun g => ?_⟩)
        · by_cases hji : j = i
          · subst hji; rw [upd_self]; exact hv
          · rw [upd_ne Y _ hji]; exact hJ.cl j hj1 hj2 ((ls_set' g).resolve_left hji)
        · exact hJ.pre (by rw [getD_set_ne false h1] at g; exact g)
        · rw [upd_ne Y _ (Ne.symm h1)]
          exact hJ.post ((ls_set' g).resolve_left (Ne.symm h1)) (by rw [getD_set_ne false h2] at g2; exact g2)
        · have := hJ.fin ((ls_set' g).resolve_left (Ne.symm h2))
          exact ⟨this.1, fun j hj hji => ls_keep (this.2 j hj hji)⟩
  · rintro L act W hr ⟨hsz, Y, rfl, hJ⟩
    have fl := flags_all hback hr hsz
    exact hend Y W (hJ.fin (fl is his)).1 (fun i hi n1 n2 => hJ.cl i n1 n2 (fl i hi))
end Go.Proofs.Ytinmgbodgecoeaa
