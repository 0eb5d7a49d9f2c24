/- A tree's value in the graph's machine: how the machine is read; leaves. Conditions: as stated. -/
import Derived.Test.YtikbdplllopjlaaGOpsZz
import Derived.Test.YtikbdplllopjlaaQ02Zz
set_option linter.unusedVariables false
set_option linter.unusedSimpArgs false
namespace Go.Proofs.Ytikbdplllopjlaa
open Go.RowKit

def globV (ng : Nat) : List V := (List.range ng).map fun i => ⟨i + 1, 0⟩
def locV (lo : List Nat) : List V := lo.map fun x => ⟨x, 0⟩
/-- The machine and a frame of it, read. -/
def RunR (w : World) (B rb fb : Nat) (M : List MO) (tp : List V) (lo : List Nat) (ng : Nat) : Prop :=
  ∃ (hb n cap tc lc gc : Nat) (A TA LA GA : Option Addr), w.cell? ⟨rb, 4, none⟩ = some (.pointer (some ⟨hb, 0, none⟩)) ∧ w.cell? ⟨hb, 0, none⟩ = some (.slice A n cap) ∧ MemRG w B A n M ∧
    w.cell? ⟨rb, 5, none⟩ = some (.slice GA ng gc) ∧ RowV w B GA (globV ng) ∧ w.cell? ⟨fb, 0, none⟩ = some (.slice TA tp.length tc) ∧ RowV w B TA tp ∧ w.cell? ⟨fb, 1, none⟩ = some (.slice LA lo.length lc) ∧ RowV w B LA (locV lo) ∧ rb < B ∧ fb < B ∧ hb < B
theorem RunR.below {w w' : World} {B B' rb fb : Nat} {M : List MO} {tp : List V} {lo : List Nat} {ng : Nat} (h : RunR w B rb fb M tp lo ng) (hb : Below B w w') (hB : B ≤ B') : RunR w' B' rb fb M tp lo ng := by
  obtain ⟨hb', n, cap, tc, lc, gc, A, TA, LA, GA, h1, h2, h3, h4, h5, h6, h7, h8, h9, h10, h11, h12⟩ := h
  exact ⟨hb', n, cap, tc, lc, gc, A, TA, LA, GA, cell_below h1 hb h10, cell_below h2 hb h12, h3.below hb hB, cell_below h4 hb h10, h5.below hb hB, cell_below h6 hb h11, h7.below hb hB, cell_below h8 hb h11, h9.below hb hB, by omega, by omega, by omega⟩
theorem globV_get {ng k : Nat} (h : k < ng) : (globV ng)[k]? = some ⟨k + 1, 0⟩ := by simp [globV, h]
theorem locV_get {lo : List Nat} {k : Nat} (h : k < lo.length) : (locV lo)[k]? = some ⟨lo.getD k 0, 0⟩ := by simp [locV, h, List.getD]

set_option maxRecDepth 100000 in
set_option maxHeartbeats 4000000 in
theorem leaf_con (rb fb : Nat) (x : Int) (v2 : Value) (A : Option Addr) (n c : Nat) (w : World) (hv : v2 = .slice A n c) :
    Calls Try.prog 34 #[.pointer (some ⟨rb, 0, none⟩), .pointer (some ⟨fb, 0, none⟩), .agg #[.int .i64 1, .int .i64 x, v2]] w fun e w' => AnsV (some ⟨0, x⟩) e ∧ Below w.heap.size w w' := by
  subst hv
  go_enter Try.func34, Try.ntmps34
  refine wp_letter (fun Q hQ => ?_)
  have HQ := Lib.hid hQ
  clear hQ
  go_wp2_with fail
  refine HQ.out _ _ _ ?_
  refine bodyPost_ret (v := .tuple #[.agg #[.int .i64 0, .int .i64 x], .bool true]) (by simp [results, Try.results34, go_sem]) rfl ⟨by simp [AnsV, ansV], ?_⟩
  exact below2 _ _ _

set_option maxRecDepth 100000 in
set_option maxHeartbeats 4000000 in
theorem leaf_tmp (rb fb b off m cp k : Nat) (v : V) (v2 : Value) (A : Option Addr) (n c : Nat) (w : World) (hv : v2 = .slice A n c) (hc : w.cell? ⟨fb, 0, none⟩ = some (.slice (some ⟨b, off, none⟩) m cp)) (hcell : ValCells w b (off + k * 2) v) (hk : k < m) (hr : fb < w.heap.size) (hb : b < w.heap.size) (hm : m ≤ 1000000) :
    Calls Try.prog 34 #[.pointer (some ⟨rb, 0, none⟩), .pointer (some ⟨fb, 0, none⟩), .agg #[.int .i64 2, .int .i64 (k : Int), v2]] w fun e w' => AnsV (some v) e ∧ Below w.heap.size w w' := by
  subst hv
  obtain ⟨c0, c1⟩ := hcell
  have hz1 : fb < w.heap.size + 1 := by omega
  have hz2 : b < w.heap.size + 1 := by omega
  have hk0 : (0 : Int) ≤ (k : Int) := by omega
  have hk1 : (k : Int) < (m : Int) := by omega
  go_enter Try.func34, Try.ntmps34
  refine wp_letter (fun Q hQ => ?_)
  have HQ := Lib.hid hQ
  clear hQ
  go_wp2_with fail
  go_region_held3 (fun w' => w'.cell? ⟨fb, 0, none⟩ = some (.slice (some ⟨b, off, none⟩) m cp) ∧ w'.cell? ⟨b, off + k * 2, none⟩ = some (.int .i64 v.obj) ∧ w'.cell? ⟨b, off + k * 2 + 1, none⟩ = some (.int .i64 v.n) ∧ w'.cell? ⟨w.heap.size, 1, none⟩ = some (.int .i64 (k : Int))) (go_keep) (fail)
  go_wp2_with fail
  refine HQ.out _ _ _ ?_
  refine bodyPost_ret (v := .tuple #[.agg #[.int .i64 v.obj, .int .i64 v.n], .bool true]) (by simp [results, Try.results34, go_sem]) rfl ⟨by simp [AnsV, ansV], ?_⟩
  exact (below2 _ _ _).drew

set_option maxRecDepth 100000 in
set_option maxHeartbeats 4000000 in
theorem leaf_loc (rb fb b off m cp k : Nat) (v : V) (v2 : Value) (A : Option Addr) (n c : Nat) (w : World) (hv : v2 = .slice A n c) (hc : w.cell? ⟨fb, 1, none⟩ = some (.slice (some ⟨b, off, none⟩) m cp)) (hcell : ValCells w b (off + k * 2) v) (hk : k < m) (hr : fb < w.heap.size) (hb : b < w.heap.size) (hm : m ≤ 1000000) :
    Calls Try.prog 34 #[.pointer (some ⟨rb, 0, none⟩), .pointer (some ⟨fb, 0, none⟩), .agg #[.int .i64 3, .int .i64 (k : Int), v2]] w fun e w' => AnsV (some v) e ∧ Below w.heap.size w w' := by
  subst hv
  obtain ⟨c0, c1⟩ := hcell
  have hz1 : fb < w.heap.size + 1 := by omega
  have hz2 : b < w.heap.size + 1 := by omega
  have hk0 : (0 : Int) ≤ (k : Int) := by omega
  have hk1 : (k : Int) < (m : Int) := by omega
  go_enter Try.func34, Try.ntmps34
  refine wp_letter (fun Q hQ => ?_)
  have HQ := Lib.hid hQ
  clear hQ
  go_wp2_with fail
  go_region_held3 (fun w' => w'.cell? ⟨fb, 1, none⟩ = some (.slice (some ⟨b, off, none⟩) m cp) ∧ w'.cell? ⟨b, off + k * 2, none⟩ = some (.int .i64 v.obj) ∧ w'.cell? ⟨b, off + k * 2 + 1, none⟩ = some (.int .i64 v.n) ∧ w'.cell? ⟨w.heap.size, 1, none⟩ = some (.int .i64 (k : Int))) (go_keep) (fail)
  go_wp2_with fail
  refine HQ.out _ _ _ ?_
  refine bodyPost_ret (v := .tuple #[.agg #[.int .i64 v.obj, .int .i64 v.n], .bool true]) (by simp [results, Try.results34, go_sem]) rfl ⟨by simp [AnsV, ansV], ?_⟩
  exact (below2 _ _ _).drew

set_option maxRecDepth 100000 in
set_option maxHeartbeats 4000000 in
theorem leaf_glo (rb fb b off m cp k : Nat) (v : V) (v2 : Value) (A : Option Addr) (n c : Nat) (w : World) (hv : v2 = .slice A n c) (hc : w.cell? ⟨rb, 5, none⟩ = some (.slice (some ⟨b, off, none⟩) m cp)) (hcell : ValCells w b (off + k * 2) v) (hk : k < m) (hr : rb < w.heap.size) (hb : b < w.heap.size) (hm : m ≤ 1000000) :
    Calls Try.prog 34 #[.pointer (some ⟨rb, 0, none⟩), .pointer (some ⟨fb, 0, none⟩), .agg #[.int .i64 4, .int .i64 (k : Int), v2]] w fun e w' => AnsV (some v) e ∧ Below w.heap.size w w' := by
  subst hv
  obtain ⟨c0, c1⟩ := hcell
  have hz1 : rb < w.heap.size + 1 := by omega
  have hz2 : b < w.heap.size + 1 := by omega
  have hk0 : (0 : Int) ≤ (k : Int) := by omega
  have hk1 : (k : Int) < (m : Int) := by omega
  go_enter Try.func34, Try.ntmps34
  refine wp_letter (fun Q hQ => ?_)
  have HQ := Lib.hid hQ
  clear hQ
  go_wp2_with fail
  go_region_held3 (fun w' => w'.cell? ⟨rb, 5, none⟩ = some (.slice (some ⟨b, off, none⟩) m cp) ∧ w'.cell? ⟨b, off + k * 2, none⟩ = some (.int .i64 v.obj) ∧ w'.cell? ⟨b, off + k * 2 + 1, none⟩ = some (.int .i64 v.n) ∧ w'.cell? ⟨w.heap.size, 1, none⟩ = some (.int .i64 (k : Int))) (go_keep) (fail)
  go_wp2_with fail
  refine HQ.out _ _ _ ?_
  refine bodyPost_ret (v := .tuple #[.agg #[.int .i64 v.obj, .int .i64 v.n], .bool true]) (by simp [results, Try.results34, go_sem]) rfl ⟨by simp [AnsV, ansV], ?_⟩
  exact (below2 _ _ _).drew
end Go.Proofs.Ytikbdplllopjlaa
