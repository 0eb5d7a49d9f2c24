/- What is read as programs, as asks of programs, lies in memory as programs, and its lists are of a size that memory may hold. No condition. -/
import Derived.Test.YtlenilbkifofjaaDoorQ03Zz
set_option linter.unusedVariables false
set_option linter.unusedSimpArgs false
namespace Go.Proofs.YtlenilbkifofjaaDoor
open Go.RowKit Go.Deep

section
variable {H : Type} {enc : TypeId × Value → H} {w : World} {base : Nat} {spare : Nat → Bool} {held : Bool}
theorem sliceF_read {te ts : TypeId} {sz by1 : Nat} {α : Type} (hts : Tryd.prog.underlying ts = some (.slice te)) (hce : Tryd.prog.cellsOf te = sz) (hby : Tryd.prog.bytesOf te = by1) (hsz : 0 < sz) (hb1 : 1 ≤ by1)
    (E : (Nat → Option Value) → α → Prop) (Sz : α → Prop)
    (hE : ∀ (k : Nat) (cs : List Value) (x : DataW H × List MemPlace), DataW.trod enc Tryd.prog w base spare held k te cs = some x → (∀ n, n ∈ x.1.weights Tryd.prog te → n ≤ reachBytes) → ∃ t, Sz t ∧ ∀ c : Nat → Option Value, (∀ j, j < sz → c j = cs[j]?) → E c t)
    {m : Nat} {cs : List Value} {x : DataW H × List MemPlace} (h : DataW.trod enc Tryd.prog w base spare held m ts cs = some x) (hw : ∀ n, n ∈ x.1.weights Tryd.prog ts → n ≤ reachBytes) :
    ∃ (l : List α) (A : Option Addr) (c : Nat), cs = [.slice A l.length c] ∧ SliceAt w w.heap.size sz E l (.slice A l.length c) ∧ l.length * by1 ≤ 140737488351232 ∧ l.length ≤ c ∧ c ≤ 9223372036854775807 ∧ ∀ t, t ∈ l → Sz t := by
  have hml : maxLen = 9223372036854775807 := rfl
  have hr : reachBytes = 140737488351232 := rfl
  rcases DataW.trod_slice hts h with ⟨rfl, _⟩ | ⟨a, len, cap, elems, rest, k, hk, rfl, hx, _, hl, hc, hel, he, _⟩
  · exact ⟨[], none, 0, rfl, ⟨none, 0, rfl, by simp, fun h => by simp at h⟩, by simp, by simp, by omega, fun t ht => by cases ht⟩
  · rw [hce] at he
    have hx1 : x.1 = .slice (elems.map (·.1)) (rest.map (·.1)) := by rw [hx]
    have hwl : len * by1 ≤ 140737488351232 := by
      have h1 := hw ((elems.length + rest.length) * Tryd.prog.bytesOf te) (by rw [hx1]; simp only [DataW.weights, hts, List.length_map, List.mem_cons, true_or])
      rw [hby, hr] at h1
      exact Nat.le_trans (Nat.mul_le_mul_right _ (by omega)) h1
    have raw : ∀ i, i < len → ∃ t, ∃ cs', w.cells? base (a.add (i * sz)) sz = some cs' ∧ Sz t ∧ ∀ c : Nat → Option Value, (∀ j, j < sz → c j = cs'[j]?) → E c t := by
      intro i hi
      have h1 := he i hi
      rw [List.getElem?_eq_getElem (by omega)] at h1
      obtain ⟨cs', h2, h3⟩ := Option.bind_eq_some_iff.1 h1
      obtain ⟨t, ht1, ht2⟩ := hE k cs' _ h3 (fun n hn => hw n (by
        rw [hx1]
        simp only [DataW.weights, hts, List.mem_cons, List.mem_append]
        exact Or.inr (Or.inl (weights_mem_all (List.mem_map.2 ⟨_, List.getElem_mem (by omega), rfl⟩) hn))))
      exact ⟨t, cs', h2, ht1, ht2⟩
    rcases Nat.eq_zero_or_pos len with h0 | hp
    · subst h0
      exact ⟨[], some a, cap, rfl, ⟨_, cap, rfl, by simp, fun h => by simp at h⟩, by simp, by simp, by omega, fun t ht => by cases ht⟩
    · have hspot : a.spot = none ∧ a.block < w.heap.size := by
        obtain ⟨t, cs', h2, _⟩ := raw 0 hp
        have hb := World.cells?_block h2 (by omega)
        have c0 := (World.cells?_some h2).2.2 0 (by omega)
        obtain ⟨b, off, spot⟩ := a
        have hs : spot = none := by
          have hlt : 0 < cs'.length := by rw [(World.cells?_some h2).2.1]; omega
          rw [List.getElem?_eq_getElem hlt] at c0
          simpa [Addr.add] using World.cell?_spot c0
        exact ⟨hs, by simpa [Addr.add] using hb⟩
      obtain ⟨b, off, spot⟩ := a
      obtain ⟨hs, hb⟩ := hspot
      simp only at hs hb
      subst hs
      have key : ∀ i, i < len → ∃ t, Sz t ∧ E (fun j => w.cell? ⟨b, off + i * sz + j, none⟩) t := by
        intro i hi
        obtain ⟨t, cs', h2, h3, h4⟩ := raw i hi
        rw [Go.WideShapes.add_plain] at h2
        obtain ⟨_, hlen, hcell⟩ := World.cells?_some h2
        refine ⟨t, h3, h4 _ (fun j hj => ?_)⟩
        have c0 := hcell j (by omega)
        rw [Go.WideShapes.add_plain] at c0
        exact c0
      obtain ⟨l, hll, hls⟩ := list_of len (fun i t => Sz t ∧ E (fun j => w.cell? ⟨b, off + i * sz + j, none⟩) t) key
      subst hll
      exact ⟨l, some ⟨b, off, none⟩, cap, rfl, ⟨_, cap, rfl, by omega, fun _ => ⟨b, off, rfl, hb, fun i t hi => (hls i t hi).2⟩⟩, hwl, by omega, by omega, fun t ht => by obtain ⟨i, hi⟩ := List.mem_iff_getElem?.1 ht; exact (hls i t hi).1⟩
theorem longF_read {k : Nat} {cs : List Value} {x : DataW H × List MemPlace} (h : DataW.trod enc Tryd.prog w base spare held k 2 cs = some x) : ∃ t : Int, True ∧ ∀ c : Nat → Option Value, (∀ j, j < 1 → c j = cs[j]?) → c 0 = some (.int .i64 t) ∧ In64 t := by
  obtain ⟨a, e, _, w0⟩ := DataW.trod_int Tryd.underlying2 h
  exact ⟨a, trivial, fun c hc => ⟨by rw [hc 0 (by omega), e]; rfl, in64_of_wf w0⟩⟩
theorem longsF_read {m : Nat} {cs : List Value} {x : DataW H × List MemPlace} (h : DataW.trod enc Tryd.prog w base spare held m 23 cs = some x) (hw : ∀ n, n ∈ x.1.weights Tryd.prog 23 → n ≤ reachBytes) :
    ∃ l A c, cs = [.slice A l.length c] ∧ SliceAt w w.heap.size 1 (fun c x => c 0 = some (.int .i64 x) ∧ In64 x) l (.slice A l.length c) ∧ l.length * 8 ≤ 140737488351232 ∧ l.length ≤ c ∧ c ≤ 9223372036854775807 ∧ ∀ t, t ∈ l → True :=
  sliceF_read Tryd.underlying23 (by kernel_rfl) (by1 := 8) (by kernel_rfl) (by omega) (by omega) (fun c x => c 0 = some (.int .i64 x) ∧ In64 x) (fun t => True) (fun k cs x h hw => longF_read h) h hw
theorem numF_read {k : Nat} {cs : List Value} {x : DataW H × List MemPlace} (h : DataW.trod enc Tryd.prog w base spare held k 3 cs = some x) : ∃ t : Int, True ∧ ∀ c : Nat → Option Value, (∀ j, j < 1 → c j = cs[j]?) → c 0 = some (.int .i64 t) ∧ In64 t := by
  obtain ⟨a, e, _, w0⟩ := DataW.trod_int Tryd.underlying3 h
  exact ⟨a, trivial, fun c hc => ⟨by rw [hc 0 (by omega), e]; rfl, in64_of_wf w0⟩⟩
theorem numsF_read {m : Nat} {cs : List Value} {x : DataW H × List MemPlace} (h : DataW.trod enc Tryd.prog w base spare held m 35 cs = some x) (hw : ∀ n, n ∈ x.1.weights Tryd.prog 35 → n ≤ reachBytes) :
    ∃ l A c, cs = [.slice A l.length c] ∧ SliceAt w w.heap.size 1 (fun c x => c 0 = some (.int .i64 x) ∧ In64 x) l (.slice A l.length c) ∧ l.length * 8 ≤ 140737488351232 ∧ l.length ≤ c ∧ c ≤ 9223372036854775807 ∧ ∀ t, t ∈ l → True :=
  sliceF_read Tryd.underlying35 (by kernel_rfl) (by1 := 8) (by kernel_rfl) (by omega) (by omega) (fun c x => c 0 = some (.int .i64 x) ∧ In64 x) (fun t => True) (fun k cs x h hw => numF_read h) h hw
theorem objF_read {k : Nat} {cs : List Value} {x : DataW H × List MemPlace} (h : DataW.trod enc Tryd.prog w base spare held k 67 cs = some x) (hw : ∀ n, n ∈ x.1.weights Tryd.prog 67 → n ≤ reachBytes) :
    ∃ o : ObS, ObjF o ∧ ∀ c : Nat → Option Value, (∀ j, j < 3 → c j = cs[j]?) → ObE w w.heap.size c o := by
  obtain ⟨xs, m, _, hxe, hl, hxs, hf⟩ := DataW.trod_struct Tryd.underlying67 h
  have hc0 : Tryd.prog.cellsOf 3 = 1 := by kernel_rfl
  have hc1 : Tryd.prog.cellsOf 23 = 1 := by kernel_rfl
  have f0 : DataW.trod enc Tryd.prog w base spare held m 3 ((cs.drop 0).take (Tryd.prog.cellsOf 3)) = xs[0]? := hf 0 _ rfl
  rw [hc0] at f0
  have f1 : DataW.trod enc Tryd.prog w base spare held m 3 ((cs.drop 1).take (Tryd.prog.cellsOf 3)) = xs[1]? := hf 1 _ rfl
  rw [hc0] at f1
  have f2 : DataW.trod enc Tryd.prog w base spare held m 23 ((cs.drop 2).take (Tryd.prog.cellsOf 23)) = xs[2]? := hf 2 _ rfl
  rw [hc1] at f2
  obtain ⟨x0, x1, x2, rfl⟩ : ∃ x0 x1 x2, xs = [x0, x1, x2] := by
    match xs, hxs with
    | [p, q, r], _ => exact ⟨p, q, r, rfl⟩
  have hx1 : x.1 = .agg [x0.1, x1.1, x2.1] := by rw [hxe]; rfl
  have hwt : ∀ n, n ∈ x0.1.weights Tryd.prog 3 ++ x1.1.weights Tryd.prog 3 ++ x2.1.weights Tryd.prog 23 → n ≤ reachBytes := fun n hn => hw n (by
    rw [hx1]
    simp only [DataW.weights, Tryd.underlying67, List.map_cons, List.map_nil, DataW.weightsEach, List.append_nil]
    simpa using hn)
  obtain ⟨v0, e0, _, i0⟩ := DataW.trod_int Tryd.underlying3 f0
  have h0 := take_cell e0 (i := 0) (by simp)
  obtain ⟨v1, e1, _, i1⟩ := DataW.trod_int Tryd.underlying3 f1
  have h1 := take_cell e1 (i := 0) (by simp)
  obtain ⟨v2, A2, c2, e2, r2, z2, _, _, y2⟩ := longsF_read f2 (fun n hn => hwt n (by simp [hn]))
  have h2 := take_cell e2 (i := 0) (by simp)
  simp at h0 h1 h2
  exact ⟨⟨v0, v1, v2⟩, z2, fun c hc => ⟨by rw [hc 0 (by omega), h0], by rw [hc 1 (by omega), h1], ⟨_, by rw [hc 2 (by omega), h2], r2⟩, in64_of_wf i0, in64_of_wf i1⟩⟩
theorem objsF_read {m : Nat} {cs : List Value} {x : DataW H × List MemPlace} (h : DataW.trod enc Tryd.prog w base spare held m 27 cs = some x) (hw : ∀ n, n ∈ x.1.weights Tryd.prog 27 → n ≤ reachBytes) :
    ∃ l A c, cs = [.slice A l.length c] ∧ SliceAt w w.heap.size 3 (ObE w w.heap.size) l (.slice A l.length c) ∧ l.length * 40 ≤ 140737488351232 ∧ l.length ≤ c ∧ c ≤ 9223372036854775807 ∧ ∀ t, t ∈ l → ObjF t :=
  sliceF_read Tryd.underlying27 (by kernel_rfl) (by1 := 40) (by kernel_rfl) (by omega) (by omega) (ObE w w.heap.size) (fun t => ObjF t) (fun k cs x h hw => objF_read h hw) h hw
theorem insF_read {k : Nat} {cs : List Value} {x : DataW H × List MemPlace} (h : DataW.trod enc Tryd.prog w base spare held k 38 cs = some x) (hw : ∀ n, n ∈ x.1.weights Tryd.prog 38 → n ≤ reachBytes) :
    ∃ o : InsS, InsF o ∧ ∀ c : Nat → Option Value, (∀ j, j < 6 → c j = cs[j]?) → InsE w w.heap.size c o := by
  obtain ⟨xs, m, _, hxe, hl, hxs, hf⟩ := DataW.trod_struct Tryd.underlying38 h
  have hc0 : Tryd.prog.cellsOf 3 = 1 := by kernel_rfl
  have hc1 : Tryd.prog.cellsOf 2 = 1 := by kernel_rfl
  have hc2 : Tryd.prog.cellsOf 35 = 1 := by kernel_rfl
  have f0 : DataW.trod enc Tryd.prog w base spare held m 3 ((cs.drop 0).take (Tryd.prog.cellsOf 3)) = xs[0]? := hf 0 _ rfl
  rw [hc0] at f0
  have f1 : DataW.trod enc Tryd.prog w base spare held m 3 ((cs.drop 1).take (Tryd.prog.cellsOf 3)) = xs[1]? := hf 1 _ rfl
  rw [hc0] at f1
  have f2 : DataW.trod enc Tryd.prog w base spare held m 3 ((cs.drop 2).take (Tryd.prog.cellsOf 3)) = xs[2]? := hf 2 _ rfl
  rw [hc0] at f2
  have f3 : DataW.trod enc Tryd.prog w base spare held m 3 ((cs.drop 3).take (Tryd.prog.cellsOf 3)) = xs[3]? := hf 3 _ rfl
  rw [hc0] at f3
  have f4 : DataW.trod enc Tryd.prog w base spare held m 2 ((cs.drop 4).take (Tryd.prog.cellsOf 2)) = xs[4]? := hf 4 _ rfl
  rw [hc1] at f4
  have f5 : DataW.trod enc Tryd.prog w base spare held m 35 ((cs.drop 5).take (Tryd.prog.cellsOf 35)) = xs[5]? := hf 5 _ rfl
  rw [hc2] at f5
  obtain ⟨x0, x1, x2, x3, x4, x5, rfl⟩ : ∃ x0 x1 x2 x3 x4 x5, xs = [x0, x1, x2, x3, x4, x5] := by
    match xs, hxs with
    | [p, q, r, s, t, u], _ => exact ⟨p, q, r, s, t, u, rfl⟩
  have hx1 : x.1 = .agg [x0.1, x1.1, x2.1, x3.1, x4.1, x5.1] := by rw [hxe]; rfl
  have hwt : ∀ n, n ∈ x0.1.weights Tryd.prog 3 ++ x1.1.weights Tryd.prog 3 ++ x2.1.weights Tryd.prog 3 ++ x3.1.weights Tryd.prog 3 ++ x4.1.weights Tryd.prog 2 ++ x5.1.weights Tryd.prog 35 → n ≤ reachBytes := fun n hn => hw n (by
    rw [hx1]
    simp only [DataW.weights, Tryd.underlying38, List.map_cons, List.map_nil, DataW.weightsEach, List.append_nil]
    simpa using hn)
  obtain ⟨v0, e0, _, i0⟩ := DataW.trod_int Tryd.underlying3 f0
  have h0 := take_cell e0 (i := 0) (by simp)
  obtain ⟨v1, e1, _, i1⟩ := DataW.trod_int Tryd.underlying3 f1
  have h1 := take_cell e1 (i := 0) (by simp)
  obtain ⟨v2, e2, _, i2⟩ := DataW.trod_int Tryd.underlying3 f2
  have h2 := take_cell e2 (i := 0) (by simp)
  obtain ⟨v3, e3, _, i3⟩ := DataW.trod_int Tryd.underlying3 f3
  have h3 := take_cell e3 (i := 0) (by simp)
  obtain ⟨v4, e4, _, i4⟩ := DataW.trod_int Tryd.underlying2 f4
  have h4 := take_cell e4 (i := 0) (by simp)
  obtain ⟨v5, A5, c5, e5, r5, z5, _, _, y5⟩ := numsF_read f5 (fun n hn => hwt n (by simp [hn]))
  have h5 := take_cell e5 (i := 0) (by simp)
  simp at h0 h1 h2 h3 h4 h5
  exact ⟨⟨v0, v1, v2, v3, v4, v5⟩, z5, fun c hc => ⟨by rw [hc 0 (by omega), h0], by rw [hc 1 (by omega), h1], by rw [hc 2 (by omega), h2], by rw [hc 3 (by omega), h3], by rw [hc 4 (by omega), h4], ⟨_, by rw [hc 5 (by omega), h5], r5⟩, in64_of_wf i0, in64_of_wf i1, in64_of_wf i2, in64_of_wf i3, in64_of_wf i4⟩⟩
theorem inssF_read {m : Nat} {cs : List Value} {x : DataW H × List MemPlace} (h : DataW.trod enc Tryd.prog w base spare held m 31 cs = some x) (hw : ∀ n, n ∈ x.1.weights Tryd.prog 31 → n ≤ reachBytes) :
    ∃ l A c, cs = [.slice A l.length c] ∧ SliceAt w w.heap.size 6 (InsE w w.heap.size) l (.slice A l.length c) ∧ l.length * 64 ≤ 140737488351232 ∧ l.length ≤ c ∧ c ≤ 9223372036854775807 ∧ ∀ t, t ∈ l → InsF t :=
  sliceF_read Tryd.underlying31 (by kernel_rfl) (by1 := 64) (by kernel_rfl) (by omega) (by omega) (InsE w w.heap.size) (fun t => InsF t) (fun k cs x h hw => insF_read h hw) h hw
theorem codeF_read {k : Nat} {cs : List Value} {x : DataW H × List MemPlace} (h : DataW.trod enc Tryd.prog w base spare held k 33 cs = some x) (hw : ∀ n, n ∈ x.1.weights Tryd.prog 33 → n ≤ reachBytes) :
    ∃ o : CodeS, CodeF o ∧ ∀ c : Nat → Option Value, (∀ j, j < 4 → c j = cs[j]?) → CodeE w w.heap.size c o := by
  obtain ⟨xs, m, _, hxe, hl, hxs, hf⟩ := DataW.trod_struct Tryd.underlying33 h
  have hc0 : Tryd.prog.cellsOf 3 = 1 := by kernel_rfl
  have hc1 : Tryd.prog.cellsOf 27 = 1 := by kernel_rfl
  have hc2 : Tryd.prog.cellsOf 31 = 1 := by kernel_rfl
  have f0 : DataW.trod enc Tryd.prog w base spare held m 3 ((cs.drop 0).take (Tryd.prog.cellsOf 3)) = xs[0]? := hf 0 _ rfl
  rw [hc0] at f0
  have f1 : DataW.trod enc Tryd.prog w base spare held m 3 ((cs.drop 1).take (Tryd.prog.cellsOf 3)) = xs[1]? := hf 1 _ rfl
  rw [hc0] at f1
  have f2 : DataW.trod enc Tryd.prog w base spare held m 27 ((cs.drop 2).take (Tryd.prog.cellsOf 27)) = xs[2]? := hf 2 _ rfl
  rw [hc1] at f2
  have f3 : DataW.trod enc Tryd.prog w base spare held m 31 ((cs.drop 3).take (Tryd.prog.cellsOf 31)) = xs[3]? := hf 3 _ rfl
  rw [hc2] at f3
  obtain ⟨x0, x1, x2, x3, rfl⟩ : ∃ x0 x1 x2 x3, xs = [x0, x1, x2, x3] := by
    match xs, hxs with
    | [p, q, r, s], _ => exact ⟨p, q, r, s, rfl⟩
  have hx1 : x.1 = .agg [x0.1, x1.1, x2.1, x3.1] := by rw [hxe]; rfl
  have hwt : ∀ n, n ∈ x0.1.weights Tryd.prog 3 ++ x1.1.weights Tryd.prog 3 ++ x2.1.weights Tryd.prog 27 ++ x3.1.weights Tryd.prog 31 → n ≤ reachBytes := fun n hn => hw n (by
    rw [hx1]
    simp only [DataW.weights, Tryd.underlying33, List.map_cons, List.map_nil, DataW.weightsEach, List.append_nil]
    simpa using hn)
  obtain ⟨v0, e0, _, i0⟩ := DataW.trod_int Tryd.underlying3 f0
  have h0 := take_cell e0 (i := 0) (by simp)
  obtain ⟨v1, e1, _, i1⟩ := DataW.trod_int Tryd.underlying3 f1
  have h1 := take_cell e1 (i := 0) (by simp)
  obtain ⟨v2, A2, c2, e2, r2, z2, _, _, y2⟩ := objsF_read f2 (fun n hn => hwt n (by simp [hn]))
  have h2 := take_cell e2 (i := 0) (by simp)
  obtain ⟨v3, A3, c3, e3, r3, z3, _, _, y3⟩ := inssF_read f3 (fun n hn => hwt n (by simp [hn]))
  have h3 := take_cell e3 (i := 0) (by simp)
  simp at h0 h1 h2 h3
  exact ⟨⟨v0, v1, v2, v3⟩, ⟨z2, y2, z3, y3⟩, fun c hc => ⟨by rw [hc 0 (by omega), h0], by rw [hc 1 (by omega), h1], ⟨_, by rw [hc 2 (by omega), h2], r2⟩, ⟨_, by rw [hc 3 (by omega), h3], r3⟩, in64_of_wf i0, in64_of_wf i1⟩⟩
theorem codesF_read {m : Nat} {cs : List Value} {x : DataW H × List MemPlace} (h : DataW.trod enc Tryd.prog w base spare held m 28 cs = some x) (hw : ∀ n, n ∈ x.1.weights Tryd.prog 28 → n ≤ reachBytes) :
    ∃ l A c, cs = [.slice A l.length c] ∧ SliceAt w w.heap.size 4 (CodeE w w.heap.size) l (.slice A l.length c) ∧ l.length * 64 ≤ 140737488351232 ∧ l.length ≤ c ∧ c ≤ 9223372036854775807 ∧ ∀ t, t ∈ l → CodeF t :=
  sliceF_read Tryd.underlying28 (by kernel_rfl) (by1 := 64) (by kernel_rfl) (by omega) (by omega) (CodeE w w.heap.size) (fun t => CodeF t) (fun k cs x h hw => codeF_read h hw) h hw
theorem virtF_read {k : Nat} {cs : List Value} {x : DataW H × List MemPlace} (h : DataW.trod enc Tryd.prog w base spare held k 30 cs = some x) (hw : ∀ n, n ∈ x.1.weights Tryd.prog 30 → n ≤ reachBytes) :
    ∃ o : VirtS, VirtF o ∧ ∀ c : Nat → Option Value, (∀ j, j < 3 → c j = cs[j]?) → VirtE w w.heap.size c o := by
  obtain ⟨xs, m, _, hxe, hl, hxs, hf⟩ := DataW.trod_struct Tryd.underlying30 h
  have hc0 : Tryd.prog.cellsOf 27 = 1 := by kernel_rfl
  have hc1 : Tryd.prog.cellsOf 28 = 1 := by kernel_rfl
  have hc2 : Tryd.prog.cellsOf 3 = 1 := by kernel_rfl
  have f0 : DataW.trod enc Tryd.prog w base spare held m 27 ((cs.drop 0).take (Tryd.prog.cellsOf 27)) = xs[0]? := hf 0 _ rfl
  rw [hc0] at f0
  have f1 : DataW.trod enc Tryd.prog w base spare held m 28 ((cs.drop 1).take (Tryd.prog.cellsOf 28)) = xs[1]? := hf 1 _ rfl
  rw [hc1] at f1
  have f2 : DataW.trod enc Tryd.prog w base spare held m 3 ((cs.drop 2).take (Tryd.prog.cellsOf 3)) = xs[2]? := hf 2 _ rfl
  rw [hc2] at f2
  obtain ⟨x0, x1, x2, rfl⟩ : ∃ x0 x1 x2, xs = [x0, x1, x2] := by
    match xs, hxs with
    | [p, q, r], _ => exact ⟨p, q, r, rfl⟩
  have hx1 : x.1 = .agg [x0.1, x1.1, x2.1] := by rw [hxe]; rfl
  have hwt : ∀ n, n ∈ x0.1.weights Tryd.prog 27 ++ x1.1.weights Tryd.prog 28 ++ x2.1.weights Tryd.prog 3 → n ≤ reachBytes := fun n hn => hw n (by
    rw [hx1]
    simp only [DataW.weights, Tryd.underlying30, List.map_cons, List.map_nil, DataW.weightsEach, List.append_nil]
    simpa using hn)
  obtain ⟨v0, A0, c0, e0, r0, z0, _, _, y0⟩ := objsF_read f0 (fun n hn => hwt n (by simp [hn]))
  have h0 := take_cell e0 (i := 0) (by simp)
  obtain ⟨v1, A1, c1, e1, r1, z1, _, _, y1⟩ := codesF_read f1 (fun n hn => hwt n (by simp [hn]))
  have h1 := take_cell e1 (i := 0) (by simp)
  obtain ⟨v2, e2, _, i2⟩ := DataW.trod_int Tryd.underlying3 f2
  have h2 := take_cell e2 (i := 0) (by simp)
  simp at h0 h1 h2
  exact ⟨⟨v0, v1, v2⟩, ⟨z0, y0, z1, y1⟩, fun c hc => ⟨⟨_, by rw [hc 0 (by omega), h0], r0⟩, ⟨_, by rw [hc 1 (by omega), h1], r1⟩, by rw [hc 2 (by omega), h2], in64_of_wf i2⟩⟩
theorem virtsF_read {m : Nat} {cs : List Value} {x : DataW H × List MemPlace} (h : DataW.trod enc Tryd.prog w base spare held m 22 cs = some x) (hw : ∀ n, n ∈ x.1.weights Tryd.prog 22 → n ≤ reachBytes) :
    ∃ l A c, cs = [.slice A l.length c] ∧ SliceAt w w.heap.size 3 (VirtE w w.heap.size) l (.slice A l.length c) ∧ l.length * 56 ≤ 140737488351232 ∧ l.length ≤ c ∧ c ≤ 9223372036854775807 ∧ ∀ t, t ∈ l → VirtF t :=
  sliceF_read Tryd.underlying22 (by kernel_rfl) (by1 := 56) (by kernel_rfl) (by omega) (by omega) (VirtE w w.heap.size) (fun t => VirtF t) (fun k cs x h hw => virtF_read h hw) h hw
theorem ask14F_trod {k : Nat} {cs : List Value} {x : DataW H × List MemPlace} (h : DataW.trod enc Tryd.prog w base spare held k 25 cs = some x) (hw : ∀ n, n ∈ x.1.weights Tryd.prog 25 → n ≤ reachBytes) :
    ∃ (ps : List VirtS) (inp : List Int) (PA IA : Option Addr) (pc ic : Nat) (fu : Int), cs = [.slice PA ps.length pc, .slice IA inp.length ic, .int .i64 fu] ∧ SliceAt w w.heap.size 3 (VirtE w w.heap.size) ps (.slice PA ps.length pc) ∧ ps.length * 56 ≤ 140737488351232 ∧ inp.length * 8 ≤ 140737488351232 ∧ (∀ t, t ∈ ps → VirtF t) ∧ inp.length ≤ ic ∧ ic ≤ 9223372036854775807 ∧ LongsAt w w.heap.size inp (.slice IA inp.length ic) ∧ In64 fu := by
  obtain ⟨xs, m, _, hxe, hl, hxs, hf⟩ := DataW.trod_struct Tryd.underlying25 h
  have hc0 : Tryd.prog.cellsOf 22 = 1 := by kernel_rfl
  have hc1 : Tryd.prog.cellsOf 23 = 1 := by kernel_rfl
  have hc2 : Tryd.prog.cellsOf 3 = 1 := by kernel_rfl
  have f0 : DataW.trod enc Tryd.prog w base spare held m 22 ((cs.drop 0).take (Tryd.prog.cellsOf 22)) = xs[0]? := hf 0 _ rfl
  rw [hc0] at f0
  have f1 : DataW.trod enc Tryd.prog w base spare held m 23 ((cs.drop 1).take (Tryd.prog.cellsOf 23)) = xs[1]? := hf 1 _ rfl
  rw [hc1] at f1
  have f2 : DataW.trod enc Tryd.prog w base spare held m 3 ((cs.drop 2).take (Tryd.prog.cellsOf 3)) = xs[2]? := hf 2 _ rfl
  rw [hc2] at f2
  obtain ⟨x0, x1, x2, rfl⟩ : ∃ x0 x1 x2, xs = [x0, x1, x2] := by
    match xs, hxs with
    | [a, b, c], _ => exact ⟨a, b, c, rfl⟩
  have hx1 : x.1 = .agg [x0.1, x1.1, x2.1] := by rw [hxe]; rfl
  have hwt : ∀ n, n ∈ x0.1.weights Tryd.prog 22 ++ x1.1.weights Tryd.prog 23 ++ x2.1.weights Tryd.prog 3 → n ≤ reachBytes := fun n hn => hw n (by
    rw [hx1]
    simp only [DataW.weights, Tryd.underlying25, List.map_cons, List.map_nil, DataW.weightsEach, List.append_nil]
    simpa using hn)
  obtain ⟨v0, A0, c0, e0, s0, l0, q0, q0', z0⟩ := virtsF_read f0 (fun n hn => hwt n (by simp [hn]))
  obtain ⟨v1, A1, c1, e1, s1, l1, q1, q1', z1⟩ := longsF_read f1 (fun n hn => hwt n (by simp [hn]))
  obtain ⟨v2, e2, _, w2⟩ := DataW.trod_int Tryd.underlying3 f2
  have hce : Tryd.prog.cellsOf 25 = 3 := by kernel_rfl
  rw [hce] at hl
  exact ⟨v0, v1, A0, A1, c0, c1, v2, cs3 hl e0 e1 e2, s0, l0, l1, z0, q1, q1', s1, in64_of_wf w2⟩
end
theorem ask14F_read {H : Type} {enc : TypeId × Value → H} {w : World} {v : Value} {d : DataW H} {ps : List MemPlace} {cs : Array Value} (hv : v = .agg cs) (h : DataW.Trod enc Tryd.prog w 0 (fun _ => true) true 25 v d ps)
    (hsz : (DataW.weightsEach Tryd.prog [25] [d]).all (· ≤ reachBytes) = true) :
    ∃ (ps : List VirtS) (inp : List Int) (PA IA : Option Addr) (pc ic : Nat) (fu : Int), v = .agg #[.slice PA ps.length pc, .slice IA inp.length ic, .int .i64 fu] ∧ SliceAt w w.heap.size 3 (VirtE w w.heap.size) ps (.slice PA ps.length pc) ∧ ps.length * 56 ≤ 140737488351232 ∧ inp.length * 8 ≤ 140737488351232 ∧ (∀ t, t ∈ ps → VirtF t) ∧ inp.length ≤ ic ∧ ic ≤ 9223372036854775807 ∧ LongsAt w w.heap.size inp (.slice IA inp.length ic) ∧ In64 fu := by
  subst hv
  obtain ⟨m, h⟩ := h
  obtain ⟨ps', inp, PA, IA, pc, ic, fu, e, rest⟩ := ask14F_trod h (fun n hn => by
    have := List.all_eq_true.1 hsz n (DataW.weights_mem_each (j := 0) rfl rfl n hn)
    simpa using this)
  refine ⟨ps', inp, PA, IA, pc, ic, fu, ?_, rest⟩
  have e' : cs.toList = [.slice PA ps'.length pc, .slice IA inp.length ic, .int .i64 fu] := by simpa [Value.cells] using e
  rw [← Array.toArray_toList (xs := cs), e']
end Go.Proofs.YtlenilbkifofjaaDoor
