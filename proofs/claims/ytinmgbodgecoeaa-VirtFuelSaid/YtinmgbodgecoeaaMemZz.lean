/- The page's memory: how it lies, and the walks of its reading functions. Conditions: as stated. -/
import Derived.Test.YtinmgbodgecoeaaQ01Zz
set_option linter.unusedVariables false
set_option linter.unusedSimpArgs false
namespace Go.Proofs.Ytinmgbodgecoeaa
open Go.RowKit

/-- An element's two cells. -/
def ValCells (w : World) (b off : Nat) (v : V) : Prop := w.cell? ⟨b, off, none⟩ = some (.int .i64 v.obj) ∧ w.cell? ⟨b, off + 1, none⟩ = some (.int .i64 v.n)

/-- The elements of an object: where they lie. -/
def RowV (w : World) (B : Nat) (A : Option Addr) (l : List V) : Prop :=
  ∀ j v, l[j]? = some v → ∃ b off, A = some ⟨b, off, none⟩ ∧ b < B ∧ ValCells w b (off + j * 2) v

/-- The page's memory, read: a row of objects of three cells. -/
def ObjR (w : World) (B mb mo k : Nat) (o : MO) : Prop :=
  ∃ A len cap, w.cell? ⟨mb, mo + k * 3, none⟩ = some (.int .i64 o.size) ∧ w.cell? ⟨mb, mo + k * 3 + 1, none⟩ = some (.slice A len cap) ∧ w.cell? ⟨mb, mo + k * 3 + 2, none⟩ = some (.bool o.live) ∧
    o.l.length = len ∧ len ≤ 64 ∧ 0 ≤ o.size ∧ o.size ≤ 8 ∧ RowV w B A o.l

def MemR (w : World) (B : Nat) (A : Option Addr) (n : Nat) (M : List MO) : Prop :=
  M.length = n ∧ n ≤ 4294967296 ∧ ∀ k o, M[k]? = some o → ∃ mb mo, A = some ⟨mb, mo, none⟩ ∧ mb < B ∧ ObjR w B mb mo k o

theorem mget_of {M : List MO} {k : Nat} (h : k < M.length) : M[k]? = some (mget M k) := by
  unfold mget
  rw [List.getD_eq_getElem?_getD, List.getElem?_eq_getElem h]
  rfl

theorem MemR.get {w : World} {B n : Nat} {A : Option Addr} {M : List MO} (h : MemR w B A n M) {k : Nat} (hk : k < n) :
    ∃ mb mo, A = some ⟨mb, mo, none⟩ ∧ mb < B ∧ ObjR w B mb mo k (mget M k) :=
  h.2.2 k _ (mget_of (by rw [h.1]; exact hk))

theorem MO.bytes_bd {o : MO} (h0 : 0 ≤ o.size) (h1 : o.size ≤ 8) (h2 : o.l.length ≤ 64) : 0 ≤ o.bytes ∧ o.bytes ≤ 512 := by
  unfold MO.bytes
  constructor
  · exact Int.mul_nonneg h0 (by omega)
  · have h3 : o.size * (o.l.length : Int) ≤ 8 * (o.l.length : Int) := Int.mul_le_mul_of_nonneg_right h1 (by omega)
    omega

theorem ValCells.below {w w' : World} {B b off : Nat} {v : V} (h : ValCells w b off v) (hb : Below B w w') (hlt : b < B) : ValCells w' b off v :=
  ⟨(hb.cell (p := ⟨b, off, none⟩) hlt).trans h.1, (hb.cell (p := ⟨b, off + 1, none⟩) hlt).trans h.2⟩
theorem RowV.below {w w' : World} {B B' : Nat} {A : Option Addr} {l : List V} (h : RowV w B A l) (hb : Below B w w') (hB : B ≤ B') : RowV w' B' A l := by
  intro j v hj
  obtain ⟨b, off, hA, hlt, hc⟩ := h j v hj
  exact ⟨b, off, hA, by omega, hc.below hb hlt⟩
theorem MemR.below {w w' : World} {B B' n : Nat} {A : Option Addr} {M : List MO} (h : MemR w B A n M) (hb : Below B w w') (hB : B ≤ B') : MemR w' B' A n M := by
  refine ⟨h.1, h.2.1, fun k o hk => ?_⟩
  obtain ⟨mb, mo, hA, hlt, A', len, cap, c0, c1, c2, h1, h2, h3, h4, h5⟩ := h.2.2 k o hk
  exact ⟨mb, mo, hA, by omega, A', len, cap, (hb.cell (p := ⟨mb, mo + k * 3, none⟩) hlt).trans c0, (hb.cell (p := ⟨mb, mo + k * 3 + 1, none⟩) hlt).trans c1, (hb.cell (p := ⟨mb, mo + k * 3 + 2, none⟩) hlt).trans c2, h1, h2, h3, h4, h5.below hb hB⟩

/-- What an answer of a value and a bool is. -/
def ansV : Option V → Value
  | some v => .tuple #[.agg #[.int .i64 v.obj, .int .i64 v.n], .bool true]
  | none => .tuple #[.agg #[.int .i64 0, .int .i64 0], .bool false]

end Go.Proofs.Ytinmgbodgecoeaa
