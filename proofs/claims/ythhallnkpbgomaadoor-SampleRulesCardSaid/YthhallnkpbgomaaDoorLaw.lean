/- From a walk to a law's statement: what the arguments read as, before and behind the call. No function of the program here. -/
import Derived.Test.YthhallnkpbgomaaDoorRows
import Derived.WalkKit
import Derived.ProofKit
import Derived.OpenShut
import Derived.JoinedCond
import Derived.Carry
import Derived.Deep.Strs
import Derived.Lib.SmallJoins
namespace Go.Proofs.YthhallnkpbgomaaDoor.Law
open Go Go.ChangeShapes Go.WideShapes Go.ChangeAt Go.RowKit

section
variable {H : Type} {enc : TypeId × Value → H} {P : Program} {W W' : World}
theorem trodAll_below (hl : laidOutB P = true) (hb : Below W.heap.size W W') : ∀ (ts : List TypeId) (vs : List Value) (ds : List (DataW H)) (ps : List MemPlace),
    (∀ t ∈ ts, P.readableRec t = true ∧ t < P.types.size) → DataW.TrodAll enc P W 0 (fun _ => true) true ts vs ds ps → (∀ x ∈ ps, x.block < W.heap.size) →
    DataW.TrodAll enc P W' 0 (fun b => decide (b < W.heap.size)) true ts vs ds ps
  | [], vs, ds, ps, _, h, _ => by
    obtain ⟨rfl, rfl, rfl⟩ := trodAll_nil h
    exact trodAll_mk0
  | t :: ts, vs, ds, ps, hr, h, hlt => by
    obtain ⟨v0, vs0, d0, ds0, p0, q0, rfl, rfl, rfl, h0, r0⟩ := trodAll_cons h
    have ht := hr t (by simp)
    exact trodAll_cons_mk (Below.trod hl ht.1 ht.2 h0 hb fun x hx => hlt x (by simp [hx]))
      (trodAll_below hl hb ts vs0 ds0 q0 (fun t ht => hr t (by simp [ht])) r0 fun x hx => hlt x (by simp [hx]))

variable {base : Nat} {spare : Nat → Bool} {held : Bool}
/-- A struct of two numbers. -/
theorem shape2 {r : Reach} {b0 : Nat} {t : TypeId} {f0 f1 : Field} {q0 q1 : IntKind} {v : Value} {d : DataW H} {p : List MemPlace} (hs : P.underlying t = some (.struct #[f0, f1])) (hone : Deep.oneCellFields P #[f0, f1] = true) (hC : P.cellsOf t = 2)
    (k0 : P.underlying f0.type = some (.int q0)) (k1 : P.underlying f1.type = some (.int q1)) (hv : Value.okWide P W r b0 t v) (h : DataW.Trod enc P W base spare held t v d p) :
    ∃ a b : Int, v = .agg #[.int q0 a, .int q1 b] := by
  obtain ⟨v0, v1, y0, y1, n, rfl, _, _, h0, h1⟩ := Joins.open_agg2 hs hone hC hv h
  obtain ⟨a, e0, _, _⟩ := DataW.trod_int k0 h0
  obtain ⟨b, e1, _, _⟩ := DataW.trod_int k1 h1
  simp at e0 e1
  exact ⟨a, b, by rw [e0, e1]⟩
/-- A struct of a number and of a struct of two numbers. -/
theorem shape12 {r : Reach} {b0 : Nat} {t : TypeId} {f0 f1 g0 g1 : Field} {q0 q1 q2 : IntKind} {v : Value} {d : DataW H} {p : List MemPlace} (hs : P.underlying t = some (.struct #[f0, f1])) (hC : P.cellsOf t = 3)
    (k0 : P.underlying f0.type = some (.int q0)) (o0 : f0.offset = 0) (c0 : P.cellsOf f0.type = 1) (o1 : f1.offset = 1) (c1 : P.cellsOf f1.type = 2)
    (hs1 : P.underlying f1.type = some (.struct #[g0, g1])) (k1 : P.underlying g0.type = some (.int q1)) (k2 : P.underlying g1.type = some (.int q2)) (p0 : g0.offset = 0) (p1 : g1.offset = 1) (e0 : P.cellsOf g0.type = 1) (e1 : P.cellsOf g1.type = 1)
    (hv : Value.okWide P W r b0 t v) (h : DataW.Trod enc P W base spare held t v d p) : ∃ a b c : Int, v = .agg #[.int q0 a, .int q1 b, .int q2 c] := by
  obtain ⟨cs, rfl, hsz⟩ := okWide_struct hs hv
  obtain ⟨x0, x1, x2, rfl⟩ := Joins.array3 (hsz.trans hC)
  obtain ⟨fuel, hf⟩ := h
  obtain ⟨y0, y1, n, _, _, h0, h1⟩ := trod_struct2 hs hf
  rw [o0, c0] at h0
  rw [o1, c1] at h1
  simp [Value.cells] at h0 h1
  obtain ⟨a, ea, _, _⟩ := DataW.trod_int k0 h0
  obtain ⟨z0, z1, m, _, _, h2, h3⟩ := trod_struct2 hs1 h1
  rw [p0, e0] at h2
  rw [p1, e1] at h3
  simp at h2 h3
  obtain ⟨b, eb, _, _⟩ := DataW.trod_int k1 h2
  obtain ⟨c, ec, _, _⟩ := DataW.trod_int k2 h3
  simp at ea eb ec
  exact ⟨a, b, c, by rw [ea, eb, ec]⟩

/-- A struct of five numbers. -/
theorem shape5 {r : Reach} {b0 : Nat} {t : TypeId} {f0 f1 f2 f3 f4 : Field} {q0 q1 q2 q3 q4 : IntKind} {v : Value} {d : DataW H} {p : List MemPlace} (hs : P.underlying t = some (.struct #[f0, f1, f2, f3, f4])) (hone : Deep.oneCellFields P #[f0, f1, f2, f3, f4] = true) (hC : P.cellsOf t = 5)
    (k0 : P.underlying f0.type = some (.int q0)) (k1 : P.underlying f1.type = some (.int q1)) (k2 : P.underlying f2.type = some (.int q2)) (k3 : P.underlying f3.type = some (.int q3)) (k4 : P.underlying f4.type = some (.int q4))
    (hv : Value.okWide P W r b0 t v) (h : DataW.Trod enc P W base spare held t v d p) : ∃ a b c e f : Int, v = .agg #[.int q0 a, .int q1 b, .int q2 c, .int q3 e, .int q4 f] := by
  obtain ⟨cs, rfl, hsz⟩ := okWide_struct hs hv
  obtain ⟨l⟩ := cs
  match l, hsz.trans hC with
  | [c0, c1, c2, c3, c4], _ =>
    obtain ⟨fuel, hf⟩ := h
    obtain ⟨xs, n, _, hx, _, hlen, hg⟩ := DataW.trod_struct hs hf
    obtain ⟨o0, j0⟩ := Deep.hone_of hone 0 f0 rfl
    obtain ⟨o1, j1⟩ := Deep.hone_of hone 1 f1 rfl
    obtain ⟨o2, j2⟩ := Deep.hone_of hone 2 f2 rfl
    obtain ⟨o3, j3⟩ := Deep.hone_of hone 3 f3 rfl
    obtain ⟨o4, j4⟩ := Deep.hone_of hone 4 f4 rfl
    match xs, hlen with
    | [y0, y1, y2, y3, y4], _ =>
      have h0 : DataW.trod enc P W base spare held n f0.type [c0] = some y0 := by simpa [Value.cells, o0, j0] using hg 0 f0 rfl
      have h1 : DataW.trod enc P W base spare held n f1.type [c1] = some y1 := by simpa [Value.cells, o1, j1] using hg 1 f1 rfl
      have h2 : DataW.trod enc P W base spare held n f2.type [c2] = some y2 := by simpa [Value.cells, o2, j2] using hg 2 f2 rfl
      have h3 : DataW.trod enc P W base spare held n f3.type [c3] = some y3 := by simpa [Value.cells, o3, j3] using hg 3 f3 rfl
      have h4 : DataW.trod enc P W base spare held n f4.type [c4] = some y4 := by simpa [Value.cells, o4, j4] using hg 4 f4 rfl
      obtain ⟨a, ea, _, _⟩ := DataW.trod_int k0 h0
      obtain ⟨b, eb, _, _⟩ := DataW.trod_int k1 h1
      obtain ⟨c, ec, _, _⟩ := DataW.trod_int k2 h2
      obtain ⟨e, ee, _, _⟩ := DataW.trod_int k3 h3
      obtain ⟨f, ef, _, _⟩ := DataW.trod_int k4 h4
      simp at ea eb ec ee ef
      exact ⟨a, b, c, e, f, by rw [ea, eb, ec, ee, ef]⟩
theorem args_below {ts : List TypeId} {vs : List Value} {ds : List (DataW H)} {ps : List MemPlace} (hl : laidOutB P = true) (hr : (ts.all fun t => P.readableRec t && decide (t < P.types.size)) = true) (hb : Below W.heap.size W W')
    (h : DataW.TrodAll enc P W 0 (fun _ => true) true ts vs ds ps) (hlt : ∀ x ∈ ps, x.block < W.heap.size) : DataW.TrodAll enc P W' 0 (fun b => decide (b < W.heap.size)) true ts vs ds ps :=
  trodAll_below hl hb ts vs ds ps (fun t ht => by simpa using List.all_eq_true.1 hr t ht) h hlt
end
end Go.Proofs.YthhallnkpbgomaaDoor.Law
