/- How an argument that is an image is opened. -/
import Derived.Test.YtioopcilcgebeaaOpen
set_option linter.unusedVariables false
set_option linter.unusedSimpArgs false
namespace Go.Proofs.Ytioopcilcgebeaa.Opening
open Go.ChangeShapes Go.WideShapes Go.Deep Go.RowKit Go.Proofs.YtioopcilcgebeaaW.PrintWords

/-- An image's cells, its slices as they are. -/
structure ImX where
  (f fn r rn en tx tn sa sn rm fu ia il oa ol : Int)
  A0 : Option Addr
  n0 : Nat
  c0 : Nat
  A1 : Option Addr
  n1 : Nat
  c1 : Nat
theorem cells_1 : Try.prog.cellsOf 22 = 1 := by kernel_rfl
theorem cells_2 : Try.prog.cellsOf 73 = 2 := by kernel_rfl
theorem cells_4 : Try.prog.cellsOf 28 = 4 := by kernel_rfl
theorem cells_8 : Try.prog.cellsOf 74 = 1 := by kernel_rfl
theorem cells_w : Try.prog.cellsOf 75 = 1 := by kernel_rfl
theorem cells_s : Try.prog.cellsOf 76 = 1 := by kernel_rfl
theorem cells_17 : Try.prog.cellsOf 78 = 17 := by kernel_rfl
section
variable {H : Type} {enc : TypeId × Value → H} {w : World} {base n : Nat} {spare : Nat → Bool} {held : Bool} {y : DataW H × List MemPlace}
set_option maxRecDepth 100000 in
theorem op_region {a b : Value} (h : DataW.trod enc Try.prog w base spare held n 73 [a, b] = some y) : ∃ p q : Int, a = .int .u32 p ∧ b = .int .u32 q := by
  obtain ⟨hl, hf⟩ := fields_at Try.underlying73 (by kernel_rfl) cells_2 rfl h
  obtain ⟨_, _, h0⟩ := hf 0 _ a rfl rfl
  obtain ⟨_, _, h1⟩ := hf 1 _ b rfl rfl
  obtain ⟨n0, e0, _, w0⟩ := DataW.trod_int Try.underlying22 h0
  obtain ⟨n1, e1, _, w1⟩ := DataW.trod_int Try.underlying22 h1
  simp only [List.cons.injEq, and_true] at e0 e1
  exact ⟨n0, n1, e0, e1⟩
set_option maxRecDepth 100000 in
theorem op_target {a b c d : Value} (h : DataW.trod enc Try.prog w base spare held n 28 [a, b, c, d] = some y) : ∃ p q r s : Int, a = .int .u32 p ∧ b = .int .u32 q ∧ c = .int .u32 r ∧ d = .int .u32 s := by
  obtain ⟨hl, hf⟩ := fields_at Try.underlying28 (by kernel_rfl) cells_4 rfl h
  obtain ⟨_, _, h0⟩ := hf 0 _ a rfl rfl
  obtain ⟨_, _, h1⟩ := hf 1 _ b rfl rfl
  obtain ⟨_, _, h2⟩ := hf 2 _ c rfl rfl
  obtain ⟨_, _, h3⟩ := hf 3 _ d rfl rfl
  obtain ⟨n0, e0, _, w0⟩ := DataW.trod_int Try.underlying22 h0
  obtain ⟨n1, e1, _, w1⟩ := DataW.trod_int Try.underlying22 h1
  obtain ⟨n2, e2, _, w2⟩ := DataW.trod_int Try.underlying22 h2
  obtain ⟨n3, e3, _, w3⟩ := DataW.trod_int Try.underlying22 h3
  simp only [List.cons.injEq, and_true] at e0 e1 e2 e3
  exact ⟨n0, n1, n2, n3, e0, e1, e2, e3⟩
theorem op_word {a : Value} (h : DataW.trod enc Try.prog w base spare held n 22 [a] = some y) : ∃ p : Int, a = .int .u32 p := by
  obtain ⟨n0, e0, _, w0⟩ := DataW.trod_int Try.underlying22 h
  simp only [List.cons.injEq, and_true] at e0
  exact ⟨n0, e0⟩
theorem op_long {a : Value} (h : DataW.trod enc Try.prog w base spare held n 74 [a] = some y) : ∃ p : Int, a = .int .u64 p := by
  obtain ⟨n0, e0, _, w0⟩ := DataW.trod_int Try.underlying74 h
  simp only [List.cons.injEq, and_true] at e0
  exact ⟨n0, e0⟩
theorem op_slice {t e : TypeId} (ht : Try.prog.underlying t = some (.slice e)) {a : Value} (h : DataW.trod enc Try.prog w base spare held n t [a] = some y) : ∃ (A : Option Addr) (l c : Nat), a = .slice A l c := by
  rcases DataW.trod_slice ht h with ⟨e0, _⟩ | ⟨b, l, c, _, _, _, _, e0, _⟩
  · simp only [List.cons.injEq, and_true] at e0
    exact ⟨none, 0, 0, e0⟩
  · simp only [List.cons.injEq, and_true] at e0
    exact ⟨_, l, c, e0⟩
end
def ImX.v (x : ImX) : Value := .agg #[.int .u32 x.f, .int .u32 x.fn, .int .u32 x.r, .int .u32 x.rn, .int .u32 x.en, .int .u32 x.tx, .int .u32 x.tn, .int .u32 x.sa, .int .u32 x.sn, .int .u32 x.rm, .int .u64 x.fu, .int .u32 x.ia, .int .u32 x.il, .int .u32 x.oa, .int .u32 x.ol, .slice x.A0 x.n0 x.c0, .slice x.A1 x.n1 x.c1]
set_option maxRecDepth 100000 in
set_option maxHeartbeats 4000000 in
theorem agg_78 {H : Type} {enc : TypeId × Value → H} {w : World} {base b0 : Nat} {spare : Nat → Bool} {held : Bool} {r : Reach} {v : Value} {d : DataW H} {p : List MemPlace} (hv : Value.okWide Try.prog w r b0 78 v) (h : DataW.Trod enc Try.prog w base spare held 78 v d p) :
    ∃ x : ImX, v = x.v ∧ True := by
  obtain ⟨cs, n, y, rfl, hf⟩ := open_struct Try.underlying78 hv h
  obtain ⟨xs, m, _, _, hl, hxl, hfd⟩ := DataW.trod_struct Try.underlying78 hf
  rw [cells_17] at hl
  match cs, hl with
  | [c0, c1, c2, c3, c4, c5, c6, c7, c8, c9, c10, c11, c12, c13, c14, c15, c16], _ =>
    have g : ∀ i, i < 10 → ∃ q, xs[i]? = some q := fun i hi => ⟨_, List.getElem?_eq_getElem (by rw [hxl]; exact hi)⟩
    obtain ⟨q0, e0⟩ := g 0 (by omega)
    obtain ⟨q1, e1⟩ := g 1 (by omega)
    obtain ⟨q2, e2⟩ := g 2 (by omega)
    obtain ⟨q3, e3⟩ := g 3 (by omega)
    obtain ⟨q4, e4⟩ := g 4 (by omega)
    obtain ⟨q5, e5⟩ := g 5 (by omega)
    obtain ⟨q6, e6⟩ := g 6 (by omega)
    obtain ⟨q7, e7⟩ := g 7 (by omega)
    obtain ⟨q8, e8⟩ := g 8 (by omega)
    obtain ⟨q9, e9⟩ := g 9 (by omega)
    have h0 : DataW.trod enc Try.prog w base spare held m 28 (([c0, c1, c2, c3, c4, c5, c6, c7, c8, c9, c10, c11, c12, c13, c14, c15, c16].drop 0).take (Try.prog.cellsOf 28)) = xs[0]? := hfd 0 _ rfl
    have h1 : DataW.trod enc Try.prog w base spare held m 22 (([c0, c1, c2, c3, c4, c5, c6, c7, c8, c9, c10, c11, c12, c13, c14, c15, c16].drop 4).take (Try.prog.cellsOf 22)) = xs[1]? := hfd 1 _ rfl
    have h2 : DataW.trod enc Try.prog w base spare held m 73 (([c0, c1, c2, c3, c4, c5, c6, c7, c8, c9, c10, c11, c12, c13, c14, c15, c16].drop 5).take (Try.prog.cellsOf 73)) = xs[2]? := hfd 2 _ rfl
    have h3 : DataW.trod enc Try.prog w base spare held m 73 (([c0, c1, c2, c3, c4, c5, c6, c7, c8, c9, c10, c11, c12, c13, c14, c15, c16].drop 7).take (Try.prog.cellsOf 73)) = xs[3]? := hfd 3 _ rfl
    have h4 : DataW.trod enc Try.prog w base spare held m 22 (([c0, c1, c2, c3, c4, c5, c6, c7, c8, c9, c10, c11, c12, c13, c14, c15, c16].drop 9).take (Try.prog.cellsOf 22)) = xs[4]? := hfd 4 _ rfl
    have h5 : DataW.trod enc Try.prog w base spare held m 74 (([c0, c1, c2, c3, c4, c5, c6, c7, c8, c9, c10, c11, c12, c13, c14, c15, c16].drop 10).take (Try.prog.cellsOf 74)) = xs[5]? := hfd 5 _ rfl
    have h6 : DataW.trod enc Try.prog w base spare held m 73 (([c0, c1, c2, c3, c4, c5, c6, c7, c8, c9, c10, c11, c12, c13, c14, c15, c16].drop 11).take (Try.prog.cellsOf 73)) = xs[6]? := hfd 6 _ rfl
    have h7 : DataW.trod enc Try.prog w base spare held m 73 (([c0, c1, c2, c3, c4, c5, c6, c7, c8, c9, c10, c11, c12, c13, c14, c15, c16].drop 13).take (Try.prog.cellsOf 73)) = xs[7]? := hfd 7 _ rfl
    have h8 : DataW.trod enc Try.prog w base spare held m 75 (([c0, c1, c2, c3, c4, c5, c6, c7, c8, c9, c10, c11, c12, c13, c14, c15, c16].drop 15).take (Try.prog.cellsOf 75)) = xs[8]? := hfd 8 _ rfl
    have h9 : DataW.trod enc Try.prog w base spare held m 76 (([c0, c1, c2, c3, c4, c5, c6, c7, c8, c9, c10, c11, c12, c13, c14, c15, c16].drop 16).take (Try.prog.cellsOf 76)) = xs[9]? := hfd 9 _ rfl
    rw [e0, cells_4] at h0
    rw [e1, cells_1] at h1
    rw [e2, cells_2] at h2
    rw [e3, cells_2] at h3
    rw [e4, cells_1] at h4
    rw [e5, cells_8] at h5
    rw [e6, cells_2] at h6
    rw [e7, cells_2] at h7
    rw [e8, cells_w] at h8
    rw [e9, cells_s] at h9
    obtain ⟨v0, v1, v2, v3, rfl, rfl, rfl, rfl⟩ := op_target h0
    obtain ⟨v4, rfl⟩ := op_word h1
    obtain ⟨v5, v6, rfl, rfl⟩ := op_region h2
    obtain ⟨v7, v8, rfl, rfl⟩ := op_region h3
    obtain ⟨v9, rfl⟩ := op_word h4
    obtain ⟨v10, rfl⟩ := op_long h5
    obtain ⟨v11, v12, rfl, rfl⟩ := op_region h6
    obtain ⟨v13, v14, rfl, rfl⟩ := op_region h7
    obtain ⟨A0, n0, k0, rfl⟩ := op_slice Try.underlying75 h8
    obtain ⟨A1, n1, k1, rfl⟩ := op_slice Try.underlying76 h9
    exact ⟨⟨v0, v1, v2, v3, v4, v5, v6, v7, v8, v9, v10, v11, v12, v13, v14, A0, n0, k0, A1, n1, k1⟩, rfl, trivial⟩
end Go.Proofs.Ytioopcilcgebeaa.Opening
