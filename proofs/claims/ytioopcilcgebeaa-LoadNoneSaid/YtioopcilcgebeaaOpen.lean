/- How arguments that are slices of structs, or structs, are opened: lemmas for the rows. -/
import Derived.Test.YtioopcilcgebeaaKE
import Derived.Deep.Slices
import Derived.Deep.Fields
import Derived.ChangeSame
import Derived.WideShapes
import Derived.SizedLaws
import Derived.Lib.SmallJoins
import Derived.OpenShut
set_option linter.unusedSimpArgs false
set_option linter.unusedVariables false
namespace Go.Proofs.Ytioopcilcgebeaa.Opening
open Go.ChangeShapes Go.WideShapes Go.Deep Go.RowKit Go.Proofs.YtioopcilcgebeaaW.PrintWords
section
variable {H : Type} {enc : TypeId × Value → H} {P : Program} {w : World} {base : Nat} {spare : Nat → Bool} {held : Bool}
/-- A slice that is read, its elements of a kind. -/
theorem open_rows {α : Type} {d : Kd α} {good : α → Prop} {t e : TypeId} {A : Option Addr} {len cap : Nat} {dd : DataW H} {ps : List MemPlace} (ht : P.underlying t = some (.slice e)) (hsz : P.cellsOf e = d.sz)
    (hel : ∀ (n : Nat) (cs : List Value) (y : DataW H × List MemPlace), DataW.trod enc P w base spare held n e cs = some y → ∃ x, good x ∧ d.K w x cs)
    (h : DataW.Trod enc P w base spare held t (.slice A len cap) dd ps) :
    len ≤ cap ∧ ∃ xs : List α, xs.length = len ∧ (∀ x ∈ xs, good x) ∧ Kd.C d w A len xs ∧ (len = 0 ∨ ∃ elems sp, dd = .slice elems sp ∧ len ≤ elems.length) := by
  obtain ⟨fuel, hf⟩ := h
  rcases open_slice ht hf with ⟨hcs, _⟩ | ⟨a, l, c, m, n, D, Pl, hcs, _, hl, hm, hmm, hx, hi⟩
  · simp [Value.cells] at hcs
    obtain ⟨rfl, rfl, rfl⟩ := hcs
    exact ⟨Nat.le_refl _, [], rfl, fun x hx => by simp at hx, ⟨rfl, by omega, fun h => by omega⟩, .inl rfl⟩
  · simp [Value.cells] at hcs
    obtain ⟨rfl, rfl, rfl⟩ := hcs
    have hlm : len ≤ m := by rw [hmm]; split <;> omega
    have each : ∀ i, i < len → ∃ x, good x ∧ ∃ cs, cs.length = d.sz ∧ d.K w x cs ∧ ∀ j u, cs[j]? = some u → w.cell? (a.add (i * d.sz + j)) = some u := by
      intro i hil
      obtain ⟨cs', hc, ht'⟩ := hi i (by omega)
      obtain ⟨x, hg, hK⟩ := hel _ _ _ ht'
      rw [hsz] at hc
      obtain ⟨_, hcl, hat⟩ := World.cells?_some hc
      refine ⟨x, hg, cs', hcl, hK, fun j u hu => ?_⟩
      have hj : j < d.sz := by rw [← hcl]; exact (List.getElem?_eq_some_iff.1 hu).1
      rw [← Go.Deep.add_add, hat j hj, hu]
    obtain ⟨xs, hlen, hxs⟩ : ∃ xs : List α, xs.length = len ∧ ∀ i, i < len → ∃ x, xs[i]? = some x ∧ good x ∧ ∃ cs, cs.length = d.sz ∧ d.K w x cs ∧ ∀ j u, cs[j]? = some u → w.cell? (a.add (i * d.sz + j)) = some u := by
      have : ∀ n, n ≤ len → ∃ xs : List α, xs.length = n ∧ ∀ i, i < n → ∃ x, xs[i]? = some x ∧ good x ∧ ∃ cs, cs.length = d.sz ∧ d.K w x cs ∧ ∀ j u, cs[j]? = some u → w.cell? (a.add (i * d.sz + j)) = some u := by
        intro n
        induction n with
        | zero => exact fun _ => ⟨[], rfl, fun i h => by omega⟩
        | succ n ih =>
          intro hn
          obtain ⟨xs, hlx, hx⟩ := ih (by omega)
          obtain ⟨x, hx'⟩ := each n (by omega)
          refine ⟨xs ++ [x], by simp [hlx], fun i hin => ?_⟩
          by_cases e : i = n
          · subst e; exact ⟨x, by rw [List.getElem?_append_right (by omega), hlx]; simp, hx'⟩
          · obtain ⟨y, hy, r⟩ := hx i (by omega)
            exact ⟨y, by rw [List.getElem?_append_left (by omega)]; exact hy, r⟩
      exact this len (Nat.le_refl _)
    refine ⟨hl, xs, hlen, fun x hx => ?_, ⟨hlen, by unfold maxLen at hm; omega, fun _ => ⟨a, rfl, fun j p hj => ?_⟩⟩, .inr ⟨(List.range len).map D, _, (Prod.mk.inj hx).1, by simp⟩⟩
    · obtain ⟨i, hil, he⟩ := List.mem_iff_getElem.1 hx
      obtain ⟨y, hy, hg, _⟩ := hxs i (by omega)
      rw [List.getElem?_eq_getElem hil, he] at hy
      rw [Option.some.inj hy]
      exact hg
    · have hjl : j < len := by rw [← hlen]; exact (List.getElem?_eq_some_iff.1 hj).1
      obtain ⟨y, hy, _, cs, h1, h2, h3⟩ := hxs j hjl
      rw [hj] at hy
      obtain rfl := Option.some.inj hy
      exact ⟨cs, h1, h2, h3⟩
theorem rows_sized {ts : List TypeId} {ds : List (DataW H)} {j : Nat} {t e : TypeId} {dd : DataW H} {len B : Nat} (hsz : (DataW.weightsEach P ts ds).all (· ≤ reachBytes) = true) (ht : ts[j]? = some t) (hd : ds[j]? = some dd) (hu : P.underlying t = some (.slice e)) (hB : P.bytesOf e = B)
    (h : len = 0 ∨ ∃ elems sp, dd = .slice elems sp ∧ len ≤ elems.length) : len * B ≤ 140737488351232 := by
  rcases h with rfl | ⟨elems, sp, rfl, hl⟩
  · omega
  · have z := sized_slice hsz ht hd hu
    rw [hB] at z
    refine Nat.le_trans ?_ z
    exact Nat.mul_le_mul_right _ (by omega)
/-- The fields of a struct, each of one cell. -/
theorem fields_at {e : TypeId} {fs : Array Field} {n : Nat} {cs : List Value} {y : DataW H × List MemPlace} (hs : P.underlying e = some (.struct fs)) (hone : oneCellFields P fs = true) {k : Nat} (hC : P.cellsOf e = k) (hk : fs.size = k) (h : DataW.trod enc P w base spare held n e cs = some y) :
    cs.length = fs.size ∧ ∀ (j : Nat) (f : Field) (c : Value), fs[j]? = some f → cs[j]? = some c → ∃ (m : Nat) (y' : DataW H × List MemPlace), DataW.trod enc P w base spare held m f.type [c] = some y' := by
  subst hk
  obtain ⟨xs, m, _, _, hl, hxl, hf⟩ := DataW.trod_struct hs h
  refine ⟨hl.trans hC, fun j f c hj hc => ?_⟩
  obtain ⟨ho, hk⟩ := hone_of hone j f hj
  have hjl : j < fs.size := (Array.getElem?_eq_some_iff.1 hj).1
  have h1 := hf j f hj
  rw [ho, hk] at h1
  have hone' : (cs.drop j).take 1 = [c] := by
    rw [List.drop_eq_getElem_cons (by rw [hl, hC]; exact hjl)]
    have := (List.getElem?_eq_some_iff.1 hc).2
    rw [this]; rfl
  rw [hone', List.getElem?_eq_getElem (by rw [hxl]; exact hjl)] at h1
  exact ⟨m, _, h1⟩
end
section
variable {H : Type} {enc : TypeId × Value → H} {P : Program} {w : World} {base b0 : Nat} {spare : Nat → Bool} {held : Bool}
/-- A struct by value: its cells. -/
theorem open_struct {r : Reach} {t : TypeId} {fs : Array Field} {v : Value} {d : DataW H} {p : List MemPlace} (hs : P.underlying t = some (.struct fs)) (hv : Value.okWide P w r b0 t v) (h : DataW.Trod enc P w base spare held t v d p) :
    ∃ (cs : List Value) (n : Nat) (y : DataW H × List MemPlace), v = .agg cs.toArray ∧ DataW.trod enc P w base spare held n t cs = some y := by
  obtain ⟨cs, rfl, _⟩ := okWide_struct hs hv
  obtain ⟨fuel, hf⟩ := h
  exact ⟨cs.toList, fuel, _, by simp, hf⟩
end
/-! ### Numbers -/
def Good22 (x : Int) : Prop := 0 ≤ x ∧ x < 4294967296
theorem el_22 {H : Type} {enc : TypeId × Value → H} {w : World} {base n : Nat} {spare : Nat → Bool} {held : Bool} {cs : List Value} {y : DataW H × List MemPlace} (h : DataW.trod enc Try.prog w base spare held n 22 cs = some y) : ∃ x, Good22 x ∧ (Kd.int .u32).K w x cs := by
  obtain ⟨n0, e0, _, w0⟩ := DataW.trod_int Try.underlying22 h
  exact ⟨n0, by unfold Good22; have := bounds_u32 w0; omega, e0⟩
def Good5 (x : Int) : Prop := 0 ≤ x ∧ x < 256
theorem el_5 {H : Type} {enc : TypeId × Value → H} {w : World} {base n : Nat} {spare : Nat → Bool} {held : Bool} {cs : List Value} {y : DataW H × List MemPlace} (h : DataW.trod enc Try.prog w base spare held n 5 cs = some y) : ∃ x, Good5 x ∧ (Kd.int .u8).K w x cs := by
  obtain ⟨n0, e0, _, w0⟩ := DataW.trod_int Try.underlying5 h
  exact ⟨n0, by unfold Good5; have := bounds_u8 w0; omega, e0⟩
/-! ### api.Ins -/
theorem cells58 : Try.prog.cellsOf 58 = 5 := by kernel_rfl
set_option maxRecDepth 100000 in
theorem el_58 {H : Type} {enc : TypeId × Value → H} {w : World} {base n : Nat} {spare : Nat → Bool} {held : Bool} {cs : List Value} {y : DataW H × List MemPlace} (h : DataW.trod enc Try.prog w base spare held n 58 cs = some y) : ∃ x : InstS.Ins, True ∧ cs = [.int .i64 x.op, .int .i64 x.rd, .int .i64 x.rs1, .int .i64 x.rs2, .int .i32 x.imm] := by
  obtain ⟨hl, hf⟩ := fields_at Try.underlying58 (by kernel_rfl) cells58 rfl h
  match cs, hl with
  | [c0, c1, c2, c3, c4], _ =>
    obtain ⟨_, _, h0⟩ := hf 0 _ c0 rfl rfl
    obtain ⟨_, _, h1⟩ := hf 1 _ c1 rfl rfl
    obtain ⟨_, _, h2⟩ := hf 2 _ c2 rfl rfl
    obtain ⟨_, _, h3⟩ := hf 3 _ c3 rfl rfl
    obtain ⟨_, _, h4⟩ := hf 4 _ c4 rfl rfl
    obtain ⟨n0, e0, _, w0⟩ := DataW.trod_int Try.underlying3 h0
    obtain ⟨n1, e1, _, w1⟩ := DataW.trod_int Try.underlying3 h1
    obtain ⟨n2, e2, _, w2⟩ := DataW.trod_int Try.underlying3 h2
    obtain ⟨n3, e3, _, w3⟩ := DataW.trod_int Try.underlying3 h3
    obtain ⟨n4, e4, _, w4⟩ := DataW.trod_int Try.underlying21 h4
    simp only [List.cons.injEq, and_true] at e0 e1 e2 e3 e4
    subst e0 e1 e2 e3 e4
    exact ⟨⟨n0, n1, n2, n3, n4⟩, trivial, rfl⟩
set_option maxRecDepth 100000 in
theorem agg_58 {H : Type} {enc : TypeId × Value → H} {w : World} {base b0 : Nat} {spare : Nat → Bool} {held : Bool} {r : Reach} {v : Value} {d : DataW H} {p : List MemPlace} (hv : Value.okWide Try.prog w r b0 58 v) (h : DataW.Trod enc Try.prog w base spare held 58 v d p) :
    ∃ x : InstS.Ins, v = InstA.iv x ∧ True := by
  obtain ⟨cs, n, y, rfl, hf⟩ := open_struct Try.underlying58 hv h
  obtain ⟨x, _, rfl⟩ := el_58 hf
  exact ⟨x, rfl, trivial⟩
/-! ### Two small numbers -/
set_option maxRecDepth 100000 in
theorem agg_54 {H : Type} {enc : TypeId × Value → H} {w : World} {base b0 : Nat} {spare : Nat → Bool} {held : Bool} {r : Reach} {v : Value} {d : DataW H} {p : List MemPlace} (hv : Value.okWide Try.prog w r b0 54 v) (h : DataW.Trod enc Try.prog w base spare held 54 v d p) :
    ∃ x : Int × Int, v = .agg #[.int .u8 x.1, .int .u8 x.2] ∧ ((0 ≤ x.1 ∧ x.1 < 256) ∧ (0 ≤ x.2 ∧ x.2 < 256)) := by
  have c2 : Try.prog.cellsOf 54 = 2 := by kernel_rfl
  have c1 : Try.prog.cellsOf 5 = 1 := by kernel_rfl
  have hv' := hv
  simp only [Value.okWide, Try.underlying54] at hv'
  obtain ⟨cs, rfl, hsz, _⟩ := hv'
  obtain ⟨fuel, hf⟩ := h
  obtain ⟨xs, m, rfl, _, hl, hxl, hi⟩ := DataW.trod_array Try.underlying54 hf
  rw [c2] at hl
  have h0 := hi 0 (by omega)
  have h1 := hi 1 (by omega)
  rw [c1, List.getElem?_eq_getElem (by omega)] at h0 h1
  obtain ⟨l⟩ := cs
  have hl' : l.length = 2 := by simpa [Value.cells] using hl
  match l, hl' with
  | [a, b], _ =>
    simp [Value.cells] at h0 h1
    obtain ⟨n0, e0, _, w0⟩ := DataW.trod_int Try.underlying5 h0
    obtain ⟨n1, e1, _, w1⟩ := DataW.trod_int Try.underlying5 h1
    simp only [List.cons.injEq, and_true] at e0 e1
    subst e0 e1
    refine ⟨(n0, n1), rfl, ?_, ?_⟩
    · have := bounds_u8 w0; dsimp only; omega
    · have := bounds_u8 w1; dsimp only; omega
end Go.Proofs.Ytioopcilcgebeaa.Opening
