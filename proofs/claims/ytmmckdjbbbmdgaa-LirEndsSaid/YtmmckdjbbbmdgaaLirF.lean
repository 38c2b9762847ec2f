import Derived.Test.YtmmckdjbbbmdgaaLirD
import Derived.Test.YtmmckdjbbbmdgaaPLirx6
import Derived.Test.YtmmckdjbbbmdgaaPLirx7
import Derived.Test.YtmmckdjbbbmdgaaPLirx8
set_option linter.unusedSimpArgs false
namespace Go.Proofs.Ytmmckdjbbbmdgaa.LirA
open Go.RowKit Go.Proofs.YtmmckdjbbbmdgaaW.PrintWords Go.Proofs.YtmmckdjbbbmdgaaW.PrintLast Go.Proofs.YtmmckdjbbbmdgaaW.PrintMore
open Go.Proofs.Ytmmckdjbbbmdgaa.PLir

theorem index_ev (xs : List Int) (v : Int) (hn : xs.length < 100000000) : ∀ (m i : Nat), i + m = xs.length → (∀ p, p < i → xs.getD p 0 ≠ v) →
    ∃ r, Ev (fun k => slices_Index_int_int.l0 k xs v (xs.length : Int) (i : Int)) r ∧ (0 ≤ r ↔ v ∈ xs)
  | 0, i, hi, h => by
    refine ⟨-1, Ev.step (fun k => by rw [slices_Index_int_int.l0]) ?_, ?_⟩
    · simp only [if_neg (show ¬ (i : Int) < (xs.length : Int) by omega)]
      exact Ev.now _
    · constructor
      · intro h0; omega
      · intro hm
        obtain ⟨p, hp, he⟩ := List.mem_iff_getElem.1 hm
        refine absurd ?_ (h p (by omega))
        rw [List.getD_eq_getElem?_getD, List.getElem?_eq_getElem hp]
        exact he
  | m + 1, i, hi, h => by
    have hw : wrap64 ((i : Int) + 1) = ((i + 1 : Nat) : Int) := w1 (by omega)
    by_cases hv : v = xs.getD i 0
    · refine ⟨(i : Int), Ev.step (fun k => by rw [slices_Index_int_int.l0]) ?_, ?_⟩
      · simp only [if_pos (show (i : Int) < (xs.length : Int) by omega), if_pos (show (0 : Int) ≤ (i : Int) by omega), rdN, if_pos hv]
        exact Ev.now _
      · refine ⟨fun _ => ?_, fun _ => by omega⟩
        rw [hv, List.getD_eq_getElem?_getD, List.getElem?_eq_getElem (show i < xs.length by omega)]
        exact List.getElem_mem _
    · obtain ⟨r, hr, hp⟩ := index_ev xs v hn m (i + 1) (by omega) (fun p hp he => by
        by_cases hpi : p = i
        · subst hpi; exact hv he.symm
        · exact h p (by omega) he)
      refine ⟨r, Ev.step (fun k => by rw [slices_Index_int_int.l0]) ?_, hp⟩
      simp only [if_pos (show (i : Int) < (xs.length : Int) by omega), if_pos (show (0 : Int) ≤ (i : Int) by omega), rdN, if_neg hv, hw]
      exact hr
theorem contains_ev (xs : List Int) (v : Int) (hn : xs.length < 100000000) : Ev (fun k => slices_Contains_int_int.f k xs v) (decide (v ∈ xs)) := by
  obtain ⟨r, hr, hp⟩ := index_ev xs v hn xs.length 0 (by omega) (fun p hp => by omega)
  unfold slices_Contains_int_int.f slices_Index_int_int.f
  refine Ev.bind hr ?_
  rw [show decide (v ∈ xs) = decide (r ≥ 0) from decide_eq_decide.2 hp.symm]
  exact Ev.now _

def dAt (l : List S33) (i : Nat) : Int := (l.getD i z33).f1
theorem f1_at (l : List S33) (j : Nat) : (rd_T33 l (j : Int)).f1 = dAt l j := by rw [rdT]; rfl
def cnt (l : List S33) (st : List Nat) : List Int := List.map (dAt l) st.reverse
theorem cnt_cons (l : List S33) (j : Nat) (st : List Nat) : cnt l (j :: st) = cnt l st ++ [dAt l j] := by simp [cnt]
theorem cnt_len (l : List S33) (st : List Nat) : (cnt l st).length = st.length := by simp [cnt]
theorem cnt_pop (l : List S33) (j : Nat) (st : List Nat) : (cnt l (j :: st)).take st.length = cnt l st := by
  rw [cnt_cons, List.take_append_of_le_length (by rw [cnt_len]; omega), List.take_of_length_le (by rw [cnt_len]; omega)]
theorem cnt_mem (l : List S33) (v : Int) (st : List Nat) : v ∈ cnt l st ↔ ∃ j ∈ st, dAt l j = v := by
  simp [cnt]
/-- Does the step at i set what counts an open loop. -/
def hits (l : List S33) (i : Nat) (st : List Nat) : Prop := (ofS (opAt l i)).1 = true ∧ ∃ j ∈ st, dAt l j = dAt l i
def next (l : List S33) (i : Nat) (st : List Nat) : List Nat := if opAt l i = 23 then i :: st else if opAt l i = 24 then st.tail else st
/-- All is well from i on (m places). -/
def keptF (l : List S33) : Nat → Nat → List Nat → Prop
  | 0, _, _ => True
  | m + 1, i, st => ¬ hits l i st ∧ (next l i st).length ≤ 10 ∧ keptF l m (i + 1) (next l i st)
structure K (l : List S33) (i : Nat) (st : List Nat) : Prop where
  inv : ∃ out, I l i out st
  desc : st.Pairwise (· > ·)
  few : st.length ≤ 10
theorem K_next {l : List S33} {i : Nat} {st : List Nat} (hi : i < l.length) (hne : ¬ (opAt l i = 24 ∧ st = [])) (h : K l i st) (h10 : (next l i st).length ≤ 10) : K l (i + 1) (next l i st) := by
  obtain ⟨⟨out, hI⟩, hd, _⟩ := h
  unfold next at h10 ⊢
  by_cases h3 : opAt l i = 23
  · rw [if_pos h3] at h10 ⊢
    exact ⟨⟨_, I_begin hI hi h3⟩, List.pairwise_cons.2 ⟨fun x hx => (Open_mem hI.open_ x hx).2.1, hd⟩, h10⟩
  · rw [if_neg h3] at h10 ⊢
    by_cases h4 : opAt l i = 24
    · rw [if_pos h4] at h10 ⊢
      cases st with
      | nil => exact absurd ⟨h4, rfl⟩ hne
      | cons j st => exact ⟨⟨_, I_end hI hi h4⟩, (List.pairwise_cons.1 hd).2, h10⟩
    · rw [if_neg h4] at h10 ⊢
      exact ⟨⟨_, I_else hI hi h3 h4⟩, hd, h10⟩
theorem no_end {l : List S33} {i : Nat} {st : List Nat} (hi : i < l.length) (hF : ¬ Fail l) (h : K l i st) : ¬ (opAt l i = 24 ∧ st = []) := by
  rintro ⟨h4, rfl⟩
  obtain ⟨⟨out, hI⟩, _, _⟩ := h
  refine hF (.inr ⟨i, hi, h4, fun j hj he => ?_⟩)
  have hlt := (endF_lt he).1
  obtain ⟨e, he', hl, _⟩ := hI.shut j (by omega) hj (by simp)
  rw [he] at he'
  have := Option.some.inj he'
  omega
theorem kept_ev (l : List S33) (hn : l.length < 100000000) (hF : ¬ Fail l) : ∀ (m i : Nat) (st : List Nat), i + m = l.length → K l i st →
    ∃ b, Ev (fun k => lir_kept.l0 k (cnt l st) l (l.length : Int) (i : Int)) b ∧ (b = true ↔ keptF l m i st)
  | 0, i, st, hi, h => by
    refine ⟨true, Ev.step (fun k => by rw [lir_kept.l0]) ?_, by simp [keptF]⟩
    simp only [if_neg (show ¬ (i : Int) < (l.length : Int) by omega)]
    exact Ev.now _
  | m + 1, i, st, hi, h => by
    have hw : wrap64 ((i : Int) + 1) = ((i + 1 : Nat) : Int) := w1 (by omega)
    have hil : i < l.length := by omega
    have hne := no_end hil hF h
    have h10 := h.few
    have key : ∀ t : Bool, (t = true ↔ hits l i st) → ∃ b, Ev (fun k => lir_kept.j1 k (cnt l st) l (l.length : Int) (i : Int) t (rd_T33 l (i : Int)).f0 (rd_T33 l (i : Int)).f1 (rd_T33 l (i : Int)).f2 (rd_T33 l (i : Int)).f3 (rd_T33 l (i : Int)).f4) b ∧ (b = true ↔ keptF l (m + 1) i st) := by
      intro t ht
      by_cases hh : hits l i st
      · refine ⟨false, Ev.step (fun k => by rw [lir_kept.j1]) ?_, by simp [keptF, hh]⟩
        simp only [if_pos (ht.2 hh)]
        exact Ev.now _
      · have ht' : ¬ t = true := fun h => hh (ht.1 h)
        have cont : (next l i st).length ≤ 10 → ∃ b, Ev (fun k => lir_kept.l0 k (cnt l (next l i st)) l (l.length : Int) ((i + 1 : Nat) : Int)) b ∧ (b = true ↔ keptF l (m + 1) i st) := fun hle => by
          obtain ⟨b, hb, hp⟩ := kept_ev l hn hF m (i + 1) _ (by omega) (K_next hil hne h hle)
          exact ⟨b, hb, by rw [hp]; simp [keptF, hh, hle]⟩
        by_cases h3 : opAt l i = 23
        · have en : next l i st = i :: st := by unfold next; rw [if_pos h3]
          rw [en] at cont
          by_cases hl : st.length + 1 ≤ 10
          · obtain ⟨b, hb, hp⟩ := cont (by rw [List.length_cons]; exact hl)
            refine ⟨b, Ev.step (fun k => by rw [lir_kept.j1]) ?_, hp⟩
            simp only [if_neg ht', f0_at, f1_at, if_pos h3, cnt_len, if_pos (show st.length < 17592186044416 by omega), Option.bind_some, ← cnt_cons, List.length_cons, if_neg (show ¬ ((st.length + 1 : Nat) : Int) > 10 by omega), hw]
            exact hb
          · refine ⟨false, Ev.step (fun k => by rw [lir_kept.j1]) ?_, by simp [keptF, en]; omega⟩
            simp only [if_neg ht', f0_at, f1_at, if_pos h3, cnt_len, if_pos (show st.length < 17592186044416 by omega), Option.bind_some, ← cnt_cons, List.length_cons, if_pos (show ((st.length + 1 : Nat) : Int) > 10 by omega)]
            exact Ev.now _
        · by_cases h4 : opAt l i = 24
          · cases st with
            | nil => exact absurd ⟨h4, rfl⟩ hne
            | cons j st =>
              have en : next l i (j :: st) = st := by unfold next; rw [if_neg h3, if_pos h4]; rfl
              rw [en] at cont
              rw [List.length_cons] at h10
              obtain ⟨b, hb, hp⟩ := cont (by omega)
              refine ⟨b, Ev.step (fun k => by rw [lir_kept.j1]) ?_, hp⟩
              have hm1 : wrap64 (((st.length + 1 : Nat) : Int) - 1) = (st.length : Int) := by unfold wrap64; omega
              simp only [if_neg ht', f0_at, if_neg h3, if_pos h4, cnt_len, List.length_cons, hm1, if_pos (show (0 : Int) ≤ (st.length : Int) by omega), if_pos (show (st.length : Int) ≤ ((st.length + 1 : Nat) : Int) by omega), Int.toNat_natCast, cnt_pop, Option.bind_some, if_neg (show ¬ (st.length : Int) > 10 by omega), hw]
              exact hb
          · have en : next l i st = st := by unfold next; rw [if_neg h3, if_neg h4]
            rw [en] at cont
            obtain ⟨b, hb, hp⟩ := cont h10
            refine ⟨b, Ev.step (fun k => by rw [lir_kept.j1]) ?_, hp⟩
            simp only [if_neg ht', f0_at, if_neg h3, if_neg h4, cnt_len, if_neg (show ¬ (st.length : Int) > 10 by omega), hw]
            exact hb
    by_cases hd : (ofS (opAt l i)).1 = true
    · obtain ⟨b, hb, hp⟩ := key (decide (dAt l i ∈ cnt l st)) (by rw [decide_eq_true_eq, cnt_mem]; exact ⟨fun h => ⟨hd, h⟩, fun h => h.2⟩)
      refine ⟨b, Ev.step (fun k => by rw [lir_kept.l0]) ?_, hp⟩
      simp only [if_pos (show (i : Int) < (l.length : Int) by omega), if_pos (show (0 : Int) ≤ (i : Int) by omega)]
      refine Ev.bind (a := ofS (opAt l i)) (by rw [f0_at]; exact of_ev _) ?_
      simp only [if_pos hd]
      refine Ev.bind (a := decide (dAt l i ∈ cnt l st)) (by rw [f1_at]; exact contains_ev _ _ (by rw [cnt_len]; omega)) ?_
      exact hb
    · obtain ⟨b, hb, hp⟩ := key false ⟨fun h => by simp at h, fun h => absurd h.1 hd⟩
      refine ⟨b, Ev.step (fun k => by rw [lir_kept.l0]) ?_, hp⟩
      simp only [if_pos (show (i : Int) < (l.length : Int) by omega), if_pos (show (0 : Int) ≤ (i : Int) by omega)]
      refine Ev.bind (a := ofS (opAt l i)) (by rw [f0_at]; exact of_ev _) ?_
      simp only [if_neg hd]
      exact hb
end Go.Proofs.Ytmmckdjbbbmdgaa.LirA
