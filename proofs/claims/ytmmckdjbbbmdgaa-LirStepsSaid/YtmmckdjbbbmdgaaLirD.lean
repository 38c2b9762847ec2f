import Derived.Test.YtmmckdjbbbmdgaaLirC
import Derived.Test.YtmmckdjbbbmdgaaPLirx5
namespace Go.Proofs.Ytmmckdjbbbmdgaa.LirA
open Go.RowKit Go.Proofs.YtmmckdjbbbmdgaaW.PrintWords Go.Proofs.YtmmckdjbbbmdgaaW.PrintLast Go.Proofs.YtmmckdjbbbmdgaaW.PrintMore
open Go.Proofs.Ytmmckdjbbbmdgaa.PLir

def enc (st : List Nat) : List Int := List.map (fun j : Nat => (j : Int)) st.reverse
theorem enc_cons (j : Nat) (st : List Nat) : enc (j :: st) = enc st ++ [(j : Int)] := by simp [enc]
theorem enc_len (st : List Nat) : (enc st).length = st.length := by simp [enc]
theorem enc_top (j : Nat) (st : List Nat) : (enc (j :: st)).getD st.length 0 = (j : Int) := by
  rw [enc_cons, List.getD_eq_getElem?_getD, List.getElem?_append_right (by rw [enc_len]; omega), enc_len]
  simp
theorem enc_pop (j : Nat) (st : List Nat) : (enc (j :: st)).take st.length = enc st := by
  rw [enc_cons, List.take_append_of_le_length (by rw [enc_len]; omega), List.take_of_length_le (by rw [enc_len]; omega)]

structure I (l : List S33) (i : Nat) (out : List Int) (st : List Nat) : Prop where
  open_ : Open l i 0 st
  len : out.length = l.length
  shut : ∀ j, j < i → opAt l j = 23 → j ∉ st → ∃ e, E l j = some e ∧ e < i ∧ out.getD j 0 = (e : Int)
  ends : ∀ p, p < i → opAt l p = 24 → ∃ j, j < p ∧ opAt l j = 23 ∧ E l j = some p ∧ out.getD p 0 = (j : Int) ∧ ∀ j', opAt l j' = 23 → E l j' = some p → j' = j
  other : ∀ p, p < i → opAt l p ≠ 23 → opAt l p ≠ 24 → out.getD p 0 = -1
def Fail (l : List S33) : Prop := (∃ j, j < l.length ∧ opAt l j = 23 ∧ E l j = none) ∨ (∃ p, p < l.length ∧ opAt l p = 24 ∧ ∀ j, opAt l j = 23 → E l j ≠ some p)
theorem I_start (l : List S33) : I l 0 (List.replicate l.length 0) [] := ⟨trivial, by simp, fun _ h => by omega, fun _ h => by omega, fun _ h => by omega⟩
theorem I_else {l : List S33} {i : Nat} {out : List Int} {st : List Nat} (h : I l i out st) (hi : i < l.length) (h3 : opAt l i ≠ 23) (h4 : opAt l i ≠ 24) : I l (i + 1) (out.set i (-1)) st := by
  have gs := fun p => getD_set out i (-1) p (by rw [h.len]; exact hi)
  refine ⟨Open_else hi h3 h4 h.open_, by rw [List.length_set, h.len], fun j hj hop hns => ?_, fun p hp hop => ?_, fun p hp a b => ?_⟩
  · have hji : j ≠ i := by rintro rfl; exact h3 hop
    obtain ⟨e, he, hlt, ho⟩ := h.shut j (by omega) hop hns
    exact ⟨e, he, by omega, by rw [gs, if_neg hji]; exact ho⟩
  · have hpi : p ≠ i := by rintro rfl; exact h4 hop
    obtain ⟨j, hj, a, b, c, d⟩ := h.ends p (by omega) hop
    exact ⟨j, hj, a, b, by rw [gs, if_neg hpi]; exact c, d⟩
  · rw [gs]
    split
    · rfl
    · exact h.other p (by omega) a b
theorem I_begin {l : List S33} {i : Nat} {out : List Int} {st : List Nat} (h : I l i out st) (hi : i < l.length) (h3 : opAt l i = 23) : I l (i + 1) (out.set i (-1)) (i :: st) := by
  have gs := fun p => getD_set out i (-1) p (by rw [h.len]; exact hi)
  refine ⟨⟨h3, by omega, rfl, Open_begin hi h3 h.open_⟩, by rw [List.length_set, h.len], fun j hj hop hns => ?_, fun p hp hop => ?_, fun p hp a b => ?_⟩
  · have hji : j ≠ i := by rintro rfl; exact hns List.mem_cons_self
    obtain ⟨e, he, hlt, ho⟩ := h.shut j (by omega) hop (fun hm => hns (List.mem_cons_of_mem _ hm))
    exact ⟨e, he, by omega, by rw [gs, if_neg hji]; exact ho⟩
  · have hpi : p ≠ i := by rintro rfl; omega
    obtain ⟨j, hj, a, b, c, d⟩ := h.ends p (by omega) hop
    exact ⟨j, hj, a, b, by rw [gs, if_neg hpi]; exact c, d⟩
  · have hpi : p ≠ i := by rintro rfl; exact a h3
    rw [gs, if_neg hpi]
    exact h.other p (by omega) a b
theorem I_end {l : List S33} {i j : Nat} {out : List Int} {st : List Nat} (h : I l i out (j :: st)) (hi : i < l.length) (h4 : opAt l i = 24) : I l (i + 1) (((out.set i (-1)).set i (j : Int)).set j (i : Int)) st := by
  have hj3 := h.open_.1
  have hji := h.open_.2.1
  obtain ⟨top, rest⟩ := Open_top hi h4 h.open_
  have gs : ∀ p, (((out.set i (-1)).set i (j : Int)).set j (i : Int)).getD p 0 = if p = j then (i : Int) else if p = i then (j : Int) else out.getD p 0 := fun p => by
    rw [getD_set _ _ _ _ (by rw [List.length_set, List.length_set, h.len]; omega), getD_set _ _ _ _ (by rw [List.length_set, h.len]; omega), getD_set _ _ _ _ (by rw [h.len]; omega)]
    split
    · rfl
    · split <;> rfl
  refine ⟨Open_end hi h4 h.open_.2.2.2, by rw [List.length_set, List.length_set, List.length_set, h.len], fun x hx hop hns => ?_, fun p hp hop => ?_, fun p hp a b => ?_⟩
  · by_cases hxj : x = j
    · subst hxj
      exact ⟨i, top, by omega, by rw [gs, if_pos rfl]⟩
    · have hxi : x ≠ i := by rintro rfl; omega
      obtain ⟨e, he, hlt, ho⟩ := h.shut x (by omega) hop (fun hm => (List.mem_cons.1 hm).elim hxj hns)
      exact ⟨e, he, by omega, by rw [gs, if_neg hxj, if_neg hxi]; exact ho⟩
  · have hpj : p ≠ j := by rintro rfl; omega
    by_cases hpi : p = i
    · subst hpi
      refine ⟨j, hji, hj3, top, by rw [gs, if_neg hpj, if_pos rfl], fun j' h3 he => ?_⟩
      have hlt := (endF_lt he).1
      by_cases hm : j' ∈ j :: st
      · rcases List.mem_cons.1 hm with rfl | hm
        · rfl
        · exact absurd he (rest j' hm)
      · obtain ⟨e, he', hl, _⟩ := h.shut j' (by omega) h3 hm
        rw [he] at he'
        have := Option.some.inj he'
        omega
    · obtain ⟨q, hq, a, b, c, d⟩ := h.ends p (by omega) hop
      exact ⟨q, hq, a, b, by rw [gs, if_neg hpj, if_neg hpi]; exact c, d⟩
  · have hpj : p ≠ j := by rintro rfl; omega
    have hpi : p ≠ i := by rintro rfl; omega
    rw [gs, if_neg hpj, if_neg hpi]
    exact h.other p (by omega) a b

theorem ends_ev (l : List S33) (hn : l.length < 100000000) : ∀ (m i : Nat) (out : List Int) (st : List Nat), i + m = l.length → st.length ≤ i → I l i out st →
    ∃ r, Ev (fun k => lir_ends.l0 k out (enc st) l (l.length : Int) (i : Int)) r ∧ ((∃ out', r = (out', true) ∧ I l l.length out' []) ∨ (r = ([], false) ∧ Fail l))
  | 0, i, out, st, hi, hs, h => by
    obtain rfl : i = l.length := by omega
    refine ⟨if (st.length : Int) > 0 then ([], false) else (out, true), Ev.step (fun k => by rw [lir_ends.l0]) ?_, ?_⟩
    · simp only [if_neg (show ¬ (l.length : Int) < (l.length : Int) by omega), enc_len]
      refine ⟨0, fun k _ => ?_⟩
      dsimp only
      split <;> rfl
    · cases st with
      | nil => exact .inl ⟨out, by simp, h⟩
      | cons j st =>
        refine .inr ⟨by rw [if_pos (by rw [List.length_cons]; omega)], .inl ⟨j, h.open_.2.1, h.open_.1, ?_⟩⟩
        rw [h.open_.2.2.1, Nat.sub_self]
        rfl
  | m + 1, i, out, st, hi, hs, h => by
    have hil : i < l.length := by omega
    have hw : wrap64 ((i : Int) + 1) = ((i + 1 : Nat) : Int) := w1 (by omega)
    have ht : ((i : Int)).toNat = i := by omega
    by_cases h3 : opAt l i = 23
    · obtain ⟨r, hr, hp⟩ := ends_ev l hn m (i + 1) _ _ (by omega) (by simp; omega) (I_begin h hil h3)
      refine ⟨r, Ev.step (fun k => by rw [lir_ends.l0]) ?_, hp⟩
      simp only [if_pos (show (i : Int) < (l.length : Int) by omega), if_pos (show (0 : Int) ≤ (i : Int) by omega), if_pos (show (i : Int) < (out.length : Int) by rw [h.len]; omega), Option.bind_some, f0_at, if_pos h3, enc_len, if_pos (show st.length < 17592186044416 by omega), hw, ht, ← enc_cons]
      exact hr
    · by_cases h4 : opAt l i = 24
      · cases st with
        | nil =>
          refine ⟨([], false), Ev.step (fun k => by rw [lir_ends.l0]) ?_, .inr ⟨rfl, .inr ⟨i, hil, h4, fun j hj he => ?_⟩⟩⟩
          · simp only [if_pos (show (i : Int) < (l.length : Int) by omega), if_pos (show (0 : Int) ≤ (i : Int) by omega), if_pos (show (i : Int) < (out.length : Int) by rw [h.len]; omega), Option.bind_some, f0_at, if_neg h3, if_pos h4, enc_len, if_pos (show (([] : List Nat).length : Int) = 0 by simp)]
            exact Ev.now _
          · have hlt := (endF_lt he).1
            obtain ⟨e, he', hl, _⟩ := h.shut j (by omega) hj (by simp)
            rw [he] at he'
            have := Option.some.inj he'
            omega
        | cons j st =>
          obtain ⟨r, hr, hp⟩ := ends_ev l hn m (i + 1) _ _ (by omega) (by rw [List.length_cons] at hs; omega) (I_end h hil h4)
          have hji := h.open_.2.1
          have hm1 : wrap64 (((j :: st).length : Int) - 1) = (st.length : Int) := by
            rw [List.length_cons] at hs ⊢
            unfold wrap64; omega
          refine ⟨r, Ev.step (fun k => by rw [lir_ends.l0]) ?_, hp⟩
          simp only [if_pos (show (i : Int) < (l.length : Int) by omega), if_pos (show (0 : Int) ≤ (i : Int) by omega), if_pos (show (i : Int) < (out.length : Int) by rw [h.len]; omega), Option.bind_some, f0_at, if_neg h3, if_pos h4, enc_len, if_neg (show ¬ ((j :: st).length : Int) = 0 by rw [List.length_cons]; omega), hm1,
            if_pos (show (0 : Int) ≤ (st.length : Int) by omega), if_pos (show (st.length : Int) < ((j :: st).length : Int) by rw [List.length_cons]; omega), if_pos (show (st.length : Int) ≤ ((j :: st).length : Int) by rw [List.length_cons]; omega),
            rdN, enc_top, if_pos (show (0 : Int) ≤ (j : Int) by omega), if_pos (show (j : Int) < (out.length : Int) by rw [h.len]; omega), hw, ht, Int.toNat_natCast, enc_pop]
          exact hr
      · obtain ⟨r, hr, hp⟩ := ends_ev l hn m (i + 1) _ _ (by omega) (by omega) (I_else h hil h3 h4)
        refine ⟨r, Ev.step (fun k => by rw [lir_ends.l0]) ?_, hp⟩
        simp only [if_pos (show (i : Int) < (l.length : Int) by omega), if_pos (show (0 : Int) ≤ (i : Int) by omega), if_pos (show (i : Int) < (out.length : Int) by rw [h.len]; omega), Option.bind_some, f0_at, if_neg h3, if_neg h4, hw, ht]
        exact hr
theorem endsf_ev (l : List S33) (hn : l.length < 100000000) : ∃ r, Ev (fun k => lir_ends.f k l) r ∧ ((∃ out', r = (out', true) ∧ I l l.length out' []) ∨ (r = ([], false) ∧ Fail l)) := by
  obtain ⟨r, hr, h⟩ := ends_ev l hn l.length 0 _ [] (by omega) (by simp) (I_start l)
  refine ⟨r, ?_, h⟩
  unfold lir_ends.f
  simp only [if_pos (show (0 : Int) ≤ (l.length : Int) by omega), Int.toNat_natCast, if_pos (show l.length ≤ 35184372088832 by omega)]
  exact hr
end Go.Proofs.Ytmmckdjbbbmdgaa.LirA
