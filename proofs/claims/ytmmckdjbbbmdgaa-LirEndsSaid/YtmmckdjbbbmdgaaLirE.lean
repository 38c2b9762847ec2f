import Derived.Test.YtmmckdjbbbmdgaaLirD
import Derived.Test.YtmmckdjbbbmdgaaPLirx10
import Derived.Test.YtmmckdjbbbmdgaaPLirx11
namespace Go.Proofs.Ytmmckdjbbbmdgaa.LirA
set_option linter.unusedSimpArgs false
open Go.RowKit Go.Proofs.YtmmckdjbbbmdgaaW.PrintWords Go.Proofs.YtmmckdjbbbmdgaaW.PrintLast Go.Proofs.YtmmckdjbbbmdgaaW.PrintMore
open Go.Proofs.Ytmmckdjbbbmdgaa.PLir

def endZ : Option Nat → Int
  | some e => (e : Int)
  | none => -1
theorem End_ev (l : List S33) (hn : l.length < 100000000) : ∀ (m d i : Nat), i + m = l.length → d ≤ i →
    Ev (fun k => pintleref15_End.l0 k l (d : Int) (i : Int)) (endZ (endF (opAt l) m d i))
  | 0, d, i, hi, hd => by
    refine Ev.step (fun k => by rw [pintleref15_End.l0]) ?_
    simp only [if_neg (show ¬ (i : Int) < (l.length : Int) by omega)]
    exact Ev.now _
  | m + 1, d, i, hi, hd => by
    have hw : wrap64 ((i : Int) + 1) = ((i + 1 : Nat) : Int) := w1 (by omega)
    refine Ev.step (fun k => by rw [pintleref15_End.l0]) ?_
    simp only [if_pos (show (i : Int) < (l.length : Int) by omega), if_pos (show (0 : Int) ≤ (i : Int) by omega), f0_at]
    have hj : ∀ b : Bool, (b = true ↔ opAt l i = 24 ∧ d = 0) → Ev (fun k => pintleref15_End.j1 k l (d : Int) (i : Int) b) (endZ (endF (opAt l) (m + 1) d i)) := by
      intro b hb
      refine Ev.step (fun k => by rw [pintleref15_End.j1]) ?_
      unfold endF
      by_cases hc : opAt l i = 24 ∧ d = 0
      · simp only [if_pos (hb.2 hc), if_pos hc]
        exact Ev.now _
      · simp only [if_neg (fun h => hc (hb.1 h)), if_neg hc, if_pos (show (i : Int) < (l.length : Int) by omega), if_pos (show (0 : Int) ≤ (i : Int) by omega), f0_at, hw]
        by_cases h4 : opAt l i = 24
        · have hd0 : d ≠ 0 := fun h => hc ⟨h4, h⟩
          have hm1 : wrap64 ((d : Int) - 1) = ((d - 1 : Nat) : Int) := wm (by omega) (by omega)
          simp only [if_pos h4, if_neg (show ¬ opAt l i = 23 by omega), hm1]
          exact End_ev l hn m (d - 1) (i + 1) (by omega) (by omega)
        · simp only [if_neg h4]
          by_cases h3 : opAt l i = 23
          · have hp1 : wrap64 ((d : Int) + 1) = ((d + 1 : Nat) : Int) := w1 (by omega)
            simp only [if_pos h3, hp1]
            exact End_ev l hn m (d + 1) (i + 1) (by omega) (by omega)
          · simp only [if_neg h3]
            exact End_ev l hn m d (i + 1) (by omega) (by omega)
    by_cases h4 : opAt l i = 24
    · simp only [if_pos h4]
      exact hj _ (by rw [beq_iff_eq]; constructor <;> intro h <;> first | exact ⟨h4, by omega⟩ | (have := h.2; omega))
    · simp only [if_neg h4]
      exact hj _ (by constructor <;> intro h <;> first | (exact absurd h.1 h4) | (exact absurd h (by simp)))
theorem Endf_ev (l : List S33) (hn : l.length < 100000000) (j : Nat) (hj : j < l.length) : Ev (fun k => pintleref15_End.f k l ((j + 1 : Nat) : Int)) (endZ (E l j)) := by
  unfold pintleref15_End.f E
  exact End_ev l hn _ 0 (j + 1) (by omega) (by omega)

/-! ### The reference's places -/
/-- Behind the first pass: all -1. -/
theorem ref0_ev (l : List S33) (hn : l.length < 100000000) (r : List Int × Bool) : ∀ (m i : Nat) (arr : List Int), i + m = l.length → arr.length = l.length → (∀ p, p < i → arr.getD p 0 = -1) →
    (∀ arr : List Int, arr.length = l.length → (∀ p, p < l.length → arr.getD p 0 = -1) → Ev (fun k => pintleref15_Ends.l1 k l arr 0) r) → Ev (fun k => pintleref15_Ends.l0 k l arr (i : Int)) r
  | 0, i, arr, hi, hl, h, hc => by
    refine Ev.step (fun k => by rw [pintleref15_Ends.l0]) ?_
    simp only [if_neg (show ¬ (i : Int) < (l.length : Int) by omega)]
    exact hc arr hl (fun p hp => h p (by omega))
  | m + 1, i, arr, hi, hl, h, hc => by
    have hw : wrap64 ((i : Int) + 1) = ((i + 1 : Nat) : Int) := w1 (by omega)
    refine Ev.step (fun k => by rw [pintleref15_Ends.l0]) ?_
    simp only [if_pos (show (i : Int) < (l.length : Int) by omega), if_pos (show (0 : Int) ≤ (i : Int) by omega), if_pos (show (i : Int) < (arr.length : Int) by omega), hw, Int.toNat_natCast]
    refine ref0_ev l hn r m (i + 1) _ (by omega) (by rw [List.length_set, hl]) (fun p hp => ?_) hc
    rw [getD_set _ _ _ _ (by omega)]
    split
    · rfl
    · exact h p (by omega)
/-- The third pass, where every end has its loop. -/
theorem ref2_good (l : List S33) (hn : l.length < 100000000) (arr : List Int) (hl : arr.length = l.length) (h : ∀ p, p < l.length → opAt l p = 24 → 0 ≤ arr.getD p 0) : ∀ (m i : Nat), i + m = l.length →
    Ev (fun k => pintleref15_Ends.l2 k l arr (i : Int)) (arr, true)
  | 0, i, hi => by
    refine Ev.step (fun k => by rw [pintleref15_Ends.l2]) ?_
    simp only [if_neg (show ¬ (i : Int) < (l.length : Int) by omega)]
    exact Ev.now _
  | m + 1, i, hi => by
    have hw : wrap64 ((i : Int) + 1) = ((i + 1 : Nat) : Int) := w1 (by omega)
    refine Ev.step (fun k => by rw [pintleref15_Ends.l2]) ?_
    simp only [if_pos (show (i : Int) < (l.length : Int) by omega), if_pos (show (0 : Int) ≤ (i : Int) by omega), f0_at, hw]
    by_cases h4 : opAt l i = 24
    · have := h i (by omega) h4
      simp only [if_pos h4, if_pos (show (i : Int) < (arr.length : Int) by omega), rdN, if_neg (show ¬ arr.getD i 0 < 0 by omega)]
      exact ref2_good l hn arr hl h m (i + 1) (by omega)
    · simp only [if_neg h4]
      exact ref2_good l hn arr hl h m (i + 1) (by omega)
theorem ref2_bad (l : List S33) (hn : l.length < 100000000) (arr : List Int) (hl : arr.length = l.length) (q : Nat) (hq : q < l.length) (h4 : opAt l q = 24) (hv : arr.getD q 0 = -1) : ∀ (m i : Nat), i + m = q →
    Ev (fun k => pintleref15_Ends.l2 k l arr (i : Int)) ([], false)
  | 0, i, hi => by
    obtain rfl : i = q := by omega
    refine Ev.step (fun k => by rw [pintleref15_Ends.l2]) ?_
    simp only [if_pos (show (i : Int) < (l.length : Int) by omega), if_pos (show (0 : Int) ≤ (i : Int) by omega), f0_at, if_pos h4, if_pos (show (i : Int) < (arr.length : Int) by omega), rdN, hv, if_pos (show (-1 : Int) < 0 by omega)]
    exact Ev.now _
  | m + 1, i, hi => by
    have hw : wrap64 ((i : Int) + 1) = ((i + 1 : Nat) : Int) := w1 (by omega)
    refine Ev.step (fun k => by rw [pintleref15_Ends.l2]) ?_
    simp only [if_pos (show (i : Int) < (l.length : Int) by omega), if_pos (show (0 : Int) ≤ (i : Int) by omega), f0_at, hw]
    have ih := ref2_bad l hn arr hl q hq h4 hv m (i + 1) (by omega)
    by_cases h4 : opAt l i = 24
    · simp only [if_pos h4, if_pos (show (i : Int) < (arr.length : Int) by omega), rdN]
      by_cases h0 : arr.getD i 0 < 0
      · simp only [if_pos h0]
        exact Ev.now _
      · simp only [if_neg h0]
        exact ih
    · simp only [if_neg h4]
      exact ih
/-- The second pass, where all is well. -/
structure J (l : List S33) (out : List Int) (i : Nat) (arr : List Int) : Prop where
  len : arr.length = l.length
  one : ∀ p, p < l.length → opAt l p = 23 → arr.getD p 0 = if p < i then out.getD p 0 else -1
  two : ∀ p, p < l.length → opAt l p = 24 → arr.getD p 0 = if out.getD p 0 < (i : Int) then out.getD p 0 else -1
  other : ∀ p, p < l.length → opAt l p ≠ 23 → opAt l p ≠ 24 → arr.getD p 0 = -1
theorem ref1_good (l : List S33) (hn : l.length < 100000000) (out : List Int) (h : I l l.length out []) : ∀ (m i : Nat) (arr : List Int), i + m = l.length → J l out i arr →
    Ev (fun k => pintleref15_Ends.l1 k l arr (i : Int)) (out, true)
  | 0, i, arr, hi, hj => by
    obtain rfl : i = l.length := by omega
    have e : arr = out := by
      refine ext_getD (hj.len.trans h.len.symm) fun p hp => ?_
      rw [hj.len] at hp
      by_cases h3 : opAt l p = 23
      · rw [hj.one p hp h3, if_pos hp]
      · by_cases h4 : opAt l p = 24
        · obtain ⟨j, hlt, _, _, hv, _⟩ := h.ends p hp h4
          rw [hj.two p hp h4, hv, if_pos (by omega)]
        · rw [hj.other p hp h3 h4, h.other p hp h3 h4]
    subst e
    refine Ev.step (fun k => by rw [pintleref15_Ends.l1]) ?_
    simp only [if_neg (show ¬ (l.length : Int) < (l.length : Int) by omega)]
    refine ref2_good l hn arr h.len (fun p hp h4 => ?_) l.length 0 (by omega)
    obtain ⟨j, _, _, _, hv, _⟩ := h.ends p hp h4
    rw [hv]
    omega
  | m + 1, i, arr, hi, hj => by
    have hw : wrap64 ((i : Int) + 1) = ((i + 1 : Nat) : Int) := w1 (by omega)
    have hil : i < l.length := by omega
    have hlen := hj.len
    refine Ev.step (fun k => by rw [pintleref15_Ends.l1]) ?_
    simp only [if_pos (show (i : Int) < (l.length : Int) by omega), if_pos (show (0 : Int) ≤ (i : Int) by omega), f0_at, hw]
    by_cases h3 : opAt l i = 23
    · obtain ⟨e, he, hel, hv⟩ := h.shut i hil h3 (by simp)
      have he4 := (endF_lt he).2.2
      simp only [if_pos h3]
      refine Ev.bind (a := (e : Int)) (by have := Endf_ev l hn i hil; rw [he] at this; exact this) ?_
      simp only [if_neg (show ¬ (e : Int) < 0 by omega), if_pos (show (i : Int) < (arr.length : Int) by omega), if_pos (show (0 : Int) ≤ (e : Int) by omega), if_pos (show (e : Int) < (arr.length : Int) by omega), Int.toNat_natCast]
      have gs : ∀ p, ((arr.set i (e : Int)).set e (i : Int)).getD p 0 = if p = e then (i : Int) else if p = i then (e : Int) else arr.getD p 0 := fun p => by
        rw [getD_set (arr.set i (e : Int)) e (i : Int) p (by simp only [List.length_set]; omega), getD_set arr i (e : Int) p (by omega)]
      refine ref1_good l hn out h m (i + 1) ((arr.set i (e : Int)).set e (i : Int)) (by omega) ⟨by rw [List.length_set, List.length_set, hlen], fun p hp a => ?_, fun p hp a => ?_, fun p hp a b => ?_⟩
      · have hpe : p ≠ e := by rintro rfl; omega
        rw [gs, if_neg hpe]
        by_cases hpi : p = i
        · subst hpi; rw [if_pos rfl, if_pos (by omega), hv]
        · rw [if_neg hpi, hj.one p hp a]
          by_cases hlt : p < i
          · rw [if_pos hlt, if_pos (by omega)]
          · rw [if_neg hlt, if_neg (by omega)]
      · have hpi : p ≠ i := by rintro rfl; omega
        rw [gs, if_neg hpi]
        obtain ⟨j, hjp, hj3, hjE, hjv, hju⟩ := h.ends p hp a
        by_cases hpe : p = e
        · subst hpe
          obtain rfl := hju i h3 he
          rw [if_pos rfl, hjv, if_pos (by omega)]
        · have hne : j ≠ i := by rintro rfl; rw [he] at hjE; exact hpe (Option.some.inj hjE).symm
          rw [if_neg hpe, hj.two p hp a, hjv]
          by_cases hlt : j < i
          · rw [if_pos (by omega), if_pos (by omega)]
          · rw [if_neg (by omega), if_neg (by omega)]
      · have hpe : p ≠ e := by rintro rfl; omega
        have hpi : p ≠ i := by rintro rfl; omega
        rw [gs, if_neg hpe, if_neg hpi]
        exact hj.other p hp a b
    · simp only [if_neg h3]
      refine ref1_good l hn out h m (i + 1) arr (by omega) ⟨hlen, fun p hp a => ?_, fun p hp a => ?_, hj.other⟩
      · have hpi : p ≠ i := by rintro rfl; omega
        rw [hj.one p hp a]
        by_cases hlt : p < i
        · rw [if_pos hlt, if_pos (by omega)]
        · rw [if_neg hlt, if_neg (by omega)]
      · obtain ⟨j, hjp, hj3, hjE, hjv, hju⟩ := h.ends p hp a
        have hne : j ≠ i := by rintro rfl; omega
        rw [hj.two p hp a, hjv]
        by_cases hlt : j < i
        · rw [if_pos (by omega), if_pos (by omega)]
        · rw [if_neg (by omega), if_neg (by omega)]
/-- The second pass, where something is wrong. -/
theorem ref1_bad (l : List S33) (hn : l.length < 100000000) (h : Fail l) : ∀ (m i : Nat) (arr : List Int), i + m = l.length → arr.length = l.length → (∀ j, j < i → opAt l j = 23 → E l j ≠ none) →
    (∀ p, p < l.length → opAt l p = 24 → arr.getD p 0 = -1 ∨ ∃ j, opAt l j = 23 ∧ E l j = some p) → Ev (fun k => pintleref15_Ends.l1 k l arr (i : Int)) ([], false)
  | 0, i, arr, hi, hl, hE, hp => by
    refine Ev.step (fun k => by rw [pintleref15_Ends.l1]) ?_
    simp only [if_neg (show ¬ (i : Int) < (l.length : Int) by omega)]
    rcases h with ⟨j, hj, h3, he⟩ | ⟨p, hpl, h4, hno⟩
    · exact absurd he (hE j (by omega) h3)
    · refine ref2_bad l hn arr hl p hpl h4 ((hp p hpl h4).resolve_right fun ⟨j, h3, he⟩ => hno j h3 he) p 0 (by omega)
  | m + 1, i, arr, hi, hl, hE, hp => by
    have hw : wrap64 ((i : Int) + 1) = ((i + 1 : Nat) : Int) := w1 (by omega)
    have hil : i < l.length := by omega
    refine Ev.step (fun k => by rw [pintleref15_Ends.l1]) ?_
    simp only [if_pos (show (i : Int) < (l.length : Int) by omega), if_pos (show (0 : Int) ≤ (i : Int) by omega), f0_at, hw]
    by_cases h3 : opAt l i = 23
    · simp only [if_pos h3]
      cases he : E l i with
      | none =>
        refine Ev.bind (a := (-1 : Int)) (by have := Endf_ev l hn i hil; rw [he] at this; exact this) ?_
        simp only [if_pos (show (-1 : Int) < 0 by omega)]
        exact Ev.now _
      | some e =>
        have hel := (endF_lt he).2
        have he4 := hel.2
        refine Ev.bind (a := (e : Int)) (by have := Endf_ev l hn i hil; rw [he] at this; exact this) ?_
        simp only [if_neg (show ¬ (e : Int) < 0 by omega), if_pos (show (i : Int) < (arr.length : Int) by omega), if_pos (show (0 : Int) ≤ (e : Int) by omega), if_pos (show (e : Int) < (arr.length : Int) by omega), Int.toNat_natCast]
        refine ref1_bad l hn h m (i + 1) ((arr.set i (e : Int)).set e (i : Int)) (by omega) (by rw [List.length_set, List.length_set, hl]) (fun j hj a => ?_) (fun p hpl a => ?_)
        · by_cases hji : j = i
          · subst hji; rw [he]; simp
          · exact hE j (by omega) a
        · have hpi : p ≠ i := by rintro rfl; omega
          by_cases hpe : p = e
          · subst hpe; exact .inr ⟨i, h3, he⟩
          · rw [getD_set (arr.set i (e : Int)) e (i : Int) p (by simp only [List.length_set]; omega), if_neg hpe, getD_set arr i (e : Int) p (by omega), if_neg hpi]
            exact hp p hpl a
    · simp only [if_neg h3]
      refine ref1_bad l hn h m (i + 1) arr (by omega) hl (fun j hj a => ?_) hp
      by_cases hji : j = i
      · subst hji; exact absurd a h3
      · exact hE j (by omega) a
theorem refEnds_ev (l : List S33) (hn : l.length < 100000000) (r : List Int × Bool) (h : (∃ out, r = (out, true) ∧ I l l.length out []) ∨ (r = ([], false) ∧ Fail l)) : Ev (fun k => pintleref15_Ends.f k l) r := by
  unfold pintleref15_Ends.f
  simp only [if_pos (show (0 : Int) ≤ (l.length : Int) by omega), Int.toNat_natCast, if_pos (show l.length ≤ 35184372088832 by omega)]
  refine ref0_ev l hn r l.length 0 _ (by omega) (by simp) (fun p hp => by omega) fun arr hl ha => ?_
  rcases h with ⟨out, rfl, hI⟩ | ⟨rfl, hF⟩
  · refine ref1_good l hn out hI l.length 0 arr (by omega) ⟨hl, fun p hp _ => by rw [ha p hp]; rfl, fun p hp h4 => ?_, fun p hp _ _ => ha p hp⟩
    obtain ⟨j, _, _, _, hv, _⟩ := hI.ends p hp h4
    rw [ha p hp, hv, if_neg (by omega)]
  · exact ref1_bad l hn hF l.length 0 arr (by omega) hl (fun j hj => by omega) (fun p hp _ => .inl (ha p hp))
end Go.Proofs.Ytmmckdjbbbmdgaa.LirA
