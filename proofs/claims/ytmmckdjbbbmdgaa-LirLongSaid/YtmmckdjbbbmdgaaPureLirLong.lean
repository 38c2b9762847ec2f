/- LirLong: a program of more than 20000 steps may not be (ErrLong), one of up to 20000 (each LSet) may be: for every n of one byte. -/
import Derived.Test.YtmmckdjbbbmdgaaLirF
import Derived.Test.YtmmckdjbbbmdgaaLirL
import Derived.Test.YtmmckdjbbbmdgaaPLirx21
import Derived.Test.YtmmckdjbbbmdgaaPLirx9
import Derived.OpenShut
set_option linter.unusedSimpArgs false
namespace Go.Proofs.Ytmmckdjbbbmdgaa.Pure
open Go.RowKit Go.Proofs.Ytmmckdjbbbmdgaa.PLir Go.Proofs.YtmmckdjbbbmdgaaW.PrintWords Go.Proofs.YtmmckdjbbbmdgaaW.PrintLast Go.Proofs.YtmmckdjbbbmdgaaW.PrintMore
open Go.Proofs.Ytmmckdjbbbmdgaa.LirA

def c1 : S33 := ⟨1, 0, 0, 0, 0⟩
theorem at_rep (n i : Nat) (hi : i < n) : (List.replicate n c1).getD i z33 = c1 := by
  rw [List.getD_eq_getElem?_getD, List.getElem?_replicate, if_pos hi]; rfl
theorem op_rep (n i : Nat) : LirA.opAt (List.replicate n c1) i ≠ 23 ∧ LirA.opAt (List.replicate n c1) i ≠ 24 := by
  unfold LirA.opAt
  rw [List.getD_eq_getElem?_getD, List.getElem?_replicate]
  split
  · exact ⟨by decide, by decide⟩
  · exact ⟨by decide, by decide⟩
theorem can_c1 : canB c1 = true := by decide
theorem kept_rep (n : Nat) : ∀ (m i : Nat), keptF (List.replicate n c1) m i []
  | 0, _ => trivial
  | m + 1, i => by
    have e : next (List.replicate n c1) i [] = [] := by unfold next; rw [if_neg (op_rep n i).1, if_neg (op_rep n i).2]
    exact ⟨fun ⟨_, j, hj, _⟩ => by simp at hj, by rw [e]; simp, by rw [e]; exact kept_rep n m (i + 1)⟩
theorem check_rep (n : Nat) (hn : n < 100000) : Ev (fun k => lir_Check.f k (List.replicate n c1)) (if 20000 < n then 2 else 0) := by
  have hl : (List.replicate n c1).length = n := List.length_replicate
  by_cases h : 20000 < n
  · rw [if_pos h]
    unfold lir_Check.f; simp only [hl, if_pos (show (n : Int) > 20000 by omega)]; exact Ev.now _
  · rw [if_neg h]
    unfold lir_Check.f
    simp only [hl, if_neg (show ¬ (n : Int) > 20000 by omega)]
    have hF : ¬ Fail (List.replicate n c1) := by
      rintro (⟨j, _, h3, _⟩ | ⟨p, _, h4, _⟩)
      · exact (op_rep n j).1 h3
      · exact (op_rep n p).2 h4
    obtain ⟨⟨e1, e2⟩, he, hor⟩ := endsf_ev (List.replicate n c1) (by omega)
    have he2 : e2 = true := by
      rcases hor with ⟨out, heq, _⟩ | ⟨_, hx⟩
      · exact (Prod.mk.inj heq).2
      · exact absurd hx hF
    obtain ⟨b, hb, hbk⟩ := kept_ev (List.replicate n c1) (by omega) hF n 0 [] (by omega) ⟨⟨_, I_start _⟩, List.Pairwise.nil, by simp⟩
    rw [hl] at hb
    have hbt := hbk.2 (kept_rep n n 0)
    subst hbt he2
    have scan : ∀ (m i : Nat), i + m = n → Ev (fun k => lir_Check.l0 k (List.replicate n c1) (List.replicate n c1) (n : Int) (i : Int)) 0 := by
      intro m
      induction m with
      | zero =>
        intro i hi
        refine Ev.step (fun k => by rw [lir_Check.l0]) ?_
        simp only [if_neg (show ¬ (i : Int) < (n : Int) by omega)]
        refine Ev.bind he ?_
        simp only [if_true]
        refine Ev.bind (a := true) ?_ (Ev.now _)
        unfold lir_kept.f
        simp only [hl]
        exact hb
      | succ m ih =>
        intro i hi
        have hw : wrap64 ((i : Int) + 1) = ((i + 1 : Nat) : Int) := w1 (by omega)
        have hc := can_ev c1
        rw [can_c1] at hc
        refine Ev.step (fun k => by rw [lir_Check.l0]) ?_
        simp only [if_pos (show (i : Int) < (n : Int) by omega), if_pos (show (0 : Int) ≤ (i : Int) by omega), hl, rdT, at_rep n i (by omega), hw]
        exact Ev.bind hc (ih (i + 1) (by omega))
    exact scan n 0 (by omega)
theorem fill_ev (n : Nat) (hn : n < 100000) : ∀ (m i : Nat), i + m = n → Ev (fun k => pintlelaw15_LirLong.l0 k (List.replicate i c1 ++ List.replicate m z33) (i : Int)) true
  | 0, i, hi => by
    obtain rfl : i = n := by omega
    refine Ev.step (fun k => by rw [pintlelaw15_LirLong.l0]) ?_
    simp only [List.replicate_zero, List.append_nil, List.length_replicate, if_neg (show ¬ (i : Int) < (i : Int) by omega)]
    refine Ev.bind (check_rep i hn) ?_
    by_cases h : 20000 < i
    · simp only [if_pos h]
      simp only [if_pos (show (((2 : Int) == 2) == decide ((i : Int) > 20000)) = true by simp; omega)]
      have hc := check_rep i hn
      rw [if_pos h] at hc
      refine Ev.bind hc ?_
      simp only [if_pos (show (((2 : Int) == 0) == decide ((i : Int) ≤ 20000)) = true by simp; omega)]
      exact Ev.bind lives_ev (Ev.now _)
    · simp only [if_neg h]
      simp only [if_pos (show (((0 : Int) == 2) == decide ((i : Int) > 20000)) = true by simp; omega)]
      have hc := check_rep i hn
      rw [if_neg h] at hc
      refine Ev.bind hc ?_
      simp only [if_pos (show (((0 : Int) == 0) == decide ((i : Int) ≤ 20000)) = true by simp; omega)]
      exact Ev.bind lives_ev (Ev.now _)
  | m + 1, i, hi => by
    have hw : wrap64 ((i : Int) + 1) = ((i + 1 : Nat) : Int) := w1 (by omega)
    have hz : (List.replicate i c1 ++ List.replicate (m + 1) z33).getD i z33 = z33 := by
      rw [List.getD_eq_getElem?_getD, List.getElem?_append_right (by simp)]
      simp
    have hs : (List.replicate i c1 ++ List.replicate (m + 1) z33).set i ⟨1, z33.f1, z33.f2, z33.f3, z33.f4⟩ = List.replicate (i + 1) c1 ++ List.replicate m z33 := by
      rw [List.set_append_right _ _ (by simp), List.length_replicate, Nat.sub_self, List.replicate_succ, List.set_cons_zero, List.replicate_succ', List.append_assoc]
      rfl
    refine Ev.step (fun k => by rw [pintlelaw15_LirLong.l0]) ?_
    simp only [List.length_append, List.length_replicate, if_pos (show (i : Int) < ((i + (m + 1) : Nat) : Int) by omega), if_pos (show (0 : Int) ≤ (i : Int) by omega), rdT, hz, Int.toNat_natCast, hs, hw]
    exact fill_ev n hn m (i + 1) (by omega)
theorem LirLong : pintlelaw15_LirLong.Pure := by
  intro a hw
  have hb := bounds_u8 hw
  obtain ⟨x, rfl⟩ := Int.eq_ofNat_of_zero_le hb.1
  have e : wrap64 (19990 + wrap64 (Int.tmod (x : Int) 20)) = ((19990 + x % 20 : Nat) : Int) := by
    have : Int.tmod (x : Int) 20 = ((x % 20 : Nat) : Int) := by rw [Int.tmod_eq_emod_of_nonneg (by omega)]; omega
    rw [this]
    unfold wrap64
    omega
  refine Ev.rounds ?_
  unfold pintlelaw15_LirLong.f
  simp only [e, if_pos (show (0 : Int) ≤ ((19990 + x % 20 : Nat) : Int) by omega), Int.toNat_natCast, if_pos (show 19990 + x % 20 ≤ 7036874417766 by omega)]
  exact fill_ev (19990 + x % 20) (by omega) (19990 + x % 20) 0 (by omega)
end Go.Proofs.Ytmmckdjbbbmdgaa.Pure
