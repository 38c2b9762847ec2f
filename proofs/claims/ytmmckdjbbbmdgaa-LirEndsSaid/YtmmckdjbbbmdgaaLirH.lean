import Derived.Test.YtmmckdjbbbmdgaaLirG
import Derived.Test.YtmmckdjbbbmdgaaPLirx19
import Derived.Test.YtmmckdjbbbmdgaaPLirx20
import Derived.Test.YtmmckdjbbbmdgaaPLirx1
import Derived.Test.YtmmckdjbbbmdgaaPLirx16
import Derived.Test.YtmmckdjbbbmdgaaLirL
set_option linter.unusedSimpArgs false
namespace Go.Proofs.Ytmmckdjbbbmdgaa.LirA
open Go.RowKit Go.Proofs.YtmmckdjbbbmdgaaW.PrintWords Go.Proofs.YtmmckdjbbbmdgaaW.PrintLast Go.Proofs.YtmmckdjbbbmdgaaW.PrintMore
open Go.Proofs.Ytmmckdjbbbmdgaa.PLir

theorem few_eq (l : List S33) (hs : l.length * 40 ≤ 140737488351232) : pintlelaw15_Few.f l = some (l.take 60) := by
  unfold pintlelaw15_Few.f
  simp only [Option.bind_some, List.nil_append, List.length_nil, Nat.zero_add]
  by_cases h : (l.length : Int) > 60
  · rw [if_pos h, if_pos (by omega), if_pos (by rw [List.length_take]; omega)]
  · rw [if_neg h, if_pos (by omega), List.take_of_length_le (by omega)]
theorem take_32 {l : List S33} (h : All32 l) : All32 (l.take 60) := fun x hx => h x (List.mem_of_mem_take hx)
theorem LirChecks_ev (l : List S33) (hs : l.length * 40 ≤ 140737488351232) (h : All32 l) : Ev (fun k => pintlelaw15_LirChecks.f k l) true := by
  unfold pintlelaw15_LirChecks.f
  rw [few_eq l hs]
  simp only [Option.bind_some]
  obtain ⟨r, a, b⟩ := check_ev (l.take 60) (by rw [List.length_take]; omega) (take_32 h)
  refine Ev.bind a (Ev.bind b ?_)
  simp only [if_true]
  exact Ev.bind lives_ev (Ev.now _)
/-- Each end has its beginning. -/
theorem pairs_ev (out : List Int) (hn : out.length < 100000000) (h : ∀ p, p < out.length → 0 ≤ out.getD p 0 → ∃ q : Nat, out.getD p 0 = (q : Int) ∧ q < out.length ∧ out.getD q 0 = (p : Int)) : ∀ (m i : Nat), i + m = out.length →
    Ev (fun k => pintlelaw15_LirEnds.l0 k out (i : Int)) true
  | 0, i, hi => by
    refine Ev.step (fun k => by rw [pintlelaw15_LirEnds.l0]) ?_
    simp only [if_neg (show ¬ (i : Int) < (out.length : Int) by omega)]
    exact Ev.bind lives_ev (Ev.now _)
  | m + 1, i, hi => by
    have hw : wrap64 ((i : Int) + 1) = ((i + 1 : Nat) : Int) := w1 (by omega)
    refine Ev.step (fun k => by rw [pintlelaw15_LirEnds.l0]) ?_
    simp only [if_pos (show (i : Int) < (out.length : Int) by omega), if_pos (show (0 : Int) ≤ (i : Int) by omega), rdN, hw]
    have ih := pairs_ev out hn h m (i + 1) (by omega)
    by_cases h0 : out.getD i 0 ≥ 0
    · obtain ⟨q, hq, hql, hb⟩ := h i (by omega) h0
      simp only [if_pos h0, hq, if_neg (show ¬ (q : Int) ≥ (out.length : Int) by omega), if_pos (show (0 : Int) ≤ (q : Int) by omega), if_pos (show (q : Int) < (out.length : Int) by omega), rdN, hb, if_true]
      exact ih
    · simp only [if_neg h0]
      exact ih
theorem LirEnds_ev (l : List S33) (hs : l.length * 40 ≤ 140737488351232) : Ev (fun k => pintlelaw15_LirEnds.f k l) true := by
  unfold pintlelaw15_LirEnds.f lir_Ends.f
  rw [few_eq l hs]
  simp only [Option.bind_some]
  have hn : (l.take 60).length < 100000000 := by rw [List.length_take]; omega
  obtain ⟨⟨e1, e2⟩, he, hor⟩ := endsf_ev (l.take 60) hn
  have hre := refEnds_ev _ hn _ hor
  have e1l : e1.length < 100000000 := by
    rcases hor with ⟨out, heq, hO⟩ | ⟨heq, _⟩
    · injection heq with q1 _; rw [q1, hO.len]; exact hn
    · injection heq with q1 _; rw [q1]; simp
  refine Ev.bind (a := (e1, e2)) (Ev.bind he (Ev.now _)) ?_
  refine Ev.bind hre ?_
  refine Ev.bind (Ints_ev e1 e1l) ?_
  simp only [if_true]
  refine Ev.step (fun k => by rw [pintlelaw15_LirEnds.j0]) ?_
  simp only [bne_self_eq_false, Bool.false_eq_true, if_false]
  refine pairs_ev e1 e1l (fun p hp h0 => ?_) e1.length 0 (by omega)
  rcases hor with ⟨out, heq, hO⟩ | ⟨heq, _⟩
  · injection heq with q1 _
    subst q1
    rw [hO.len] at hp
    by_cases h3 : opAt (l.take 60) p = 23
    · obtain ⟨e, hE, hel, hv⟩ := hO.shut p hp h3 (by simp)
      have h4 := (endF_lt hE).2.2
      obtain ⟨j, _, _, _, hv', hu⟩ := hO.ends e hel h4
      obtain rfl := hu p h3 hE
      exact ⟨e, hv, by rw [hO.len]; exact hel, hv'⟩
    · by_cases h4 : opAt (l.take 60) p = 24
      · obtain ⟨j, hjp, hj3, hjE, hv, _⟩ := hO.ends p hp h4
        obtain ⟨e, hE, _, hv'⟩ := hO.shut j (by omega) hj3 (by simp)
        rw [hjE] at hE
        obtain rfl := Option.some.inj hE
        exact ⟨j, hv, by rw [hO.len]; omega, hv'⟩
      · have := hO.other p hp h3 h4
        omega
  · injection heq with q1 _
    subst q1
    simp at hp
end Go.Proofs.Ytmmckdjbbbmdgaa.LirA
