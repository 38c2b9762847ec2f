import Derived.Test.YtmmckdjbbbmdgaaLirB
import Derived.Test.YtmmckdjbbbmdgaaLirF
import Derived.Test.YtmmckdjbbbmdgaaLirL
import Derived.Test.YtmmckdjbbbmdgaaPLirx28
import Derived.Test.YtmmckdjbbbmdgaaPLirx9
import Derived.Test.YtmmckdjbbbmdgaaPLirx23
import Derived.Test.YtmmckdjbbbmdgaaPLirx24
import Derived.Test.YtmmckdjbbbmdgaaPLirx26
import Derived.Test.YtmmckdjbbbmdgaaPLirx27
set_option linter.unusedSimpArgs false
namespace Go.Proofs.Ytmmckdjbbbmdgaa.LirA
open Go.RowKit Go.Proofs.YtmmckdjbbbmdgaaW.PrintWords Go.Proofs.YtmmckdjbbbmdgaaW.PrintLast Go.Proofs.YtmmckdjbbbmdgaaW.PrintMore
open Go.Proofs.Ytmmckdjbbbmdgaa.PLir

theorem check1_ev (x : S33) : Ev (fun k => lir_Check.f k [x]) (if canB x = true then (if x.f0 = 23 ∨ x.f0 = 24 then 4 else 0) else 1) := by
  unfold lir_Check.f
  have hx : ([x] : List S33).getD 0 z33 = x := rfl
  have ho : opAt [x] 0 = x.f0 := rfl
  simp only [List.length_singleton, if_neg (show ¬ ((1 : Nat) : Int) > 20000 by omega)]
  refine Ev.step (fun k => by rw [lir_Check.l0]) ?_
  simp only [List.length_singleton, if_pos (show (0 : Int) < ((1 : Nat) : Int) by omega), if_pos (show (0 : Int) ≤ 0 by omega), show rd_T33 [x] 0 = x from rfl]
  have hc := can_ev x
  cases h : canB x with
  | false =>
    rw [h] at hc
    exact Ev.bind hc (Ev.now _)
  | true =>
    rw [h] at hc
    refine Ev.bind hc ?_
    simp only [if_true, show wrap64 ((0 : Int) + 1) = 1 from by unfold wrap64; omega]
    refine Ev.step (fun k => by rw [lir_Check.l0]) ?_
    simp only [Int.natCast_one, Int.lt_irrefl, if_false]
    obtain ⟨⟨e1, e2⟩, he, hor⟩ := endsf_ev [x] (by simp)
    by_cases h34 : x.f0 = 23 ∨ x.f0 = 24
    · rw [if_pos h34]
      have h2 : e2 = false := by
        rcases hor with ⟨out, heq, hO⟩ | ⟨heq, _⟩
        · rcases h34 with h3 | h4
          · obtain ⟨e, hE, _⟩ := hO.shut 0 (by simp) (by rw [ho]; exact h3) (by simp)
            simp [E, endF] at hE
          · obtain ⟨j, hj, _⟩ := hO.ends 0 (by simp) (by rw [ho]; exact h4)
            omega
        · exact (Prod.mk.inj heq).2
      subst h2
      exact Ev.bind he (Ev.now _)
    · rw [if_neg h34]
      have hp : ∀ p, opAt [x] p ≠ 23 ∧ opAt [x] p ≠ 24 := by
        intro p
        cases p with
        | zero => exact ⟨fun h => h34 (.inl h), fun h => h34 (.inr h)⟩
        | succ p => exact ⟨by simp [opAt, z33], by simp [opAt, z33]⟩
      have hF : ¬ Fail [x] := by
        rintro (⟨j, _, h3, _⟩ | ⟨p, _, h4, _⟩)
        · exact (hp j).1 h3
        · exact (hp p).2 h4
      have h2 : e2 = true := by
        rcases hor with ⟨out, heq, _⟩ | ⟨_, hx⟩
        · exact (Prod.mk.inj heq).2
        · exact absurd hx hF
      subst h2
      refine Ev.bind he ?_
      simp only [if_true]
      obtain ⟨b, hb, hbk⟩ := kept_ev [x] (by simp) hF 1 0 [] (by simp) ⟨⟨_, I_start _⟩, List.Pairwise.nil, by simp⟩
      have hn : next [x] 0 [] = [] := by unfold next; rw [if_neg (hp 0).1, if_neg (hp 0).2]
      have hbt := hbk.2 ⟨fun ⟨_, j, hj, _⟩ => by simp at hj, by rw [hn]; simp, trivial⟩
      subst hbt
      exact Ev.bind (a := true) hb (Ev.now _)
def readsS (x : S33) : List Int := if canB x = true then (if (ofS x.f0).2.1 = true then [x.f2] else []) ++ (if (ofS x.f0).2.2.1 = true then [x.f3] else []) else []
def writesS (x : S33) : Int := if canB x = true then (if (ofS x.f0).1 = true then x.f1 else -1) else -1
theorem reads_ev (x : S33) : Ev (fun k => lir_Reads.f k x.f0 x.f1 x.f2 x.f3 x.f4) (readsS x) := by
  unfold lir_Reads.f lir_reads.f
  refine Ev.bind (a := readsS x) (Ev.bind (can_ev x) ?_) (Ev.now _)
  unfold readsS
  generalize ofS x.f0 = r
  obtain ⟨d, a, b, lo, hi, ok⟩ := r
  dsimp only
  cases canB x
  · simp only [Bool.false_eq_true, if_false]
    refine Ev.step (fun k => by rw [lir_reads.j0]) ?_
    simp only [Bool.false_eq_true, if_false]
    exact Ev.now _
  · simp only [if_true]
    refine Ev.step (fun k => by rw [lir_reads.j0]) ?_
    cases a <;> cases b <;> exact Ev.now _
theorem rreads_ev (x : S33) (hx : Fits32 x) : Ev (fun k => pintleref15_Reads.f k x.f0 x.f1 x.f2 x.f3 x.f4) (readsS x) := by
  unfold pintleref15_Reads.f
  simp only [Option.bind_some, has_eq]
  have hc := rcan_ev x hx
  unfold readsS
  cases h : canB x with
  | false =>
    rw [h] at hc
    simp only [Bool.false_eq_true, if_false]
    have key : ∀ b : Bool, Ev (fun k => pintleref15_Reads.j0 k [] b false x.f0 x.f1 x.f2 x.f3 x.f4) [] := by
      intro b
      refine Ev.step (fun k => by rw [pintleref15_Reads.j0]) ?_
      simp only [Bool.false_eq_true, if_false]
      cases b
      · exact Ev.now _
      · simp only [if_true]
        exact Ev.bind hc (Ev.now _)
    generalize hasS x.f0 = r
    obtain ⟨d, a, b⟩ := r
    dsimp only
    cases a
    · exact key b
    · simp only [if_true]
      exact Ev.bind hc (key b)
  | true =>
    rw [h] at hc
    rw [(has_of _ (can_op h)).1]
    generalize ofS x.f0 = r
    obtain ⟨d, a, b, lo, hi, ok⟩ := r
    dsimp only
    simp only [if_true]
    have key : ∀ t : Bool, Ev (fun k => pintleref15_Reads.j0 k [] b t x.f0 x.f1 x.f2 x.f3 x.f4) ((if t = true then [x.f2] else []) ++ (if b = true then [x.f3] else [])) := by
      intro t
      refine Ev.step (fun k => by rw [pintleref15_Reads.j0]) ?_
      cases t <;> cases b
      · exact Ev.now _
      · exact Ev.bind hc (Ev.now _)
      · exact Ev.now _
      · exact Ev.bind hc (Ev.now _)
    cases a
    · exact key false
    · exact Ev.bind hc (key true)
theorem writes_ev (x : S33) : Ev (fun k => lir_Writes.f k x.f0 x.f1 x.f2 x.f3 x.f4) (writesS x) := by
  unfold lir_Writes.f lir_writes.f
  refine Ev.bind (a := writesS x) (Ev.bind (can_ev x) ?_) (Ev.now _)
  unfold writesS
  generalize ofS x.f0 = r
  obtain ⟨d, a, b, lo, hi, ok⟩ := r
  dsimp only
  cases canB x <;> cases d <;> exact Ev.now _
theorem rwrites_ev (x : S33) (hx : Fits32 x) : Ev (fun k => pintleref15_Writes.f k x.f0 x.f1 x.f2 x.f3 x.f4) (writesS x) := by
  unfold pintleref15_Writes.f
  simp only [Option.bind_some, has_eq]
  have hc := rcan_ev x hx
  unfold writesS
  cases h : canB x with
  | false =>
    rw [h] at hc
    simp only [Bool.false_eq_true, if_false]
    cases (hasS x.f0).1
    · exact Ev.now _
    · exact Ev.bind hc (Ev.now _)
  | true =>
    rw [h] at hc
    rw [(has_of _ (can_op h)).1]
    generalize ofS x.f0 = r
    obtain ⟨d, a, b, lo, hi, ok⟩ := r
    dsimp only
    simp only [if_true]
    cases d
    · exact Ev.now _
    · exact Ev.bind hc (Ev.now _)
theorem reads_len (x : S33) : (readsS x).length < 100000000 := by
  unfold readsS
  split
  · rw [List.length_append]; split <;> split <;> simp
  · simp
theorem LirSteps_ev (x : S33) (hx : Fits32 x) : Ev (fun k => pintlelaw15_LirSteps.f k x.f0 x.f1 x.f2 x.f3 x.f4) true := by
  unfold pintlelaw15_LirSteps.f
  refine Ev.bind (rcan_ev x hx) ?_
  have key : ∀ want : Int, want = (if canB x = true then (if x.f0 = 23 ∨ x.f0 = 24 then 4 else 0) else 1) → Ev (fun k => pintlelaw15_LirSteps.j0 k want x.f0 x.f1 x.f2 x.f3 x.f4) true := by
    intro want hw
    refine Ev.step (fun k => by rw [pintlelaw15_LirSteps.j0]) ?_
    refine Ev.bind (check1_ev x) ?_
    simp only [← hw, if_true]
    refine Ev.bind (reads_ev x) (Ev.bind (rreads_ev x hx) (Ev.bind (Ints_ev _ (reads_len x)) ?_))
    simp only [if_true]
    refine Ev.bind (writes_ev x) (Ev.bind (rwrites_ev x hx) ?_)
    simp only [if_true]
    exact Ev.bind lives_ev (Ev.now _)
  cases h : canB x with
  | false =>
    simp only [Bool.false_eq_true, if_false]
    exact key 1 (by rw [h]; simp)
  | true =>
    simp only [if_true]
    by_cases h3 : x.f0 = 23
    · simp only [if_pos h3]; exact key 4 (by rw [h, if_pos rfl, if_pos (.inl h3)])
    · by_cases h4 : x.f0 = 24
      · simp only [if_neg h3, if_pos h4]; exact key 4 (by rw [h, if_pos rfl, if_pos (.inr h4)])
      · simp only [if_neg h3, if_neg h4]; exact key 0 (by rw [h, if_pos rfl, if_neg (by omega)])
end Go.Proofs.Ytmmckdjbbbmdgaa.LirA
