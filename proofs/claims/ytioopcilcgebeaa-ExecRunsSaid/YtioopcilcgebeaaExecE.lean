/- ExecRuns. -/
import Derived.Test.YtioopcilcgebeaaExecEs
set_option linter.unusedVariables false
set_option linter.unusedSimpArgs false
namespace Go.Proofs.Ytioopcilcgebeaa.CpuA
open Go.RowKit Go.Proofs.Ytioopcilcgebeaa.Base Go.Proofs.Ytioopcilcgebeaa.InstS Go.Proofs.Ytioopcilcgebeaa.InstA Go.Proofs.YtioopcilcgebeaaW.PrintWords

set_option maxHeartbeats 16000000 in
set_option maxRecDepth 100000 in
theorem execRuns_walk (A0 : Option Addr) (cap0 : Nat) (words : List Int) (A1 : Option Addr) (cap1 : Nat) (regs : List Int) (fuel : Int) (w : World) (h0 : US A0 words w) (h1 : US A1 regs w) (l0 : words.length ≤ maxLen) (l1 : regs.length ≤ maxLen) :
    Calls Try.prog 4 #[.slice A0 words.length cap0, .slice A1 regs.length cap1, .int .i64 fuel] w fun e w' => e = .returned (.bool true) ∧ Below w.heap.size w w' := by
  have Hb := Lib.hid ((begins_calls A0 cap0 words A1 cap1 regs w h0 h1 l0 l1).mono fun _ _ h => began_T h)
  have hf := few_calls fuel
  obtain ⟨fu, hfu⟩ : ∃ fu, (if 60 < fuel then 60 else fuel) = fu := ⟨_, rfl⟩
  have hfl : fu ≤ 60 := by rw [← hfu]; split <;> omega
  rw [hfu] at hf
  have Hf := Lib.hid hf
  have hn := run_nil fu
  obtain ⟨tr, htr⟩ : ∃ tr : Int, (if 0 < fu then 2 else 0) = tr := ⟨_, rfl⟩
  rw [htr] at hn
  have Hn := Lib.hid hn
  clear h0 h1 hf hfu hn
  by_cases q : 0 < fu
  · rw [if_pos q] at htr
    subst htr
    go_enter Try.func4, Try.ntmps4
    go_wp2_with (first
      | (go_at_call 24; (with_reducible refine (Hf.out _).mono ?_); rintro e wf ⟨rfl, rfl⟩)
      | (go_at_call 25; (refine Hb.out.mono ?_); rintro e w1 ⟨b, mb, fb, rb, xb, g, bs, L, v, rfl, hT, hl, ⟨g1, g2, g3, g4, g5, g6, g7⟩, hB⟩; have HT := Lib.hid hT; clear hT; have hrun := run_calls HT.out.c fu (by omega); have htra := fun (W : World) (hX : RBox xb g bs (mapK fb rb) (fl words) (s0 regs) L v W) => rtrace_calls hX (by omega) fu (by omega); generalize evsT (mapK fb rb) (fl words) fu.toNat (s0 regs) = evs at htra; generalize runT (mapK fb rb) (fl words) fu.toNat (s0 regs) = r at hrun htra; obtain ⟨rn, rt, s'⟩ := r; dsimp only at hrun htra; have Hrun := Lib.hid hrun; have Htra := Lib.hid htra; clear hrun htra)
      | (go_at_call 26; (with_reducible refine Hrun.out.mono ?_); rintro e w2 ⟨rfl, hC2, hB2⟩; have HC2 := Lib.hid hC2; have HX2 := Lib.hid (rbox_step HT.out.c HT.out.x hB2); have HB2 := Lib.hid hB2; have z2 := hB2.size; clear hC2 hB2)
      | (go_at_call 27; (with_reducible refine (Htra.out _ HX2.out).mono ?_); rintro e w3 ⟨A, cap, L', v', rfl, hrow, hX3, hB3⟩; have HX3 := Lib.hid hX3; have HC3 := Lib.hid (box_rkeep HC2.out HX2.out hB3); have HB3 := Lib.hid hB3; have z3 := hB3.size; clear hX3 hB3 hrow)
      | (go_at_call 26; (with_reducible refine (Hn.out _).mono ?_); rintro e w4 ⟨rfl, hB4⟩; have z4 := hB4.size)
      | (go_at_call 28; (refine (same_calls (HC3.out.below ?_).m (HX3.out.below ?_).m).mono ?_); (focus (exact blZ)); (focus (exact blZ)); rintro e w5 ⟨rfl, n5, rfl⟩)
      | (go_at_call 29; (with_reducible refine (lives7_calls _).mono ?_); rintro e w6 ⟨rfl, hB6⟩))
    go_returns
    have y2 := below_but hB hB.size HB2.out (by
      intro k hk
      simp only [List.mem_cons, List.not_mem_nil, or_false] at hk
      rcases hk with rfl | rfl <;> omega)
    have hx9 := row_ge HT.out.x.mem
    have y3 := below_but y2 y2.size HB3.out (by
      intro k hk
      rcases List.mem_cons.1 hk with rfl | hk
      · exact g5
      · rcases List.mem_cons.1 hk with rfl | hk
        · exact g6
        · exact Nat.le_trans g7 (hx9 k hk))
    have s3 := y3.size
    exact ⟨by first | (simp; done) | (simp; omega), by (exact blZ)⟩
  · rw [if_neg q] at htr
    subst htr
    go_enter Try.func4, Try.ntmps4
    go_wp2_with (first
      | (go_at_call 24; (with_reducible refine (Hf.out _).mono ?_); rintro e wf ⟨rfl, rfl⟩)
      | (go_at_call 25; (refine Hb.out.mono ?_); rintro e w1 ⟨b, mb, fb, rb, xb, g, bs, L, v, rfl, hT, hl, ⟨g1, g2, g3, g4, g5, g6, g7⟩, hB⟩; have HT := Lib.hid hT; clear hT; have hrun := run_calls HT.out.c fu (by omega); have htra := fun (W : World) (hX : RBox xb g bs (mapK fb rb) (fl words) (s0 regs) L v W) => rtrace_calls hX (by omega) fu (by omega); generalize evsT (mapK fb rb) (fl words) fu.toNat (s0 regs) = evs at htra; generalize runT (mapK fb rb) (fl words) fu.toNat (s0 regs) = r at hrun htra; obtain ⟨rn, rt, s'⟩ := r; dsimp only at hrun htra; have Hrun := Lib.hid hrun; have Htra := Lib.hid htra; clear hrun htra)
      | (go_at_call 26; (with_reducible refine Hrun.out.mono ?_); rintro e w2 ⟨rfl, hC2, hB2⟩; have HC2 := Lib.hid hC2; have HX2 := Lib.hid (rbox_step HT.out.c HT.out.x hB2); have HB2 := Lib.hid hB2; have z2 := hB2.size; clear hC2 hB2)
      | (go_at_call 27; (with_reducible refine (Htra.out _ HX2.out).mono ?_); rintro e w3 ⟨A, cap, L', v', rfl, hrow, hX3, hB3⟩; have HX3 := Lib.hid hX3; have HC3 := Lib.hid (box_rkeep HC2.out HX2.out hB3); have HB3 := Lib.hid hB3; have z3 := hB3.size; clear hX3 hB3 hrow)
      | (go_at_call 26; (with_reducible refine (Hn.out _).mono ?_); rintro e w4 ⟨rfl, hB4⟩; have z4 := hB4.size)
      | (go_at_call 28; (refine (same_calls (HC3.out.below ?_).m (HX3.out.below ?_).m).mono ?_); (focus (exact blZ)); (focus (exact blZ)); rintro e w5 ⟨rfl, n5, rfl⟩)
      | (go_at_call 29; (with_reducible refine (lives7_calls _).mono ?_); rintro e w6 ⟨rfl, hB6⟩))
    go_returns
    have y2 := below_but hB hB.size HB2.out (by
      intro k hk
      simp only [List.mem_cons, List.not_mem_nil, or_false] at hk
      rcases hk with rfl | rfl <;> omega)
    have hx9 := row_ge HT.out.x.mem
    have y3 := below_but y2 y2.size HB3.out (by
      intro k hk
      rcases List.mem_cons.1 hk with rfl | hk
      · exact g5
      · rcases List.mem_cons.1 hk with rfl | hk
        · exact g6
        · exact Nat.le_trans g7 (hx9 k hk))
    have s3 := y3.size
    exact ⟨by first | (simp; done) | (simp; omega), by (exact blZ)⟩
end Go.Proofs.Ytioopcilcgebeaa.CpuA
