/- lives of chapter 07, few. -/
import Derived.Test.YtioopcilcgebeaaExecD
import Derived.Test.YtioopcilcgebeaaLawHs
set_option linter.unusedVariables false
set_option linter.unusedSimpArgs false
namespace Go.Proofs.Ytioopcilcgebeaa.CpuA
open Go.RowKit Go.Proofs.Ytioopcilcgebeaa.Base Go.Proofs.Ytioopcilcgebeaa.InstS Go.Proofs.Ytioopcilcgebeaa.InstA Go.Proofs.YtioopcilcgebeaaW.PrintWords

set_option maxRecDepth 100000 in
theorem live_run1 (fb rb : Nat) : (runT (mapK fb rb) (fl [19, 19, 1048691]) 9 (s0 [])).1 = 2 := by kernel_rfl
set_option maxRecDepth 100000 in
theorem live_run2 (fb rb : Nat) : (runT (mapK fb rb) (fl [19, 19, 1048691]) 9 (s0 [])).2.1 = 7 := by kernel_rfl
set_option maxHeartbeats 8000000 in
set_option maxRecDepth 100000 in
theorem lives7_calls (w : World) : Calls Try.prog 29 #[] w fun e w' => e = .returned (.bool true) ∧ Below w.heap.size w w' := by
  have Hb := Lib.hid (fun (W : World) (hR : W.heap[w.heap.size]? = some (.cells #[.int .u32 19, .int .u32 19, .int .u32 1048691] 22 (0, 0))) => (show Calls Try.prog 25 #[.slice (some ⟨w.heap.size, 0, none⟩) 3 3, .slice none 0 0] W (BeganT [19, 19, 1048691] [] W) from
    (begins_calls (some ⟨w.heap.size, 0, none⟩) 3 [19, 19, 1048691] none 0 [] W (us_heap (R := [19, 19, 1048691]) hR (by intro y hy; simp at hy; omega)) ⟨fun i hi => by simp at hi, by simp⟩ (by show 3 ≤ _; unfold maxLen; omega) (by show 0 ≤ _; unfold maxLen; omega)).mono fun _ _ h => began_T h))
  have Hr := Lib.hid (fun (b mb fb rb : Nat) (W : World) (h : Box b mb (mapK fb rb) (fl [19, 19, 1048691]) (s0 []) W) => (show Calls Try.prog 26 #[.pointer (some ⟨b, 0, none⟩), .int .i64 9] W (fun e w' => e = .returned (.tuple #[.int .i64 2, .int .i64 7]) ∧ But [b, rb] W w') from by
    refine (run_calls h 9 (by omega)).mono ?_
    rintro e w' ⟨rfl, _, h3⟩
    refine ⟨?_, h3⟩
    rw [show (9 : Int).toNat = 9 from rfl, live_run1, live_run2]
    rfl))
  go_enter Try.func29, Try.ntmps29
  go_wp2_with (first
    | (go_at_call 25; (refine (Hb.out _ ?_).mono ?_); (focus (exact hpZ)); rintro e w1 ⟨b, mb, fb, rb, xb, g, bs, L, v, rfl, hT, hl, ⟨g1, g2, g3, g4, g5, g6, g7⟩, hB⟩; have HT := Lib.hid hT; clear hT)
    | (go_at_call 26; (refine (Hr.out _ _ _ _ _ HT.out.c).mono ?_); rintro e w2 ⟨rfl, hB2⟩))
  go_returns
  simp only [zA] at g1 g4
  have y1 : Below w.heap.size w w1 := by (exact blZ)
  exact ⟨by simp, below_but y1 y1.size hB2 (by
    intro k hk
    simp only [List.mem_cons, List.not_mem_nil, or_false] at hk
    rcases hk with rfl | rfl <;> omega)⟩
theorem few_calls (fuel : Int) (w : World) : Calls Try.prog 24 #[.int .i64 fuel] w fun e w' => e = .returned (.int .i64 (if 60 < fuel then 60 else fuel)) ∧ w' = w := by
  by_cases q : 60 < fuel
  · rw [if_pos q]
    go_enter Try.func24, Try.ntmps24
    go_wp2
    go_returns
    exact ⟨by simp, rfl⟩
  · rw [if_neg q]
    go_enter Try.func24, Try.ntmps24
    go_wp2
    go_returns
    exact ⟨by simp, rfl⟩
end Go.Proofs.Ytioopcilcgebeaa.CpuA
