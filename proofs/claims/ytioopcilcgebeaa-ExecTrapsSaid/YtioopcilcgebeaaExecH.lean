/- ExecTraps. -/
import Derived.Test.YtioopcilcgebeaaExecG
import Derived.Test.YtioopcilcgebeaaExecR
set_option linter.unusedVariables false
set_option linter.unusedSimpArgs false
namespace Go.Proofs.Ytioopcilcgebeaa.CpuA
open Go.RowKit Go.Proofs.Ytioopcilcgebeaa.Base Go.Proofs.Ytioopcilcgebeaa.InstS Go.Proofs.Ytioopcilcgebeaa.InstA Go.Proofs.YtioopcilcgebeaaW.PrintWords

set_option maxHeartbeats 16000000 in
set_option maxRecDepth 100000 in
theorem execTraps_walk (A0 : Option Addr) (cap0 : Nat) (words : List Int) (A1 : Option Addr) (cap1 : Nat) (regs : List Int) (w : World) (h0 : US A0 words w) (h1 : US A1 regs w) (l0 : words.length ≤ maxLen) (l1 : regs.length ≤ maxLen) :
    Calls Try.prog 9 #[.slice A0 words.length cap0, .slice A1 regs.length cap1] w fun e w' => e = .returned (.bool true) ∧ Below w.heap.size w w' := by
  have Hb := Lib.hid ((begins_calls A0 cap0 words A1 cap1 regs w h0 h1 l0 l1).mono fun _ _ h => began_T h)
  clear h0 h1
  have hr1 := fun (b mb fb rb : Nat) (W : World) (h : Box b mb (mapK fb rb) (fl words) (s0 regs) W) => run_calls h 40 (by omega)
  have hr2 := fun (b mb fb rb : Nat) (s : St) (W : World) (h : Box b mb (mapK fb rb) (fl words) s W) => run_calls h 40 (by omega)
  have htr := fun (b mb fb rb : Nat) (s : St) (W : World) (h : Box b mb (mapK fb rb) (fl words) s W) => trace_calls h 40 (by omega)
  have e0 : ∀ fb rb n s, runT (mapK fb rb) (fl words) n s = runT (mapK 0 0) (fl words) n s := fun fb rb n s => runT_map fb rb 0 0 _ n s
  have hag := runT_trap (mapK 0 0) (fl words) 39 40 (s0 regs)
  simp only [e0, show (40 : Int).toNat = 39 + 1 from rfl] at hr1 hr2 htr
  simp only [show 40 = 39 + 1 from rfl] at hag
  generalize runT (mapK 0 0) (fl words) (39 + 1) (s0 regs) = r at hr1 hag
  obtain ⟨rn, rt, s1⟩ := r
  dsimp only at hr1 hag
  have Hr1 := Lib.hid hr1
  clear hr1 e0
  by_cases ht : rt = 0
  · subst ht
    clear hr2 htr hag
    go_enter Try.func9, Try.ntmps9
    go_wp2_with (first
      | (go_at_call 25; (with_reducible refine Hb.out.mono ?_); rintro e w1 ⟨b, mb, fb, rb, xb, g, bs, L, v, rfl, hT, hl, ⟨g1, g2, g3, g4, g5, g6, g7⟩, hB⟩; have HC := Lib.hid hT.c; clear hT)
      | (go_at_call 26; (with_reducible refine (Hr1.out _ _ _ _ _ HC.out).mono ?_); rintro e w2 ⟨rfl, hC2, hB2⟩; have HB2 := Lib.hid hB2; have z2 := hB2.size; clear hC2 hB2)
      | (go_at_call 29; (with_reducible refine (lives7_calls _).mono ?_); rintro e w6 ⟨rfl, hB6⟩))
    go_returns
    have y2 := below_but hB hB.size HB2.out (by
      intro k hk
      simp only [List.mem_cons, List.not_mem_nil, or_false] at hk
      rcases hk with rfl | rfl <;> omega)
    have s2 := y2.size
    exact ⟨by first | (simp; done) | (simp; omega), by (exact blZ)⟩
  · have ha := hag ht
    have ht' : (rt == 0) = false := by rw [beq_eq_false_iff_ne]; exact ht
    have hr2' := fun (b mb fb rb : Nat) (W : World) (h : Box b mb (mapK fb rb) (fl words) s1 W) => hr2 b mb fb rb s1 W h
    have htr' := fun (b mb fb rb : Nat) (W : World) (h : Box b mb (mapK fb rb) (fl words) s1 W) => htr b mb fb rb s1 W h
    simp only [ha] at hr2' htr'
    have Hr2 := Lib.hid (show ∀ (b mb fb rb : Nat) (W : World) (h : Box b mb (mapK fb rb) (fl words) s1 W), Calls Try.prog 26 #[.pointer (some ⟨b, 0, none⟩), .int .i64 40] W (fun e w' => e = .returned (.tuple #[.int .i64 0, .int .i64 rt]) ∧ Box b mb (mapK fb rb) (fl words) s1 w' ∧ But [b, rb] W w') from hr2')
    have Htr := Lib.hid (fun (b mb fb rb : Nat) (W : World) (h : Box b mb (mapK fb rb) (fl words) s1 W) => (htr' b mb fb rb W h).mono (R' := fun e w' => ∃ A cap, e = .returned (.tuple #[.slice A 0 cap, .int .i64 rt]) ∧ Box b mb (mapK fb rb) (fl words) s1 w' ∧ But [b, rb] W w') fun e w' ⟨A, cap, h1, _, h3, h4⟩ => ⟨A, cap, h1, h3, h4⟩)
    clear hr2 htr hag ha hr2' htr'
    have Hr1' := Hr1
    go_enter Try.func9, Try.ntmps9
    go_wp2_with (first
      | (go_at_call 25; (with_reducible refine Hb.out.mono ?_); rintro e w1 ⟨b, mb, fb, rb, xb, g, bs, L, v, rfl, hT, hl, ⟨g1, g2, g3, g4, g5, g6, g7⟩, hB⟩; have HC := Lib.hid hT.c; clear hT)
      | (go_at_call 26; (with_reducible refine (Hr1'.out _ _ _ _ _ HC.out).mono ?_); rintro e w2 ⟨rfl, hC2, hB2⟩; have HC2 := Lib.hid hC2; have HB2 := Lib.hid hB2; have z2 := hB2.size; have Hp2 := Lib.hid (pc_calls hC2.m); clear hC2 hB2 Hr1')
      | (go_at_call 18; (with_reducible refine Hp2.out.mono ?_); rintro e wp ⟨rfl, hwp⟩; subst hwp; clear Hp2)
      | (go_at_call 26; (with_reducible refine (Hr2.out _ _ _ _ _ HC2.out).mono ?_); rintro e w3 ⟨rfl, hC3, hB3⟩; have HC3 := Lib.hid hC3; have HB3 := Lib.hid hB3; have z3 := hB3.size; clear hC3 hB3)
      | (go_at_call 34; (with_reducible refine (Htr.out _ _ _ _ _ HC3.out).mono ?_); rintro e w4 ⟨A, cap, rfl, hC4, hB4⟩; have HB4 := Lib.hid hB4; have z4 := hB4.size; have Hp4 := Lib.hid (fun (W : World) (hW : Below w4.heap.size w4 W) => pc_calls (hC4.below hW).m); clear hC4 hB4)
      | (go_at_call 18; (with_reducible refine (Hp4.out _ ?_).mono ?_); (focus (exact blZ)); rintro e wq ⟨rfl, hwq⟩; subst hwq)
      | (go_at_call 29; (with_reducible refine (lives7_calls _).mono ?_); rintro e w6 ⟨rfl, hB6⟩))
    go_returns
    have y2 := below_but hB hB.size HB2.out (by
      intro k hk
      simp only [List.mem_cons, List.not_mem_nil, or_false] at hk
      rcases hk with rfl | rfl <;> omega)
    have y3 := below_but y2 y2.size HB3.out (by
      intro k hk
      simp only [List.mem_cons, List.not_mem_nil, or_false] at hk
      rcases hk with rfl | rfl <;> omega)
    have y4 := below_but y3 y3.size HB4.out (by
      intro k hk
      simp only [List.mem_cons, List.not_mem_nil, or_false] at hk
      rcases hk with rfl | rfl <;> omega)
    have s4 := y4.size
    exact ⟨by first | (simp; done) | (simp; omega), by (exact blZ)⟩
end Go.Proofs.Ytioopcilcgebeaa.CpuA
