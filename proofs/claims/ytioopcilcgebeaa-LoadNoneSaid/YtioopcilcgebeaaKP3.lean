/- Functions as the kit's printer has written them, shortened. -/
import Derived.Test.YtioopcilcgebeaaKP1
import Derived.Test.YtioopcilcgebeaaKP2
set_option linter.unusedVariables false
set_option linter.unusedSimpArgs false
/-! #### PCpux36 -/
namespace Go.Proofs.Ytioopcilcgebeaa.PCpu
open Go.RowKit Go.Proofs.YtioopcilcgebeaaW.PrintWords Go.Proofs.YtioopcilcgebeaaW.PrintLast Go.Proofs.YtioopcilcgebeaaW.PrintMore
attribute [local go_sem] max2_int min2_int max_two min_two max_three min_three max_four min_four   -- for this text's walks alone

/-! ### num_plain: function 121 -/
def num_plain.f (a0 : Int) (a1 : Int) (a2 : Int) : Option (Int) := if a0 = 1 then (some ((a1 + a2) % 4294967296)) else (if a0 = 2 then (some ((a1 - a2) % 4294967296)) else (if a0 = 3 then (if 0 ≤ (Go.bits .and .u32 a2 31) then (some (shl .u32 a1 (Go.bits .and .u32 a2 31))) else (none)) else (if a0 = 4 then ((num_bit.f (decide ((wrap32 (a1)) < (wrap32 (a2))))).bind fun t222 => (some t222)) else (if a0 = 5 then ((num_bit.f (decide (a1 < a2))).bind fun t223 => (some t223)) else (if a0 = 6 then (some (Go.bits .xor .u32 a1 a2)) else (if a0 = 7 then (if 0 ≤ (Go.bits .and .u32 a2 31) then (some (shr .u32 a1 (Go.bits .and .u32 a2 31))) else (none)) else (if a0 = 8 then (if 0 ≤ (Go.bits .and .u32 a2 31) then (some ((shr .i32 (wrap32 (a1)) (Go.bits .and .u32 a2 31)) % 4294967296)) else (none)) else (if a0 = 9 then (some (Go.bits .or .u32 a1 a2)) else (some (Go.bits .and .u32 a1 a2))))))))))
set_option maxHeartbeats 8000000 in
set_option maxRecDepth 100000 in
theorem num_plain.calls (a0 : Int) (a1 : Int) (a2 : Int) (r : Int) (w : World) (h : num_plain.f a0 a1 a2 = some r) :
    Calls Try.prog 121 #[.int .i64 a0, .int .u32 a1, .int .u32 a2] w fun e w' => e = .returned (.int .u32 r) ∧ Drawn0 w w' := by
  have H : (if a0 = 1 then (some ((a1 + a2) % 4294967296)) else (if a0 = 2 then (some ((a1 - a2) % 4294967296)) else (if a0 = 3 then (if 0 ≤ (Go.bits .and .u32 a2 31) then (some (shl .u32 a1 (Go.bits .and .u32 a2 31))) else (none)) else (if a0 = 4 then ((num_bit.f (decide ((wrap32 (a1)) < (wrap32 (a2))))).bind fun t222 => (some t222)) else (if a0 = 5 then ((num_bit.f (decide (a1 < a2))).bind fun t223 => (some t223)) else (if a0 = 6 then (some (Go.bits .xor .u32 a1 a2)) else (if a0 = 7 then (if 0 ≤ (Go.bits .and .u32 a2 31) then (some (shr .u32 a1 (Go.bits .and .u32 a2 31))) else (none)) else (if a0 = 8 then (if 0 ≤ (Go.bits .and .u32 a2 31) then (some ((shr .i32 (wrap32 (a1)) (Go.bits .and .u32 a2 31)) % 4294967296)) else (none)) else (if a0 = 9 then (some (Go.bits .or .u32 a1 a2)) else (some (Go.bits .and .u32 a1 a2))))))))))) = some r := h
  clear h
  by_cases c4 : a0 = 1
  · rw [if_pos c4] at H
    have c4b0 : (a0 == 1) = true := beq_iff_eq.mpr c4
    have c4b1 : (a0 != 1) = false := bne_eq_false_iff_eq.mpr c4
    clear c4
    obtain rfl := Option.some.inj H
    go_enter Try.func121, Try.ntmps121
    go_wp2
    go_ret
    exact ⟨by first | rfl | (simp; done) | (simp [*]; done), by repeat (first | exact Drawn0.refl _ | apply Drawn0.step)⟩
  · rw [if_neg c4] at H
    have c4b0 : (a0 == 1) = false := beq_eq_false_iff_ne.mpr c4
    have c4b1 : (a0 != 1) = true := bne_iff_ne.mpr c4
    by_cases c5 : a0 = 2
    · rw [if_pos c5] at H
      have c5b0 : (a0 == 2) = true := beq_iff_eq.mpr c5
      have c5b1 : (a0 != 2) = false := bne_eq_false_iff_eq.mpr c5
      clear c5
      obtain rfl := Option.some.inj H
      go_enter Try.func121, Try.ntmps121
      go_wp2
      go_ret
      exact ⟨by first | rfl | (simp; done) | (simp [*]; done), by repeat (first | exact Drawn0.refl _ | apply Drawn0.step)⟩
    · rw [if_neg c5] at H
      have c5b0 : (a0 == 2) = false := beq_eq_false_iff_ne.mpr c5
      have c5b1 : (a0 != 2) = true := bne_iff_ne.mpr c5
      by_cases c6 : a0 = 3
      · rw [if_pos c6] at H
        have c6b0 : (a0 == 3) = true := beq_iff_eq.mpr c6
        have c6b1 : (a0 != 3) = false := bne_eq_false_iff_eq.mpr c6
        clear c6
        by_cases c7 : 0 ≤ (Go.bits .and .u32 a2 31)
        · rw [if_pos c7] at H
          have c7b0 := eq_true c7
          have c7b1 : decide (0 ≤ (Go.bits .and .u32 a2 31)) = true := decide_eq_true c7
          clear c7
          obtain ⟨ji8, hji8⟩ : ∃ j_ : Int, (shl .u32 a1 (Go.bits .and .u32 a2 31)) = j_ := ⟨_, rfl⟩
          replace H : (some ji8) = some r := by first | (rw [hji8] at H; exact H) | (simp only [hji8] at H ⊢; exact H)
          have hji8_ : (IntKind.u32.wrap (a1 * 2 ^ min (Go.bits .and .u32 a2 31).toNat 32)) = ji8 := hji8
          have hji8z : (Go.bits .and .u32 a2 31) ≤ 32 → (IntKind.u32.wrap (a1 * 2 ^ (Go.bits .and .u32 a2 31).toNat)) = ji8 := shl_small hji8
          obtain rfl := Option.some.inj H
          go_enter Try.func121, Try.ntmps121
          go_wp2
          go_ret
          exact ⟨by first | rfl | (simp; done) | (simp only [← hji8] <;> (first | rfl | simp)) | (simp [*]; done), by repeat (first | exact Drawn0.refl _ | apply Drawn0.step)⟩
        · rw [if_neg c7] at H
          exact absurd H (by simp)
      · rw [if_neg c6] at H
        have c6b0 : (a0 == 3) = false := beq_eq_false_iff_ne.mpr c6
        have c6b1 : (a0 != 3) = true := bne_iff_ne.mpr c6
        by_cases c9 : a0 = 4
        · rw [if_pos c9] at H
          have c9b0 : (a0 == 4) = true := beq_iff_eq.mpr c9
          have c9b1 : (a0 != 4) = false := bne_eq_false_iff_eq.mpr c9
          clear c9
          replace H := Option.bind_eq_some_iff.mp H
          obtain ⟨t222, A100, H⟩ := H
          replace H : (some t222) = some r := H
          have A10 := Aside0.mk A100
          clear A100
          obtain rfl := Option.some.inj H
          go_enter Try.func121, Try.ntmps121
          go_wp2_with (first | ((with_reducible refine gate_callee (f := 143) rfl ?_); refine goesL_ (some 31) rfl rfl Try.func143 (by kernel_rfl) rfl #[.bool (decide ((wrap32 (a1)) < (wrap32 (a2))))] rfl (by (try simp only [List.map_toArray, List.map_cons, List.map_nil]); first | done | rfl | (simp only [List.length_drop, List.length_take]; rfl)) ?_; (with_reducible refine (num_bit.calls (decide ((wrap32 (a1)) < (wrap32 (a2)))) t222 _ A10.out).mono ?_); rintro e w' ⟨rfl, ⟨nd, rfl⟩⟩; refine ⟨_, rfl, ?_⟩))
          go_ret
          exact ⟨by first | rfl | (simp; done) | (simp [*]; done), by repeat (first | exact Drawn0.refl _ | apply Drawn0.step)⟩
        · rw [if_neg c9] at H
          have c9b0 : (a0 == 4) = false := beq_eq_false_iff_ne.mpr c9
          have c9b1 : (a0 != 4) = true := bne_iff_ne.mpr c9
          by_cases c11 : a0 = 5
          · rw [if_pos c11] at H
            have c11b0 : (a0 == 5) = true := beq_iff_eq.mpr c11
            have c11b1 : (a0 != 5) = false := bne_eq_false_iff_eq.mpr c11
            clear c11
            replace H := Option.bind_eq_some_iff.mp H
            obtain ⟨t223, A120, H⟩ := H
            replace H : (some t223) = some r := H
            have A12 := Aside0.mk A120
            clear A120
            obtain rfl := Option.some.inj H
            go_enter Try.func121, Try.ntmps121
            go_wp2_with (first | ((with_reducible refine gate_callee (f := 143) rfl ?_); refine goesL_ (some 37) rfl rfl Try.func143 (by kernel_rfl) rfl #[.bool (decide (a1 < a2))] rfl (by (try simp only [List.map_toArray, List.map_cons, List.map_nil]); first | done | rfl | (simp only [List.length_drop, List.length_take]; rfl)) ?_; (with_reducible refine (num_bit.calls (decide (a1 < a2)) t223 _ A12.out).mono ?_); rintro e w' ⟨rfl, ⟨nd, rfl⟩⟩; refine ⟨_, rfl, ?_⟩))
            go_ret
            exact ⟨by first | rfl | (simp; done) | (simp [*]; done), by repeat (first | exact Drawn0.refl _ | apply Drawn0.step)⟩
          · rw [if_neg c11] at H
            have c11b0 : (a0 == 5) = false := beq_eq_false_iff_ne.mpr c11
            have c11b1 : (a0 != 5) = true := bne_iff_ne.mpr c11
            by_cases c13 : a0 = 6
            · rw [if_pos c13] at H
              have c13b0 : (a0 == 6) = true := beq_iff_eq.mpr c13
              have c13b1 : (a0 != 6) = false := bne_eq_false_iff_eq.mpr c13
              clear c13
              obtain rfl := Option.some.inj H
              go_enter Try.func121, Try.ntmps121
              go_wp2
              go_ret
              exact ⟨by first | rfl | (simp; done) | (simp [*]; done), by repeat (first | exact Drawn0.refl _ | apply Drawn0.step)⟩
            · rw [if_neg c13] at H
              have c13b0 : (a0 == 6) = false := beq_eq_false_iff_ne.mpr c13
              have c13b1 : (a0 != 6) = true := bne_iff_ne.mpr c13
              by_cases c14 : a0 = 7
              · rw [if_pos c14] at H
                have c14b0 : (a0 == 7) = true := beq_iff_eq.mpr c14
                have c14b1 : (a0 != 7) = false := bne_eq_false_iff_eq.mpr c14
                clear c14
                by_cases c15 : 0 ≤ (Go.bits .and .u32 a2 31)
                · rw [if_pos c15] at H
                  have c15b0 := eq_true c15
                  have c15b1 : decide (0 ≤ (Go.bits .and .u32 a2 31)) = true := decide_eq_true c15
                  clear c15
                  obtain ⟨ji16, hji16⟩ : ∃ j_ : Int, (shr .u32 a1 (Go.bits .and .u32 a2 31)) = j_ := ⟨_, rfl⟩
                  replace H : (some ji16) = some r := by first | (rw [hji16] at H; exact H) | (simp only [hji16] at H ⊢; exact H)
                  have hji16_ : (a1 / 2 ^ min (Go.bits .and .u32 a2 31).toNat 32) = ji16 := hji16
                  have hji16z : (Go.bits .and .u32 a2 31) ≤ 32 → (a1 / 2 ^ (Go.bits .and .u32 a2 31).toNat) = ji16 := shr_small hji16
                  obtain rfl := Option.some.inj H
                  go_enter Try.func121, Try.ntmps121
                  go_wp2
                  go_ret
                  exact ⟨by first | rfl | (simp; done) | (simp only [← hji16] <;> (first | rfl | simp)) | (simp [*]; done), by repeat (first | exact Drawn0.refl _ | apply Drawn0.step)⟩
                · rw [if_neg c15] at H
                  exact absurd H (by simp)
              · rw [if_neg c14] at H
                have c14b0 : (a0 == 7) = false := beq_eq_false_iff_ne.mpr c14
                have c14b1 : (a0 != 7) = true := bne_iff_ne.mpr c14
                by_cases c17 : a0 = 8
                · rw [if_pos c17] at H
                  have c17b0 : (a0 == 8) = true := beq_iff_eq.mpr c17
                  have c17b1 : (a0 != 8) = false := bne_eq_false_iff_eq.mpr c17
                  clear c17
                  by_cases c18 : 0 ≤ (Go.bits .and .u32 a2 31)
                  · rw [if_pos c18] at H
                    have c18b0 := eq_true c18
                    have c18b1 : decide (0 ≤ (Go.bits .and .u32 a2 31)) = true := decide_eq_true c18
                    clear c18
                    obtain ⟨ji19, hji19⟩ : ∃ j_ : Int, (shr .i32 (wrap32 (a1)) (Go.bits .and .u32 a2 31)) = j_ := ⟨_, rfl⟩
                    replace H : (some ((ji19) % 4294967296)) = some r := by first | (rw [hji19] at H; exact H) | (simp only [hji19] at H ⊢; exact H)
                    have hji19_ : ((wrap32 (a1)) / 2 ^ min (Go.bits .and .u32 a2 31).toNat 32) = ji19 := hji19
                    have hji19z : (Go.bits .and .u32 a2 31) ≤ 32 → ((wrap32 (a1)) / 2 ^ (Go.bits .and .u32 a2 31).toNat) = ji19 := shr_small hji19
                    obtain rfl := Option.some.inj H
                    go_enter Try.func121, Try.ntmps121
                    go_wp2
                    go_ret
                    exact ⟨by first | rfl | (simp; done) | (simp only [← hji19] <;> (first | rfl | simp)) | (simp [*]; done), by repeat (first | exact Drawn0.refl _ | apply Drawn0.step)⟩
                  · rw [if_neg c18] at H
                    exact absurd H (by simp)
                · rw [if_neg c17] at H
                  have c17b0 : (a0 == 8) = false := beq_eq_false_iff_ne.mpr c17
                  have c17b1 : (a0 != 8) = true := bne_iff_ne.mpr c17
                  by_cases c20 : a0 = 9
                  · rw [if_pos c20] at H
                    have c20b0 : (a0 == 9) = true := beq_iff_eq.mpr c20
                    have c20b1 : (a0 != 9) = false := bne_eq_false_iff_eq.mpr c20
                    clear c20
                    obtain rfl := Option.some.inj H
                    go_enter Try.func121, Try.ntmps121
                    go_wp2
                    go_ret
                    exact ⟨by first | rfl | (simp; done) | (simp [*]; done), by repeat (first | exact Drawn0.refl _ | apply Drawn0.step)⟩
                  · rw [if_neg c20] at H
                    have c20b0 : (a0 == 9) = false := beq_eq_false_iff_ne.mpr c20
                    have c20b1 : (a0 != 9) = true := bne_iff_ne.mpr c20
                    obtain rfl := Option.some.inj H
                    go_enter Try.func121, Try.ntmps121
                    go_wp2
                    go_ret
                    exact ⟨by first | rfl | (simp; done) | (simp [*]; done), by repeat (first | exact Drawn0.refl _ | apply Drawn0.step)⟩

end Go.Proofs.Ytioopcilcgebeaa.PCpu
/-! #### PCpux37 -/
namespace Go.Proofs.Ytioopcilcgebeaa.PCpu
open Go.RowKit Go.Proofs.YtioopcilcgebeaaW.PrintWords Go.Proofs.YtioopcilcgebeaaW.PrintLast Go.Proofs.YtioopcilcgebeaaW.PrintMore
attribute [local go_sem] max2_int min2_int max_two min_two max_three min_three max_four min_four   -- for this text's walks alone

/-! ### num_divide: function 122 -/
def num_divide.f (a0 : Int) (a1 : Int) : Option (Int × Int) := if a1 = 0 then (some ((-1), a0)) else (if a0 = (-2147483648) then (if a1 = (-1) then (some (a0, 0)) else (some (wrap32 (Int.tdiv a0 a1), Int.tmod a0 a1))) else (some (wrap32 (Int.tdiv a0 a1), Int.tmod a0 a1)))
set_option maxHeartbeats 8000000 in
set_option maxRecDepth 100000 in
theorem num_divide.calls (a0 : Int) (a1 : Int) (r1 : Int) (r2 : Int) (w : World) (h : num_divide.f a0 a1 = some (r1, r2)) :
    Calls Try.prog 122 #[.int .i32 a0, .int .i32 a1] w fun e w' => e = .returned (.tuple #[.int .i32 r1, .int .i32 r2]) ∧ Drawn0 w w' := by
  have H : (if a1 = 0 then (some ((-1), a0)) else (if a0 = (-2147483648) then (if a1 = (-1) then (some (a0, 0)) else (some (wrap32 (Int.tdiv a0 a1), Int.tmod a0 a1))) else (some (wrap32 (Int.tdiv a0 a1), Int.tmod a0 a1)))) = some (r1, r2) := h
  clear h
  by_cases c3 : a1 = 0
  · rw [if_pos c3] at H
    have c3b0 : (a1 == 0) = true := beq_iff_eq.mpr c3
    have c3b1 : (a1 != 0) = false := bne_eq_false_iff_eq.mpr c3
    clear c3
    simp only [Option.some.injEq, Prod.mk.injEq] at H
    obtain ⟨rfl, rfl⟩ := H
    go_enter Try.func122, Try.ntmps122
    go_wp2
    repeat (go_quiet (fail); try go_wp2)
    go_ret2
    exact ⟨by first | rfl | (simp; done) | (simp [*]; done), by repeat (first | exact Drawn0.refl _ | apply Drawn0.step)⟩
  · rw [if_neg c3] at H
    have c3b0 : (a1 == 0) = false := beq_eq_false_iff_ne.mpr c3
    have c3b1 : (a1 != 0) = true := bne_iff_ne.mpr c3
    by_cases c4 : a0 = (-2147483648)
    · rw [if_pos c4] at H
      have c4b0 : (a0 == (-2147483648)) = true := beq_iff_eq.mpr c4
      have c4b1 : (a0 != (-2147483648)) = false := bne_eq_false_iff_eq.mpr c4
      clear c4
      by_cases c5 : a1 = (-1)
      · rw [if_pos c5] at H
        have c5b0 : (a1 == (-1)) = true := beq_iff_eq.mpr c5
        have c5b1 : (a1 != (-1)) = false := bne_eq_false_iff_eq.mpr c5
        clear c5
        simp only [Option.some.injEq, Prod.mk.injEq] at H
        obtain ⟨rfl, rfl⟩ := H
        go_enter Try.func122, Try.ntmps122
        go_wp2
        repeat (go_quiet (fail); try go_wp2)
        go_ret2
        exact ⟨by first | rfl | (simp; done) | (simp [*]; done), by repeat (first | exact Drawn0.refl _ | apply Drawn0.step)⟩
      · rw [if_neg c5] at H
        have c5b0 : (a1 == (-1)) = false := beq_eq_false_iff_ne.mpr c5
        have c5b1 : (a1 != (-1)) = true := bne_iff_ne.mpr c5
        simp only [Option.some.injEq, Prod.mk.injEq] at H
        obtain ⟨rfl, rfl⟩ := H
        go_enter Try.func122, Try.ntmps122
        go_wp2
        repeat (go_quiet (fail); try go_wp2)
        go_ret2
        exact ⟨by first | rfl | (simp; done) | (simp [*]; done), by repeat (first | exact Drawn0.refl _ | apply Drawn0.step)⟩
    · rw [if_neg c4] at H
      have c4b0 : (a0 == (-2147483648)) = false := beq_eq_false_iff_ne.mpr c4
      have c4b1 : (a0 != (-2147483648)) = true := bne_iff_ne.mpr c4
      simp only [Option.some.injEq, Prod.mk.injEq] at H
      obtain ⟨rfl, rfl⟩ := H
      go_enter Try.func122, Try.ntmps122
      go_wp2
      repeat (go_quiet (fail); try go_wp2)
      go_ret2
      exact ⟨by first | rfl | (simp; done) | (simp [*]; done), by repeat (first | exact Drawn0.refl _ | apply Drawn0.step)⟩

end Go.Proofs.Ytioopcilcgebeaa.PCpu
/-! #### PCpux38 -/
namespace Go.Proofs.Ytioopcilcgebeaa.PCpu
open Go.RowKit Go.Proofs.YtioopcilcgebeaaW.PrintWords Go.Proofs.YtioopcilcgebeaaW.PrintLast Go.Proofs.YtioopcilcgebeaaW.PrintMore
attribute [local go_sem] max2_int min2_int max_two min_two max_three min_three max_four min_four   -- for this text's walks alone

/-! ### num_divideu: function 123 -/
def num_divideu.f (a0 : Int) (a1 : Int) : Option (Int × Int) := if a1 = 0 then (some (4294967295, a0)) else (some ((Int.tdiv a0 a1) % 4294967296, Int.tmod a0 a1))
set_option maxHeartbeats 8000000 in
set_option maxRecDepth 100000 in
theorem num_divideu.calls (a0 : Int) (a1 : Int) (r1 : Int) (r2 : Int) (w : World) (h : num_divideu.f a0 a1 = some (r1, r2)) :
    Calls Try.prog 123 #[.int .u32 a0, .int .u32 a1] w fun e w' => e = .returned (.tuple #[.int .u32 r1, .int .u32 r2]) ∧ Drawn0 w w' := by
  have H : (if a1 = 0 then (some (4294967295, a0)) else (some ((Int.tdiv a0 a1) % 4294967296, Int.tmod a0 a1))) = some (r1, r2) := h
  clear h
  by_cases c3 : a1 = 0
  · rw [if_pos c3] at H
    have c3b0 : (a1 == 0) = true := beq_iff_eq.mpr c3
    have c3b1 : (a1 != 0) = false := bne_eq_false_iff_eq.mpr c3
    clear c3
    simp only [Option.some.injEq, Prod.mk.injEq] at H
    obtain ⟨rfl, rfl⟩ := H
    go_enter Try.func123, Try.ntmps123
    go_wp2
    repeat (go_quiet (fail); try go_wp2)
    go_ret2
    exact ⟨by first | rfl | (simp; done) | (simp [*]; done), by repeat (first | exact Drawn0.refl _ | apply Drawn0.step)⟩
  · rw [if_neg c3] at H
    have c3b0 : (a1 == 0) = false := beq_eq_false_iff_ne.mpr c3
    have c3b1 : (a1 != 0) = true := bne_iff_ne.mpr c3
    simp only [Option.some.injEq, Prod.mk.injEq] at H
    obtain ⟨rfl, rfl⟩ := H
    go_enter Try.func123, Try.ntmps123
    go_wp2
    repeat (go_quiet (fail); try go_wp2)
    go_ret2
    exact ⟨by first | rfl | (simp; done) | (simp [*]; done), by repeat (first | exact Drawn0.refl _ | apply Drawn0.step)⟩

end Go.Proofs.Ytioopcilcgebeaa.PCpu
/-! #### PCpux39 -/
namespace Go.Proofs.Ytioopcilcgebeaa.PCpu
open Go.RowKit Go.Proofs.YtioopcilcgebeaaW.PrintWords Go.Proofs.YtioopcilcgebeaaW.PrintLast Go.Proofs.YtioopcilcgebeaaW.PrintMore
attribute [local go_sem] max2_int min2_int max_two min_two max_three min_three max_four min_four   -- for this text's walks alone

/-! ### bits_Mul32: function 144 -/
def bits_Mul32.f (a0 : Int) (a1 : Int) : Option (Int × Int) := some (((IntKind.u64.wrap ((IntKind.u64.wrap (a0)) * (IntKind.u64.wrap (a1)))) / 4294967296) % 4294967296, (IntKind.u64.wrap ((IntKind.u64.wrap (a0)) * (IntKind.u64.wrap (a1)))) % 4294967296)
set_option maxHeartbeats 8000000 in
set_option maxRecDepth 100000 in
theorem bits_Mul32.calls (a0 : Int) (a1 : Int) (r1 : Int) (r2 : Int) (w : World) (h : bits_Mul32.f a0 a1 = some (r1, r2)) :
    Calls Try.prog 144 #[.int .u32 a0, .int .u32 a1] w fun e w' => e = .returned (.tuple #[.int .u32 r1, .int .u32 r2]) ∧ Drawn0 w w' := by
  have H : (some (((IntKind.u64.wrap ((IntKind.u64.wrap (a0)) * (IntKind.u64.wrap (a1)))) / 4294967296) % 4294967296, (IntKind.u64.wrap ((IntKind.u64.wrap (a0)) * (IntKind.u64.wrap (a1)))) % 4294967296)) = some (r1, r2) := h
  clear h
  simp only [Option.some.injEq, Prod.mk.injEq] at H
  obtain ⟨rfl, rfl⟩ := H
  go_enter Try.func144, Try.ntmps144
  go_wp2
  go_ret2
  exact ⟨by first | rfl | (simp; done) | (simp [*]; done), by repeat (first | exact Drawn0.refl _ | apply Drawn0.step)⟩

end Go.Proofs.Ytioopcilcgebeaa.PCpu
/-! #### PCpux40 -/
namespace Go.Proofs.Ytioopcilcgebeaa.PCpu
open Go.RowKit Go.Proofs.YtioopcilcgebeaaW.PrintWords Go.Proofs.YtioopcilcgebeaaW.PrintLast Go.Proofs.YtioopcilcgebeaaW.PrintMore
attribute [local go_sem] max2_int min2_int max_two min_two max_three min_three max_four min_four   -- for this text's walks alone

/-! ### num_high: function 124 -/
def num_high.j0 : Nat → Int → Int → Int → Int → Bool → Option (Int)
  | 0, _, _, _, _, _ => none
  | k + 1, x0, x1, x2, x7, x21 => if x21 = true then (if x0 = 12 then (if (wrap32 (x2)) < 0 then (some ((((x7 - x2) % 4294967296) - x1) % 4294967296)) else (some ((x7 - x2) % 4294967296))) else (some ((x7 - x2) % 4294967296))) else (if x0 = 12 then (if (wrap32 (x2)) < 0 then (some ((x7 - x1) % 4294967296)) else (some x7)) else (some x7))
def num_high.f (k : Nat) (a0 : Int) (a1 : Int) (a2 : Int) : Option (Int) := (bits_Mul32.f a1 a2).bind fun bt224 => (if a0 = 14 then (num_high.j0 k a0 a1 a2 bt224.1 false) else (num_high.j0 k a0 a1 a2 bt224.1 (decide ((wrap32 (a1)) < 0))))
theorem num_high.mono_l : ∀ k, (∀ y0 y1 y2 y3 y4, LeO (num_high.j0 k y0 y1 y2 y3 y4) (num_high.j0 (k + 1) y0 y1 y2 y3 y4))
  | 0 => fun _ _ _ _ _ r h => by simp [num_high.j0] at h
  | k + 1 => by
    have ih0 := num_high.mono_l k
    · intro y0 y1 y2 y3 y4
      unfold num_high.j0
      repeat' first
      | (with_reducible exact ih0 _ _ _ _ _)
      | (with_reducible exact LeO.refl _)
      | (with_reducible exact LeO.none _)
      | (with_reducible refine LeO.ite ?_ ?_)
      | (with_reducible refine LeO.bind ?_ (fun _ => ?_))
      | exact ih0 _ _ _ _ _
      | exact LeO.none _
      | refine LeO.ite ?_ ?_
      | refine LeO.bind ?_ (fun _ => ?_)
theorem num_high.mono : ∀ a0 a1 a2 k, LeO (num_high.f k a0 a1 a2) (num_high.f (k + 1) a0 a1 a2) := by
  intro a0 a1 a2 k
  have ih0 := num_high.mono_l k
  unfold num_high.f
  repeat' first
      | (with_reducible exact ih0 _ _ _ _ _)
      | (with_reducible exact LeO.refl _)
      | (with_reducible exact LeO.none _)
      | (with_reducible refine LeO.ite ?_ ?_)
      | (with_reducible refine LeO.bind ?_ (fun _ => ?_))
      | exact ih0 _ _ _ _ _
      | exact LeO.none _
      | refine LeO.ite ?_ ?_
      | refine LeO.bind ?_ (fun _ => ?_)
set_option maxHeartbeats 8000000 in
set_option maxRecDepth 100000 in
theorem num_high.calls (k : Nat) (a0 : Int) (a1 : Int) (a2 : Int) (r : Int) (w : World) (h : num_high.f k a0 a1 a2 = some r) :
    Calls Try.prog 124 #[.int .i64 a0, .int .u32 a1, .int .u32 a2] w fun e w' => e = .returned (.int .u32 r) ∧ Drawn0 w w' := by
  have H : ((bits_Mul32.f a1 a2).bind fun bt224 => (if a0 = 14 then (num_high.j0 k a0 a1 a2 bt224.1 false) else (num_high.j0 k a0 a1 a2 bt224.1 (decide ((wrap32 (a1)) < 0))))) = some r := h
  clear h
  replace H := Option.bind_eq_some_iff.mp H
  obtain ⟨⟨t224, t225⟩, A40, H⟩ := H
  replace H : (if a0 = 14 then (num_high.j0 k a0 a1 a2 t224 false) else (num_high.j0 k a0 a1 a2 t224 (decide ((wrap32 (a1)) < 0)))) = some r := H
  have A4 := Aside0.mk A40
  clear A40
  have HC5 := Aside0.mk H
  clear H
  go_enter Try.func124, Try.ntmps124
  go_upto_region 2 with (first | ((with_reducible refine gate_callee (f := 144) rfl ?_); refine goesL_ (some 12) rfl rfl Try.func144 (by kernel_rfl) rfl #[.int .u32 a1, .int .u32 a2] rfl (by (try simp only [List.map_toArray, List.map_cons, List.map_nil]); first | done | rfl | (simp only [List.length_drop, List.length_take]; rfl)) ?_; (with_reducible refine (bits_Mul32.calls a1 a2 t224 t225 _ A4.out).mono ?_); rintro e w' ⟨rfl, ⟨nd, rfl⟩⟩; refine ⟨_, rfl, ?_⟩))
  (try simp only [Act.put, List.setIfInBounds_toArray, List.set_cons_zero, List.set_cons_succ])
  go_cut [21] (fun v21 wc => ∃ (kq : Nat) (x21_4 : Bool), v21 = .bool x21_4 ∧ Aside0 (num_high.j0 kq a0 a1 a2 t224 x21_4 = some r) ∧ Aside0 (kq ≤ k) ∧ Drawn0 w wc)
  case first =>
    have H := HC5.out
    clear HC5
    by_cases c6 : a0 = 14
    · rw [if_pos c6] at H
      have c6b0 : (a0 == 14) = true := beq_iff_eq.mpr c6
      have c6b1 : (a0 != 14) = false := bne_eq_false_iff_eq.mpr c6
      clear c6
      (first | rw [c6b0] | (simp only [i64_w, i32_w]; rw [c6b0]) | skip)
      have H' := Aside0.mk H
      clear H
      go_wp2
      go_meet
      case rel => exact ⟨_, (false), (by first | rfl | (simp; done) | (simp [*]; done)), H', ⟨by first | omega | exact Nat.le_refl _⟩, by repeat (first | exact Drawn0.refl _ | apply Drawn0.step)⟩
    · rw [if_neg c6] at H
      have c6b0 : (a0 == 14) = false := beq_eq_false_iff_ne.mpr c6
      have c6b1 : (a0 != 14) = true := bne_iff_ne.mpr c6
      (first | rw [c6b0] | (simp only [i64_w, i32_w]; rw [c6b0]) | skip)
      have H' := Aside0.mk H
      clear H
      go_wp2
      go_meet
      case rel => exact ⟨_, (decide ((wrap32 (a1)) < 0)), (by first | rfl | (simp; done) | (simp [*]; done)), H', ⟨by first | omega | exact Nat.le_refl _⟩, by repeat (first | exact Drawn0.refl _ | apply Drawn0.step)⟩
  case rest =>
    clear HC5
    try clear c1
    try clear p2
    try clear p3
    try clear c6
    try clear c6b0
    try clear c6b1
    obtain ⟨kq, x21_4, rfl, HA, HJ4, ⟨mc4, rfl⟩⟩ := hcut
    cases kq with
    | zero => exact absurd HA.out (by simp [num_high.j0])
    | succ kj4 =>
      have H := HA.out
      clear HA
      simp only [num_high.j0] at H
      by_cases c7 : x21_4 = true
      · subst c7
        have H1 : (if a0 = 12 then (if (wrap32 (a2)) < 0 then (some ((((t224 - a2) % 4294967296) - a1) % 4294967296)) else (some ((t224 - a2) % 4294967296))) else (some ((t224 - a2) % 4294967296))) = some r := by rw [if_pos rfl] at H; exact H
        clear H
        have H := H1
        clear H1
        by_cases c8 : a0 = 12
        · rw [if_pos c8] at H
          have c8b0 : (a0 == 12) = true := beq_iff_eq.mpr c8
          have c8b1 : (a0 != 12) = false := bne_eq_false_iff_eq.mpr c8
          clear c8
          by_cases c9 : (wrap32 (a2)) < 0
          · rw [if_pos c9] at H
            have c9b0 : decide ((wrap32 (a2)) < 0) = true := decide_eq_true c9
            clear c9
            obtain rfl := Option.some.inj H
            go_wp2
            go_ret
            exact ⟨by first | rfl | (simp; done) | (simp [*]; done), by repeat (first | exact Drawn0.refl _ | apply Drawn0.step)⟩
          · rw [if_neg c9] at H
            have c9b0 : decide ((wrap32 (a2)) < 0) = false := decide_eq_false c9
            clear c9
            obtain rfl := Option.some.inj H
            go_wp2
            go_ret
            exact ⟨by first | rfl | (simp; done) | (simp [*]; done), by repeat (first | exact Drawn0.refl _ | apply Drawn0.step)⟩
        · rw [if_neg c8] at H
          have c8b0 : (a0 == 12) = false := beq_eq_false_iff_ne.mpr c8
          have c8b1 : (a0 != 12) = true := bne_iff_ne.mpr c8
          obtain rfl := Option.some.inj H
          go_wp2
          go_ret
          exact ⟨by first | rfl | (simp; done) | (simp [*]; done), by repeat (first | exact Drawn0.refl _ | apply Drawn0.step)⟩
      · replace c7 := Bool.eq_false_iff.mpr c7
        subst c7
        have H1 : (if a0 = 12 then (if (wrap32 (a2)) < 0 then (some ((t224 - a1) % 4294967296)) else (some t224)) else (some t224)) = some r := by rw [if_neg (show ¬ (false = true) by decide)] at H; exact H
        clear H
        have H := H1
        clear H1
        by_cases c10 : a0 = 12
        · rw [if_pos c10] at H
          have c10b0 : (a0 == 12) = true := beq_iff_eq.mpr c10
          have c10b1 : (a0 != 12) = false := bne_eq_false_iff_eq.mpr c10
          clear c10
          by_cases c11 : (wrap32 (a2)) < 0
          · rw [if_pos c11] at H
            have c11b0 : decide ((wrap32 (a2)) < 0) = true := decide_eq_true c11
            clear c11
            obtain rfl := Option.some.inj H
            go_wp2
            go_ret
            exact ⟨by first | rfl | (simp; done) | (simp [*]; done), by repeat (first | exact Drawn0.refl _ | apply Drawn0.step)⟩
          · rw [if_neg c11] at H
            have c11b0 : decide ((wrap32 (a2)) < 0) = false := decide_eq_false c11
            clear c11
            obtain rfl := Option.some.inj H
            go_wp2
            go_ret
            exact ⟨by first | rfl | (simp; done) | (simp [*]; done), by repeat (first | exact Drawn0.refl _ | apply Drawn0.step)⟩
        · rw [if_neg c10] at H
          have c10b0 : (a0 == 12) = false := beq_eq_false_iff_ne.mpr c10
          have c10b1 : (a0 != 12) = true := bne_iff_ne.mpr c10
          obtain rfl := Option.some.inj H
          go_wp2
          go_ret
          exact ⟨by first | rfl | (simp; done) | (simp [*]; done), by repeat (first | exact Drawn0.refl _ | apply Drawn0.step)⟩

end Go.Proofs.Ytioopcilcgebeaa.PCpu
/-! #### PCpux41 -/
namespace Go.Proofs.Ytioopcilcgebeaa.PCpu
open Go.RowKit Go.Proofs.YtioopcilcgebeaaW.PrintWords Go.Proofs.YtioopcilcgebeaaW.PrintLast Go.Proofs.YtioopcilcgebeaaW.PrintMore
attribute [local go_sem] max2_int min2_int max_two min_two max_three min_three max_four min_four   -- for this text's walks alone

/-! ### num_Alu: function 87 -/
def num_Alu.j0 : Nat → Int → Int → Int → Bool → Option (Int × Bool)
  | 0, _, _, _, _ => none
  | k + 1, x0, x1, x2, x12 => if x12 = true then (some (0, false)) else (if x0 < 11 then ((num_plain.f x0 x1 x2).bind fun t226 => (some (t226, true))) else ((num_divide.f (wrap32 (x1)) (wrap32 (x2))).bind fun bt227 => ((num_divideu.f x1 x2).bind fun bt229 => (if x0 = 11 then (some ((x1 * x2) % 4294967296, true)) else (if x0 = 15 then (some ((bt227.1) % 4294967296, true)) else (if x0 = 16 then (some (bt229.1, true)) else (if x0 = 17 then (some ((bt227.2) % 4294967296, true)) else (if x0 = 18 then (some (bt229.2, true)) else ((num_high.f k x0 x1 x2).bind fun t231 => (some (t231, true)))))))))))
def num_Alu.f (k : Nat) (a0 : Int) (a1 : Int) (a2 : Int) : Option (Int × Bool) := if a0 < 1 then (num_Alu.j0 k a0 a1 a2 true) else (num_Alu.j0 k a0 a1 a2 (decide (a0 > 18)))
theorem num_Alu.mono_l : ∀ k, (∀ y0 y1 y2 y3, LeO (num_Alu.j0 k y0 y1 y2 y3) (num_Alu.j0 (k + 1) y0 y1 y2 y3))
  | 0 => fun _ _ _ _ r h => by simp [num_Alu.j0] at h
  | k + 1 => by
    have ih0 := num_Alu.mono_l k
    · intro y0 y1 y2 y3
      unfold num_Alu.j0
      repeat' first
      | (with_reducible exact ih0 _ _ _ _)
      | (with_reducible exact num_high.mono _ _ _ _)
      | (with_reducible exact LeO.refl _)
      | (with_reducible exact LeO.none _)
      | (with_reducible refine LeO.ite ?_ ?_)
      | (with_reducible refine LeO.bind ?_ (fun _ => ?_))
      | exact ih0 _ _ _ _
      | exact num_high.mono _ _ _ _
      | exact LeO.none _
      | refine LeO.ite ?_ ?_
      | refine LeO.bind ?_ (fun _ => ?_)
theorem num_Alu.mono : ∀ a0 a1 a2 k, LeO (num_Alu.f k a0 a1 a2) (num_Alu.f (k + 1) a0 a1 a2) := by
  intro a0 a1 a2 k
  have ih0 := num_Alu.mono_l k
  unfold num_Alu.f
  repeat' first
      | (with_reducible exact ih0 _ _ _ _)
      | (with_reducible exact num_high.mono _ _ _ _)
      | (with_reducible exact LeO.refl _)
      | (with_reducible exact LeO.none _)
      | (with_reducible refine LeO.ite ?_ ?_)
      | (with_reducible refine LeO.bind ?_ (fun _ => ?_))
      | exact ih0 _ _ _ _
      | exact num_high.mono _ _ _ _
      | exact LeO.none _
      | refine LeO.ite ?_ ?_
      | refine LeO.bind ?_ (fun _ => ?_)
set_option maxHeartbeats 8000000 in
set_option maxRecDepth 100000 in
theorem num_Alu.calls (k : Nat) (a0 : Int) (a1 : Int) (a2 : Int) (r1 : Int) (r2 : Bool) (w : World) (h : num_Alu.f k a0 a1 a2 = some (r1, r2)) :
    Calls Try.prog 87 #[.int .i64 a0, .int .u32 a1, .int .u32 a2] w fun e w' => e = .returned (.tuple #[.int .u32 r1, .bool r2]) ∧ Drawn0 w w' := by
  have H : (if a0 < 1 then (num_Alu.j0 k a0 a1 a2 true) else (num_Alu.j0 k a0 a1 a2 (decide (a0 > 18)))) = some (r1, r2) := h
  clear h
  have HC4 := Aside0.mk H
  clear H
  go_enter Try.func87, Try.ntmps87
  go_upto_region 1 with (fail)
  go_cut [12] (fun v12 wc => ∃ (kq : Nat) (x12_3 : Bool), v12 = .bool x12_3 ∧ Aside0 (num_Alu.j0 kq a0 a1 a2 x12_3 = some (r1, r2)) ∧ Aside0 (kq ≤ k) ∧ Drawn0 w wc)
  case first =>
    have H := HC4.out
    clear HC4
    by_cases c5 : a0 < 1
    · rw [if_pos c5] at H
      have c5b0 : decide (a0 < 1) = true := decide_eq_true c5
      clear c5
      (first | rw [c5b0] | (simp only [i64_w, i32_w]; rw [c5b0]) | skip)
      have H' := Aside0.mk H
      clear H
      go_wp2
      go_meet
      case rel => exact ⟨_, (true), (by first | rfl | (simp; done) | (simp [*]; done)), H', ⟨by first | omega | exact Nat.le_refl _⟩, by repeat (first | exact Drawn0.refl _ | apply Drawn0.step)⟩
    · rw [if_neg c5] at H
      have c5b0 : decide (a0 < 1) = false := decide_eq_false c5
      clear c5
      (first | rw [c5b0] | (simp only [i64_w, i32_w]; rw [c5b0]) | skip)
      have H' := Aside0.mk H
      clear H
      go_wp2
      go_meet
      case rel => exact ⟨_, (decide (a0 > 18)), (by first | rfl | (simp; done) | (simp [*]; done)), H', ⟨by first | omega | exact Nat.le_refl _⟩, by repeat (first | exact Drawn0.refl _ | apply Drawn0.step)⟩
  case rest =>
    clear HC4
    try clear p2
    try clear c5
    try clear c5b0
    obtain ⟨kq, x12_3, rfl, HA, HJ3, ⟨mc3, rfl⟩⟩ := hcut
    cases kq with
    | zero => exact absurd HA.out (by simp [num_Alu.j0])
    | succ kj3 =>
      have H := HA.out
      clear HA
      simp only [num_Alu.j0] at H
      by_cases c6 : x12_3 = true
      · subst c6
        have H1 : (some (0, false)) = some (r1, r2) := by rw [if_pos rfl] at H; exact H
        clear H
        have H := H1
        clear H1
        simp only [Option.some.injEq, Prod.mk.injEq] at H
        obtain ⟨rfl, rfl⟩ := H
        go_wp2
        go_ret2
        exact ⟨by first | rfl | (simp; done) | (simp [*]; done), by repeat (first | exact Drawn0.refl _ | apply Drawn0.step)⟩
      · replace c6 := Bool.eq_false_iff.mpr c6
        subst c6
        have H1 : (if a0 < 11 then ((num_plain.f a0 a1 a2).bind fun t226 => (some (t226, true))) else ((num_divide.f (wrap32 (a1)) (wrap32 (a2))).bind fun bt227 => ((num_divideu.f a1 a2).bind fun bt229 => (if a0 = 11 then (some ((a1 * a2) % 4294967296, true)) else (if a0 = 15 then (some ((bt227.1) % 4294967296, true)) else (if a0 = 16 then (some (bt229.1, true)) else (if a0 = 17 then (some ((bt227.2) % 4294967296, true)) else (if a0 = 18 then (some (bt229.2, true)) else ((num_high.f kj3 a0 a1 a2).bind fun t231 => (some (t231, true))))))))))) = some (r1, r2) := by rw [if_neg (show ¬ (false = true) by decide)] at H; exact H
        clear H
        have H := H1
        clear H1
        by_cases c7 : a0 < 11
        · rw [if_pos c7] at H
          have c7b0 : decide (a0 < 11) = true := decide_eq_true c7
          clear c7
          replace H := Option.bind_eq_some_iff.mp H
          obtain ⟨t226, A80, H⟩ := H
          replace H : (some (t226, true)) = some (r1, r2) := H
          have A8 := Aside0.mk A80
          clear A80
          simp only [Option.some.injEq, Prod.mk.injEq] at H
          obtain ⟨rfl, rfl⟩ := H
          go_wp2_with (first | ((with_reducible refine gate_callee (f := 121) rfl ?_); refine goesL_ (some 25) rfl rfl Try.func121 (by kernel_rfl) rfl #[.int .i64 a0, .int .u32 a1, .int .u32 a2] rfl (by (try simp only [List.map_toArray, List.map_cons, List.map_nil]); first | done | rfl | (simp only [List.length_drop, List.length_take]; rfl)) ?_; (with_reducible refine (num_plain.calls a0 a1 a2 t226 _ A8.out).mono ?_); rintro e w' ⟨rfl, ⟨nd, rfl⟩⟩; refine ⟨_, rfl, ?_⟩))
          go_ret2
          exact ⟨by first | rfl | (simp; done) | (simp [*]; done), by repeat (first | exact Drawn0.refl _ | apply Drawn0.step)⟩
        · rw [if_neg c7] at H
          have c7b0 : decide (a0 < 11) = false := decide_eq_false c7
          clear c7
          replace H := Option.bind_eq_some_iff.mp H
          obtain ⟨⟨t227, t228⟩, A90, H⟩ := H
          replace H : ((num_divideu.f a1 a2).bind fun bt229 => (if a0 = 11 then (some ((a1 * a2) % 4294967296, true)) else (if a0 = 15 then (some ((t227) % 4294967296, true)) else (if a0 = 16 then (some (bt229.1, true)) else (if a0 = 17 then (some ((t228) % 4294967296, true)) else (if a0 = 18 then (some (bt229.2, true)) else ((num_high.f kj3 a0 a1 a2).bind fun t231 => (some (t231, true))))))))) = some (r1, r2) := H
          have A9 := Aside0.mk A90
          clear A90
          replace H := Option.bind_eq_some_iff.mp H
          obtain ⟨⟨t229, t230⟩, A100, H⟩ := H
          replace H : (if a0 = 11 then (some ((a1 * a2) % 4294967296, true)) else (if a0 = 15 then (some ((t227) % 4294967296, true)) else (if a0 = 16 then (some (t229, true)) else (if a0 = 17 then (some ((t228) % 4294967296, true)) else (if a0 = 18 then (some (t230, true)) else ((num_high.f kj3 a0 a1 a2).bind fun t231 => (some (t231, true)))))))) = some (r1, r2) := H
          have A10 := Aside0.mk A100
          clear A100
          by_cases c11 : a0 = 11
          · rw [if_pos c11] at H
            have c11b0 : (a0 == 11) = true := beq_iff_eq.mpr c11
            have c11b1 : (a0 != 11) = false := bne_eq_false_iff_eq.mpr c11
            clear c11
            simp only [Option.some.injEq, Prod.mk.injEq] at H
            obtain ⟨rfl, rfl⟩ := H
            go_wp2_with (first | ((with_reducible refine gate_callee (f := 122) rfl ?_); refine goesL_ (some 31) rfl rfl Try.func122 (by kernel_rfl) rfl #[.int .i32 (wrap32 (a1)), .int .i32 (wrap32 (a2))] rfl (by (try simp only [List.map_toArray, List.map_cons, List.map_nil]); first | done | rfl | (simp only [List.length_drop, List.length_take]; rfl)) ?_; (with_reducible refine (num_divide.calls (wrap32 (a1)) (wrap32 (a2)) t227 t228 _ A9.out).mono ?_); rintro e w' ⟨rfl, ⟨nd, rfl⟩⟩; refine ⟨_, rfl, ?_⟩) | ((with_reducible refine gate_callee (f := 123) rfl ?_); refine goesL_ (some 37) rfl rfl Try.func123 (by kernel_rfl) rfl #[.int .u32 a1, .int .u32 a2] rfl (by (try simp only [List.map_toArray, List.map_cons, List.map_nil]); first | done | rfl | (simp only [List.length_drop, List.length_take]; rfl)) ?_; (with_reducible refine (num_divideu.calls a1 a2 t229 t230 _ A10.out).mono ?_); rintro e w' ⟨rfl, ⟨nd, rfl⟩⟩; refine ⟨_, rfl, ?_⟩))
            go_ret2
            exact ⟨by first | rfl | (simp; done) | (simp [*]; done), by repeat (first | exact Drawn0.refl _ | apply Drawn0.step)⟩
          · rw [if_neg c11] at H
            have c11b0 : (a0 == 11) = false := beq_eq_false_iff_ne.mpr c11
            have c11b1 : (a0 != 11) = true := bne_iff_ne.mpr c11
            by_cases c12 : a0 = 15
            · rw [if_pos c12] at H
              have c12b0 : (a0 == 15) = true := beq_iff_eq.mpr c12
              have c12b1 : (a0 != 15) = false := bne_eq_false_iff_eq.mpr c12
              clear c12
              simp only [Option.some.injEq, Prod.mk.injEq] at H
              obtain ⟨rfl, rfl⟩ := H
              go_wp2_with (first | ((with_reducible refine gate_callee (f := 122) rfl ?_); refine goesL_ (some 31) rfl rfl Try.func122 (by kernel_rfl) rfl #[.int .i32 (wrap32 (a1)), .int .i32 (wrap32 (a2))] rfl (by (try simp only [List.map_toArray, List.map_cons, List.map_nil]); first | done | rfl | (simp only [List.length_drop, List.length_take]; rfl)) ?_; (with_reducible refine (num_divide.calls (wrap32 (a1)) (wrap32 (a2)) t227 t228 _ A9.out).mono ?_); rintro e w' ⟨rfl, ⟨nd, rfl⟩⟩; refine ⟨_, rfl, ?_⟩) | ((with_reducible refine gate_callee (f := 123) rfl ?_); refine goesL_ (some 37) rfl rfl Try.func123 (by kernel_rfl) rfl #[.int .u32 a1, .int .u32 a2] rfl (by (try simp only [List.map_toArray, List.map_cons, List.map_nil]); first | done | rfl | (simp only [List.length_drop, List.length_take]; rfl)) ?_; (with_reducible refine (num_divideu.calls a1 a2 t229 t230 _ A10.out).mono ?_); rintro e w' ⟨rfl, ⟨nd, rfl⟩⟩; refine ⟨_, rfl, ?_⟩))
              go_ret2
              exact ⟨by first | rfl | (simp; done) | (simp [*]; done), by repeat (first | exact Drawn0.refl _ | apply Drawn0.step)⟩
            · rw [if_neg c12] at H
              have c12b0 : (a0 == 15) = false := beq_eq_false_iff_ne.mpr c12
              have c12b1 : (a0 != 15) = true := bne_iff_ne.mpr c12
              by_cases c13 : a0 = 16
              · rw [if_pos c13] at H
                have c13b0 : (a0 == 16) = true := beq_iff_eq.mpr c13
                have c13b1 : (a0 != 16) = false := bne_eq_false_iff_eq.mpr c13
                clear c13
                simp only [Option.some.injEq, Prod.mk.injEq] at H
                obtain ⟨rfl, rfl⟩ := H
                go_wp2_with (first | ((with_reducible refine gate_callee (f := 122) rfl ?_); refine goesL_ (some 31) rfl rfl Try.func122 (by kernel_rfl) rfl #[.int .i32 (wrap32 (a1)), .int .i32 (wrap32 (a2))] rfl (by (try simp only [List.map_toArray, List.map_cons, List.map_nil]); first | done | rfl | (simp only [List.length_drop, List.length_take]; rfl)) ?_; (with_reducible refine (num_divide.calls (wrap32 (a1)) (wrap32 (a2)) t227 t228 _ A9.out).mono ?_); rintro e w' ⟨rfl, ⟨nd, rfl⟩⟩; refine ⟨_, rfl, ?_⟩) | ((with_reducible refine gate_callee (f := 123) rfl ?_); refine goesL_ (some 37) rfl rfl Try.func123 (by kernel_rfl) rfl #[.int .u32 a1, .int .u32 a2] rfl (by (try simp only [List.map_toArray, List.map_cons, List.map_nil]); first | done | rfl | (simp only [List.length_drop, List.length_take]; rfl)) ?_; (with_reducible refine (num_divideu.calls a1 a2 t229 t230 _ A10.out).mono ?_); rintro e w' ⟨rfl, ⟨nd, rfl⟩⟩; refine ⟨_, rfl, ?_⟩))
                go_ret2
                exact ⟨by first | rfl | (simp; done) | (simp [*]; done), by repeat (first | exact Drawn0.refl _ | apply Drawn0.step)⟩
              · rw [if_neg c13] at H
                have c13b0 : (a0 == 16) = false := beq_eq_false_iff_ne.mpr c13
                have c13b1 : (a0 != 16) = true := bne_iff_ne.mpr c13
                by_cases c14 : a0 = 17
                · rw [if_pos c14] at H
                  have c14b0 : (a0 == 17) = true := beq_iff_eq.mpr c14
                  have c14b1 : (a0 != 17) = false := bne_eq_false_iff_eq.mpr c14
                  clear c14
                  simp only [Option.some.injEq, Prod.mk.injEq] at H
                  obtain ⟨rfl, rfl⟩ := H
                  go_wp2_with (first | ((with_reducible refine gate_callee (f := 122) rfl ?_); refine goesL_ (some 31) rfl rfl Try.func122 (by kernel_rfl) rfl #[.int .i32 (wrap32 (a1)), .int .i32 (wrap32 (a2))] rfl (by (try simp only [List.map_toArray, List.map_cons, List.map_nil]); first | done | rfl | (simp only [List.length_drop, List.length_take]; rfl)) ?_; (with_reducible refine (num_divide.calls (wrap32 (a1)) (wrap32 (a2)) t227 t228 _ A9.out).mono ?_); rintro e w' ⟨rfl, ⟨nd, rfl⟩⟩; refine ⟨_, rfl, ?_⟩) | ((with_reducible refine gate_callee (f := 123) rfl ?_); refine goesL_ (some 37) rfl rfl Try.func123 (by kernel_rfl) rfl #[.int .u32 a1, .int .u32 a2] rfl (by (try simp only [List.map_toArray, List.map_cons, List.map_nil]); first | done | rfl | (simp only [List.length_drop, List.length_take]; rfl)) ?_; (with_reducible refine (num_divideu.calls a1 a2 t229 t230 _ A10.out).mono ?_); rintro e w' ⟨rfl, ⟨nd, rfl⟩⟩; refine ⟨_, rfl, ?_⟩))
                  go_ret2
                  exact ⟨by first | rfl | (simp; done) | (simp [*]; done), by repeat (first | exact Drawn0.refl _ | apply Drawn0.step)⟩
                · rw [if_neg c14] at H
                  have c14b0 : (a0 == 17) = false := beq_eq_false_iff_ne.mpr c14
                  have c14b1 : (a0 != 17) = true := bne_iff_ne.mpr c14
                  by_cases c15 : a0 = 18
                  · rw [if_pos c15] at H
                    have c15b0 : (a0 == 18) = true := beq_iff_eq.mpr c15
                    have c15b1 : (a0 != 18) = false := bne_eq_false_iff_eq.mpr c15
                    clear c15
                    simp only [Option.some.injEq, Prod.mk.injEq] at H
                    obtain ⟨rfl, rfl⟩ := H
                    go_wp2_with (first | ((with_reducible refine gate_callee (f := 122) rfl ?_); refine goesL_ (some 31) rfl rfl Try.func122 (by kernel_rfl) rfl #[.int .i32 (wrap32 (a1)), .int .i32 (wrap32 (a2))] rfl (by (try simp only [List.map_toArray, List.map_cons, List.map_nil]); first | done | rfl | (simp only [List.length_drop, List.length_take]; rfl)) ?_; (with_reducible refine (num_divide.calls (wrap32 (a1)) (wrap32 (a2)) t227 t228 _ A9.out).mono ?_); rintro e w' ⟨rfl, ⟨nd, rfl⟩⟩; refine ⟨_, rfl, ?_⟩) | ((with_reducible refine gate_callee (f := 123) rfl ?_); refine goesL_ (some 37) rfl rfl Try.func123 (by kernel_rfl) rfl #[.int .u32 a1, .int .u32 a2] rfl (by (try simp only [List.map_toArray, List.map_cons, List.map_nil]); first | done | rfl | (simp only [List.length_drop, List.length_take]; rfl)) ?_; (with_reducible refine (num_divideu.calls a1 a2 t229 t230 _ A10.out).mono ?_); rintro e w' ⟨rfl, ⟨nd, rfl⟩⟩; refine ⟨_, rfl, ?_⟩))
                    go_ret2
                    exact ⟨by first | rfl | (simp; done) | (simp [*]; done), by repeat (first | exact Drawn0.refl _ | apply Drawn0.step)⟩
                  · rw [if_neg c15] at H
                    have c15b0 : (a0 == 18) = false := beq_eq_false_iff_ne.mpr c15
                    have c15b1 : (a0 != 18) = true := bne_iff_ne.mpr c15
                    replace H := Option.bind_eq_some_iff.mp H
                    obtain ⟨t231, A160, H⟩ := H
                    replace H : (some (t231, true)) = some (r1, r2) := H
                    have A16 := Aside0.mk A160
                    clear A160
                    simp only [Option.some.injEq, Prod.mk.injEq] at H
                    obtain ⟨rfl, rfl⟩ := H
                    go_wp2_with (first | ((with_reducible refine gate_callee (f := 122) rfl ?_); refine goesL_ (some 31) rfl rfl Try.func122 (by kernel_rfl) rfl #[.int .i32 (wrap32 (a1)), .int .i32 (wrap32 (a2))] rfl (by (try simp only [List.map_toArray, List.map_cons, List.map_nil]); first | done | rfl | (simp only [List.length_drop, List.length_take]; rfl)) ?_; (with_reducible refine (num_divide.calls (wrap32 (a1)) (wrap32 (a2)) t227 t228 _ A9.out).mono ?_); rintro e w' ⟨rfl, ⟨nd, rfl⟩⟩; refine ⟨_, rfl, ?_⟩) | ((with_reducible refine gate_callee (f := 123) rfl ?_); refine goesL_ (some 37) rfl rfl Try.func123 (by kernel_rfl) rfl #[.int .u32 a1, .int .u32 a2] rfl (by (try simp only [List.map_toArray, List.map_cons, List.map_nil]); first | done | rfl | (simp only [List.length_drop, List.length_take]; rfl)) ?_; (with_reducible refine (num_divideu.calls a1 a2 t229 t230 _ A10.out).mono ?_); rintro e w' ⟨rfl, ⟨nd, rfl⟩⟩; refine ⟨_, rfl, ?_⟩) | ((with_reducible refine gate_callee (f := 124) rfl ?_); refine goesL_ (some 63) rfl rfl Try.func124 (by kernel_rfl) rfl #[.int .i64 a0, .int .u32 a1, .int .u32 a2] rfl (by (try simp only [List.map_toArray, List.map_cons, List.map_nil]); first | done | rfl | (simp only [List.length_drop, List.length_take]; rfl)) ?_; (with_reducible refine (num_high.calls kj3 a0 a1 a2 t231 _ A16.out).mono ?_); rintro e w' ⟨rfl, ⟨nd, rfl⟩⟩; refine ⟨_, rfl, ?_⟩))
                    go_ret2
                    exact ⟨by first | rfl | (simp; done) | (simp [*]; done), by repeat (first | exact Drawn0.refl _ | apply Drawn0.step)⟩

end Go.Proofs.Ytioopcilcgebeaa.PCpu
/-! #### PCpux78 -/
namespace Go.Proofs.Ytioopcilcgebeaa.PCpu
open Go.RowKit Go.Proofs.YtioopcilcgebeaaW.PrintWords Go.Proofs.YtioopcilcgebeaaW.PrintLast Go.Proofs.YtioopcilcgebeaaW.PrintMore
attribute [local go_sem] max2_int min2_int max_two min_two max_three min_three max_four min_four   -- for this text's walks alone

/-! ### pintleref01_Signed: function 131 -/
def pintleref01_Signed.f (a0 : Int) : Option (Int) := if a0 ≥ 2147483648 then (some (wrap64 ((wrap64 (a0)) - 4294967296))) else (some (wrap64 (a0)))
set_option maxHeartbeats 8000000 in
set_option maxRecDepth 100000 in
theorem pintleref01_Signed.calls (a0 : Int) (r : Int) (w : World) (h : pintleref01_Signed.f a0 = some r) :
    Calls Try.prog 131 #[.int .u32 a0] w fun e w' => e = .returned (.int .i64 r) ∧ Drawn0 w w' := by
  have H : (if a0 ≥ 2147483648 then (some (wrap64 ((wrap64 (a0)) - 4294967296))) else (some (wrap64 (a0)))) = some r := h
  clear h
  by_cases c2 : a0 ≥ 2147483648
  · rw [if_pos c2] at H
    have c2b0 : decide (2147483648 ≤ a0) = true := decide_eq_true c2
    clear c2
    obtain rfl := Option.some.inj H
    go_enter Try.func131, Try.ntmps131
    go_wp2
    go_ret
    exact ⟨by first | rfl | (simp; done) | (simp [*]; done), by repeat (first | exact Drawn0.refl _ | apply Drawn0.step)⟩
  · rw [if_neg c2] at H
    have c2b0 : decide (2147483648 ≤ a0) = false := decide_eq_false c2
    clear c2
    obtain rfl := Option.some.inj H
    go_enter Try.func131, Try.ntmps131
    go_wp2
    go_ret
    exact ⟨by first | rfl | (simp; done) | (simp [*]; done), by repeat (first | exact Drawn0.refl _ | apply Drawn0.step)⟩

end Go.Proofs.Ytioopcilcgebeaa.PCpu
/-! #### PCpux79 -/
namespace Go.Proofs.Ytioopcilcgebeaa.PCpu
open Go.RowKit Go.Proofs.YtioopcilcgebeaaW.PrintWords Go.Proofs.YtioopcilcgebeaaW.PrintLast Go.Proofs.YtioopcilcgebeaaW.PrintMore
attribute [local go_sem] max2_int min2_int max_two min_two max_three min_three max_four min_four   -- for this text's walks alone

/-! ### pintleref01_Word: function 145 -/
def pintleref01_Word.f (a0 : Int) : Option (Int) := some ((Int.tmod (IntKind.u64.wrap (a0)) 4294967296) % 4294967296)
set_option maxHeartbeats 8000000 in
set_option maxRecDepth 100000 in
theorem pintleref01_Word.calls (a0 : Int) (r : Int) (w : World) (h : pintleref01_Word.f a0 = some r) :
    Calls Try.prog 145 #[.int .i64 a0] w fun e w' => e = .returned (.int .u32 r) ∧ Drawn0 w w' := by
  have H : (some ((Int.tmod (IntKind.u64.wrap (a0)) 4294967296) % 4294967296)) = some r := h
  clear h
  obtain rfl := Option.some.inj H
  go_enter Try.func145, Try.ntmps145
  go_wp2
  go_ret
  exact ⟨by first | rfl | (simp; done) | (simp [*]; done), by repeat (first | exact Drawn0.refl _ | apply Drawn0.step)⟩

end Go.Proofs.Ytioopcilcgebeaa.PCpu
/-! #### PCpux80 -/
namespace Go.Proofs.Ytioopcilcgebeaa.PCpu
open Go.RowKit Go.Proofs.YtioopcilcgebeaaW.PrintWords Go.Proofs.YtioopcilcgebeaaW.PrintLast Go.Proofs.YtioopcilcgebeaaW.PrintMore
attribute [local go_sem] max2_int min2_int max_two min_two max_three min_three max_four min_four   -- for this text's walks alone

/-! ### pintleref01_one: function 146 -/
def pintleref01_one.f (a0 : Bool) : Option (Int) := if a0 = true then (some 1) else (some 0)
set_option maxHeartbeats 8000000 in
set_option maxRecDepth 100000 in
theorem pintleref01_one.calls (a0 : Bool) (r : Int) (w : World) (h : pintleref01_one.f a0 = some r) :
    Calls Try.prog 146 #[.bool a0] w fun e w' => e = .returned (.int .i64 r) ∧ Drawn0 w w' := by
  have H : (if a0 = true then (some 1) else (some 0)) = some r := h
  clear h
  by_cases c2 : a0 = true
  · subst c2
    have H1 : (some 1) = some r := by rw [if_pos rfl] at H; exact H
    clear H
    have H := H1
    clear H1
    obtain rfl := Option.some.inj H
    go_enter Try.func146, Try.ntmps146
    go_wp2
    go_ret
    exact ⟨by first | rfl | (simp; done) | (simp [*]; done), by repeat (first | exact Drawn0.refl _ | apply Drawn0.step)⟩
  · replace c2 := Bool.eq_false_iff.mpr c2
    subst c2
    have H1 : (some 0) = some r := by rw [if_neg (show ¬ (false = true) by decide)] at H; exact H
    clear H
    have H := H1
    clear H1
    obtain rfl := Option.some.inj H
    go_enter Try.func146, Try.ntmps146
    go_wp2
    go_ret
    exact ⟨by first | rfl | (simp; done) | (simp [*]; done), by repeat (first | exact Drawn0.refl _ | apply Drawn0.step)⟩

end Go.Proofs.Ytioopcilcgebeaa.PCpu
/-! #### PCpux81 -/
namespace Go.Proofs.Ytioopcilcgebeaa.PCpu
open Go.RowKit Go.Proofs.YtioopcilcgebeaaW.PrintWords Go.Proofs.YtioopcilcgebeaaW.PrintLast Go.Proofs.YtioopcilcgebeaaW.PrintMore
attribute [local go_sem] max2_int min2_int max_two min_two max_three min_three max_four min_four   -- for this text's walks alone

/-! ### pintleref01_bits: function 147 -/
def pintleref01_bits.l0 : Nat → Int → Int → Int → Int → Int → Int → Int → Option (Int)
  | 0, _, _, _, _, _, _, _ => none
  | k + 1, x0, x1, x2, x3, x4, x11, x12 => if x12 ≥ 0 then (if 0 ≤ (IntKind.u64.wrap (x12)) then (if (((Int.tmod (shr .u32 x0 (IntKind.u64.wrap (x12))) 2) + (Int.tmod (shr .u32 x1 (IntKind.u64.wrap (x12))) 2)) % 4294967296) = 1 then (if (((Int.tmod (shr .u32 x0 (IntKind.u64.wrap (x12))) 2) + (Int.tmod (shr .u32 x1 (IntKind.u64.wrap (x12))) 2)) % 4294967296) = 2 then (pintleref01_bits.l0 k x0 x1 x2 x3 x4 ((((x11 * 2) % 4294967296) + x4) % 4294967296) (wrap64 (x12 - 1))) else (pintleref01_bits.l0 k x0 x1 x2 x3 x4 ((((x11 * 2) % 4294967296) + x3) % 4294967296) (wrap64 (x12 - 1)))) else (if (((Int.tmod (shr .u32 x0 (IntKind.u64.wrap (x12))) 2) + (Int.tmod (shr .u32 x1 (IntKind.u64.wrap (x12))) 2)) % 4294967296) = 2 then (pintleref01_bits.l0 k x0 x1 x2 x3 x4 ((((x11 * 2) % 4294967296) + x4) % 4294967296) (wrap64 (x12 - 1))) else (pintleref01_bits.l0 k x0 x1 x2 x3 x4 ((((x11 * 2) % 4294967296) + x2) % 4294967296) (wrap64 (x12 - 1))))) else (none)) else (some x11)
def pintleref01_bits.f (k : Nat) (a0 : Int) (a1 : Int) (a2 : Int) (a3 : Int) (a4 : Int) : Option (Int) := pintleref01_bits.l0 k a0 a1 a2 a3 a4 0 31
theorem pintleref01_bits.mono_l : ∀ k, (∀ y0 y1 y2 y3 y4 y5 y6, LeO (pintleref01_bits.l0 k y0 y1 y2 y3 y4 y5 y6) (pintleref01_bits.l0 (k + 1) y0 y1 y2 y3 y4 y5 y6))
  | 0 => fun _ _ _ _ _ _ _ r h => by simp [pintleref01_bits.l0] at h
  | k + 1 => by
    have ih0 := pintleref01_bits.mono_l k
    · intro y0 y1 y2 y3 y4 y5 y6
      unfold pintleref01_bits.l0
      repeat' first
      | (with_reducible exact ih0 _ _ _ _ _ _ _)
      | (with_reducible exact LeO.refl _)
      | (with_reducible exact LeO.none _)
      | (with_reducible refine LeO.ite ?_ ?_)
      | (with_reducible refine LeO.bind ?_ (fun _ => ?_))
      | exact ih0 _ _ _ _ _ _ _
      | exact LeO.none _
      | refine LeO.ite ?_ ?_
      | refine LeO.bind ?_ (fun _ => ?_)
theorem pintleref01_bits.mono : ∀ a0 a1 a2 a3 a4 k, LeO (pintleref01_bits.f k a0 a1 a2 a3 a4) (pintleref01_bits.f (k + 1) a0 a1 a2 a3 a4) := by
  intro a0 a1 a2 a3 a4 k
  have ih0 := pintleref01_bits.mono_l k
  unfold pintleref01_bits.f
  repeat' first
      | (with_reducible exact ih0 _ _ _ _ _ _ _)
      | (with_reducible exact LeO.refl _)
      | (with_reducible exact LeO.none _)
      | (with_reducible refine LeO.ite ?_ ?_)
      | (with_reducible refine LeO.bind ?_ (fun _ => ?_))
      | exact ih0 _ _ _ _ _ _ _
      | exact LeO.none _
      | refine LeO.ite ?_ ?_
      | refine LeO.bind ?_ (fun _ => ?_)
set_option maxHeartbeats 8000000 in
set_option maxRecDepth 100000 in
theorem pintleref01_bits.calls (k : Nat) (a0 : Int) (a1 : Int) (a2 : Int) (a3 : Int) (a4 : Int) (r : Int) (w : World) (h : pintleref01_bits.f k a0 a1 a2 a3 a4 = some r) :
    Calls Try.prog 147 #[.int .u32 a0, .int .u32 a1, .int .u32 a2, .int .u32 a3, .int .u32 a4] w fun e w' => e = .returned (.int .u32 r) ∧ Drawn0 w w' := by
  have H : (pintleref01_bits.l0 k a0 a1 a2 a3 a4 0 31) = some r := h
  clear h
  have H' := Aside0.mk H
  clear H
  go_enter Try.func147, Try.ntmps147
  go_wp2
  go_loopg [11, 12] k (fun kq v11 v12 w' => ∃ (x11_1 : Int) (x12_1 : Int), v11 = .int .u32 x11_1 ∧ v12 = .int .i64 x12_1 ∧ Aside0 (pintleref01_bits.l0 kq a0 a1 a2 a3 a4 x11_1 x12_1 = some r) ∧ Aside0 (kq ≤ k) ∧ Drawn0 w w')
  case atStart => exact ⟨(0), (31), (by first | rfl | (simp; done) | (simp [*]; done)), (by first | rfl | (simp; done) | (simp [*]; done)), H', ⟨Nat.le_refl _⟩, by repeat (first | exact Drawn0.refl _ | apply Drawn0.step)⟩
  case round =>
    clear H'
    try clear c1
    try clear p2
    obtain ⟨x11_1, x12_1, rfl, rfl, HA, HK1, ⟨m1, rfl⟩⟩ := hrel
    cases gk with
    | zero => exact absurd HA.out (by simp [pintleref01_bits.l0])
    | succ k1 =>
      have H := HA.out
      clear HA
      simp only [pintleref01_bits.l0] at H
      by_cases c6 : x12_1 ≥ 0
      · rw [if_pos c6] at H
        have c6b0 : decide (0 ≤ x12_1) = true := decide_eq_true c6
        clear c6
        obtain ⟨ji7, hji7⟩ : ∃ j_ : Int, (IntKind.u64.wrap (x12_1)) = j_ := ⟨_, rfl⟩
        replace H : (if 0 ≤ (ji7) then (if (((Int.tmod (shr .u32 a0 (ji7)) 2) + (Int.tmod (shr .u32 a1 (ji7)) 2)) % 4294967296) = 1 then (if (((Int.tmod (shr .u32 a0 (ji7)) 2) + (Int.tmod (shr .u32 a1 (ji7)) 2)) % 4294967296) = 2 then (pintleref01_bits.l0 k1 a0 a1 a2 a3 a4 ((((x11_1 * 2) % 4294967296) + a4) % 4294967296) (wrap64 (x12_1 - 1))) else (pintleref01_bits.l0 k1 a0 a1 a2 a3 a4 ((((x11_1 * 2) % 4294967296) + a3) % 4294967296) (wrap64 (x12_1 - 1)))) else (if (((Int.tmod (shr .u32 a0 (ji7)) 2) + (Int.tmod (shr .u32 a1 (ji7)) 2)) % 4294967296) = 2 then (pintleref01_bits.l0 k1 a0 a1 a2 a3 a4 ((((x11_1 * 2) % 4294967296) + a4) % 4294967296) (wrap64 (x12_1 - 1))) else (pintleref01_bits.l0 k1 a0 a1 a2 a3 a4 ((((x11_1 * 2) % 4294967296) + a2) % 4294967296) (wrap64 (x12_1 - 1))))) else (none)) = some r := by first | (rw [hji7] at H; exact H) | (simp only [hji7] at H ⊢; exact H)
        by_cases c8 : 0 ≤ (ji7)
        · rw [if_pos c8] at H
          have c8b0 := eq_true c8
          have c8b1 : decide (0 ≤ (ji7)) = true := decide_eq_true c8
          clear c8
          obtain ⟨ji9, hji9⟩ : ∃ j_ : Int, (shr .u32 a0 (ji7)) = j_ := ⟨_, rfl⟩
          replace H : (if (((Int.tmod (ji9) 2) + (Int.tmod (shr .u32 a1 (ji7)) 2)) % 4294967296) = 1 then (if (((Int.tmod (ji9) 2) + (Int.tmod (shr .u32 a1 (ji7)) 2)) % 4294967296) = 2 then (pintleref01_bits.l0 k1 a0 a1 a2 a3 a4 ((((x11_1 * 2) % 4294967296) + a4) % 4294967296) (wrap64 (x12_1 - 1))) else (pintleref01_bits.l0 k1 a0 a1 a2 a3 a4 ((((x11_1 * 2) % 4294967296) + a3) % 4294967296) (wrap64 (x12_1 - 1)))) else (if (((Int.tmod (ji9) 2) + (Int.tmod (shr .u32 a1 (ji7)) 2)) % 4294967296) = 2 then (pintleref01_bits.l0 k1 a0 a1 a2 a3 a4 ((((x11_1 * 2) % 4294967296) + a4) % 4294967296) (wrap64 (x12_1 - 1))) else (pintleref01_bits.l0 k1 a0 a1 a2 a3 a4 ((((x11_1 * 2) % 4294967296) + a2) % 4294967296) (wrap64 (x12_1 - 1))))) = some r := by first | (rw [hji9] at H; exact H) | (simp only [hji9] at H ⊢; exact H)
          have hji9_ : (a0 / 2 ^ min (ji7).toNat 32) = ji9 := hji9
          have hji9z : (ji7) ≤ 32 → (a0 / 2 ^ (ji7).toNat) = ji9 := shr_small hji9
          have c10b0 := eq_true (of_decide_eq_true (by first | (with_reducible assumption) | assumption) : 0 ≤ (ji7))
          obtain ⟨ji11, hji11⟩ : ∃ j_ : Int, (shr .u32 a1 (ji7)) = j_ := ⟨_, rfl⟩
          replace H : (if (((Int.tmod (ji9) 2) + (Int.tmod (ji11) 2)) % 4294967296) = 1 then (if (((Int.tmod (ji9) 2) + (Int.tmod (ji11) 2)) % 4294967296) = 2 then (pintleref01_bits.l0 k1 a0 a1 a2 a3 a4 ((((x11_1 * 2) % 4294967296) + a4) % 4294967296) (wrap64 (x12_1 - 1))) else (pintleref01_bits.l0 k1 a0 a1 a2 a3 a4 ((((x11_1 * 2) % 4294967296) + a3) % 4294967296) (wrap64 (x12_1 - 1)))) else (if (((Int.tmod (ji9) 2) + (Int.tmod (ji11) 2)) % 4294967296) = 2 then (pintleref01_bits.l0 k1 a0 a1 a2 a3 a4 ((((x11_1 * 2) % 4294967296) + a4) % 4294967296) (wrap64 (x12_1 - 1))) else (pintleref01_bits.l0 k1 a0 a1 a2 a3 a4 ((((x11_1 * 2) % 4294967296) + a2) % 4294967296) (wrap64 (x12_1 - 1))))) = some r := by first | (rw [hji11] at H; exact H) | (simp only [hji11] at H ⊢; exact H)
          have hji11_ : (a1 / 2 ^ min (ji7).toNat 32) = ji11 := hji11
          have hji11z : (ji7) ≤ 32 → (a1 / 2 ^ (ji7).toNat) = ji11 := shr_small hji11
          by_cases c12 : (((Int.tmod (ji9) 2) + (Int.tmod (ji11) 2)) % 4294967296) = 1
          · rw [if_pos c12] at H
            have c12b0 : ((((Int.tmod (ji9) 2) + (Int.tmod (ji11) 2)) % 4294967296) == 1) = true := beq_iff_eq.mpr c12
            have c12b1 : ((((Int.tmod (ji9) 2) + (Int.tmod (ji11) 2)) % 4294967296) != 1) = false := bne_eq_false_iff_eq.mpr c12
            clear c12
            by_cases c13 : (((Int.tmod (ji9) 2) + (Int.tmod (ji11) 2)) % 4294967296) = 2
            · rw [if_pos c13] at H
              have zz := c12b0
              rw [c13] at zz
              exact absurd zz (by decide)
            · rw [if_neg c13] at H
              have c13b0 : ((((Int.tmod (ji9) 2) + (Int.tmod (ji11) 2)) % 4294967296) == 2) = false := beq_eq_false_iff_ne.mpr c13
              have c13b1 : ((((Int.tmod (ji9) 2) + (Int.tmod (ji11) 2)) % 4294967296) != 2) = true := bne_iff_ne.mpr c13
              have H' := Aside0.mk H
              clear H
              go_wp2
              go_roundg k1
              case measure => have := HK1.out; omega
              case rel => exact ⟨((((x11_1 * 2) % 4294967296) + a3) % 4294967296), (wrap64 (x12_1 - 1)), (by first | rfl | (simp; done) | (simp [*]; done)), (by first | rfl | (simp; done) | (simp [*]; done)), H', ⟨by have := HK1.out; omega⟩, by repeat (first | exact Drawn0.refl _ | apply Drawn0.step)⟩
          · rw [if_neg c12] at H
            have c12b0 : ((((Int.tmod (ji9) 2) + (Int.tmod (ji11) 2)) % 4294967296) == 1) = false := beq_eq_false_iff_ne.mpr c12
            have c12b1 : ((((Int.tmod (ji9) 2) + (Int.tmod (ji11) 2)) % 4294967296) != 1) = true := bne_iff_ne.mpr c12
            by_cases c14 : (((Int.tmod (ji9) 2) + (Int.tmod (ji11) 2)) % 4294967296) = 2
            · rw [if_pos c14] at H
              have c14b0 : ((((Int.tmod (ji9) 2) + (Int.tmod (ji11) 2)) % 4294967296) == 2) = true := beq_iff_eq.mpr c14
              have c14b1 : ((((Int.tmod (ji9) 2) + (Int.tmod (ji11) 2)) % 4294967296) != 2) = false := bne_eq_false_iff_eq.mpr c14
              clear c14
              have H' := Aside0.mk H
              clear H
              go_wp2
              go_roundg k1
              case measure => have := HK1.out; omega
              case rel => exact ⟨((((x11_1 * 2) % 4294967296) + a4) % 4294967296), (wrap64 (x12_1 - 1)), (by first | rfl | (simp; done) | (simp [*]; done)), (by first | rfl | (simp; done) | (simp [*]; done)), H', ⟨by have := HK1.out; omega⟩, by repeat (first | exact Drawn0.refl _ | apply Drawn0.step)⟩
            · rw [if_neg c14] at H
              have c14b0 : ((((Int.tmod (ji9) 2) + (Int.tmod (ji11) 2)) % 4294967296) == 2) = false := beq_eq_false_iff_ne.mpr c14
              have c14b1 : ((((Int.tmod (ji9) 2) + (Int.tmod (ji11) 2)) % 4294967296) != 2) = true := bne_iff_ne.mpr c14
              have H' := Aside0.mk H
              clear H
              go_wp2
              go_roundg k1
              case measure => have := HK1.out; omega
              case rel => exact ⟨((((x11_1 * 2) % 4294967296) + a2) % 4294967296), (wrap64 (x12_1 - 1)), (by first | rfl | (simp; done) | (simp [*]; done)), (by first | rfl | (simp; done) | (simp [*]; done)), H', ⟨by have := HK1.out; omega⟩, by repeat (first | exact Drawn0.refl _ | apply Drawn0.step)⟩
        · rw [if_neg c8] at H
          exact absurd H (by simp)
      · rw [if_neg c6] at H
        have c6b0 : decide (0 ≤ x12_1) = false := decide_eq_false c6
        clear c6
        obtain rfl := Option.some.inj H
        go_wp2
        go_ret
        exact ⟨by first | rfl | (simp; done) | (simp [*]; done), by repeat (first | exact Drawn0.refl _ | apply Drawn0.step)⟩

end Go.Proofs.Ytioopcilcgebeaa.PCpu
/-! #### PCpux82 -/
namespace Go.Proofs.Ytioopcilcgebeaa.PCpu
open Go.RowKit Go.Proofs.YtioopcilcgebeaaW.PrintWords Go.Proofs.YtioopcilcgebeaaW.PrintLast Go.Proofs.YtioopcilcgebeaaW.PrintMore
attribute [local go_sem] max2_int min2_int max_two min_two max_three min_three max_four min_four   -- for this text's walks alone

/-! ### pintleref01_floor: function 148 -/
def pintleref01_floor.f (a0 : Int) (a1 : Int) : Option (Int) := if 0 ≤ (IntKind.u64.wrap (a1)) then (if a0 < 0 then (if (shl .i64 1 (IntKind.u64.wrap (a1))) = 0 then (none) else (if (Int.tmod a0 (shl .i64 1 (IntKind.u64.wrap (a1)))) = 0 then (some (wrap64 (Int.tdiv a0 (shl .i64 1 (IntKind.u64.wrap (a1)))))) else (some (wrap64 ((wrap64 (Int.tdiv a0 (shl .i64 1 (IntKind.u64.wrap (a1))))) - 1))))) else (if (shl .i64 1 (IntKind.u64.wrap (a1))) = 0 then (none) else (some (wrap64 (Int.tdiv a0 (shl .i64 1 (IntKind.u64.wrap (a1)))))))) else (none)
set_option maxHeartbeats 8000000 in
set_option maxRecDepth 100000 in
theorem pintleref01_floor.calls (a0 : Int) (a1 : Int) (r : Int) (w : World) (h : pintleref01_floor.f a0 a1 = some r) :
    Calls Try.prog 148 #[.int .i64 a0, .int .i64 a1] w fun e w' => e = .returned (.int .i64 r) ∧ Drawn0 w w' := by
  have H : (if 0 ≤ (IntKind.u64.wrap (a1)) then (if a0 < 0 then (if (shl .i64 1 (IntKind.u64.wrap (a1))) = 0 then (none) else (if (Int.tmod a0 (shl .i64 1 (IntKind.u64.wrap (a1)))) = 0 then (some (wrap64 (Int.tdiv a0 (shl .i64 1 (IntKind.u64.wrap (a1)))))) else (some (wrap64 ((wrap64 (Int.tdiv a0 (shl .i64 1 (IntKind.u64.wrap (a1))))) - 1))))) else (if (shl .i64 1 (IntKind.u64.wrap (a1))) = 0 then (none) else (some (wrap64 (Int.tdiv a0 (shl .i64 1 (IntKind.u64.wrap (a1)))))))) else (none)) = some r := h
  clear h
  obtain ⟨ji3, hji3⟩ : ∃ j_ : Int, (IntKind.u64.wrap (a1)) = j_ := ⟨_, rfl⟩
  replace H : (if 0 ≤ (ji3) then (if a0 < 0 then (if (shl .i64 1 (ji3)) = 0 then (none) else (if (Int.tmod a0 (shl .i64 1 (ji3))) = 0 then (some (wrap64 (Int.tdiv a0 (shl .i64 1 (ji3))))) else (some (wrap64 ((wrap64 (Int.tdiv a0 (shl .i64 1 (ji3)))) - 1))))) else (if (shl .i64 1 (ji3)) = 0 then (none) else (some (wrap64 (Int.tdiv a0 (shl .i64 1 (ji3))))))) else (none)) = some r := by first | (rw [hji3] at H; exact H) | (simp only [hji3] at H ⊢; exact H)
  by_cases c4 : 0 ≤ (ji3)
  · rw [if_pos c4] at H
    have c4b0 := eq_true c4
    have c4b1 : decide (0 ≤ (ji3)) = true := decide_eq_true c4
    clear c4
    obtain ⟨ji5, hji5⟩ : ∃ j_ : Int, (shl .i64 1 (ji3)) = j_ := ⟨_, rfl⟩
    replace H : (if a0 < 0 then (if (ji5) = 0 then (none) else (if (Int.tmod a0 (ji5)) = 0 then (some (wrap64 (Int.tdiv a0 (ji5)))) else (some (wrap64 ((wrap64 (Int.tdiv a0 (ji5))) - 1))))) else (if (ji5) = 0 then (none) else (some (wrap64 (Int.tdiv a0 (ji5)))))) = some r := by first | (rw [hji5] at H; exact H) | (simp only [hji5] at H ⊢; exact H)
    have hji5_ : (IntKind.i64.wrap (1 * 2 ^ min (ji3).toNat 64)) = ji5 := hji5
    have hji5z : (ji3) ≤ 64 → (IntKind.i64.wrap (1 * 2 ^ (ji3).toNat)) = ji5 := shl_small hji5
    have hji5u : (IntKind.i64.wrap (2 ^ min (ji3).toNat 64)) = ji5 := by have h_ := hji5_; rw [Int.one_mul] at h_; exact h_
    have hji5v : (ji3) ≤ 64 → (IntKind.i64.wrap (2 ^ (ji3).toNat)) = ji5 := fun hle_ => by have h_ := hji5z hle_; rw [Int.one_mul] at h_; exact h_
    have hji5y : (wrap64 (1 * 2 ^ min (ji3).toNat 64)) = ji5 := (i64_w _).symm.trans hji5_
    have hji5x : (ji3) ≤ 64 → (wrap64 (1 * 2 ^ (ji3).toNat)) = ji5 := fun h_ => (i64_w _).symm.trans (hji5z h_)
    by_cases c6 : a0 < 0
    · rw [if_pos c6] at H
      have c6b0 : decide (a0 < 0) = true := decide_eq_true c6
      clear c6
      by_cases c7 : (ji5) = 0
      · rw [if_pos c7] at H
        exact absurd H (by simp)
      · rw [if_neg c7] at H
        have c7b0 : ((ji5) == 0) = false := beq_eq_false_iff_ne.mpr c7
        have c7b1 : ((ji5) != 0) = true := bne_iff_ne.mpr c7
        by_cases c8 : (Int.tmod a0 (ji5)) = 0
        · rw [if_pos c8] at H
          have c8b0 : ((Int.tmod a0 (ji5)) == 0) = true := beq_iff_eq.mpr c8
          have c8b1 : ((Int.tmod a0 (ji5)) != 0) = false := bne_eq_false_iff_eq.mpr c8
          clear c8
          obtain rfl := Option.some.inj H
          go_enter Try.func148, Try.ntmps148
          go_wp2
          go_ret
          exact ⟨by first | rfl | (simp; done) | (simp only [← hji3, ← hji5] <;> (first | rfl | simp)) | (simp [*]; done), by repeat (first | exact Drawn0.refl _ | apply Drawn0.step)⟩
        · rw [if_neg c8] at H
          have c8b0 : ((Int.tmod a0 (ji5)) == 0) = false := beq_eq_false_iff_ne.mpr c8
          have c8b1 : ((Int.tmod a0 (ji5)) != 0) = true := bne_iff_ne.mpr c8
          obtain rfl := Option.some.inj H
          go_enter Try.func148, Try.ntmps148
          go_wp2
          go_ret
          exact ⟨by first | rfl | (simp; done) | (simp only [← hji3, ← hji5] <;> (first | rfl | simp)) | (simp [*]; done), by repeat (first | exact Drawn0.refl _ | apply Drawn0.step)⟩
    · rw [if_neg c6] at H
      have c6b0 : decide (a0 < 0) = false := decide_eq_false c6
      clear c6
      by_cases c9 : (ji5) = 0
      · rw [if_pos c9] at H
        exact absurd H (by simp)
      · rw [if_neg c9] at H
        have c9b0 : ((ji5) == 0) = false := beq_eq_false_iff_ne.mpr c9
        have c9b1 : ((ji5) != 0) = true := bne_iff_ne.mpr c9
        obtain rfl := Option.some.inj H
        go_enter Try.func148, Try.ntmps148
        go_wp2
        go_ret
        exact ⟨by first | rfl | (simp; done) | (simp only [← hji3, ← hji5] <;> (first | rfl | simp)) | (simp [*]; done), by repeat (first | exact Drawn0.refl _ | apply Drawn0.step)⟩
  · rw [if_neg c4] at H
    exact absurd H (by simp)

end Go.Proofs.Ytioopcilcgebeaa.PCpu
/-! #### PCpux83 -/
namespace Go.Proofs.Ytioopcilcgebeaa.PCpu
open Go.RowKit Go.Proofs.YtioopcilcgebeaaW.PrintWords Go.Proofs.YtioopcilcgebeaaW.PrintLast Go.Proofs.YtioopcilcgebeaaW.PrintMore
attribute [local go_sem] max2_int min2_int max_two min_two max_three min_three max_four min_four   -- for this text's walks alone

/-! ### pintleref01_div: function 160 -/
def pintleref01_div.f (a0 : Int) (a1 : Int) : Option (Int × Int) := if a1 = 0 then (some ((-1), a0)) else (some (wrap64 (Int.tdiv a0 a1), Int.tmod a0 a1))
set_option maxHeartbeats 8000000 in
set_option maxRecDepth 100000 in
theorem pintleref01_div.calls (a0 : Int) (a1 : Int) (r1 : Int) (r2 : Int) (w : World) (h : pintleref01_div.f a0 a1 = some (r1, r2)) :
    Calls Try.prog 160 #[.int .i64 a0, .int .i64 a1] w fun e w' => e = .returned (.tuple #[.int .i64 r1, .int .i64 r2]) ∧ Drawn0 w w' := by
  have H : (if a1 = 0 then (some ((-1), a0)) else (some (wrap64 (Int.tdiv a0 a1), Int.tmod a0 a1))) = some (r1, r2) := h
  clear h
  by_cases c3 : a1 = 0
  · rw [if_pos c3] at H
    have c3b0 : (a1 == 0) = true := beq_iff_eq.mpr c3
    have c3b1 : (a1 != 0) = false := bne_eq_false_iff_eq.mpr c3
    clear c3
    simp only [Option.some.injEq, Prod.mk.injEq] at H
    obtain ⟨rfl, rfl⟩ := H
    go_enter Try.func160, Try.ntmps160
    go_wp2
    repeat (go_quiet (fail); try go_wp2)
    go_ret2
    exact ⟨by first | rfl | (simp; done) | (simp [*]; done), by repeat (first | exact Drawn0.refl _ | apply Drawn0.step)⟩
  · rw [if_neg c3] at H
    have c3b0 : (a1 == 0) = false := beq_eq_false_iff_ne.mpr c3
    have c3b1 : (a1 != 0) = true := bne_iff_ne.mpr c3
    simp only [Option.some.injEq, Prod.mk.injEq] at H
    obtain ⟨rfl, rfl⟩ := H
    go_enter Try.func160, Try.ntmps160
    go_wp2
    repeat (go_quiet (fail); try go_wp2)
    go_ret2
    exact ⟨by first | rfl | (simp; done) | (simp [*]; done), by repeat (first | exact Drawn0.refl _ | apply Drawn0.step)⟩

end Go.Proofs.Ytioopcilcgebeaa.PCpu
/-! #### PCpux84 -/
namespace Go.Proofs.Ytioopcilcgebeaa.PCpu
open Go.RowKit Go.Proofs.YtioopcilcgebeaaW.PrintWords Go.Proofs.YtioopcilcgebeaaW.PrintLast Go.Proofs.YtioopcilcgebeaaW.PrintMore
attribute [local go_sem] max2_int min2_int max_two min_two max_three min_three max_four min_four   -- for this text's walks alone

/-! ### pintleref01_more: function 149 -/
def pintleref01_more.f (a0 : Int) (a1 : Int) (a2 : Int) (a3 : Int) (a4 : Int) : Option (Int × Bool) := (pintleref01_div.f a1 a2).bind fun bt363 => ((pintleref01_div.f a3 a4).bind fun bt365 => (if a0 = 11 then ((pintleref01_Word.f (wrap64 (a1 * a2))).bind fun t367 => (some (t367, true))) else (if a0 = 12 then ((pintleref01_floor.f (wrap64 (a1 * a2)) 32).bind fun t368 => ((pintleref01_Word.f t368).bind fun t369 => (some (t369, true)))) else (if a0 = 13 then ((pintleref01_floor.f (wrap64 (a1 * a4)) 32).bind fun t370 => ((pintleref01_Word.f t370).bind fun t371 => (some (t371, true)))) else (if a0 = 14 then (some ((IntKind.u64.wrap (Int.tdiv (IntKind.u64.wrap ((IntKind.u64.wrap (a3)) * (IntKind.u64.wrap (a4)))) 4294967296)) % 4294967296, true)) else (if a0 = 15 then ((pintleref01_Word.f bt363.1).bind fun t372 => (some (t372, true))) else (if a0 = 16 then ((pintleref01_Word.f bt365.1).bind fun t373 => (some (t373, true))) else (if a0 = 17 then ((pintleref01_Word.f bt363.2).bind fun t374 => (some (t374, true))) else (if a0 = 18 then ((pintleref01_Word.f bt365.2).bind fun t375 => (some (t375, true))) else (some (0, false)))))))))))
set_option maxHeartbeats 8000000 in
set_option maxRecDepth 100000 in
theorem pintleref01_more.calls (a0 : Int) (a1 : Int) (a2 : Int) (a3 : Int) (a4 : Int) (r1 : Int) (r2 : Bool) (w : World) (h : pintleref01_more.f a0 a1 a2 a3 a4 = some (r1, r2)) :
    Calls Try.prog 149 #[.int .i64 a0, .int .i64 a1, .int .i64 a2, .int .i64 a3, .int .i64 a4] w fun e w' => e = .returned (.tuple #[.int .u32 r1, .bool r2]) ∧ Drawn0 w w' := by
  have H : ((pintleref01_div.f a1 a2).bind fun bt363 => ((pintleref01_div.f a3 a4).bind fun bt365 => (if a0 = 11 then ((pintleref01_Word.f (wrap64 (a1 * a2))).bind fun t367 => (some (t367, true))) else (if a0 = 12 then ((pintleref01_floor.f (wrap64 (a1 * a2)) 32).bind fun t368 => ((pintleref01_Word.f t368).bind fun t369 => (some (t369, true)))) else (if a0 = 13 then ((pintleref01_floor.f (wrap64 (a1 * a4)) 32).bind fun t370 => ((pintleref01_Word.f t370).bind fun t371 => (some (t371, true)))) else (if a0 = 14 then (some ((IntKind.u64.wrap (Int.tdiv (IntKind.u64.wrap ((IntKind.u64.wrap (a3)) * (IntKind.u64.wrap (a4)))) 4294967296)) % 4294967296, true)) else (if a0 = 15 then ((pintleref01_Word.f bt363.1).bind fun t372 => (some (t372, true))) else (if a0 = 16 then ((pintleref01_Word.f bt365.1).bind fun t373 => (some (t373, true))) else (if a0 = 17 then ((pintleref01_Word.f bt363.2).bind fun t374 => (some (t374, true))) else (if a0 = 18 then ((pintleref01_Word.f bt365.2).bind fun t375 => (some (t375, true))) else (some (0, false)))))))))))) = some (r1, r2) := h
  clear h
  replace H := Option.bind_eq_some_iff.mp H
  obtain ⟨⟨t363, t364⟩, A60, H⟩ := H
  replace H : ((pintleref01_div.f a3 a4).bind fun bt365 => (if a0 = 11 then ((pintleref01_Word.f (wrap64 (a1 * a2))).bind fun t367 => (some (t367, true))) else (if a0 = 12 then ((pintleref01_floor.f (wrap64 (a1 * a2)) 32).bind fun t368 => ((pintleref01_Word.f t368).bind fun t369 => (some (t369, true)))) else (if a0 = 13 then ((pintleref01_floor.f (wrap64 (a1 * a4)) 32).bind fun t370 => ((pintleref01_Word.f t370).bind fun t371 => (some (t371, true)))) else (if a0 = 14 then (some ((IntKind.u64.wrap (Int.tdiv (IntKind.u64.wrap ((IntKind.u64.wrap (a3)) * (IntKind.u64.wrap (a4)))) 4294967296)) % 4294967296, true)) else (if a0 = 15 then ((pintleref01_Word.f t363).bind fun t372 => (some (t372, true))) else (if a0 = 16 then ((pintleref01_Word.f bt365.1).bind fun t373 => (some (t373, true))) else (if a0 = 17 then ((pintleref01_Word.f t364).bind fun t374 => (some (t374, true))) else (if a0 = 18 then ((pintleref01_Word.f bt365.2).bind fun t375 => (some (t375, true))) else (some (0, false))))))))))) = some (r1, r2) := H
  have A6 := Aside0.mk A60
  clear A60
  replace H := Option.bind_eq_some_iff.mp H
  obtain ⟨⟨t365, t366⟩, A70, H⟩ := H
  replace H : (if a0 = 11 then ((pintleref01_Word.f (wrap64 (a1 * a2))).bind fun t367 => (some (t367, true))) else (if a0 = 12 then ((pintleref01_floor.f (wrap64 (a1 * a2)) 32).bind fun t368 => ((pintleref01_Word.f t368).bind fun t369 => (some (t369, true)))) else (if a0 = 13 then ((pintleref01_floor.f (wrap64 (a1 * a4)) 32).bind fun t370 => ((pintleref01_Word.f t370).bind fun t371 => (some (t371, true)))) else (if a0 = 14 then (some ((IntKind.u64.wrap (Int.tdiv (IntKind.u64.wrap ((IntKind.u64.wrap (a3)) * (IntKind.u64.wrap (a4)))) 4294967296)) % 4294967296, true)) else (if a0 = 15 then ((pintleref01_Word.f t363).bind fun t372 => (some (t372, true))) else (if a0 = 16 then ((pintleref01_Word.f t365).bind fun t373 => (some (t373, true))) else (if a0 = 17 then ((pintleref01_Word.f t364).bind fun t374 => (some (t374, true))) else (if a0 = 18 then ((pintleref01_Word.f t366).bind fun t375 => (some (t375, true))) else (some (0, false)))))))))) = some (r1, r2) := H
  have A7 := Aside0.mk A70
  clear A70
  by_cases c8 : a0 = 11
  · rw [if_pos c8] at H
    have c8b0 : (a0 == 11) = true := beq_iff_eq.mpr c8
    have c8b1 : (a0 != 11) = false := bne_eq_false_iff_eq.mpr c8
    clear c8
    replace H := Option.bind_eq_some_iff.mp H
    obtain ⟨t367, A90, H⟩ := H
    replace H : (some (t367, true)) = some (r1, r2) := H
    have A9 := Aside0.mk A90
    clear A90
    simp only [Option.some.injEq, Prod.mk.injEq] at H
    obtain ⟨rfl, rfl⟩ := H
    go_enter Try.func149, Try.ntmps149
    go_wp2_with (first | ((with_reducible refine gate_callee (f := 160) rfl ?_); refine goesL_ (some 19) rfl rfl Try.func160 (by kernel_rfl) rfl #[.int .i64 a1, .int .i64 a2] rfl (by (try simp only [List.map_toArray, List.map_cons, List.map_nil]); first | done | rfl | (simp only [List.length_drop, List.length_take]; rfl)) ?_; (with_reducible refine (pintleref01_div.calls a1 a2 t363 t364 _ A6.out).mono ?_); rintro e w' ⟨rfl, ⟨nd, rfl⟩⟩; refine ⟨_, rfl, ?_⟩) | ((with_reducible refine gate_callee (f := 160) rfl ?_); refine goesL_ (some 25) rfl rfl Try.func160 (by kernel_rfl) rfl #[.int .i64 a3, .int .i64 a4] rfl (by (try simp only [List.map_toArray, List.map_cons, List.map_nil]); first | done | rfl | (simp only [List.length_drop, List.length_take]; rfl)) ?_; (with_reducible refine (pintleref01_div.calls a3 a4 t365 t366 _ A7.out).mono ?_); rintro e w' ⟨rfl, ⟨nd, rfl⟩⟩; refine ⟨_, rfl, ?_⟩) | ((with_reducible refine gate_callee (f := 145) rfl ?_); refine goesL_ (some 34) rfl rfl Try.func145 (by kernel_rfl) rfl #[.int .i64 (wrap64 (a1 * a2))] rfl (by (try simp only [List.map_toArray, List.map_cons, List.map_nil]); first | done | rfl | (simp only [List.length_drop, List.length_take]; rfl)) ?_; (with_reducible refine (pintleref01_Word.calls (wrap64 (a1 * a2)) t367 _ A9.out).mono ?_); rintro e w' ⟨rfl, ⟨nd, rfl⟩⟩; refine ⟨_, rfl, ?_⟩))
    go_ret2
    exact ⟨by first | rfl | (simp; done) | (simp [*]; done), by repeat (first | exact Drawn0.refl _ | apply Drawn0.step)⟩
  · rw [if_neg c8] at H
    have c8b0 : (a0 == 11) = false := beq_eq_false_iff_ne.mpr c8
    have c8b1 : (a0 != 11) = true := bne_iff_ne.mpr c8
    by_cases c10 : a0 = 12
    · rw [if_pos c10] at H
      have c10b0 : (a0 == 12) = true := beq_iff_eq.mpr c10
      have c10b1 : (a0 != 12) = false := bne_eq_false_iff_eq.mpr c10
      clear c10
      replace H := Option.bind_eq_some_iff.mp H
      obtain ⟨t368, A110, H⟩ := H
      replace H : ((pintleref01_Word.f t368).bind fun t369 => (some (t369, true))) = some (r1, r2) := H
      have A11 := Aside0.mk A110
      clear A110
      replace H := Option.bind_eq_some_iff.mp H
      obtain ⟨t369, A120, H⟩ := H
      replace H : (some (t369, true)) = some (r1, r2) := H
      have A12 := Aside0.mk A120
      clear A120
      simp only [Option.some.injEq, Prod.mk.injEq] at H
      obtain ⟨rfl, rfl⟩ := H
      go_enter Try.func149, Try.ntmps149
      go_wp2_with (first | ((with_reducible refine gate_callee (f := 160) rfl ?_); refine goesL_ (some 19) rfl rfl Try.func160 (by kernel_rfl) rfl #[.int .i64 a1, .int .i64 a2] rfl (by (try simp only [List.map_toArray, List.map_cons, List.map_nil]); first | done | rfl | (simp only [List.length_drop, List.length_take]; rfl)) ?_; (with_reducible refine (pintleref01_div.calls a1 a2 t363 t364 _ A6.out).mono ?_); rintro e w' ⟨rfl, ⟨nd, rfl⟩⟩; refine ⟨_, rfl, ?_⟩) | ((with_reducible refine gate_callee (f := 160) rfl ?_); refine goesL_ (some 25) rfl rfl Try.func160 (by kernel_rfl) rfl #[.int .i64 a3, .int .i64 a4] rfl (by (try simp only [List.map_toArray, List.map_cons, List.map_nil]); first | done | rfl | (simp only [List.length_drop, List.length_take]; rfl)) ?_; (with_reducible refine (pintleref01_div.calls a3 a4 t365 t366 _ A7.out).mono ?_); rintro e w' ⟨rfl, ⟨nd, rfl⟩⟩; refine ⟨_, rfl, ?_⟩) | ((with_reducible refine gate_callee (f := 148) rfl ?_); refine goesL_ (some 40) rfl rfl Try.func148 (by kernel_rfl) rfl #[.int .i64 (wrap64 (a1 * a2)), .int .i64 32] rfl (by (try simp only [List.map_toArray, List.map_cons, List.map_nil]); first | done | rfl | (simp only [List.length_drop, List.length_take]; rfl)) ?_; (with_reducible refine (pintleref01_floor.calls (wrap64 (a1 * a2)) 32 t368 _ A11.out).mono ?_); rintro e w' ⟨rfl, ⟨nd, rfl⟩⟩; refine ⟨_, rfl, ?_⟩) | ((with_reducible refine gate_callee (f := 145) rfl ?_); refine goesL_ (some 41) rfl rfl Try.func145 (by kernel_rfl) rfl #[.int .i64 t368] rfl (by (try simp only [List.map_toArray, List.map_cons, List.map_nil]); first | done | rfl | (simp only [List.length_drop, List.length_take]; rfl)) ?_; (with_reducible refine (pintleref01_Word.calls t368 t369 _ A12.out).mono ?_); rintro e w' ⟨rfl, ⟨nd, rfl⟩⟩; refine ⟨_, rfl, ?_⟩))
      go_ret2
      exact ⟨by first | rfl | (simp; done) | (simp [*]; done), by repeat (first | exact Drawn0.refl _ | apply Drawn0.step)⟩
    · rw [if_neg c10] at H
      have c10b0 : (a0 == 12) = false := beq_eq_false_iff_ne.mpr c10
      have c10b1 : (a0 != 12) = true := bne_iff_ne.mpr c10
      by_cases c13 : a0 = 13
      · rw [if_pos c13] at H
        have c13b0 : (a0 == 13) = true := beq_iff_eq.mpr c13
        have c13b1 : (a0 != 13) = false := bne_eq_false_iff_eq.mpr c13
        clear c13
        replace H := Option.bind_eq_some_iff.mp H
        obtain ⟨t370, A140, H⟩ := H
        replace H : ((pintleref01_Word.f t370).bind fun t371 => (some (t371, true))) = some (r1, r2) := H
        have A14 := Aside0.mk A140
        clear A140
        replace H := Option.bind_eq_some_iff.mp H
        obtain ⟨t371, A150, H⟩ := H
        replace H : (some (t371, true)) = some (r1, r2) := H
        have A15 := Aside0.mk A150
        clear A150
        simp only [Option.some.injEq, Prod.mk.injEq] at H
        obtain ⟨rfl, rfl⟩ := H
        go_enter Try.func149, Try.ntmps149
        go_wp2_with (first | ((with_reducible refine gate_callee (f := 160) rfl ?_); refine goesL_ (some 19) rfl rfl Try.func160 (by kernel_rfl) rfl #[.int .i64 a1, .int .i64 a2] rfl (by (try simp only [List.map_toArray, List.map_cons, List.map_nil]); first | done | rfl | (simp only [List.length_drop, List.length_take]; rfl)) ?_; (with_reducible refine (pintleref01_div.calls a1 a2 t363 t364 _ A6.out).mono ?_); rintro e w' ⟨rfl, ⟨nd, rfl⟩⟩; refine ⟨_, rfl, ?_⟩) | ((with_reducible refine gate_callee (f := 160) rfl ?_); refine goesL_ (some 25) rfl rfl Try.func160 (by kernel_rfl) rfl #[.int .i64 a3, .int .i64 a4] rfl (by (try simp only [List.map_toArray, List.map_cons, List.map_nil]); first | done | rfl | (simp only [List.length_drop, List.length_take]; rfl)) ?_; (with_reducible refine (pintleref01_div.calls a3 a4 t365 t366 _ A7.out).mono ?_); rintro e w' ⟨rfl, ⟨nd, rfl⟩⟩; refine ⟨_, rfl, ?_⟩) | ((with_reducible refine gate_callee (f := 148) rfl ?_); refine goesL_ (some 47) rfl rfl Try.func148 (by kernel_rfl) rfl #[.int .i64 (wrap64 (a1 * a4)), .int .i64 32] rfl (by (try simp only [List.map_toArray, List.map_cons, List.map_nil]); first | done | rfl | (simp only [List.length_drop, List.length_take]; rfl)) ?_; (with_reducible refine (pintleref01_floor.calls (wrap64 (a1 * a4)) 32 t370 _ A14.out).mono ?_); rintro e w' ⟨rfl, ⟨nd, rfl⟩⟩; refine ⟨_, rfl, ?_⟩) | ((with_reducible refine gate_callee (f := 145) rfl ?_); refine goesL_ (some 48) rfl rfl Try.func145 (by kernel_rfl) rfl #[.int .i64 t370] rfl (by (try simp only [List.map_toArray, List.map_cons, List.map_nil]); first | done | rfl | (simp only [List.length_drop, List.length_take]; rfl)) ?_; (with_reducible refine (pintleref01_Word.calls t370 t371 _ A15.out).mono ?_); rintro e w' ⟨rfl, ⟨nd, rfl⟩⟩; refine ⟨_, rfl, ?_⟩))
        go_ret2
        exact ⟨by first | rfl | (simp; done) | (simp [*]; done), by repeat (first | exact Drawn0.refl _ | apply Drawn0.step)⟩
      · rw [if_neg c13] at H
        have c13b0 : (a0 == 13) = false := beq_eq_false_iff_ne.mpr c13
        have c13b1 : (a0 != 13) = true := bne_iff_ne.mpr c13
        by_cases c16 : a0 = 14
        · rw [if_pos c16] at H
          have c16b0 : (a0 == 14) = true := beq_iff_eq.mpr c16
          have c16b1 : (a0 != 14) = false := bne_eq_false_iff_eq.mpr c16
          clear c16
          simp only [Option.some.injEq, Prod.mk.injEq] at H
          obtain ⟨rfl, rfl⟩ := H
          go_enter Try.func149, Try.ntmps149
          go_wp2_with (first | ((with_reducible refine gate_callee (f := 160) rfl ?_); refine goesL_ (some 19) rfl rfl Try.func160 (by kernel_rfl) rfl #[.int .i64 a1, .int .i64 a2] rfl (by (try simp only [List.map_toArray, List.map_cons, List.map_nil]); first | done | rfl | (simp only [List.length_drop, List.length_take]; rfl)) ?_; (with_reducible refine (pintleref01_div.calls a1 a2 t363 t364 _ A6.out).mono ?_); rintro e w' ⟨rfl, ⟨nd, rfl⟩⟩; refine ⟨_, rfl, ?_⟩) | ((with_reducible refine gate_callee (f := 160) rfl ?_); refine goesL_ (some 25) rfl rfl Try.func160 (by kernel_rfl) rfl #[.int .i64 a3, .int .i64 a4] rfl (by (try simp only [List.map_toArray, List.map_cons, List.map_nil]); first | done | rfl | (simp only [List.length_drop, List.length_take]; rfl)) ?_; (with_reducible refine (pintleref01_div.calls a3 a4 t365 t366 _ A7.out).mono ?_); rintro e w' ⟨rfl, ⟨nd, rfl⟩⟩; refine ⟨_, rfl, ?_⟩))
          go_ret2
          exact ⟨by first | rfl | (simp; done) | (simp [*]; done), by repeat (first | exact Drawn0.refl _ | apply Drawn0.step)⟩
        · rw [if_neg c16] at H
          have c16b0 : (a0 == 14) = false := beq_eq_false_iff_ne.mpr c16
          have c16b1 : (a0 != 14) = true := bne_iff_ne.mpr c16
          by_cases c17 : a0 = 15
          · rw [if_pos c17] at H
            have c17b0 : (a0 == 15) = true := beq_iff_eq.mpr c17
            have c17b1 : (a0 != 15) = false := bne_eq_false_iff_eq.mpr c17
            clear c17
            replace H := Option.bind_eq_some_iff.mp H
            obtain ⟨t372, A180, H⟩ := H
            replace H : (some (t372, true)) = some (r1, r2) := H
            have A18 := Aside0.mk A180
            clear A180
            simp only [Option.some.injEq, Prod.mk.injEq] at H
            obtain ⟨rfl, rfl⟩ := H
            go_enter Try.func149, Try.ntmps149
            go_wp2_with (first | ((with_reducible refine gate_callee (f := 160) rfl ?_); refine goesL_ (some 19) rfl rfl Try.func160 (by kernel_rfl) rfl #[.int .i64 a1, .int .i64 a2] rfl (by (try simp only [List.map_toArray, List.map_cons, List.map_nil]); first | done | rfl | (simp only [List.length_drop, List.length_take]; rfl)) ?_; (with_reducible refine (pintleref01_div.calls a1 a2 t363 t364 _ A6.out).mono ?_); rintro e w' ⟨rfl, ⟨nd, rfl⟩⟩; refine ⟨_, rfl, ?_⟩) | ((with_reducible refine gate_callee (f := 160) rfl ?_); refine goesL_ (some 25) rfl rfl Try.func160 (by kernel_rfl) rfl #[.int .i64 a3, .int .i64 a4] rfl (by (try simp only [List.map_toArray, List.map_cons, List.map_nil]); first | done | rfl | (simp only [List.length_drop, List.length_take]; rfl)) ?_; (with_reducible refine (pintleref01_div.calls a3 a4 t365 t366 _ A7.out).mono ?_); rintro e w' ⟨rfl, ⟨nd, rfl⟩⟩; refine ⟨_, rfl, ?_⟩) | ((with_reducible refine gate_callee (f := 145) rfl ?_); refine goesL_ (some 61) rfl rfl Try.func145 (by kernel_rfl) rfl #[.int .i64 t363] rfl (by (try simp only [List.map_toArray, List.map_cons, List.map_nil]); first | done | rfl | (simp only [List.length_drop, List.length_take]; rfl)) ?_; (with_reducible refine (pintleref01_Word.calls t363 t372 _ A18.out).mono ?_); rintro e w' ⟨rfl, ⟨nd, rfl⟩⟩; refine ⟨_, rfl, ?_⟩))
            go_ret2
            exact ⟨by first | rfl | (simp; done) | (simp [*]; done), by repeat (first | exact Drawn0.refl _ | apply Drawn0.step)⟩
          · rw [if_neg c17] at H
            have c17b0 : (a0 == 15) = false := beq_eq_false_iff_ne.mpr c17
            have c17b1 : (a0 != 15) = true := bne_iff_ne.mpr c17
            by_cases c19 : a0 = 16
            · rw [if_pos c19] at H
              have c19b0 : (a0 == 16) = true := beq_iff_eq.mpr c19
              have c19b1 : (a0 != 16) = false := bne_eq_false_iff_eq.mpr c19
              clear c19
              replace H := Option.bind_eq_some_iff.mp H
              obtain ⟨t373, A200, H⟩ := H
              replace H : (some (t373, true)) = some (r1, r2) := H
              have A20 := Aside0.mk A200
              clear A200
              simp only [Option.some.injEq, Prod.mk.injEq] at H
              obtain ⟨rfl, rfl⟩ := H
              go_enter Try.func149, Try.ntmps149
              go_wp2_with (first | ((with_reducible refine gate_callee (f := 160) rfl ?_); refine goesL_ (some 19) rfl rfl Try.func160 (by kernel_rfl) rfl #[.int .i64 a1, .int .i64 a2] rfl (by (try simp only [List.map_toArray, List.map_cons, List.map_nil]); first | done | rfl | (simp only [List.length_drop, List.length_take]; rfl)) ?_; (with_reducible refine (pintleref01_div.calls a1 a2 t363 t364 _ A6.out).mono ?_); rintro e w' ⟨rfl, ⟨nd, rfl⟩⟩; refine ⟨_, rfl, ?_⟩) | ((with_reducible refine gate_callee (f := 160) rfl ?_); refine goesL_ (some 25) rfl rfl Try.func160 (by kernel_rfl) rfl #[.int .i64 a3, .int .i64 a4] rfl (by (try simp only [List.map_toArray, List.map_cons, List.map_nil]); first | done | rfl | (simp only [List.length_drop, List.length_take]; rfl)) ?_; (with_reducible refine (pintleref01_div.calls a3 a4 t365 t366 _ A7.out).mono ?_); rintro e w' ⟨rfl, ⟨nd, rfl⟩⟩; refine ⟨_, rfl, ?_⟩) | ((with_reducible refine gate_callee (f := 145) rfl ?_); refine goesL_ (some 65) rfl rfl Try.func145 (by kernel_rfl) rfl #[.int .i64 t365] rfl (by (try simp only [List.map_toArray, List.map_cons, List.map_nil]); first | done | rfl | (simp only [List.length_drop, List.length_take]; rfl)) ?_; (with_reducible refine (pintleref01_Word.calls t365 t373 _ A20.out).mono ?_); rintro e w' ⟨rfl, ⟨nd, rfl⟩⟩; refine ⟨_, rfl, ?_⟩))
              go_ret2
              exact ⟨by first | rfl | (simp; done) | (simp [*]; done), by repeat (first | exact Drawn0.refl _ | apply Drawn0.step)⟩
            · rw [if_neg c19] at H
              have c19b0 : (a0 == 16) = false := beq_eq_false_iff_ne.mpr c19
              have c19b1 : (a0 != 16) = true := bne_iff_ne.mpr c19
              by_cases c21 : a0 = 17
              · rw [if_pos c21] at H
                have c21b0 : (a0 == 17) = true := beq_iff_eq.mpr c21
                have c21b1 : (a0 != 17) = false := bne_eq_false_iff_eq.mpr c21
                clear c21
                replace H := Option.bind_eq_some_iff.mp H
                obtain ⟨t374, A220, H⟩ := H
                replace H : (some (t374, true)) = some (r1, r2) := H
                have A22 := Aside0.mk A220
                clear A220
                simp only [Option.some.injEq, Prod.mk.injEq] at H
                obtain ⟨rfl, rfl⟩ := H
                go_enter Try.func149, Try.ntmps149
                go_wp2_with (first | ((with_reducible refine gate_callee (f := 160) rfl ?_); refine goesL_ (some 19) rfl rfl Try.func160 (by kernel_rfl) rfl #[.int .i64 a1, .int .i64 a2] rfl (by (try simp only [List.map_toArray, List.map_cons, List.map_nil]); first | done | rfl | (simp only [List.length_drop, List.length_take]; rfl)) ?_; (with_reducible refine (pintleref01_div.calls a1 a2 t363 t364 _ A6.out).mono ?_); rintro e w' ⟨rfl, ⟨nd, rfl⟩⟩; refine ⟨_, rfl, ?_⟩) | ((with_reducible refine gate_callee (f := 160) rfl ?_); refine goesL_ (some 25) rfl rfl Try.func160 (by kernel_rfl) rfl #[.int .i64 a3, .int .i64 a4] rfl (by (try simp only [List.map_toArray, List.map_cons, List.map_nil]); first | done | rfl | (simp only [List.length_drop, List.length_take]; rfl)) ?_; (with_reducible refine (pintleref01_div.calls a3 a4 t365 t366 _ A7.out).mono ?_); rintro e w' ⟨rfl, ⟨nd, rfl⟩⟩; refine ⟨_, rfl, ?_⟩) | ((with_reducible refine gate_callee (f := 145) rfl ?_); refine goesL_ (some 69) rfl rfl Try.func145 (by kernel_rfl) rfl #[.int .i64 t364] rfl (by (try simp only [List.map_toArray, List.map_cons, List.map_nil]); first | done | rfl | (simp only [List.length_drop, List.length_take]; rfl)) ?_; (with_reducible refine (pintleref01_Word.calls t364 t374 _ A22.out).mono ?_); rintro e w' ⟨rfl, ⟨nd, rfl⟩⟩; refine ⟨_, rfl, ?_⟩))
                go_ret2
                exact ⟨by first | rfl | (simp; done) | (simp [*]; done), by repeat (first | exact Drawn0.refl _ | apply Drawn0.step)⟩
              · rw [if_neg c21] at H
                have c21b0 : (a0 == 17) = false := beq_eq_false_iff_ne.mpr c21
                have c21b1 : (a0 != 17) = true := bne_iff_ne.mpr c21
                by_cases c23 : a0 = 18
                · rw [if_pos c23] at H
                  have c23b0 : (a0 == 18) = true := beq_iff_eq.mpr c23
                  have c23b1 : (a0 != 18) = false := bne_eq_false_iff_eq.mpr c23
                  clear c23
                  replace H := Option.bind_eq_some_iff.mp H
                  obtain ⟨t375, A240, H⟩ := H
                  replace H : (some (t375, true)) = some (r1, r2) := H
                  have A24 := Aside0.mk A240
                  clear A240
                  simp only [Option.some.injEq, Prod.mk.injEq] at H
                  obtain ⟨rfl, rfl⟩ := H
                  go_enter Try.func149, Try.ntmps149
                  go_wp2_with (first | ((with_reducible refine gate_callee (f := 160) rfl ?_); refine goesL_ (some 19) rfl rfl Try.func160 (by kernel_rfl) rfl #[.int .i64 a1, .int .i64 a2] rfl (by (try simp only [List.map_toArray, List.map_cons, List.map_nil]); first | done | rfl | (simp only [List.length_drop, List.length_take]; rfl)) ?_; (with_reducible refine (pintleref01_div.calls a1 a2 t363 t364 _ A6.out).mono ?_); rintro e w' ⟨rfl, ⟨nd, rfl⟩⟩; refine ⟨_, rfl, ?_⟩) | ((with_reducible refine gate_callee (f := 160) rfl ?_); refine goesL_ (some 25) rfl rfl Try.func160 (by kernel_rfl) rfl #[.int .i64 a3, .int .i64 a4] rfl (by (try simp only [List.map_toArray, List.map_cons, List.map_nil]); first | done | rfl | (simp only [List.length_drop, List.length_take]; rfl)) ?_; (with_reducible refine (pintleref01_div.calls a3 a4 t365 t366 _ A7.out).mono ?_); rintro e w' ⟨rfl, ⟨nd, rfl⟩⟩; refine ⟨_, rfl, ?_⟩) | ((with_reducible refine gate_callee (f := 145) rfl ?_); refine goesL_ (some 73) rfl rfl Try.func145 (by kernel_rfl) rfl #[.int .i64 t366] rfl (by (try simp only [List.map_toArray, List.map_cons, List.map_nil]); first | done | rfl | (simp only [List.length_drop, List.length_take]; rfl)) ?_; (with_reducible refine (pintleref01_Word.calls t366 t375 _ A24.out).mono ?_); rintro e w' ⟨rfl, ⟨nd, rfl⟩⟩; refine ⟨_, rfl, ?_⟩))
                  go_ret2
                  exact ⟨by first | rfl | (simp; done) | (simp [*]; done), by repeat (first | exact Drawn0.refl _ | apply Drawn0.step)⟩
                · rw [if_neg c23] at H
                  have c23b0 : (a0 == 18) = false := beq_eq_false_iff_ne.mpr c23
                  have c23b1 : (a0 != 18) = true := bne_iff_ne.mpr c23
                  simp only [Option.some.injEq, Prod.mk.injEq] at H
                  obtain ⟨rfl, rfl⟩ := H
                  go_enter Try.func149, Try.ntmps149
                  go_wp2_with (first | ((with_reducible refine gate_callee (f := 160) rfl ?_); refine goesL_ (some 19) rfl rfl Try.func160 (by kernel_rfl) rfl #[.int .i64 a1, .int .i64 a2] rfl (by (try simp only [List.map_toArray, List.map_cons, List.map_nil]); first | done | rfl | (simp only [List.length_drop, List.length_take]; rfl)) ?_; (with_reducible refine (pintleref01_div.calls a1 a2 t363 t364 _ A6.out).mono ?_); rintro e w' ⟨rfl, ⟨nd, rfl⟩⟩; refine ⟨_, rfl, ?_⟩) | ((with_reducible refine gate_callee (f := 160) rfl ?_); refine goesL_ (some 25) rfl rfl Try.func160 (by kernel_rfl) rfl #[.int .i64 a3, .int .i64 a4] rfl (by (try simp only [List.map_toArray, List.map_cons, List.map_nil]); first | done | rfl | (simp only [List.length_drop, List.length_take]; rfl)) ?_; (with_reducible refine (pintleref01_div.calls a3 a4 t365 t366 _ A7.out).mono ?_); rintro e w' ⟨rfl, ⟨nd, rfl⟩⟩; refine ⟨_, rfl, ?_⟩))
                  go_ret2
                  exact ⟨by first | rfl | (simp; done) | (simp [*]; done), by repeat (first | exact Drawn0.refl _ | apply Drawn0.step)⟩

end Go.Proofs.Ytioopcilcgebeaa.PCpu
