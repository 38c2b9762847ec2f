/- Functions as the kit's printer has written them, shortened. -/
import Derived.Test.YtioopcilcgebeaaKP1
import Derived.Test.YtioopcilcgebeaaKP3
set_option linter.unusedVariables false
set_option linter.unusedSimpArgs false
/-! #### PCpux85 -/
namespace Go.Proofs.Ytioopcilcgebeaa.PCpu
open Go.RowKit Go.Proofs.YtioopcilcgebeaaW.PrintWords Go.Proofs.YtioopcilcgebeaaW.PrintLast Go.Proofs.YtioopcilcgebeaaW.PrintMore
attribute [local go_sem] max2_int min2_int max_two min_two max_three min_three max_four min_four   -- for this text's walks alone

/-! ### pintleref01_Alu: function 128 -/
def pintleref01_Alu.f (k : Nat) (a0 : Int) (a1 : Int) (a2 : Int) : Option (Int × Bool) := (pintleref01_Signed.f a1).bind fun t376 => ((pintleref01_Signed.f a2).bind fun t377 => (if a0 = 1 then ((pintleref01_Word.f (wrap64 ((wrap64 (a1)) + (wrap64 (a2))))).bind fun t378 => (some (t378, true))) else (if a0 = 2 then ((pintleref01_Word.f (wrap64 ((wrap64 (a1)) - (wrap64 (a2))))).bind fun t379 => (some (t379, true))) else (if a0 = 3 then (if 0 ≤ (IntKind.u64.wrap (wrap64 (Int.tmod a2 32))) then ((pintleref01_Word.f (wrap64 ((wrap64 (a1)) * (shl .i64 1 (IntKind.u64.wrap (wrap64 (Int.tmod a2 32))))))).bind fun t380 => (some (t380, true))) else (none)) else (if a0 = 4 then ((pintleref01_one.f (decide (t376 < t377))).bind fun t381 => ((pintleref01_Word.f t381).bind fun t382 => (some (t382, true)))) else (if a0 = 5 then ((pintleref01_one.f (decide ((wrap64 (a1)) < (wrap64 (a2))))).bind fun t383 => ((pintleref01_Word.f t383).bind fun t384 => (some (t384, true)))) else (if a0 = 6 then ((pintleref01_bits.f k a1 a2 0 1 0).bind fun t385 => (some (t385, true))) else (if a0 = 7 then (if 0 ≤ (IntKind.u64.wrap (wrap64 (Int.tmod a2 32))) then (if (shl .i64 1 (IntKind.u64.wrap (wrap64 (Int.tmod a2 32)))) = 0 then (none) else ((pintleref01_Word.f (wrap64 (Int.tdiv (wrap64 (a1)) (shl .i64 1 (IntKind.u64.wrap (wrap64 (Int.tmod a2 32))))))).bind fun t386 => (some (t386, true)))) else (none)) else (if a0 = 8 then ((pintleref01_floor.f t376 (wrap64 (Int.tmod a2 32))).bind fun t387 => ((pintleref01_Word.f t387).bind fun t388 => (some (t388, true)))) else (if a0 = 9 then ((pintleref01_bits.f k a1 a2 0 1 1).bind fun t389 => (some (t389, true))) else (if a0 = 10 then ((pintleref01_bits.f k a1 a2 0 0 1).bind fun t390 => (some (t390, true))) else ((pintleref01_more.f a0 t376 t377 (wrap64 (a1)) (wrap64 (a2))).bind fun bt391 => (some (bt391.1, bt391.2))))))))))))))
theorem pintleref01_Alu.mono : ∀ a0 a1 a2 k, LeO (pintleref01_Alu.f k a0 a1 a2) (pintleref01_Alu.f (k + 1) a0 a1 a2) := by
  intro a0 a1 a2 k
  unfold pintleref01_Alu.f
  repeat' first
      | (with_reducible exact pintleref01_bits.mono _ _ _ _ _ _)
      | (with_reducible exact LeO.refl _)
      | (with_reducible exact LeO.none _)
      | (with_reducible refine LeO.ite ?_ ?_)
      | (with_reducible refine LeO.bind ?_ (fun _ => ?_))
      | exact pintleref01_bits.mono _ _ _ _ _ _
      | exact LeO.none _
      | refine LeO.ite ?_ ?_
      | refine LeO.bind ?_ (fun _ => ?_)
set_option maxHeartbeats 8000000 in
set_option maxRecDepth 100000 in
theorem pintleref01_Alu.calls (k : Nat) (a0 : Int) (a1 : Int) (a2 : Int) (r1 : Int) (r2 : Bool) (w : World) (h : pintleref01_Alu.f k a0 a1 a2 = some (r1, r2)) :
    Calls Try.prog 128 #[.int .i64 a0, .int .u32 a1, .int .u32 a2] w fun e w' => e = .returned (.tuple #[.int .u32 r1, .bool r2]) ∧ Drawn0 w w' := by
  have H : ((pintleref01_Signed.f a1).bind fun t376 => ((pintleref01_Signed.f a2).bind fun t377 => (if a0 = 1 then ((pintleref01_Word.f (wrap64 ((wrap64 (a1)) + (wrap64 (a2))))).bind fun t378 => (some (t378, true))) else (if a0 = 2 then ((pintleref01_Word.f (wrap64 ((wrap64 (a1)) - (wrap64 (a2))))).bind fun t379 => (some (t379, true))) else (if a0 = 3 then (if 0 ≤ (IntKind.u64.wrap (wrap64 (Int.tmod a2 32))) then ((pintleref01_Word.f (wrap64 ((wrap64 (a1)) * (shl .i64 1 (IntKind.u64.wrap (wrap64 (Int.tmod a2 32))))))).bind fun t380 => (some (t380, true))) else (none)) else (if a0 = 4 then ((pintleref01_one.f (decide (t376 < t377))).bind fun t381 => ((pintleref01_Word.f t381).bind fun t382 => (some (t382, true)))) else (if a0 = 5 then ((pintleref01_one.f (decide ((wrap64 (a1)) < (wrap64 (a2))))).bind fun t383 => ((pintleref01_Word.f t383).bind fun t384 => (some (t384, true)))) else (if a0 = 6 then ((pintleref01_bits.f k a1 a2 0 1 0).bind fun t385 => (some (t385, true))) else (if a0 = 7 then (if 0 ≤ (IntKind.u64.wrap (wrap64 (Int.tmod a2 32))) then (if (shl .i64 1 (IntKind.u64.wrap (wrap64 (Int.tmod a2 32)))) = 0 then (none) else ((pintleref01_Word.f (wrap64 (Int.tdiv (wrap64 (a1)) (shl .i64 1 (IntKind.u64.wrap (wrap64 (Int.tmod a2 32))))))).bind fun t386 => (some (t386, true)))) else (none)) else (if a0 = 8 then ((pintleref01_floor.f t376 (wrap64 (Int.tmod a2 32))).bind fun t387 => ((pintleref01_Word.f t387).bind fun t388 => (some (t388, true)))) else (if a0 = 9 then ((pintleref01_bits.f k a1 a2 0 1 1).bind fun t389 => (some (t389, true))) else (if a0 = 10 then ((pintleref01_bits.f k a1 a2 0 0 1).bind fun t390 => (some (t390, true))) else ((pintleref01_more.f a0 t376 t377 (wrap64 (a1)) (wrap64 (a2))).bind fun bt391 => (some (bt391.1, bt391.2))))))))))))))) = some (r1, r2) := h
  clear h
  replace H := Option.bind_eq_some_iff.mp H
  obtain ⟨t376, A40, H⟩ := H
  replace H : ((pintleref01_Signed.f a2).bind fun t377 => (if a0 = 1 then ((pintleref01_Word.f (wrap64 ((wrap64 (a1)) + (wrap64 (a2))))).bind fun t378 => (some (t378, true))) else (if a0 = 2 then ((pintleref01_Word.f (wrap64 ((wrap64 (a1)) - (wrap64 (a2))))).bind fun t379 => (some (t379, true))) else (if a0 = 3 then (if 0 ≤ (IntKind.u64.wrap (wrap64 (Int.tmod a2 32))) then ((pintleref01_Word.f (wrap64 ((wrap64 (a1)) * (shl .i64 1 (IntKind.u64.wrap (wrap64 (Int.tmod a2 32))))))).bind fun t380 => (some (t380, true))) else (none)) else (if a0 = 4 then ((pintleref01_one.f (decide (t376 < t377))).bind fun t381 => ((pintleref01_Word.f t381).bind fun t382 => (some (t382, true)))) else (if a0 = 5 then ((pintleref01_one.f (decide ((wrap64 (a1)) < (wrap64 (a2))))).bind fun t383 => ((pintleref01_Word.f t383).bind fun t384 => (some (t384, true)))) else (if a0 = 6 then ((pintleref01_bits.f k a1 a2 0 1 0).bind fun t385 => (some (t385, true))) else (if a0 = 7 then (if 0 ≤ (IntKind.u64.wrap (wrap64 (Int.tmod a2 32))) then (if (shl .i64 1 (IntKind.u64.wrap (wrap64 (Int.tmod a2 32)))) = 0 then (none) else ((pintleref01_Word.f (wrap64 (Int.tdiv (wrap64 (a1)) (shl .i64 1 (IntKind.u64.wrap (wrap64 (Int.tmod a2 32))))))).bind fun t386 => (some (t386, true)))) else (none)) else (if a0 = 8 then ((pintleref01_floor.f t376 (wrap64 (Int.tmod a2 32))).bind fun t387 => ((pintleref01_Word.f t387).bind fun t388 => (some (t388, true)))) else (if a0 = 9 then ((pintleref01_bits.f k a1 a2 0 1 1).bind fun t389 => (some (t389, true))) else (if a0 = 10 then ((pintleref01_bits.f k a1 a2 0 0 1).bind fun t390 => (some (t390, true))) else ((pintleref01_more.f a0 t376 t377 (wrap64 (a1)) (wrap64 (a2))).bind fun bt391 => (some (bt391.1, bt391.2)))))))))))))) = some (r1, r2) := H
  have A4 := Aside0.mk A40
  clear A40
  replace H := Option.bind_eq_some_iff.mp H
  obtain ⟨t377, A50, H⟩ := H
  replace H : (if a0 = 1 then ((pintleref01_Word.f (wrap64 ((wrap64 (a1)) + (wrap64 (a2))))).bind fun t378 => (some (t378, true))) else (if a0 = 2 then ((pintleref01_Word.f (wrap64 ((wrap64 (a1)) - (wrap64 (a2))))).bind fun t379 => (some (t379, true))) else (if a0 = 3 then (if 0 ≤ (IntKind.u64.wrap (wrap64 (Int.tmod a2 32))) then ((pintleref01_Word.f (wrap64 ((wrap64 (a1)) * (shl .i64 1 (IntKind.u64.wrap (wrap64 (Int.tmod a2 32))))))).bind fun t380 => (some (t380, true))) else (none)) else (if a0 = 4 then ((pintleref01_one.f (decide (t376 < t377))).bind fun t381 => ((pintleref01_Word.f t381).bind fun t382 => (some (t382, true)))) else (if a0 = 5 then ((pintleref01_one.f (decide ((wrap64 (a1)) < (wrap64 (a2))))).bind fun t383 => ((pintleref01_Word.f t383).bind fun t384 => (some (t384, true)))) else (if a0 = 6 then ((pintleref01_bits.f k a1 a2 0 1 0).bind fun t385 => (some (t385, true))) else (if a0 = 7 then (if 0 ≤ (IntKind.u64.wrap (wrap64 (Int.tmod a2 32))) then (if (shl .i64 1 (IntKind.u64.wrap (wrap64 (Int.tmod a2 32)))) = 0 then (none) else ((pintleref01_Word.f (wrap64 (Int.tdiv (wrap64 (a1)) (shl .i64 1 (IntKind.u64.wrap (wrap64 (Int.tmod a2 32))))))).bind fun t386 => (some (t386, true)))) else (none)) else (if a0 = 8 then ((pintleref01_floor.f t376 (wrap64 (Int.tmod a2 32))).bind fun t387 => ((pintleref01_Word.f t387).bind fun t388 => (some (t388, true)))) else (if a0 = 9 then ((pintleref01_bits.f k a1 a2 0 1 1).bind fun t389 => (some (t389, true))) else (if a0 = 10 then ((pintleref01_bits.f k a1 a2 0 0 1).bind fun t390 => (some (t390, true))) else ((pintleref01_more.f a0 t376 t377 (wrap64 (a1)) (wrap64 (a2))).bind fun bt391 => (some (bt391.1, bt391.2))))))))))))) = some (r1, r2) := H
  have A5 := Aside0.mk A50
  clear A50
  by_cases c6 : a0 = 1
  · rw [if_pos c6] at H
    have c6b0 : (a0 == 1) = true := beq_iff_eq.mpr c6
    have c6b1 : (a0 != 1) = false := bne_eq_false_iff_eq.mpr c6
    clear c6
    replace H := Option.bind_eq_some_iff.mp H
    obtain ⟨t378, A70, H⟩ := H
    replace H : (some (t378, true)) = some (r1, r2) := H
    have A7 := Aside0.mk A70
    clear A70
    simp only [Option.some.injEq, Prod.mk.injEq] at H
    obtain ⟨rfl, rfl⟩ := H
    go_enter Try.func128, Try.ntmps128
    go_wp2_with (first | ((with_reducible refine gate_callee (f := 131) rfl ?_); refine goesL_ (some 14) rfl rfl Try.func131 (by kernel_rfl) rfl #[.int .u32 a1] rfl (by (try simp only [List.map_toArray, List.map_cons, List.map_nil]); first | done | rfl | (simp only [List.length_drop, List.length_take]; rfl)) ?_; (with_reducible refine (pintleref01_Signed.calls a1 t376 _ A4.out).mono ?_); rintro e w' ⟨rfl, ⟨nd, rfl⟩⟩; refine ⟨_, rfl, ?_⟩) | ((with_reducible refine gate_callee (f := 131) rfl ?_); refine goesL_ (some 16) rfl rfl Try.func131 (by kernel_rfl) rfl #[.int .u32 a2] rfl (by (try simp only [List.map_toArray, List.map_cons, List.map_nil]); first | done | rfl | (simp only [List.length_drop, List.length_take]; rfl)) ?_; (with_reducible refine (pintleref01_Signed.calls a2 t377 _ A5.out).mono ?_); rintro e w' ⟨rfl, ⟨nd, rfl⟩⟩; refine ⟨_, rfl, ?_⟩) | ((with_reducible refine gate_callee (f := 145) rfl ?_); refine goesL_ (some 30) rfl rfl Try.func145 (by kernel_rfl) rfl #[.int .i64 (wrap64 ((wrap64 (a1)) + (wrap64 (a2))))] rfl (by (try simp only [List.map_toArray, List.map_cons, List.map_nil]); first | done | rfl | (simp only [List.length_drop, List.length_take]; rfl)) ?_; (with_reducible refine (pintleref01_Word.calls (wrap64 ((wrap64 (a1)) + (wrap64 (a2)))) t378 _ A7.out).mono ?_); rintro e w' ⟨rfl, ⟨nd, rfl⟩⟩; refine ⟨_, rfl, ?_⟩))
    go_ret2
    exact ⟨by first | rfl | (simp; done) | (simp [*]; done), by repeat (first | exact Drawn0.refl _ | apply Drawn0.step)⟩
  · rw [if_neg c6] at H
    have c6b0 : (a0 == 1) = false := beq_eq_false_iff_ne.mpr c6
    have c6b1 : (a0 != 1) = true := bne_iff_ne.mpr c6
    by_cases c8 : a0 = 2
    · rw [if_pos c8] at H
      have c8b0 : (a0 == 2) = true := beq_iff_eq.mpr c8
      have c8b1 : (a0 != 2) = false := bne_eq_false_iff_eq.mpr c8
      clear c8
      replace H := Option.bind_eq_some_iff.mp H
      obtain ⟨t379, A90, H⟩ := H
      replace H : (some (t379, true)) = some (r1, r2) := H
      have A9 := Aside0.mk A90
      clear A90
      simp only [Option.some.injEq, Prod.mk.injEq] at H
      obtain ⟨rfl, rfl⟩ := H
      go_enter Try.func128, Try.ntmps128
      go_wp2_with (first | ((with_reducible refine gate_callee (f := 131) rfl ?_); refine goesL_ (some 14) rfl rfl Try.func131 (by kernel_rfl) rfl #[.int .u32 a1] rfl (by (try simp only [List.map_toArray, List.map_cons, List.map_nil]); first | done | rfl | (simp only [List.length_drop, List.length_take]; rfl)) ?_; (with_reducible refine (pintleref01_Signed.calls a1 t376 _ A4.out).mono ?_); rintro e w' ⟨rfl, ⟨nd, rfl⟩⟩; refine ⟨_, rfl, ?_⟩) | ((with_reducible refine gate_callee (f := 131) rfl ?_); refine goesL_ (some 16) rfl rfl Try.func131 (by kernel_rfl) rfl #[.int .u32 a2] rfl (by (try simp only [List.map_toArray, List.map_cons, List.map_nil]); first | done | rfl | (simp only [List.length_drop, List.length_take]; rfl)) ?_; (with_reducible refine (pintleref01_Signed.calls a2 t377 _ A5.out).mono ?_); rintro e w' ⟨rfl, ⟨nd, rfl⟩⟩; refine ⟨_, rfl, ?_⟩) | ((with_reducible refine gate_callee (f := 145) rfl ?_); refine goesL_ (some 36) rfl rfl Try.func145 (by kernel_rfl) rfl #[.int .i64 (wrap64 ((wrap64 (a1)) - (wrap64 (a2))))] rfl (by (try simp only [List.map_toArray, List.map_cons, List.map_nil]); first | done | rfl | (simp only [List.length_drop, List.length_take]; rfl)) ?_; (with_reducible refine (pintleref01_Word.calls (wrap64 ((wrap64 (a1)) - (wrap64 (a2)))) t379 _ A9.out).mono ?_); rintro e w' ⟨rfl, ⟨nd, rfl⟩⟩; refine ⟨_, rfl, ?_⟩))
      go_ret2
      exact ⟨by first | rfl | (simp; done) | (simp [*]; done), by repeat (first | exact Drawn0.refl _ | apply Drawn0.step)⟩
    · rw [if_neg c8] at H
      have c8b0 : (a0 == 2) = false := beq_eq_false_iff_ne.mpr c8
      have c8b1 : (a0 != 2) = true := bne_iff_ne.mpr c8
      by_cases c10 : a0 = 3
      · rw [if_pos c10] at H
        have c10b0 : (a0 == 3) = true := beq_iff_eq.mpr c10
        have c10b1 : (a0 != 3) = false := bne_eq_false_iff_eq.mpr c10
        clear c10
        obtain ⟨ji11, hji11⟩ : ∃ j_ : Int, (IntKind.u64.wrap (wrap64 (Int.tmod a2 32))) = j_ := ⟨_, rfl⟩
        replace H : (if 0 ≤ (ji11) then ((pintleref01_Word.f (wrap64 ((wrap64 (a1)) * (shl .i64 1 (ji11))))).bind fun t380 => (some (t380, true))) else (none)) = some (r1, r2) := by first | (rw [hji11] at H; exact H) | (simp only [hji11] at H ⊢; exact H)
        (try rw [hji11] at A4)
        (try rw [hji11] at A5)
        by_cases c12 : 0 ≤ (ji11)
        · rw [if_pos c12] at H
          have c12b0 := eq_true c12
          have c12b1 : decide (0 ≤ (ji11)) = true := decide_eq_true c12
          clear c12
          obtain ⟨ji13, hji13⟩ : ∃ j_ : Int, (shl .i64 1 (ji11)) = j_ := ⟨_, rfl⟩
          replace H : ((pintleref01_Word.f (wrap64 ((wrap64 (a1)) * (ji13)))).bind fun t380 => (some (t380, true))) = some (r1, r2) := by first | (rw [hji13] at H; exact H) | (simp only [hji13] at H ⊢; exact H)
          (try rw [hji13] at A4)
          (try rw [hji13] at A5)
          have hji13_ : (IntKind.i64.wrap (1 * 2 ^ min (ji11).toNat 64)) = ji13 := hji13
          have hji13z : (ji11) ≤ 64 → (IntKind.i64.wrap (1 * 2 ^ (ji11).toNat)) = ji13 := shl_small hji13
          have hji13u : (IntKind.i64.wrap (2 ^ min (ji11).toNat 64)) = ji13 := by have h_ := hji13_; rw [Int.one_mul] at h_; exact h_
          have hji13v : (ji11) ≤ 64 → (IntKind.i64.wrap (2 ^ (ji11).toNat)) = ji13 := fun hle_ => by have h_ := hji13z hle_; rw [Int.one_mul] at h_; exact h_
          have hji13y : (wrap64 (1 * 2 ^ min (ji11).toNat 64)) = ji13 := (i64_w _).symm.trans hji13_
          have hji13x : (ji11) ≤ 64 → (wrap64 (1 * 2 ^ (ji11).toNat)) = ji13 := fun h_ => (i64_w _).symm.trans (hji13z h_)
          replace H := Option.bind_eq_some_iff.mp H
          obtain ⟨t380, A140, H⟩ := H
          replace H : (some (t380, true)) = some (r1, r2) := H
          have A14 := Aside0.mk A140
          clear A140
          simp only [Option.some.injEq, Prod.mk.injEq] at H
          obtain ⟨rfl, rfl⟩ := H
          go_enter Try.func128, Try.ntmps128
          go_wp2_with (first | ((with_reducible refine gate_callee (f := 131) rfl ?_); refine goesL_ (some 14) rfl rfl Try.func131 (by kernel_rfl) rfl #[.int .u32 a1] rfl (by (try simp only [List.map_toArray, List.map_cons, List.map_nil]); first | done | rfl | (simp only [List.length_drop, List.length_take]; rfl)) ?_; (with_reducible refine (pintleref01_Signed.calls a1 t376 _ A4.out).mono ?_); rintro e w' ⟨rfl, ⟨nd, rfl⟩⟩; refine ⟨_, rfl, ?_⟩) | ((with_reducible refine gate_callee (f := 131) rfl ?_); refine goesL_ (some 16) rfl rfl Try.func131 (by kernel_rfl) rfl #[.int .u32 a2] rfl (by (try simp only [List.map_toArray, List.map_cons, List.map_nil]); first | done | rfl | (simp only [List.length_drop, List.length_take]; rfl)) ?_; (with_reducible refine (pintleref01_Signed.calls a2 t377 _ A5.out).mono ?_); rintro e w' ⟨rfl, ⟨nd, rfl⟩⟩; refine ⟨_, rfl, ?_⟩) | ((with_reducible refine gate_callee (f := 145) rfl ?_); refine goesL_ (some 44) rfl rfl Try.func145 (by kernel_rfl) rfl #[.int .i64 (wrap64 ((wrap64 (a1)) * (ji13)))] rfl (by (try simp only [List.map_toArray, List.map_cons, List.map_nil]); first | done | (simp only [hji13]; rfl) | rfl | (simp only [List.length_drop, List.length_take]; rfl)) ?_; (with_reducible refine (pintleref01_Word.calls (wrap64 ((wrap64 (a1)) * (ji13))) t380 _ A14.out).mono ?_); rintro e w' ⟨rfl, ⟨nd, rfl⟩⟩; refine ⟨_, rfl, ?_⟩))
          go_ret2
          exact ⟨by first | rfl | (simp; done) | (simp only [← hji11, ← hji13] <;> (first | rfl | simp)) | (simp [*]; done), by repeat (first | exact Drawn0.refl _ | apply Drawn0.step)⟩
        · rw [if_neg c12] at H
          exact absurd H (by simp)
      · rw [if_neg c10] at H
        have c10b0 : (a0 == 3) = false := beq_eq_false_iff_ne.mpr c10
        have c10b1 : (a0 != 3) = true := bne_iff_ne.mpr c10
        by_cases c15 : a0 = 4
        · rw [if_pos c15] at H
          have c15b0 : (a0 == 4) = true := beq_iff_eq.mpr c15
          have c15b1 : (a0 != 4) = false := bne_eq_false_iff_eq.mpr c15
          clear c15
          replace H := Option.bind_eq_some_iff.mp H
          obtain ⟨t381, A160, H⟩ := H
          replace H : ((pintleref01_Word.f t381).bind fun t382 => (some (t382, true))) = some (r1, r2) := H
          have A16 := Aside0.mk A160
          clear A160
          replace H := Option.bind_eq_some_iff.mp H
          obtain ⟨t382, A170, H⟩ := H
          replace H : (some (t382, true)) = some (r1, r2) := H
          have A17 := Aside0.mk A170
          clear A170
          simp only [Option.some.injEq, Prod.mk.injEq] at H
          obtain ⟨rfl, rfl⟩ := H
          go_enter Try.func128, Try.ntmps128
          go_wp2_with (first | ((with_reducible refine gate_callee (f := 131) rfl ?_); refine goesL_ (some 14) rfl rfl Try.func131 (by kernel_rfl) rfl #[.int .u32 a1] rfl (by (try simp only [List.map_toArray, List.map_cons, List.map_nil]); first | done | rfl | (simp only [List.length_drop, List.length_take]; rfl)) ?_; (with_reducible refine (pintleref01_Signed.calls a1 t376 _ A4.out).mono ?_); rintro e w' ⟨rfl, ⟨nd, rfl⟩⟩; refine ⟨_, rfl, ?_⟩) | ((with_reducible refine gate_callee (f := 131) rfl ?_); refine goesL_ (some 16) rfl rfl Try.func131 (by kernel_rfl) rfl #[.int .u32 a2] rfl (by (try simp only [List.map_toArray, List.map_cons, List.map_nil]); first | done | rfl | (simp only [List.length_drop, List.length_take]; rfl)) ?_; (with_reducible refine (pintleref01_Signed.calls a2 t377 _ A5.out).mono ?_); rintro e w' ⟨rfl, ⟨nd, rfl⟩⟩; refine ⟨_, rfl, ?_⟩) | ((with_reducible refine gate_callee (f := 146) rfl ?_); refine goesL_ (some 50) rfl rfl Try.func146 (by kernel_rfl) rfl #[.bool (decide (t376 < t377))] rfl (by (try simp only [List.map_toArray, List.map_cons, List.map_nil]); first | done | rfl | (simp only [List.length_drop, List.length_take]; rfl)) ?_; (with_reducible refine (pintleref01_one.calls (decide (t376 < t377)) t381 _ A16.out).mono ?_); rintro e w' ⟨rfl, ⟨nd, rfl⟩⟩; refine ⟨_, rfl, ?_⟩) | ((with_reducible refine gate_callee (f := 145) rfl ?_); refine goesL_ (some 51) rfl rfl Try.func145 (by kernel_rfl) rfl #[.int .i64 t381] rfl (by (try simp only [List.map_toArray, List.map_cons, List.map_nil]); first | done | rfl | (simp only [List.length_drop, List.length_take]; rfl)) ?_; (with_reducible refine (pintleref01_Word.calls t381 t382 _ A17.out).mono ?_); rintro e w' ⟨rfl, ⟨nd, rfl⟩⟩; refine ⟨_, rfl, ?_⟩))
          go_ret2
          exact ⟨by first | rfl | (simp; done) | (simp [*]; done), by repeat (first | exact Drawn0.refl _ | apply Drawn0.step)⟩
        · rw [if_neg c15] at H
          have c15b0 : (a0 == 4) = false := beq_eq_false_iff_ne.mpr c15
          have c15b1 : (a0 != 4) = true := bne_iff_ne.mpr c15
          by_cases c18 : a0 = 5
          · rw [if_pos c18] at H
            have c18b0 : (a0 == 5) = true := beq_iff_eq.mpr c18
            have c18b1 : (a0 != 5) = false := bne_eq_false_iff_eq.mpr c18
            clear c18
            replace H := Option.bind_eq_some_iff.mp H
            obtain ⟨t383, A190, H⟩ := H
            replace H : ((pintleref01_Word.f t383).bind fun t384 => (some (t384, true))) = some (r1, r2) := H
            have A19 := Aside0.mk A190
            clear A190
            replace H := Option.bind_eq_some_iff.mp H
            obtain ⟨t384, A200, H⟩ := H
            replace H : (some (t384, true)) = some (r1, r2) := H
            have A20 := Aside0.mk A200
            clear A200
            simp only [Option.some.injEq, Prod.mk.injEq] at H
            obtain ⟨rfl, rfl⟩ := H
            go_enter Try.func128, Try.ntmps128
            go_wp2_with (first | ((with_reducible refine gate_callee (f := 131) rfl ?_); refine goesL_ (some 14) rfl rfl Try.func131 (by kernel_rfl) rfl #[.int .u32 a1] rfl (by (try simp only [List.map_toArray, List.map_cons, List.map_nil]); first | done | rfl | (simp only [List.length_drop, List.length_take]; rfl)) ?_; (with_reducible refine (pintleref01_Signed.calls a1 t376 _ A4.out).mono ?_); rintro e w' ⟨rfl, ⟨nd, rfl⟩⟩; refine ⟨_, rfl, ?_⟩) | ((with_reducible refine gate_callee (f := 131) rfl ?_); refine goesL_ (some 16) rfl rfl Try.func131 (by kernel_rfl) rfl #[.int .u32 a2] rfl (by (try simp only [List.map_toArray, List.map_cons, List.map_nil]); first | done | rfl | (simp only [List.length_drop, List.length_take]; rfl)) ?_; (with_reducible refine (pintleref01_Signed.calls a2 t377 _ A5.out).mono ?_); rintro e w' ⟨rfl, ⟨nd, rfl⟩⟩; refine ⟨_, rfl, ?_⟩) | ((with_reducible refine gate_callee (f := 146) rfl ?_); refine goesL_ (some 57) rfl rfl Try.func146 (by kernel_rfl) rfl #[.bool (decide ((wrap64 (a1)) < (wrap64 (a2))))] rfl (by (try simp only [List.map_toArray, List.map_cons, List.map_nil]); first | done | rfl | (simp only [List.length_drop, List.length_take]; rfl)) ?_; (with_reducible refine (pintleref01_one.calls (decide ((wrap64 (a1)) < (wrap64 (a2)))) t383 _ A19.out).mono ?_); rintro e w' ⟨rfl, ⟨nd, rfl⟩⟩; refine ⟨_, rfl, ?_⟩) | ((with_reducible refine gate_callee (f := 145) rfl ?_); refine goesL_ (some 58) rfl rfl Try.func145 (by kernel_rfl) rfl #[.int .i64 t383] rfl (by (try simp only [List.map_toArray, List.map_cons, List.map_nil]); first | done | rfl | (simp only [List.length_drop, List.length_take]; rfl)) ?_; (with_reducible refine (pintleref01_Word.calls t383 t384 _ A20.out).mono ?_); rintro e w' ⟨rfl, ⟨nd, rfl⟩⟩; refine ⟨_, rfl, ?_⟩))
            go_ret2
            exact ⟨by first | rfl | (simp; done) | (simp [*]; done), by repeat (first | exact Drawn0.refl _ | apply Drawn0.step)⟩
          · rw [if_neg c18] at H
            have c18b0 : (a0 == 5) = false := beq_eq_false_iff_ne.mpr c18
            have c18b1 : (a0 != 5) = true := bne_iff_ne.mpr c18
            by_cases c21 : a0 = 6
            · rw [if_pos c21] at H
              have c21b0 : (a0 == 6) = true := beq_iff_eq.mpr c21
              have c21b1 : (a0 != 6) = false := bne_eq_false_iff_eq.mpr c21
              clear c21
              replace H := Option.bind_eq_some_iff.mp H
              obtain ⟨t385, A220, H⟩ := H
              replace H : (some (t385, true)) = some (r1, r2) := H
              have A22 := Aside0.mk A220
              clear A220
              simp only [Option.some.injEq, Prod.mk.injEq] at H
              obtain ⟨rfl, rfl⟩ := H
              go_enter Try.func128, Try.ntmps128
              go_wp2_with (first | ((with_reducible refine gate_callee (f := 131) rfl ?_); refine goesL_ (some 14) rfl rfl Try.func131 (by kernel_rfl) rfl #[.int .u32 a1] rfl (by (try simp only [List.map_toArray, List.map_cons, List.map_nil]); first | done | rfl | (simp only [List.length_drop, List.length_take]; rfl)) ?_; (with_reducible refine (pintleref01_Signed.calls a1 t376 _ A4.out).mono ?_); rintro e w' ⟨rfl, ⟨nd, rfl⟩⟩; refine ⟨_, rfl, ?_⟩) | ((with_reducible refine gate_callee (f := 131) rfl ?_); refine goesL_ (some 16) rfl rfl Try.func131 (by kernel_rfl) rfl #[.int .u32 a2] rfl (by (try simp only [List.map_toArray, List.map_cons, List.map_nil]); first | done | rfl | (simp only [List.length_drop, List.length_take]; rfl)) ?_; (with_reducible refine (pintleref01_Signed.calls a2 t377 _ A5.out).mono ?_); rintro e w' ⟨rfl, ⟨nd, rfl⟩⟩; refine ⟨_, rfl, ?_⟩) | ((with_reducible refine gate_callee (f := 147) rfl ?_); refine goesL_ (some 63) rfl rfl Try.func147 (by kernel_rfl) rfl #[.int .u32 a1, .int .u32 a2, .int .u32 0, .int .u32 1, .int .u32 0] rfl (by (try simp only [List.map_toArray, List.map_cons, List.map_nil]); first | done | rfl | (simp only [List.length_drop, List.length_take]; rfl)) ?_; (with_reducible refine (pintleref01_bits.calls k a1 a2 0 1 0 t385 _ A22.out).mono ?_); rintro e w' ⟨rfl, ⟨nd, rfl⟩⟩; refine ⟨_, rfl, ?_⟩))
              go_ret2
              exact ⟨by first | rfl | (simp; done) | (simp [*]; done), by repeat (first | exact Drawn0.refl _ | apply Drawn0.step)⟩
            · rw [if_neg c21] at H
              have c21b0 : (a0 == 6) = false := beq_eq_false_iff_ne.mpr c21
              have c21b1 : (a0 != 6) = true := bne_iff_ne.mpr c21
              by_cases c23 : a0 = 7
              · rw [if_pos c23] at H
                have c23b0 : (a0 == 7) = true := beq_iff_eq.mpr c23
                have c23b1 : (a0 != 7) = false := bne_eq_false_iff_eq.mpr c23
                clear c23
                obtain ⟨ji24, hji24⟩ : ∃ j_ : Int, (IntKind.u64.wrap (wrap64 (Int.tmod a2 32))) = j_ := ⟨_, rfl⟩
                replace H : (if 0 ≤ (ji24) then (if (shl .i64 1 (ji24)) = 0 then (none) else ((pintleref01_Word.f (wrap64 (Int.tdiv (wrap64 (a1)) (shl .i64 1 (ji24))))).bind fun t386 => (some (t386, true)))) else (none)) = some (r1, r2) := by first | (rw [hji24] at H; exact H) | (simp only [hji24] at H ⊢; exact H)
                (try rw [hji24] at A4)
                (try rw [hji24] at A5)
                by_cases c25 : 0 ≤ (ji24)
                · rw [if_pos c25] at H
                  have c25b0 := eq_true c25
                  have c25b1 : decide (0 ≤ (ji24)) = true := decide_eq_true c25
                  clear c25
                  obtain ⟨ji26, hji26⟩ : ∃ j_ : Int, (shl .i64 1 (ji24)) = j_ := ⟨_, rfl⟩
                  replace H : (if (ji26) = 0 then (none) else ((pintleref01_Word.f (wrap64 (Int.tdiv (wrap64 (a1)) (ji26)))).bind fun t386 => (some (t386, true)))) = some (r1, r2) := by first | (rw [hji26] at H; exact H) | (simp only [hji26] at H ⊢; exact H)
                  (try rw [hji26] at A4)
                  (try rw [hji26] at A5)
                  have hji26_ : (IntKind.i64.wrap (1 * 2 ^ min (ji24).toNat 64)) = ji26 := hji26
                  have hji26z : (ji24) ≤ 64 → (IntKind.i64.wrap (1 * 2 ^ (ji24).toNat)) = ji26 := shl_small hji26
                  have hji26u : (IntKind.i64.wrap (2 ^ min (ji24).toNat 64)) = ji26 := by have h_ := hji26_; rw [Int.one_mul] at h_; exact h_
                  have hji26v : (ji24) ≤ 64 → (IntKind.i64.wrap (2 ^ (ji24).toNat)) = ji26 := fun hle_ => by have h_ := hji26z hle_; rw [Int.one_mul] at h_; exact h_
                  have hji26y : (wrap64 (1 * 2 ^ min (ji24).toNat 64)) = ji26 := (i64_w _).symm.trans hji26_
                  have hji26x : (ji24) ≤ 64 → (wrap64 (1 * 2 ^ (ji24).toNat)) = ji26 := fun h_ => (i64_w _).symm.trans (hji26z h_)
                  by_cases c27 : (ji26) = 0
                  · rw [if_pos c27] at H
                    exact absurd H (by simp)
                  · rw [if_neg c27] at H
                    have c27b0 : ((ji26) == 0) = false := beq_eq_false_iff_ne.mpr c27
                    have c27b1 : ((ji26) != 0) = true := bne_iff_ne.mpr c27
                    replace H := Option.bind_eq_some_iff.mp H
                    obtain ⟨t386, A280, H⟩ := H
                    replace H : (some (t386, true)) = some (r1, r2) := H
                    have A28 := Aside0.mk A280
                    clear A280
                    simp only [Option.some.injEq, Prod.mk.injEq] at H
                    obtain ⟨rfl, rfl⟩ := H
                    go_enter Try.func128, Try.ntmps128
                    go_wp2_with (first | ((with_reducible refine gate_callee (f := 131) rfl ?_); refine goesL_ (some 14) rfl rfl Try.func131 (by kernel_rfl) rfl #[.int .u32 a1] rfl (by (try simp only [List.map_toArray, List.map_cons, List.map_nil]); first | done | rfl | (simp only [List.length_drop, List.length_take]; rfl)) ?_; (with_reducible refine (pintleref01_Signed.calls a1 t376 _ A4.out).mono ?_); rintro e w' ⟨rfl, ⟨nd, rfl⟩⟩; refine ⟨_, rfl, ?_⟩) | ((with_reducible refine gate_callee (f := 131) rfl ?_); refine goesL_ (some 16) rfl rfl Try.func131 (by kernel_rfl) rfl #[.int .u32 a2] rfl (by (try simp only [List.map_toArray, List.map_cons, List.map_nil]); first | done | rfl | (simp only [List.length_drop, List.length_take]; rfl)) ?_; (with_reducible refine (pintleref01_Signed.calls a2 t377 _ A5.out).mono ?_); rintro e w' ⟨rfl, ⟨nd, rfl⟩⟩; refine ⟨_, rfl, ?_⟩) | ((with_reducible refine gate_callee (f := 145) rfl ?_); refine goesL_ (some 71) rfl rfl Try.func145 (by kernel_rfl) rfl #[.int .i64 (wrap64 (Int.tdiv (wrap64 (a1)) (ji26)))] rfl (by (try simp only [List.map_toArray, List.map_cons, List.map_nil]); first | done | (simp only [hji26]; rfl) | rfl | (simp only [List.length_drop, List.length_take]; rfl)) ?_; (with_reducible refine (pintleref01_Word.calls (wrap64 (Int.tdiv (wrap64 (a1)) (ji26))) t386 _ A28.out).mono ?_); rintro e w' ⟨rfl, ⟨nd, rfl⟩⟩; refine ⟨_, rfl, ?_⟩))
                    go_ret2
                    exact ⟨by first | rfl | (simp; done) | (simp only [← hji24, ← hji26] <;> (first | rfl | simp)) | (simp [*]; done), by repeat (first | exact Drawn0.refl _ | apply Drawn0.step)⟩
                · rw [if_neg c25] at H
                  exact absurd H (by simp)
              · rw [if_neg c23] at H
                have c23b0 : (a0 == 7) = false := beq_eq_false_iff_ne.mpr c23
                have c23b1 : (a0 != 7) = true := bne_iff_ne.mpr c23
                by_cases c29 : a0 = 8
                · rw [if_pos c29] at H
                  have c29b0 : (a0 == 8) = true := beq_iff_eq.mpr c29
                  have c29b1 : (a0 != 8) = false := bne_eq_false_iff_eq.mpr c29
                  clear c29
                  replace H := Option.bind_eq_some_iff.mp H
                  obtain ⟨t387, A300, H⟩ := H
                  replace H : ((pintleref01_Word.f t387).bind fun t388 => (some (t388, true))) = some (r1, r2) := H
                  have A30 := Aside0.mk A300
                  clear A300
                  replace H := Option.bind_eq_some_iff.mp H
                  obtain ⟨t388, A310, H⟩ := H
                  replace H : (some (t388, true)) = some (r1, r2) := H
                  have A31 := Aside0.mk A310
                  clear A310
                  simp only [Option.some.injEq, Prod.mk.injEq] at H
                  obtain ⟨rfl, rfl⟩ := H
                  go_enter Try.func128, Try.ntmps128
                  go_wp2_with (first | ((with_reducible refine gate_callee (f := 131) rfl ?_); refine goesL_ (some 14) rfl rfl Try.func131 (by kernel_rfl) rfl #[.int .u32 a1] rfl (by (try simp only [List.map_toArray, List.map_cons, List.map_nil]); first | done | rfl | (simp only [List.length_drop, List.length_take]; rfl)) ?_; (with_reducible refine (pintleref01_Signed.calls a1 t376 _ A4.out).mono ?_); rintro e w' ⟨rfl, ⟨nd, rfl⟩⟩; refine ⟨_, rfl, ?_⟩) | ((with_reducible refine gate_callee (f := 131) rfl ?_); refine goesL_ (some 16) rfl rfl Try.func131 (by kernel_rfl) rfl #[.int .u32 a2] rfl (by (try simp only [List.map_toArray, List.map_cons, List.map_nil]); first | done | rfl | (simp only [List.length_drop, List.length_take]; rfl)) ?_; (with_reducible refine (pintleref01_Signed.calls a2 t377 _ A5.out).mono ?_); rintro e w' ⟨rfl, ⟨nd, rfl⟩⟩; refine ⟨_, rfl, ?_⟩) | ((with_reducible refine gate_callee (f := 148) rfl ?_); refine goesL_ (some 76) rfl rfl Try.func148 (by kernel_rfl) rfl #[.int .i64 t376, .int .i64 (wrap64 (Int.tmod a2 32))] rfl (by (try simp only [List.map_toArray, List.map_cons, List.map_nil]); first | done | rfl | (simp only [List.length_drop, List.length_take]; rfl)) ?_; (with_reducible refine (pintleref01_floor.calls t376 (wrap64 (Int.tmod a2 32)) t387 _ A30.out).mono ?_); rintro e w' ⟨rfl, ⟨nd, rfl⟩⟩; refine ⟨_, rfl, ?_⟩) | ((with_reducible refine gate_callee (f := 145) rfl ?_); refine goesL_ (some 77) rfl rfl Try.func145 (by kernel_rfl) rfl #[.int .i64 t387] rfl (by (try simp only [List.map_toArray, List.map_cons, List.map_nil]); first | done | rfl | (simp only [List.length_drop, List.length_take]; rfl)) ?_; (with_reducible refine (pintleref01_Word.calls t387 t388 _ A31.out).mono ?_); rintro e w' ⟨rfl, ⟨nd, rfl⟩⟩; refine ⟨_, rfl, ?_⟩))
                  go_ret2
                  exact ⟨by first | rfl | (simp; done) | (simp [*]; done), by repeat (first | exact Drawn0.refl _ | apply Drawn0.step)⟩
                · rw [if_neg c29] at H
                  have c29b0 : (a0 == 8) = false := beq_eq_false_iff_ne.mpr c29
                  have c29b1 : (a0 != 8) = true := bne_iff_ne.mpr c29
                  by_cases c32 : a0 = 9
                  · rw [if_pos c32] at H
                    have c32b0 : (a0 == 9) = true := beq_iff_eq.mpr c32
                    have c32b1 : (a0 != 9) = false := bne_eq_false_iff_eq.mpr c32
                    clear c32
                    replace H := Option.bind_eq_some_iff.mp H
                    obtain ⟨t389, A330, H⟩ := H
                    replace H : (some (t389, true)) = some (r1, r2) := H
                    have A33 := Aside0.mk A330
                    clear A330
                    simp only [Option.some.injEq, Prod.mk.injEq] at H
                    obtain ⟨rfl, rfl⟩ := H
                    go_enter Try.func128, Try.ntmps128
                    go_wp2_with (first | ((with_reducible refine gate_callee (f := 131) rfl ?_); refine goesL_ (some 14) rfl rfl Try.func131 (by kernel_rfl) rfl #[.int .u32 a1] rfl (by (try simp only [List.map_toArray, List.map_cons, List.map_nil]); first | done | rfl | (simp only [List.length_drop, List.length_take]; rfl)) ?_; (with_reducible refine (pintleref01_Signed.calls a1 t376 _ A4.out).mono ?_); rintro e w' ⟨rfl, ⟨nd, rfl⟩⟩; refine ⟨_, rfl, ?_⟩) | ((with_reducible refine gate_callee (f := 131) rfl ?_); refine goesL_ (some 16) rfl rfl Try.func131 (by kernel_rfl) rfl #[.int .u32 a2] rfl (by (try simp only [List.map_toArray, List.map_cons, List.map_nil]); first | done | rfl | (simp only [List.length_drop, List.length_take]; rfl)) ?_; (with_reducible refine (pintleref01_Signed.calls a2 t377 _ A5.out).mono ?_); rintro e w' ⟨rfl, ⟨nd, rfl⟩⟩; refine ⟨_, rfl, ?_⟩) | ((with_reducible refine gate_callee (f := 147) rfl ?_); refine goesL_ (some 82) rfl rfl Try.func147 (by kernel_rfl) rfl #[.int .u32 a1, .int .u32 a2, .int .u32 0, .int .u32 1, .int .u32 1] rfl (by (try simp only [List.map_toArray, List.map_cons, List.map_nil]); first | done | rfl | (simp only [List.length_drop, List.length_take]; rfl)) ?_; (with_reducible refine (pintleref01_bits.calls k a1 a2 0 1 1 t389 _ A33.out).mono ?_); rintro e w' ⟨rfl, ⟨nd, rfl⟩⟩; refine ⟨_, rfl, ?_⟩))
                    go_ret2
                    exact ⟨by first | rfl | (simp; done) | (simp [*]; done), by repeat (first | exact Drawn0.refl _ | apply Drawn0.step)⟩
                  · rw [if_neg c32] at H
                    have c32b0 : (a0 == 9) = false := beq_eq_false_iff_ne.mpr c32
                    have c32b1 : (a0 != 9) = true := bne_iff_ne.mpr c32
                    by_cases c34 : a0 = 10
                    · rw [if_pos c34] at H
                      have c34b0 : (a0 == 10) = true := beq_iff_eq.mpr c34
                      have c34b1 : (a0 != 10) = false := bne_eq_false_iff_eq.mpr c34
                      clear c34
                      replace H := Option.bind_eq_some_iff.mp H
                      obtain ⟨t390, A350, H⟩ := H
                      replace H : (some (t390, true)) = some (r1, r2) := H
                      have A35 := Aside0.mk A350
                      clear A350
                      simp only [Option.some.injEq, Prod.mk.injEq] at H
                      obtain ⟨rfl, rfl⟩ := H
                      go_enter Try.func128, Try.ntmps128
                      go_wp2_with (first | ((with_reducible refine gate_callee (f := 131) rfl ?_); refine goesL_ (some 14) rfl rfl Try.func131 (by kernel_rfl) rfl #[.int .u32 a1] rfl (by (try simp only [List.map_toArray, List.map_cons, List.map_nil]); first | done | rfl | (simp only [List.length_drop, List.length_take]; rfl)) ?_; (with_reducible refine (pintleref01_Signed.calls a1 t376 _ A4.out).mono ?_); rintro e w' ⟨rfl, ⟨nd, rfl⟩⟩; refine ⟨_, rfl, ?_⟩) | ((with_reducible refine gate_callee (f := 131) rfl ?_); refine goesL_ (some 16) rfl rfl Try.func131 (by kernel_rfl) rfl #[.int .u32 a2] rfl (by (try simp only [List.map_toArray, List.map_cons, List.map_nil]); first | done | rfl | (simp only [List.length_drop, List.length_take]; rfl)) ?_; (with_reducible refine (pintleref01_Signed.calls a2 t377 _ A5.out).mono ?_); rintro e w' ⟨rfl, ⟨nd, rfl⟩⟩; refine ⟨_, rfl, ?_⟩) | ((with_reducible refine gate_callee (f := 147) rfl ?_); refine goesL_ (some 87) rfl rfl Try.func147 (by kernel_rfl) rfl #[.int .u32 a1, .int .u32 a2, .int .u32 0, .int .u32 0, .int .u32 1] rfl (by (try simp only [List.map_toArray, List.map_cons, List.map_nil]); first | done | rfl | (simp only [List.length_drop, List.length_take]; rfl)) ?_; (with_reducible refine (pintleref01_bits.calls k a1 a2 0 0 1 t390 _ A35.out).mono ?_); rintro e w' ⟨rfl, ⟨nd, rfl⟩⟩; refine ⟨_, rfl, ?_⟩))
                      go_ret2
                      exact ⟨by first | rfl | (simp; done) | (simp [*]; done), by repeat (first | exact Drawn0.refl _ | apply Drawn0.step)⟩
                    · rw [if_neg c34] at H
                      have c34b0 : (a0 == 10) = false := beq_eq_false_iff_ne.mpr c34
                      have c34b1 : (a0 != 10) = true := bne_iff_ne.mpr c34
                      replace H := Option.bind_eq_some_iff.mp H
                      obtain ⟨⟨t391, t392⟩, A360, H⟩ := H
                      replace H : (some (t391, t392)) = some (r1, r2) := H
                      have A36 := Aside0.mk A360
                      clear A360
                      simp only [Option.some.injEq, Prod.mk.injEq] at H
                      obtain ⟨rfl, rfl⟩ := H
                      go_enter Try.func128, Try.ntmps128
                      go_wp2_with (first | ((with_reducible refine gate_callee (f := 131) rfl ?_); refine goesL_ (some 14) rfl rfl Try.func131 (by kernel_rfl) rfl #[.int .u32 a1] rfl (by (try simp only [List.map_toArray, List.map_cons, List.map_nil]); first | done | rfl | (simp only [List.length_drop, List.length_take]; rfl)) ?_; (with_reducible refine (pintleref01_Signed.calls a1 t376 _ A4.out).mono ?_); rintro e w' ⟨rfl, ⟨nd, rfl⟩⟩; refine ⟨_, rfl, ?_⟩) | ((with_reducible refine gate_callee (f := 131) rfl ?_); refine goesL_ (some 16) rfl rfl Try.func131 (by kernel_rfl) rfl #[.int .u32 a2] rfl (by (try simp only [List.map_toArray, List.map_cons, List.map_nil]); first | done | rfl | (simp only [List.length_drop, List.length_take]; rfl)) ?_; (with_reducible refine (pintleref01_Signed.calls a2 t377 _ A5.out).mono ?_); rintro e w' ⟨rfl, ⟨nd, rfl⟩⟩; refine ⟨_, rfl, ?_⟩) | ((with_reducible refine gate_callee (f := 149) rfl ?_); refine goesL_ (some 93) rfl rfl Try.func149 (by kernel_rfl) rfl #[.int .i64 a0, .int .i64 t376, .int .i64 t377, .int .i64 (wrap64 (a1)), .int .i64 (wrap64 (a2))] rfl (by (try simp only [List.map_toArray, List.map_cons, List.map_nil]); first | done | rfl | (simp only [List.length_drop, List.length_take]; rfl)) ?_; (with_reducible refine (pintleref01_more.calls a0 t376 t377 (wrap64 (a1)) (wrap64 (a2)) t391 t392 _ A36.out).mono ?_); rintro e w' ⟨rfl, ⟨nd, rfl⟩⟩; refine ⟨_, rfl, ?_⟩))
                      go_ret2
                      exact ⟨by first | rfl | (simp; done) | (simp [*]; done), by repeat (first | exact Drawn0.refl _ | apply Drawn0.step)⟩

end Go.Proofs.Ytioopcilcgebeaa.PCpu
/-! #### PCpux46 -/
namespace Go.Proofs.Ytioopcilcgebeaa.PCpu
open Go.RowKit Go.Proofs.YtioopcilcgebeaaW.PrintWords Go.Proofs.YtioopcilcgebeaaW.PrintLast Go.Proofs.YtioopcilcgebeaaW.PrintMore
attribute [local go_sem] max2_int min2_int max_two min_two max_three min_three max_four min_four   -- for this text's walks alone

/-! ### cpu_size: function 125 -/
def cpu_size.j0 : Nat → Int → Bool → Option (Int)
  | 0, _, _ => none
  | k + 1, x3, x4 => if x4 = true then (some 1) else (if x3 = 29 then (some 2) else (if x3 = 32 then (some 2) else (if x3 = 34 then (some 2) else (some 4))))
def cpu_size.f (k : Nat) (a0 : Int) : Option (Int) := if a0 = 28 then (cpu_size.j0 k a0 (a0 == 28)) else (if a0 = 31 then (cpu_size.j0 k a0 (a0 == 31)) else (cpu_size.j0 k a0 (a0 == 33)))
theorem cpu_size.mono_l : ∀ k, (∀ y0 y1, LeO (cpu_size.j0 k y0 y1) (cpu_size.j0 (k + 1) y0 y1))
  | 0 => fun _ _ r h => by simp [cpu_size.j0] at h
  | k + 1 => by
    have ih0 := cpu_size.mono_l k
    · intro y0 y1
      unfold cpu_size.j0
      repeat' first
      | (with_reducible exact ih0 _ _)
      | (with_reducible exact LeO.refl _)
      | (with_reducible exact LeO.none _)
      | (with_reducible refine LeO.ite ?_ ?_)
      | (with_reducible refine LeO.bind ?_ (fun _ => ?_))
      | exact ih0 _ _
      | exact LeO.none _
      | refine LeO.ite ?_ ?_
      | refine LeO.bind ?_ (fun _ => ?_)
theorem cpu_size.mono : ∀ a0 k, LeO (cpu_size.f k a0) (cpu_size.f (k + 1) a0) := by
  intro a0 k
  have ih0 := cpu_size.mono_l k
  unfold cpu_size.f
  repeat' first
      | (with_reducible exact ih0 _ _)
      | (with_reducible exact LeO.refl _)
      | (with_reducible exact LeO.none _)
      | (with_reducible refine LeO.ite ?_ ?_)
      | (with_reducible refine LeO.bind ?_ (fun _ => ?_))
      | exact ih0 _ _
      | exact LeO.none _
      | refine LeO.ite ?_ ?_
      | refine LeO.bind ?_ (fun _ => ?_)
set_option maxHeartbeats 8000000 in
set_option maxRecDepth 100000 in
theorem cpu_size.calls (k : Nat) (a0 : Int) (r : Int) (w : World) (h : cpu_size.f k a0 = some r) :
    Calls Try.prog 125 #[.int .i64 a0] w fun e w' => e = .returned (.int .i64 r) ∧ Drawn0 w w' := by
  have H : (if a0 = 28 then (cpu_size.j0 k a0 (a0 == 28)) else (if a0 = 31 then (cpu_size.j0 k a0 (a0 == 31)) else (cpu_size.j0 k a0 (a0 == 33)))) = some r := h
  clear h
  have HC2 := Aside0.mk H
  clear H
  go_enter Try.func125, Try.ntmps125
  go_upto_if 4 with (fail)
  go_cut [4] (fun v4 wc => ∃ (kq : Nat) (x4_1 : Bool), v4 = .bool x4_1 ∧ Aside0 (cpu_size.j0 kq a0 x4_1 = some r) ∧ Aside0 (kq ≤ k) ∧ Drawn0 w wc)
  case first =>
    have H := HC2.out
    clear HC2
    by_cases c3 : a0 = 28
    · rw [if_pos c3] at H
      have c3b0 : (a0 == 28) = true := beq_iff_eq.mpr c3
      have c3b1 : (a0 != 28) = false := bne_eq_false_iff_eq.mpr c3
      clear c3
      (first | rw [c3b0] | (simp only [i64_w, i32_w]; rw [c3b0]) | skip)
      have H' := Aside0.mk H
      clear H
      go_wp2
      go_meet
      case rel => exact ⟨_, ((a0 == 28)), (by first | rfl | (simp; done) | (simp [*]; done)), H', ⟨by first | omega | exact Nat.le_refl _⟩, by repeat (first | exact Drawn0.refl _ | apply Drawn0.step)⟩
    · rw [if_neg c3] at H
      have c3b0 : (a0 == 28) = false := beq_eq_false_iff_ne.mpr c3
      have c3b1 : (a0 != 28) = true := bne_iff_ne.mpr c3
      (first | rw [c3b0] | (simp only [i64_w, i32_w]; rw [c3b0]) | skip)
      by_cases c4 : a0 = 31
      · rw [if_pos c4] at H
        have c4b0 : (a0 == 31) = true := beq_iff_eq.mpr c4
        have c4b1 : (a0 != 31) = false := bne_eq_false_iff_eq.mpr c4
        clear c4
        have H' := Aside0.mk H
        clear H
        go_wp2
        go_meet
        case rel => exact ⟨_, ((a0 == 31)), (by first | rfl | (simp; done) | (simp [*]; done)), H', ⟨by first | omega | exact Nat.le_refl _⟩, by repeat (first | exact Drawn0.refl _ | apply Drawn0.step)⟩
      · rw [if_neg c4] at H
        have c4b0 : (a0 == 31) = false := beq_eq_false_iff_ne.mpr c4
        have c4b1 : (a0 != 31) = true := bne_iff_ne.mpr c4
        have H' := Aside0.mk H
        clear H
        go_wp2
        go_meet
        case rel => exact ⟨_, ((a0 == 33)), (by first | rfl | (simp; done) | (simp [*]; done)), H', ⟨by first | omega | exact Nat.le_refl _⟩, by repeat (first | exact Drawn0.refl _ | apply Drawn0.step)⟩
  case rest =>
    clear HC2
    try clear c1
    try clear p2
    try clear c3
    try clear c3b0
    try clear c3b1
    try clear c4
    try clear c4b0
    try clear c4b1
    obtain ⟨kq, x4_1, rfl, HA, HJ1, ⟨mc1, rfl⟩⟩ := hcut
    cases kq with
    | zero => exact absurd HA.out (by simp [cpu_size.j0])
    | succ kj1 =>
      have H := HA.out
      clear HA
      simp only [cpu_size.j0] at H
      by_cases c5 : x4_1 = true
      · subst c5
        have H1 : (some 1) = some r := by rw [if_pos rfl] at H; exact H
        clear H
        have H := H1
        clear H1
        obtain rfl := Option.some.inj H
        go_wp2
        go_ret
        exact ⟨by first | rfl | (simp; done) | (simp [*]; done), by repeat (first | exact Drawn0.refl _ | apply Drawn0.step)⟩
      · replace c5 := Bool.eq_false_iff.mpr c5
        subst c5
        have H1 : (if a0 = 29 then (some 2) else (if a0 = 32 then (some 2) else (if a0 = 34 then (some 2) else (some 4)))) = some r := by rw [if_neg (show ¬ (false = true) by decide)] at H; exact H
        clear H
        have H := H1
        clear H1
        by_cases c6 : a0 = 29
        · rw [if_pos c6] at H
          have c6b0 : (a0 == 29) = true := beq_iff_eq.mpr c6
          have c6b1 : (a0 != 29) = false := bne_eq_false_iff_eq.mpr c6
          clear c6
          obtain rfl := Option.some.inj H
          go_wp2
          go_ret
          exact ⟨by first | rfl | (simp; done) | (simp [*]; done), by repeat (first | exact Drawn0.refl _ | apply Drawn0.step)⟩
        · rw [if_neg c6] at H
          have c6b0 : (a0 == 29) = false := beq_eq_false_iff_ne.mpr c6
          have c6b1 : (a0 != 29) = true := bne_iff_ne.mpr c6
          by_cases c7 : a0 = 32
          · rw [if_pos c7] at H
            have c7b0 : (a0 == 32) = true := beq_iff_eq.mpr c7
            have c7b1 : (a0 != 32) = false := bne_eq_false_iff_eq.mpr c7
            clear c7
            obtain rfl := Option.some.inj H
            go_wp2
            go_ret
            exact ⟨by first | rfl | (simp; done) | (simp [*]; done), by repeat (first | exact Drawn0.refl _ | apply Drawn0.step)⟩
          · rw [if_neg c7] at H
            have c7b0 : (a0 == 32) = false := beq_eq_false_iff_ne.mpr c7
            have c7b1 : (a0 != 32) = true := bne_iff_ne.mpr c7
            by_cases c8 : a0 = 34
            · rw [if_pos c8] at H
              have c8b0 : (a0 == 34) = true := beq_iff_eq.mpr c8
              have c8b1 : (a0 != 34) = false := bne_eq_false_iff_eq.mpr c8
              clear c8
              obtain rfl := Option.some.inj H
              go_wp2
              go_ret
              exact ⟨by first | rfl | (simp; done) | (simp [*]; done), by repeat (first | exact Drawn0.refl _ | apply Drawn0.step)⟩
            · rw [if_neg c8] at H
              have c8b0 : (a0 == 34) = false := beq_eq_false_iff_ne.mpr c8
              have c8b1 : (a0 != 34) = true := bne_iff_ne.mpr c8
              obtain rfl := Option.some.inj H
              go_wp2
              go_ret
              exact ⟨by first | rfl | (simp; done) | (simp [*]; done), by repeat (first | exact Drawn0.refl _ | apply Drawn0.step)⟩

end Go.Proofs.Ytioopcilcgebeaa.PCpu
/-! #### PCpux50 -/
namespace Go.Proofs.Ytioopcilcgebeaa.PCpu
open Go.RowKit Go.Proofs.YtioopcilcgebeaaW.PrintWords Go.Proofs.YtioopcilcgebeaaW.PrintLast Go.Proofs.YtioopcilcgebeaaW.PrintMore
attribute [local go_sem] max2_int min2_int max_two min_two max_three min_three max_four min_four   -- for this text's walks alone

/-! ### cpu_takes: function 92 -/
def cpu_takes.f (a0 : Int) (a1 : Int) (a2 : Int) : Option (Bool) := if a0 = 36 then (some (a1 == a2)) else (if a0 = 37 then (some (a1 != a2)) else (if a0 = 38 then (some (decide ((wrap32 (a1)) < (wrap32 (a2))))) else (if a0 = 39 then (some (decide ((wrap32 (a1)) ≥ (wrap32 (a2))))) else (if a0 = 40 then (some (decide (a1 < a2))) else (some (decide (a1 ≥ a2)))))))
set_option maxHeartbeats 8000000 in
set_option maxRecDepth 100000 in
theorem cpu_takes.calls (a0 : Int) (a1 : Int) (a2 : Int) (r : Bool) (w : World) (h : cpu_takes.f a0 a1 a2 = some r) :
    Calls Try.prog 92 #[.int .i64 a0, .int .u32 a1, .int .u32 a2] w fun e w' => e = .returned (.bool r) ∧ Drawn0 w w' := by
  have H : (if a0 = 36 then (some (a1 == a2)) else (if a0 = 37 then (some (a1 != a2)) else (if a0 = 38 then (some (decide ((wrap32 (a1)) < (wrap32 (a2))))) else (if a0 = 39 then (some (decide ((wrap32 (a1)) ≥ (wrap32 (a2))))) else (if a0 = 40 then (some (decide (a1 < a2))) else (some (decide (a1 ≥ a2)))))))) = some r := h
  clear h
  by_cases c4 : a0 = 36
  · rw [if_pos c4] at H
    have c4b0 : (a0 == 36) = true := beq_iff_eq.mpr c4
    have c4b1 : (a0 != 36) = false := bne_eq_false_iff_eq.mpr c4
    clear c4
    obtain rfl := Option.some.inj H
    go_enter Try.func92, Try.ntmps92
    go_wp2
    go_ret
    exact ⟨by first | rfl | (simp; done) | (simp [*]; done), by repeat (first | exact Drawn0.refl _ | apply Drawn0.step)⟩
  · rw [if_neg c4] at H
    have c4b0 : (a0 == 36) = false := beq_eq_false_iff_ne.mpr c4
    have c4b1 : (a0 != 36) = true := bne_iff_ne.mpr c4
    by_cases c5 : a0 = 37
    · rw [if_pos c5] at H
      have c5b0 : (a0 == 37) = true := beq_iff_eq.mpr c5
      have c5b1 : (a0 != 37) = false := bne_eq_false_iff_eq.mpr c5
      clear c5
      obtain rfl := Option.some.inj H
      go_enter Try.func92, Try.ntmps92
      go_wp2
      go_ret
      exact ⟨by first | rfl | (simp; done) | (simp [*]; done), by repeat (first | exact Drawn0.refl _ | apply Drawn0.step)⟩
    · rw [if_neg c5] at H
      have c5b0 : (a0 == 37) = false := beq_eq_false_iff_ne.mpr c5
      have c5b1 : (a0 != 37) = true := bne_iff_ne.mpr c5
      by_cases c6 : a0 = 38
      · rw [if_pos c6] at H
        have c6b0 : (a0 == 38) = true := beq_iff_eq.mpr c6
        have c6b1 : (a0 != 38) = false := bne_eq_false_iff_eq.mpr c6
        clear c6
        obtain rfl := Option.some.inj H
        go_enter Try.func92, Try.ntmps92
        go_wp2
        go_ret
        exact ⟨by first | rfl | (simp; done) | (simp [*]; done), by repeat (first | exact Drawn0.refl _ | apply Drawn0.step)⟩
      · rw [if_neg c6] at H
        have c6b0 : (a0 == 38) = false := beq_eq_false_iff_ne.mpr c6
        have c6b1 : (a0 != 38) = true := bne_iff_ne.mpr c6
        by_cases c7 : a0 = 39
        · rw [if_pos c7] at H
          have c7b0 : (a0 == 39) = true := beq_iff_eq.mpr c7
          have c7b1 : (a0 != 39) = false := bne_eq_false_iff_eq.mpr c7
          clear c7
          obtain rfl := Option.some.inj H
          go_enter Try.func92, Try.ntmps92
          go_wp2
          go_ret
          exact ⟨by first | rfl | (simp; done) | (simp [*]; done), by repeat (first | exact Drawn0.refl _ | apply Drawn0.step)⟩
        · rw [if_neg c7] at H
          have c7b0 : (a0 == 39) = false := beq_eq_false_iff_ne.mpr c7
          have c7b1 : (a0 != 39) = true := bne_iff_ne.mpr c7
          by_cases c8 : a0 = 40
          · rw [if_pos c8] at H
            have c8b0 : (a0 == 40) = true := beq_iff_eq.mpr c8
            have c8b1 : (a0 != 40) = false := bne_eq_false_iff_eq.mpr c8
            clear c8
            obtain rfl := Option.some.inj H
            go_enter Try.func92, Try.ntmps92
            go_wp2
            go_ret
            exact ⟨by first | rfl | (simp; done) | (simp [*]; done), by repeat (first | exact Drawn0.refl _ | apply Drawn0.step)⟩
          · rw [if_neg c8] at H
            have c8b0 : (a0 == 40) = false := beq_eq_false_iff_ne.mpr c8
            have c8b1 : (a0 != 40) = true := bne_iff_ne.mpr c8
            obtain rfl := Option.some.inj H
            go_enter Try.func92, Try.ntmps92
            go_wp2
            go_ret
            exact ⟨by first | rfl | (simp; done) | (simp [*]; done), by repeat (first | exact Drawn0.refl _ | apply Drawn0.step)⟩

end Go.Proofs.Ytioopcilcgebeaa.PCpu
/-! #### PCpux43 -/
namespace Go.Proofs.Ytioopcilcgebeaa.PCpu
open Go.RowKit Go.Proofs.YtioopcilcgebeaaW.PrintWords Go.Proofs.YtioopcilcgebeaaW.PrintLast Go.Proofs.YtioopcilcgebeaaW.PrintMore
attribute [local go_sem] max2_int min2_int max_two min_two max_three min_three max_four min_four   -- for this text's walks alone

/-! ### cpu_plain: function 89 -/
def cpu_plain.f (a0 : Int) : Option (Int) := if a0 = 19 then (some 1) else (if a0 = 20 then (some 4) else (if a0 = 21 then (some 5) else (if a0 = 22 then (some 6) else (if a0 = 23 then (some 9) else (if a0 = 24 then (some 10) else (if a0 = 25 then (some 3) else (if a0 = 26 then (some 7) else (some 8))))))))
set_option maxHeartbeats 8000000 in
set_option maxRecDepth 100000 in
theorem cpu_plain.calls (a0 : Int) (r : Int) (w : World) (h : cpu_plain.f a0 = some r) :
    Calls Try.prog 89 #[.int .i64 a0] w fun e w' => e = .returned (.int .i64 r) ∧ Drawn0 w w' := by
  have H : (if a0 = 19 then (some 1) else (if a0 = 20 then (some 4) else (if a0 = 21 then (some 5) else (if a0 = 22 then (some 6) else (if a0 = 23 then (some 9) else (if a0 = 24 then (some 10) else (if a0 = 25 then (some 3) else (if a0 = 26 then (some 7) else (some 8))))))))) = some r := h
  clear h
  by_cases c2 : a0 = 19
  · rw [if_pos c2] at H
    have c2b0 : (a0 == 19) = true := beq_iff_eq.mpr c2
    have c2b1 : (a0 != 19) = false := bne_eq_false_iff_eq.mpr c2
    clear c2
    obtain rfl := Option.some.inj H
    go_enter Try.func89, Try.ntmps89
    go_wp2
    go_ret
    exact ⟨by first | rfl | (simp; done) | (simp [*]; done), by repeat (first | exact Drawn0.refl _ | apply Drawn0.step)⟩
  · rw [if_neg c2] at H
    have c2b0 : (a0 == 19) = false := beq_eq_false_iff_ne.mpr c2
    have c2b1 : (a0 != 19) = true := bne_iff_ne.mpr c2
    by_cases c3 : a0 = 20
    · rw [if_pos c3] at H
      have c3b0 : (a0 == 20) = true := beq_iff_eq.mpr c3
      have c3b1 : (a0 != 20) = false := bne_eq_false_iff_eq.mpr c3
      clear c3
      obtain rfl := Option.some.inj H
      go_enter Try.func89, Try.ntmps89
      go_wp2
      go_ret
      exact ⟨by first | rfl | (simp; done) | (simp [*]; done), by repeat (first | exact Drawn0.refl _ | apply Drawn0.step)⟩
    · rw [if_neg c3] at H
      have c3b0 : (a0 == 20) = false := beq_eq_false_iff_ne.mpr c3
      have c3b1 : (a0 != 20) = true := bne_iff_ne.mpr c3
      by_cases c4 : a0 = 21
      · rw [if_pos c4] at H
        have c4b0 : (a0 == 21) = true := beq_iff_eq.mpr c4
        have c4b1 : (a0 != 21) = false := bne_eq_false_iff_eq.mpr c4
        clear c4
        obtain rfl := Option.some.inj H
        go_enter Try.func89, Try.ntmps89
        go_wp2
        go_ret
        exact ⟨by first | rfl | (simp; done) | (simp [*]; done), by repeat (first | exact Drawn0.refl _ | apply Drawn0.step)⟩
      · rw [if_neg c4] at H
        have c4b0 : (a0 == 21) = false := beq_eq_false_iff_ne.mpr c4
        have c4b1 : (a0 != 21) = true := bne_iff_ne.mpr c4
        by_cases c5 : a0 = 22
        · rw [if_pos c5] at H
          have c5b0 : (a0 == 22) = true := beq_iff_eq.mpr c5
          have c5b1 : (a0 != 22) = false := bne_eq_false_iff_eq.mpr c5
          clear c5
          obtain rfl := Option.some.inj H
          go_enter Try.func89, Try.ntmps89
          go_wp2
          go_ret
          exact ⟨by first | rfl | (simp; done) | (simp [*]; done), by repeat (first | exact Drawn0.refl _ | apply Drawn0.step)⟩
        · rw [if_neg c5] at H
          have c5b0 : (a0 == 22) = false := beq_eq_false_iff_ne.mpr c5
          have c5b1 : (a0 != 22) = true := bne_iff_ne.mpr c5
          by_cases c6 : a0 = 23
          · rw [if_pos c6] at H
            have c6b0 : (a0 == 23) = true := beq_iff_eq.mpr c6
            have c6b1 : (a0 != 23) = false := bne_eq_false_iff_eq.mpr c6
            clear c6
            obtain rfl := Option.some.inj H
            go_enter Try.func89, Try.ntmps89
            go_wp2
            go_ret
            exact ⟨by first | rfl | (simp; done) | (simp [*]; done), by repeat (first | exact Drawn0.refl _ | apply Drawn0.step)⟩
          · rw [if_neg c6] at H
            have c6b0 : (a0 == 23) = false := beq_eq_false_iff_ne.mpr c6
            have c6b1 : (a0 != 23) = true := bne_iff_ne.mpr c6
            by_cases c7 : a0 = 24
            · rw [if_pos c7] at H
              have c7b0 : (a0 == 24) = true := beq_iff_eq.mpr c7
              have c7b1 : (a0 != 24) = false := bne_eq_false_iff_eq.mpr c7
              clear c7
              obtain rfl := Option.some.inj H
              go_enter Try.func89, Try.ntmps89
              go_wp2
              go_ret
              exact ⟨by first | rfl | (simp; done) | (simp [*]; done), by repeat (first | exact Drawn0.refl _ | apply Drawn0.step)⟩
            · rw [if_neg c7] at H
              have c7b0 : (a0 == 24) = false := beq_eq_false_iff_ne.mpr c7
              have c7b1 : (a0 != 24) = true := bne_iff_ne.mpr c7
              by_cases c8 : a0 = 25
              · rw [if_pos c8] at H
                have c8b0 : (a0 == 25) = true := beq_iff_eq.mpr c8
                have c8b1 : (a0 != 25) = false := bne_eq_false_iff_eq.mpr c8
                clear c8
                obtain rfl := Option.some.inj H
                go_enter Try.func89, Try.ntmps89
                go_wp2
                go_ret
                exact ⟨by first | rfl | (simp; done) | (simp [*]; done), by repeat (first | exact Drawn0.refl _ | apply Drawn0.step)⟩
              · rw [if_neg c8] at H
                have c8b0 : (a0 == 25) = false := beq_eq_false_iff_ne.mpr c8
                have c8b1 : (a0 != 25) = true := bne_iff_ne.mpr c8
                by_cases c9 : a0 = 26
                · rw [if_pos c9] at H
                  have c9b0 : (a0 == 26) = true := beq_iff_eq.mpr c9
                  have c9b1 : (a0 != 26) = false := bne_eq_false_iff_eq.mpr c9
                  clear c9
                  obtain rfl := Option.some.inj H
                  go_enter Try.func89, Try.ntmps89
                  go_wp2
                  go_ret
                  exact ⟨by first | rfl | (simp; done) | (simp [*]; done), by repeat (first | exact Drawn0.refl _ | apply Drawn0.step)⟩
                · rw [if_neg c9] at H
                  have c9b0 : (a0 == 26) = false := beq_eq_false_iff_ne.mpr c9
                  have c9b1 : (a0 != 26) = true := bne_iff_ne.mpr c9
                  obtain rfl := Option.some.inj H
                  go_enter Try.func89, Try.ntmps89
                  go_wp2
                  go_ret
                  exact ⟨by first | rfl | (simp; done) | (simp [*]; done), by repeat (first | exact Drawn0.refl _ | apply Drawn0.step)⟩

end Go.Proofs.Ytioopcilcgebeaa.PCpu
/-! #### PCpux56 -/
namespace Go.Proofs.Ytioopcilcgebeaa.PCpu
open Go.RowKit Go.Proofs.YtioopcilcgebeaaW.PrintWords Go.Proofs.YtioopcilcgebeaaW.PrintLast Go.Proofs.YtioopcilcgebeaaW.PrintMore
attribute [local go_sem] max2_int min2_int max_two min_two max_three min_three max_four min_four   -- for this text's walks alone

/-! ### pintleref05_in: function 107 -/
def pintleref05_in.f (a0 : Int) (a1 : Int) (a2 : Int) (a3 : Int) : Option (Bool) := if a3 ≥ 0 then (if (wrap64 (a2)) ≥ (wrap64 (a0)) then (some (decide (a3 ≤ (wrap64 ((wrap64 ((wrap64 (a0)) + (wrap64 (a1)))) - (wrap64 (a2))))))) else (some false)) else (some false)
set_option maxHeartbeats 8000000 in
set_option maxRecDepth 100000 in
theorem pintleref05_in.calls (a0 : Int) (a1 : Int) (a2 : Int) (a3 : Int) (r : Bool) (w : World) (h : pintleref05_in.f a0 a1 a2 a3 = some r) :
    Calls Try.prog 107 #[.int .u32 a0, .int .u32 a1, .int .u32 a2, .int .i64 a3] w fun e w' => e = .returned (.bool r) ∧ Drawn0 w w' := by
  have H : (if a3 ≥ 0 then (if (wrap64 (a2)) ≥ (wrap64 (a0)) then (some (decide (a3 ≤ (wrap64 ((wrap64 ((wrap64 (a0)) + (wrap64 (a1)))) - (wrap64 (a2))))))) else (some false)) else (some false)) = some r := h
  clear h
  by_cases c5 : a3 ≥ 0
  · rw [if_pos c5] at H
    have c5b0 : decide (0 ≤ a3) = true := decide_eq_true c5
    clear c5
    by_cases c6 : (wrap64 (a2)) ≥ (wrap64 (a0))
    · rw [if_pos c6] at H
      have c6b0 : decide ((wrap64 (a0)) ≤ (wrap64 (a2))) = true := decide_eq_true c6
      clear c6
      obtain rfl := Option.some.inj H
      go_enter Try.func107, Try.ntmps107
      go_wp2
      go_ret
      exact ⟨by first | rfl | (simp; done) | (simp [*]; done), by repeat (first | exact Drawn0.refl _ | apply Drawn0.step)⟩
    · rw [if_neg c6] at H
      have c6b0 : decide ((wrap64 (a0)) ≤ (wrap64 (a2))) = false := decide_eq_false c6
      clear c6
      obtain rfl := Option.some.inj H
      go_enter Try.func107, Try.ntmps107
      go_wp2
      go_ret
      exact ⟨by first | rfl | (simp; done) | (simp [*]; done), by repeat (first | exact Drawn0.refl _ | apply Drawn0.step)⟩
  · rw [if_neg c5] at H
    have c5b0 : decide (0 ≤ a3) = false := decide_eq_false c5
    clear c5
    obtain rfl := Option.some.inj H
    go_enter Try.func107, Try.ntmps107
    go_wp2
    go_ret
    exact ⟨by first | rfl | (simp; done) | (simp [*]; done), by repeat (first | exact Drawn0.refl _ | apply Drawn0.step)⟩

end Go.Proofs.Ytioopcilcgebeaa.PCpu
/-! #### PCpux86 -/
namespace Go.Proofs.Ytioopcilcgebeaa.PCpu
open Go.RowKit Go.Proofs.YtioopcilcgebeaaW.PrintWords Go.Proofs.YtioopcilcgebeaaW.PrintLast Go.Proofs.YtioopcilcgebeaaW.PrintMore
attribute [local go_sem] max2_int min2_int max_two min_two max_three min_three max_four min_four   -- for this text's walks alone

/-! ### pintleref06_alu: function 96 -/
def pintleref06_alu.f (k : Nat) (a0 : Int) (a1 : Int) (a2 : Int) : Option (Int) := (pintleref01_Alu.f k a0 a1 a2).bind fun bt393 => (some bt393.1)
theorem pintleref06_alu.mono : ∀ a0 a1 a2 k, LeO (pintleref06_alu.f k a0 a1 a2) (pintleref06_alu.f (k + 1) a0 a1 a2) := by
  intro a0 a1 a2 k
  unfold pintleref06_alu.f
  repeat' first
      | (with_reducible exact pintleref01_Alu.mono _ _ _ _)
      | (with_reducible exact LeO.refl _)
      | (with_reducible exact LeO.none _)
      | (with_reducible refine LeO.ite ?_ ?_)
      | (with_reducible refine LeO.bind ?_ (fun _ => ?_))
      | exact pintleref01_Alu.mono _ _ _ _
      | exact LeO.none _
      | refine LeO.ite ?_ ?_
      | refine LeO.bind ?_ (fun _ => ?_)
set_option maxHeartbeats 8000000 in
set_option maxRecDepth 100000 in
theorem pintleref06_alu.calls (k : Nat) (a0 : Int) (a1 : Int) (a2 : Int) (r : Int) (w : World) (h : pintleref06_alu.f k a0 a1 a2 = some r) :
    Calls Try.prog 96 #[.int .i64 a0, .int .u32 a1, .int .u32 a2] w fun e w' => e = .returned (.int .u32 r) ∧ Drawn0 w w' := by
  have H : ((pintleref01_Alu.f k a0 a1 a2).bind fun bt393 => (some bt393.1)) = some r := h
  clear h
  replace H := Option.bind_eq_some_iff.mp H
  obtain ⟨⟨t393, t394⟩, A40, H⟩ := H
  replace H : (some t393) = some r := H
  have A4 := Aside0.mk A40
  clear A40
  obtain rfl := Option.some.inj H
  go_enter Try.func96, Try.ntmps96
  go_wp2_with (first | ((with_reducible refine gate_callee (f := 128) rfl ?_); refine goesL_ (some 13) rfl rfl Try.func128 (by kernel_rfl) rfl #[.int .i64 a0, .int .u32 a1, .int .u32 a2] rfl (by (try simp only [List.map_toArray, List.map_cons, List.map_nil]); first | done | rfl | (simp only [List.length_drop, List.length_take]; rfl)) ?_; (with_reducible refine (pintleref01_Alu.calls k a0 a1 a2 t393 t394 _ A4.out).mono ?_); rintro e w' ⟨rfl, ⟨nd, rfl⟩⟩; refine ⟨_, rfl, ?_⟩))
  go_ret
  exact ⟨by first | rfl | (simp; done) | (simp [*]; done), by repeat (first | exact Drawn0.refl _ | apply Drawn0.step)⟩

end Go.Proofs.Ytioopcilcgebeaa.PCpu
/-! #### PCpux91 -/
namespace Go.Proofs.Ytioopcilcgebeaa.PCpu
open Go.RowKit Go.Proofs.YtioopcilcgebeaaW.PrintWords Go.Proofs.YtioopcilcgebeaaW.PrintLast Go.Proofs.YtioopcilcgebeaaW.PrintMore
attribute [local go_sem] max2_int min2_int max_two min_two max_three min_three max_four min_four   -- for this text's walks alone

/-! ### pintleref06_taken: function 98 -/
def pintleref06_taken.j0 : Nat → Int → Int → Int → Option (Bool)
  | 0, _, _, _ => none
  | k + 1, x0, x7, x8 => if x0 = 36 then (some (x7 == x8)) else (if x0 = 37 then (some (x7 != x8)) else (if x0 = 38 then (some (decide (x7 < x8))) else (if x0 = 40 then (some (decide (x7 < x8))) else (some (decide (x7 ≥ x8))))))
def pintleref06_taken.f (k : Nat) (a0 : Int) (a1 : Int) (a2 : Int) : Option (Bool) := (pintleref01_Signed.f a1).bind fun t412 => ((pintleref01_Signed.f a2).bind fun t413 => (if a0 ≥ 40 then (pintleref06_taken.j0 k a0 (wrap64 (a1)) (wrap64 (a2))) else (pintleref06_taken.j0 k a0 t412 t413)))
theorem pintleref06_taken.mono_l : ∀ k, (∀ y0 y1 y2, LeO (pintleref06_taken.j0 k y0 y1 y2) (pintleref06_taken.j0 (k + 1) y0 y1 y2))
  | 0 => fun _ _ _ r h => by simp [pintleref06_taken.j0] at h
  | k + 1 => by
    have ih0 := pintleref06_taken.mono_l k
    · intro y0 y1 y2
      unfold pintleref06_taken.j0
      repeat' first
      | (with_reducible exact ih0 _ _ _)
      | (with_reducible exact LeO.refl _)
      | (with_reducible exact LeO.none _)
      | (with_reducible refine LeO.ite ?_ ?_)
      | (with_reducible refine LeO.bind ?_ (fun _ => ?_))
      | exact ih0 _ _ _
      | exact LeO.none _
      | refine LeO.ite ?_ ?_
      | refine LeO.bind ?_ (fun _ => ?_)
theorem pintleref06_taken.mono : ∀ a0 a1 a2 k, LeO (pintleref06_taken.f k a0 a1 a2) (pintleref06_taken.f (k + 1) a0 a1 a2) := by
  intro a0 a1 a2 k
  have ih0 := pintleref06_taken.mono_l k
  unfold pintleref06_taken.f
  repeat' first
      | (with_reducible exact ih0 _ _ _)
      | (with_reducible exact LeO.refl _)
      | (with_reducible exact LeO.none _)
      | (with_reducible refine LeO.ite ?_ ?_)
      | (with_reducible refine LeO.bind ?_ (fun _ => ?_))
      | exact ih0 _ _ _
      | exact LeO.none _
      | refine LeO.ite ?_ ?_
      | refine LeO.bind ?_ (fun _ => ?_)
set_option maxHeartbeats 8000000 in
set_option maxRecDepth 100000 in
theorem pintleref06_taken.calls (k : Nat) (a0 : Int) (a1 : Int) (a2 : Int) (r : Bool) (w : World) (h : pintleref06_taken.f k a0 a1 a2 = some r) :
    Calls Try.prog 98 #[.int .i64 a0, .int .u32 a1, .int .u32 a2] w fun e w' => e = .returned (.bool r) ∧ Drawn0 w w' := by
  have H : ((pintleref01_Signed.f a1).bind fun t412 => ((pintleref01_Signed.f a2).bind fun t413 => (if a0 ≥ 40 then (pintleref06_taken.j0 k a0 (wrap64 (a1)) (wrap64 (a2))) else (pintleref06_taken.j0 k a0 t412 t413)))) = some r := h
  clear h
  replace H := Option.bind_eq_some_iff.mp H
  obtain ⟨t412, A40, H⟩ := H
  replace H : ((pintleref01_Signed.f a2).bind fun t413 => (if a0 ≥ 40 then (pintleref06_taken.j0 k a0 (wrap64 (a1)) (wrap64 (a2))) else (pintleref06_taken.j0 k a0 t412 t413))) = some r := H
  have A4 := Aside0.mk A40
  clear A40
  replace H := Option.bind_eq_some_iff.mp H
  obtain ⟨t413, A50, H⟩ := H
  replace H : (if a0 ≥ 40 then (pintleref06_taken.j0 k a0 (wrap64 (a1)) (wrap64 (a2))) else (pintleref06_taken.j0 k a0 t412 t413)) = some r := H
  have A5 := Aside0.mk A50
  clear A50
  have HC6 := Aside0.mk H
  clear H
  go_enter Try.func98, Try.ntmps98
  go_upto_if 14 with (first | ((with_reducible refine gate_callee (f := 131) rfl ?_); refine goesL_ (some 10) rfl rfl Try.func131 (by kernel_rfl) rfl #[.int .u32 a1] rfl (by (try simp only [List.map_toArray, List.map_cons, List.map_nil]); first | done | rfl | (simp only [List.length_drop, List.length_take]; rfl)) ?_; (with_reducible refine (pintleref01_Signed.calls a1 t412 _ A4.out).mono ?_); rintro e w' ⟨rfl, ⟨nd, rfl⟩⟩; refine ⟨_, rfl, ?_⟩) | ((with_reducible refine gate_callee (f := 131) rfl ?_); refine goesL_ (some 12) rfl rfl Try.func131 (by kernel_rfl) rfl #[.int .u32 a2] rfl (by (try simp only [List.map_toArray, List.map_cons, List.map_nil]); first | done | rfl | (simp only [List.length_drop, List.length_take]; rfl)) ?_; (with_reducible refine (pintleref01_Signed.calls a2 t413 _ A5.out).mono ?_); rintro e w' ⟨rfl, ⟨nd, rfl⟩⟩; refine ⟨_, rfl, ?_⟩))
  (try simp only [Act.put, List.setIfInBounds_toArray, List.set_cons_zero, List.set_cons_succ])
  go_cut [7, 8] (fun v7 v8 wc => ∃ (kq : Nat) (x7_5 : Int) (x8_5 : Int), v7 = .int .i64 x7_5 ∧ v8 = .int .i64 x8_5 ∧ Aside0 (pintleref06_taken.j0 kq a0 x7_5 x8_5 = some r) ∧ Aside0 (kq ≤ k) ∧ Drawn0 w wc)
  case first =>
    have H := HC6.out
    clear HC6
    by_cases c7 : a0 ≥ 40
    · rw [if_pos c7] at H
      have c7b0 : decide (40 ≤ a0) = true := decide_eq_true c7
      clear c7
      (first | rw [c7b0] | (simp only [i64_w, i32_w]; rw [c7b0]) | skip)
      have H' := Aside0.mk H
      clear H
      go_wp2
      go_meet
      case rel => exact ⟨_, (wrap64 (a1)), (wrap64 (a2)), (by first | rfl | (simp; done) | (simp [*]; done)), (by first | rfl | (simp; done) | (simp [*]; done)), H', ⟨by first | omega | exact Nat.le_refl _⟩, by repeat (first | exact Drawn0.refl _ | apply Drawn0.step)⟩
    · rw [if_neg c7] at H
      have c7b0 : decide (40 ≤ a0) = false := decide_eq_false c7
      clear c7
      (first | rw [c7b0] | (simp only [i64_w, i32_w]; rw [c7b0]) | skip)
      have H' := Aside0.mk H
      clear H
      go_wp2
      go_meet
      case rel => exact ⟨_, (t412), (t413), (by first | rfl | (simp; done) | (simp [*]; done)), (by first | rfl | (simp; done) | (simp [*]; done)), H', ⟨by first | omega | exact Nat.le_refl _⟩, by repeat (first | exact Drawn0.refl _ | apply Drawn0.step)⟩
  case rest =>
    clear HC6
    try clear c1
    try clear p2
    try clear p6
    try clear c7
    try clear c7b0
    obtain ⟨kq, x7_5, x8_5, rfl, rfl, HA, HJ5, ⟨mc5, rfl⟩⟩ := hcut
    cases kq with
    | zero => exact absurd HA.out (by simp [pintleref06_taken.j0])
    | succ kj5 =>
      have H := HA.out
      clear HA
      simp only [pintleref06_taken.j0] at H
      by_cases c8 : a0 = 36
      · rw [if_pos c8] at H
        have c8b0 : (a0 == 36) = true := beq_iff_eq.mpr c8
        have c8b1 : (a0 != 36) = false := bne_eq_false_iff_eq.mpr c8
        clear c8
        obtain rfl := Option.some.inj H
        go_wp2
        go_ret
        exact ⟨by first | rfl | (simp; done) | (simp [*]; done), by repeat (first | exact Drawn0.refl _ | apply Drawn0.step)⟩
      · rw [if_neg c8] at H
        have c8b0 : (a0 == 36) = false := beq_eq_false_iff_ne.mpr c8
        have c8b1 : (a0 != 36) = true := bne_iff_ne.mpr c8
        by_cases c9 : a0 = 37
        · rw [if_pos c9] at H
          have c9b0 : (a0 == 37) = true := beq_iff_eq.mpr c9
          have c9b1 : (a0 != 37) = false := bne_eq_false_iff_eq.mpr c9
          clear c9
          obtain rfl := Option.some.inj H
          go_wp2
          go_ret
          exact ⟨by first | rfl | (simp; done) | (simp [*]; done), by repeat (first | exact Drawn0.refl _ | apply Drawn0.step)⟩
        · rw [if_neg c9] at H
          have c9b0 : (a0 == 37) = false := beq_eq_false_iff_ne.mpr c9
          have c9b1 : (a0 != 37) = true := bne_iff_ne.mpr c9
          by_cases c10 : a0 = 38
          · rw [if_pos c10] at H
            have c10b0 : (a0 == 38) = true := beq_iff_eq.mpr c10
            have c10b1 : (a0 != 38) = false := bne_eq_false_iff_eq.mpr c10
            clear c10
            obtain rfl := Option.some.inj H
            go_wp2
            go_ret
            exact ⟨by first | rfl | (simp; done) | (simp [*]; done), by repeat (first | exact Drawn0.refl _ | apply Drawn0.step)⟩
          · rw [if_neg c10] at H
            have c10b0 : (a0 == 38) = false := beq_eq_false_iff_ne.mpr c10
            have c10b1 : (a0 != 38) = true := bne_iff_ne.mpr c10
            by_cases c11 : a0 = 40
            · rw [if_pos c11] at H
              have c11b0 : (a0 == 40) = true := beq_iff_eq.mpr c11
              have c11b1 : (a0 != 40) = false := bne_eq_false_iff_eq.mpr c11
              clear c11
              obtain rfl := Option.some.inj H
              go_wp2
              go_ret
              exact ⟨by first | rfl | (simp; done) | (simp [*]; done), by repeat (first | exact Drawn0.refl _ | apply Drawn0.step)⟩
            · rw [if_neg c11] at H
              have c11b0 : (a0 == 40) = false := beq_eq_false_iff_ne.mpr c11
              have c11b1 : (a0 != 40) = true := bne_iff_ne.mpr c11
              obtain rfl := Option.some.inj H
              go_wp2
              go_ret
              exact ⟨by first | rfl | (simp; done) | (simp [*]; done), by repeat (first | exact Drawn0.refl _ | apply Drawn0.step)⟩

end Go.Proofs.Ytioopcilcgebeaa.PCpu
/-! #### PCpux9 -/
namespace Go.Proofs.Ytioopcilcgebeaa.PCpu
open Go.RowKit Go.Proofs.YtioopcilcgebeaaW.PrintWords Go.Proofs.YtioopcilcgebeaaW.PrintLast Go.Proofs.YtioopcilcgebeaaW.PrintMore
attribute [local go_sem] max2_int min2_int max_two min_two max_three min_three max_four min_four   -- for this text's walks alone

/-! ### pintlelaw05_Map: function 16 -/
def pintlelaw05_Map.f  : Option (Int × Int × Int × Int) := some (4096, 256, 2147483648, 128)
set_option maxHeartbeats 8000000 in
set_option maxRecDepth 100000 in
theorem pintlelaw05_Map.calls  (r1 : Int) (r2 : Int) (r3 : Int) (r4 : Int) (w : World) (h : pintlelaw05_Map.f  = some (r1, r2, r3, r4)) :
    Calls Try.prog 16 #[] w fun e w' => e = .returned (.agg #[.int .u32 r1, .int .u32 r2, .int .u32 r3, .int .u32 r4]) ∧ Below w.heap.size w w' := by
  have hu28 := Try.underlying28
  have HB := Aside0.mk (Below.refl w.heap.size w)
  have H : (some (4096, 256, 2147483648, 128)) = some (r1, r2, r3, r4) := h
  clear h
  simp only [Option.some.injEq, Prod.mk.injEq] at H
  obtain ⟨rfl, rfl, rfl, rfl⟩ := H
  go_enter Try.func16, Try.ntmps16
  go_wp2_with (first | ((with_reducible refine gate_dst (N := 0) rfl ?_); refine box_event ?hg (N := 0) ?hd (cs := #[.int .u32 0, .int .u32 0, .int .u32 0, .int .u32 0]) (t := 28) ?hr ?_; (case hd => rfl); (case hg => rfl); (case hr => first | (go_simp; done) | (go_simp; rfl)); intro gb106 hg w1 hbox hb; have n0_ := Aside0.mk (below_step (by repeat (first | (with_reducible first | exact HB.out | apply below_alloc | apply pw_below_drewN | apply below_drew1) | exact HB.out)) hb); have n1_ := Aside0.mk (hbox); have n2_ := Aside0.mk ((by rw [hg]; exact (below_size (by repeat (first | (with_reducible first | exact HB.out | apply below_alloc | apply pw_below_drewN | apply below_drew1) | exact HB.out))) : w.heap.size ≤ gb106)); have n3_ := Aside0.mk ((by rw [hg]; exact (below_size (by repeat (first | (with_reducible first | exact HB.out | apply below_alloc | apply pw_below_drewN | apply below_drew1) | exact HB.out))) : w.heap.size ≤ gb106)); clear HB; have HB := n0_; have BK106 := n1_; have GW106 := n2_; have GE106 := n3_; clear n0_ n1_ n2_ n3_; clear hb hbox hg; have hcz2_0 : w1.cell? ⟨gb106, 0, none⟩ = some (.int .u32 0) := (blk_cell BK106.out 0).trans rfl; have hcz2_1 : w1.cell? ⟨gb106, 1, none⟩ = some (.int .u32 0) := (blk_cell BK106.out 1).trans rfl; have hcz2_2 : w1.cell? ⟨gb106, 2, none⟩ = some (.int .u32 0) := (blk_cell BK106.out 2).trans rfl; have hcz2_3 : w1.cell? ⟨gb106, 3, none⟩ = some (.int .u32 0) := (blk_cell BK106.out 3).trans rfl; have hfz2_0 := blk_frozen BK106.out 0; have hfz2_1 := blk_frozen BK106.out 1; have hfz2_2 := blk_frozen BK106.out 2; have hfz2_3 := blk_frozen BK106.out 3))
  refine bodyPost_ret (results_cell_row rfl _ _ gb106 28 #[.int .u32 4096, .int .u32 256, .int .u32 2147483648, .int .u32 128] (0, 0) _ rfl (by (with_reducible repeat (first | refine blk_drewN ?_ _ | refine blk_drew ?_ | refine blk_alloc ?_ _)); refine blk_put (cs := #[.int .u32 4096, .int .u32 256, .int .u32 2147483648, .int .u32 0]) ?_ 3 _ rfl; (with_reducible repeat (first | refine blk_drewN ?_ _ | refine blk_drew ?_ | refine blk_alloc ?_ _)); refine blk_put (cs := #[.int .u32 4096, .int .u32 256, .int .u32 0, .int .u32 0]) ?_ 2 _ rfl; (with_reducible repeat (first | refine blk_drewN ?_ _ | refine blk_drew ?_ | refine blk_alloc ?_ _)); refine blk_put (cs := #[.int .u32 4096, .int .u32 0, .int .u32 0, .int .u32 0]) ?_ 1 _ rfl; (with_reducible repeat (first | refine blk_drewN ?_ _ | refine blk_drew ?_ | refine blk_alloc ?_ _)); refine blk_put (cs := #[.int .u32 0, .int .u32 0, .int .u32 0, .int .u32 0]) ?_ 0 _ rfl; (with_reducible repeat (first | refine blk_drewN ?_ _ | refine blk_drew ?_ | refine blk_alloc ?_ _)); exact BK106.out) Try.underlying28 rfl (by kernel_rfl)) rfl ?_
  exact ⟨by first | rfl | (simp [errW_none, errW_some] <;> rfl) | (simp [*, errW_none, errW_some] <;> rfl), by repeat (first | (with_reducible first | exact HB.out | apply below_alloc | apply pw_below_drewN | apply below_drew1 | refine below_set ?_ GE106.out) | exact HB.out)⟩

end Go.Proofs.Ytioopcilcgebeaa.PCpu
