/- What is told of no machine, and of an input that lies nowhere. -/
import Derived.Test.YtioopcilcgebeaaImgI
set_option linter.unusedVariables false
set_option linter.unusedSimpArgs false
namespace Go.Proofs.Ytioopcilcgebeaa.CpuA
open Go.RowKit Go.Proofs.Ytioopcilcgebeaa.Base Go.Proofs.YtioopcilcgebeaaW.PrintWords

set_option maxHeartbeats 8000000 in
set_option maxRecDepth 100000 in
theorem loadNone_walk (f fn r rn en tx tn sa sn rm fu ia il oa ol : Int) (A0 : Option Addr) (n0 c0 : Nat) (A1 : Option Addr) (n1 c1 : Nat) (A : Option Addr) (n c : Nat) (at_ : Int) (ha : 0 ≤ at_ ∧ at_ < 4294967296) (w : World) :
    Calls Try.prog 13 #[.agg #[.int .u32 f, .int .u32 fn, .int .u32 r, .int .u32 rn, .int .u32 en, .int .u32 tx, .int .u32 tn, .int .u32 sa, .int .u32 sn, .int .u32 rm, .int .u64 fu, .int .u32 ia, .int .u32 il, .int .u32 oa, .int .u32 ol, .slice A0 n0 c0, .slice A1 n1 c1], .slice A n c, .int .u32 at_] w fun e w' => e = .returned (.bool true) ∧ Below w.heap.size w w' := by
  have HO := Lib.hid (fun X => output_nil f fn r rn en tx tn sa sn rm fu ia il oa ol A0 n0 c0 A1 n1 c1 X)
  have HN := Lib.hid (fun X => input_nil f fn r rn en tx tn sa sn rm fu ia il oa ol A0 n0 c0 A1 n1 c1 A n c X)
  have HV := Lib.hid (fun X => lives10_calls X)
  have qP : ∀ (w : World) (a : Addr), (binOp .eql 30 (.pointer (some a)) (.pointer none)).run Try.prog w = .ok (.bool false) w := fun w a => by simp [go_sem]
  have hiff : inAt at_ = true ↔ (4096 ≤ at_ ∧ at_ ≤ 4156) ∨ (8192 ≤ at_ ∧ at_ ≤ 8252) := by
    have e1 : InB 4096 64 at_ 4 ↔ (4096 ≤ at_ ∧ at_ ≤ 4156) := ⟨fun h => by have h1 := h.1; have h2 := h.2.2; omega, fun h => ⟨h.1, by omega, by omega⟩⟩
    have e2 : InB 8192 64 at_ 4 ↔ (8192 ≤ at_ ∧ at_ ≤ 8252) := ⟨fun h => by have h1 := h.1; have h2 := h.2.2; omega, fun h => ⟨h.1, by omega, by omega⟩⟩
    unfold inAt
    rw [Bool.or_eq_true, decide_eq_true_eq, decide_eq_true_eq, e1, e2]
  by_cases h1 : 4096 ≤ at_
  · have d1 : decide (4096 ≤ at_) = true := decide_eq_true h1
    by_cases h2 : at_ ≤ 4156
    · have d2 : decide (at_ ≤ 4156) = true := decide_eq_true h2
      have hin : inAt at_ = true := hiff.2 (by omega)
      clear h1 h2 hiff
      have HI := Lib.hid (fun (b mb fb rb g : Nat) (F : List Int) (s : St) (X : World) (h : Box b mb ⟨4096, 64, 8192, 64, fb, rb⟩ F s X) (hg : X.heap[g]? = some (.cells #[.int .u8 1, .int .u8 2, .int .u8 3, .int .u8 4] 5 (0, 0))) => (show Calls Try.prog 45 _ X (fun e w' => e = .returned (.int .i64 0) ∧ But [fb, rb] X w') from by
        have q := input_at at_ ha h hg
        rw [hin] at q
        exact q))
      go_enter Try.func13, Try.ntmps13
      go_upto_region 1 with (fail)
      (try simp only [Act.put, List.setIfInBounds_toArray, List.set_cons_zero, List.set_cons_succ])
      refine wp_abs (fun W => W.heap[w.heap.size]? = some (.cells #[.int .u32 f, .int .u32 fn, .int .u32 r, .int .u32 rn, .int .u32 en, .int .u32 tx, .int .u32 tn, .int .u32 sa, .int .u32 sn, .int .u32 rm, .int .u64 fu, .int .u32 ia, .int .u32 il, .int .u32 oa, .int .u32 ol, .slice A0 n0 c0, .slice A1 n1 c1] 78 (0, 0)) ∧ Below w.heap.size w W) ⟨by (repeat' (first | (with_reducible first | assumption | exact hpA _ _ _ rfl | refine hpN ?_ | refine hpD ?_) | ((with_reducible first | refine hpP ?_ ?_ | refine hpT ?_ ?_); (focus (first | omega | (simp [zA, zS, zD, zQ] <;> omega)))) | ((with_reducible refine hpA _ _ _ ?_); (focus (first | omega | (simp [zA, zS, zD, zQ] <;> omega)))) | ((with_reducible refine hpB ?_ ?_); (focus assumption)) | (with_reducible apply hpS))), by (repeat' (first | (with_reducible first | exact Below.refl _ _ | refine blQ ?_ _ | refine Below.drew ?_ | refine blO ?_ (by assumption) | refine Below.alloc ?_ ?_ _ | refine Below.setCell ?_ ?_ _ | refine Below.frame ?_ _) | omega | (simp only [zA, zS, zD, zQ]; omega)))⟩ ?_
      intro W hW
      obtain ⟨b0, hB⟩ := hW
      have xL : ∀ W2 : World, (∃ i : Cls W, W2 = i.val) → W2.heap[w.heap.size]? = some (.cells #[.int .u32 f, .int .u32 fn, .int .u32 r, .int .u32 rn, .int .u32 en, .int .u32 tx, .int .u32 tn, .int .u32 sa, .int .u32 sn, .int .u32 rm, .int .u64 fu, .int .u32 ia, .int .u32 il, .int .u32 oa, .int .u32 ol, .slice A0 n0 c0, .slice A1 n1 c1] 78 (0, 0)) := fun W2 h => by obtain ⟨i, rfl⟩ := h; exact heap_below i.property b0
      refine region_cls_f ?_
      repeat (first | (go_big_quiet_want; (refine' quiet_loadI (.tmp 3) 14 rfl rfl rfl xL (by kernel_rfl) (by simp only [Act.put, List.setIfInBounds_toArray, List.set_cons_zero, List.set_cons_succ] <;> rfl) ?_); go_big_quiet_on) | go_big_quiet_step (first | (go_at_call 47; with_reducible exact cls_call _ HO.out)))
      refine wpQuiet_nil ?_
      intro i
      have hI := i.property
      generalize i.val = W2 at *
      have b2 := heap_below hI b0
      have hB2 := below_on hB hI
      have q0 := lt_of_heap b2
      clear xL b0 hB hI
      go_upto_region 7 with (first
        | (go_at_call 50; (refine (one_calls _).mono ?_); rintro e w3 ⟨D0, d0, D1, d1, rfl, k0, l1, k1, hB3⟩; (have z3 := hB3.size); have K0 := Lib.hid k0; have K1 := Lib.hid k1; clear k0 k1)
        | (go_at_call 39; (refine (loadOne_calls D0 d0 D1 d1 _ K0.out l1 K1.out).mono ?_); rintro e w4 ⟨b, mb, fb, rb, rfl, hX, g1, g2, g3, g4, hB4⟩; (have z4 := hB4.size); have HX := Lib.hid hX; clear hX)
        | (go_at_call 45; (refine (HI.out b mb fb rb _ _ _ _ (HX.out.below (by (repeat' (first | (with_reducible first | exact Below.refl _ _ | refine blQ ?_ _ | refine Below.drew ?_ | refine blO ?_ (by assumption) | refine Below.alloc ?_ ?_ _ | refine Below.setCell ?_ ?_ _ | refine Below.frame ?_ _) | omega | (simp only [zA, zS, zD, zQ]; omega))))) ?_).mono ?_); (focus (repeat' (first | (with_reducible first | assumption | exact hpA _ _ _ rfl | refine hpN ?_ | refine hpD ?_) | ((with_reducible first | refine hpP ?_ ?_ | refine hpT ?_ ?_); (focus (first | omega | (simp [zA, zS, zD, zQ] <;> omega)))) | ((with_reducible refine hpA _ _ _ ?_); (focus (first | omega | (simp [zA, zS, zD, zQ] <;> omega)))) | ((with_reducible refine hpB ?_ ?_); (focus assumption)) | (with_reducible apply hpS)))); rintro e w5 ⟨rfl, hB5⟩))
      (try simp only [Act.put, List.setIfInBounds_toArray, List.set_cons_zero, List.set_cons_succ])
      have hf : w.heap.size < w3.heap.size := by (try simp only [zA, zD, zQ] at z3); omega
      have hm : ∀ g ∈ [fb, rb], w.heap.size < g := by
        (try simp only [zA, zD, zQ] at g3)
        (try simp only [zA, zD, zQ] at g4)
        intro g hg
        rcases List.mem_cons.1 hg with rfl | hg
        · omega
        · rw [List.mem_singleton] at hg; subst hg; omega
      have b3 : w3.heap[w.heap.size]? = some (.cells #[.int .u32 f, .int .u32 fn, .int .u32 r, .int .u32 rn, .int .u32 en, .int .u32 tx, .int .u32 tn, .int .u32 sa, .int .u32 sn, .int .u32 rm, .int .u64 fu, .int .u32 ia, .int .u32 il, .int .u32 oa, .int .u32 ol, .slice A0 n0 c0, .slice A1 n1 c1] 78 (0, 0)) := heap_below hB3 (by (repeat' (first | (with_reducible first | assumption | exact hpA _ _ _ rfl | refine hpN ?_ | refine hpD ?_) | ((with_reducible first | refine hpP ?_ ?_ | refine hpT ?_ ?_); (focus (first | omega | (simp [zA, zS, zD, zQ] <;> omega)))) | ((with_reducible refine hpA _ _ _ ?_); (focus (first | omega | (simp [zA, zS, zD, zQ] <;> omega)))) | ((with_reducible refine hpB ?_ ?_); (focus assumption)) | (with_reducible apply hpS))))
      have b4 : w4.heap[w.heap.size]? = some (.cells #[.int .u32 f, .int .u32 fn, .int .u32 r, .int .u32 rn, .int .u32 en, .int .u32 tx, .int .u32 tn, .int .u32 sa, .int .u32 sn, .int .u32 rm, .int .u64 fu, .int .u32 ia, .int .u32 il, .int .u32 oa, .int .u32 ol, .slice A0 n0 c0, .slice A1 n1 c1] 78 (0, 0)) := heap_below hB4 (by (repeat' (first | (with_reducible first | assumption | exact hpA _ _ _ rfl | refine hpN ?_ | refine hpD ?_) | ((with_reducible first | refine hpP ?_ ?_ | refine hpT ?_ ?_); (focus (first | omega | (simp [zA, zS, zD, zQ] <;> omega)))) | ((with_reducible refine hpA _ _ _ ?_); (focus (first | omega | (simp [zA, zS, zD, zQ] <;> omega)))) | ((with_reducible refine hpB ?_ ?_); (focus assumption)) | (with_reducible apply hpS))))
      have b5 : w5.heap[w.heap.size]? = some (.cells #[.int .u32 f, .int .u32 fn, .int .u32 r, .int .u32 rn, .int .u32 en, .int .u32 tx, .int .u32 tn, .int .u32 sa, .int .u32 sn, .int .u32 rm, .int .u64 fu, .int .u32 ia, .int .u32 il, .int .u32 oa, .int .u32 ol, .slice A0 n0 c0, .slice A1 n1 c1] 78 (0, 0)) := hB5.heap (fun q => by have := hm _ q; omega) (by (repeat' (first | (with_reducible first | assumption | exact hpA _ _ _ rfl | refine hpN ?_ | refine hpD ?_) | ((with_reducible first | refine hpP ?_ ?_ | refine hpT ?_ ?_); (focus (first | omega | (simp [zA, zS, zD, zQ] <;> omega)))) | ((with_reducible refine hpA _ _ _ ?_); (focus (first | omega | (simp [zA, zS, zD, zQ] <;> omega)))) | ((with_reducible refine hpB ?_ ?_); (focus assumption)) | (with_reducible apply hpS))))
      have hB9 : Below w.heap.size w w5 := below_puts (by (repeat' (first | (with_reducible first | exact Below.refl _ _ | refine blQ ?_ _ | refine Below.drew ?_ | refine blO ?_ (by assumption) | refine Below.alloc ?_ ?_ _ | refine Below.setCell ?_ ?_ _ | refine Below.frame ?_ _) | omega | (simp only [zA, zS, zD, zQ]; omega)))) hB5 (fun g hg => Nat.le_of_lt (hm g hg))
      refine wp_abs (fun W => W.heap[w.heap.size]? = some (.cells #[.int .u32 f, .int .u32 fn, .int .u32 r, .int .u32 rn, .int .u32 en, .int .u32 tx, .int .u32 tn, .int .u32 sa, .int .u32 sn, .int .u32 rm, .int .u64 fu, .int .u32 ia, .int .u32 il, .int .u32 oa, .int .u32 ol, .slice A0 n0 c0, .slice A1 n1 c1] 78 (0, 0)) ∧ Below w.heap.size w W) ⟨by (repeat' (first | (with_reducible first | assumption | exact hpA _ _ _ rfl | refine hpN ?_ | refine hpD ?_) | ((with_reducible first | refine hpP ?_ ?_ | refine hpT ?_ ?_); (focus (first | omega | (simp [zA, zS, zD, zQ] <;> omega)))) | ((with_reducible refine hpA _ _ _ ?_); (focus (first | omega | (simp [zA, zS, zD, zQ] <;> omega)))) | ((with_reducible refine hpB ?_ ?_); (focus assumption)) | (with_reducible apply hpS))), by (repeat' (first | (with_reducible first | exact Below.refl _ _ | refine blQ ?_ _ | refine Below.drew ?_ | refine blO ?_ (by assumption) | refine Below.alloc ?_ ?_ _ | refine Below.setCell ?_ ?_ _ | refine Below.frame ?_ _) | omega | (simp only [zA, zS, zD, zQ]; omega)))⟩ ?_
      intro W hW
      obtain ⟨b0, hB⟩ := hW
      have xL : ∀ W2 : World, (∃ i : Cls W, W2 = i.val) → W2.heap[w.heap.size]? = some (.cells #[.int .u32 f, .int .u32 fn, .int .u32 r, .int .u32 rn, .int .u32 en, .int .u32 tx, .int .u32 tn, .int .u32 sa, .int .u32 sn, .int .u32 rm, .int .u64 fu, .int .u32 ia, .int .u32 il, .int .u32 oa, .int .u32 ol, .slice A0 n0 c0, .slice A1 n1 c1] 78 (0, 0)) := fun W2 h => by obtain ⟨i, rfl⟩ := h; exact heap_below i.property b0
      refine region_cls_f ?_
      repeat (first | (go_big_quiet_want; (refine' quiet_loadI (.tmp 3) 53 rfl rfl rfl xL (by kernel_rfl) (by simp only [Act.put, List.setIfInBounds_toArray, List.set_cons_zero, List.set_cons_succ] <;> rfl) ?_); go_big_quiet_on) | go_big_quiet_step (first | (go_at_call 45; with_reducible exact cls_call _ HN.out) | (go_at_call 41; with_reducible exact cls_call _ HV.out)))
      refine wpQuiet_nil ?_
      intro i
      have hI := i.property
      go_wp2
      go_returns
      exact ⟨by simp, below_on hB hI⟩
    · have d2 : decide (at_ ≤ 4156) = false := decide_eq_false h2
      by_cases h3 : 8192 ≤ at_
      · have d3 : decide (8192 ≤ at_) = true := decide_eq_true h3
        by_cases h4 : at_ ≤ 8252
        · have d4 : decide (at_ ≤ 8252) = true := decide_eq_true h4
          have hin : inAt at_ = true := hiff.2 (by omega)
          clear h1 h2 h3 h4 hiff
          have HI := Lib.hid (fun (b mb fb rb g : Nat) (F : List Int) (s : St) (X : World) (h : Box b mb ⟨4096, 64, 8192, 64, fb, rb⟩ F s X) (hg : X.heap[g]? = some (.cells #[.int .u8 1, .int .u8 2, .int .u8 3, .int .u8 4] 5 (0, 0))) => (show Calls Try.prog 45 _ X (fun e w' => e = .returned (.int .i64 0) ∧ But [fb, rb] X w') from by
            have q := input_at at_ ha h hg
            rw [hin] at q
            exact q))
          go_enter Try.func13, Try.ntmps13
          go_upto_region 1 with (fail)
          (try simp only [Act.put, List.setIfInBounds_toArray, List.set_cons_zero, List.set_cons_succ])
          refine wp_abs (fun W => W.heap[w.heap.size]? = some (.cells #[.int .u32 f, .int .u32 fn, .int .u32 r, .int .u32 rn, .int .u32 en, .int .u32 tx, .int .u32 tn, .int .u32 sa, .int .u32 sn, .int .u32 rm, .int .u64 fu, .int .u32 ia, .int .u32 il, .int .u32 oa, .int .u32 ol, .slice A0 n0 c0, .slice A1 n1 c1] 78 (0, 0)) ∧ Below w.heap.size w W) ⟨by (repeat' (first | (with_reducible first | assumption | exact hpA _ _ _ rfl | refine hpN ?_ | refine hpD ?_) | ((with_reducible first | refine hpP ?_ ?_ | refine hpT ?_ ?_); (focus (first | omega | (simp [zA, zS, zD, zQ] <;> omega)))) | ((with_reducible refine hpA _ _ _ ?_); (focus (first | omega | (simp [zA, zS, zD, zQ] <;> omega)))) | ((with_reducible refine hpB ?_ ?_); (focus assumption)) | (with_reducible apply hpS))), by (repeat' (first | (with_reducible first | exact Below.refl _ _ | refine blQ ?_ _ | refine Below.drew ?_ | refine blO ?_ (by assumption) | refine Below.alloc ?_ ?_ _ | refine Below.setCell ?_ ?_ _ | refine Below.frame ?_ _) | omega | (simp only [zA, zS, zD, zQ]; omega)))⟩ ?_
          intro W hW
          obtain ⟨b0, hB⟩ := hW
          have xL : ∀ W2 : World, (∃ i : Cls W, W2 = i.val) → W2.heap[w.heap.size]? = some (.cells #[.int .u32 f, .int .u32 fn, .int .u32 r, .int .u32 rn, .int .u32 en, .int .u32 tx, .int .u32 tn, .int .u32 sa, .int .u32 sn, .int .u32 rm, .int .u64 fu, .int .u32 ia, .int .u32 il, .int .u32 oa, .int .u32 ol, .slice A0 n0 c0, .slice A1 n1 c1] 78 (0, 0)) := fun W2 h => by obtain ⟨i, rfl⟩ := h; exact heap_below i.property b0
          refine region_cls_f ?_
          repeat (first | (go_big_quiet_want; (refine' quiet_loadI (.tmp 3) 14 rfl rfl rfl xL (by kernel_rfl) (by simp only [Act.put, List.setIfInBounds_toArray, List.set_cons_zero, List.set_cons_succ] <;> rfl) ?_); go_big_quiet_on) | go_big_quiet_step (first | (go_at_call 47; with_reducible exact cls_call _ HO.out)))
          refine wpQuiet_nil ?_
          intro i
          have hI := i.property
          generalize i.val = W2 at *
          have b2 := heap_below hI b0
          have hB2 := below_on hB hI
          have q0 := lt_of_heap b2
          clear xL b0 hB hI
          go_upto_region 7 with (first
            | (go_at_call 50; (refine (one_calls _).mono ?_); rintro e w3 ⟨D0, d0, D1, d1, rfl, k0, l1, k1, hB3⟩; (have z3 := hB3.size); have K0 := Lib.hid k0; have K1 := Lib.hid k1; clear k0 k1)
            | (go_at_call 39; (refine (loadOne_calls D0 d0 D1 d1 _ K0.out l1 K1.out).mono ?_); rintro e w4 ⟨b, mb, fb, rb, rfl, hX, g1, g2, g3, g4, hB4⟩; (have z4 := hB4.size); have HX := Lib.hid hX; clear hX)
            | (go_at_call 45; (refine (HI.out b mb fb rb _ _ _ _ (HX.out.below (by (repeat' (first | (with_reducible first | exact Below.refl _ _ | refine blQ ?_ _ | refine Below.drew ?_ | refine blO ?_ (by assumption) | refine Below.alloc ?_ ?_ _ | refine Below.setCell ?_ ?_ _ | refine Below.frame ?_ _) | omega | (simp only [zA, zS, zD, zQ]; omega))))) ?_).mono ?_); (focus (repeat' (first | (with_reducible first | assumption | exact hpA _ _ _ rfl | refine hpN ?_ | refine hpD ?_) | ((with_reducible first | refine hpP ?_ ?_ | refine hpT ?_ ?_); (focus (first | omega | (simp [zA, zS, zD, zQ] <;> omega)))) | ((with_reducible refine hpA _ _ _ ?_); (focus (first | omega | (simp [zA, zS, zD, zQ] <;> omega)))) | ((with_reducible refine hpB ?_ ?_); (focus assumption)) | (with_reducible apply hpS)))); rintro e w5 ⟨rfl, hB5⟩))
          (try simp only [Act.put, List.setIfInBounds_toArray, List.set_cons_zero, List.set_cons_succ])
          have hf : w.heap.size < w3.heap.size := by (try simp only [zA, zD, zQ] at z3); omega
          have hm : ∀ g ∈ [fb, rb], w.heap.size < g := by
            (try simp only [zA, zD, zQ] at g3)
            (try simp only [zA, zD, zQ] at g4)
            intro g hg
            rcases List.mem_cons.1 hg with rfl | hg
            · omega
            · rw [List.mem_singleton] at hg; subst hg; omega
          have b3 : w3.heap[w.heap.size]? = some (.cells #[.int .u32 f, .int .u32 fn, .int .u32 r, .int .u32 rn, .int .u32 en, .int .u32 tx, .int .u32 tn, .int .u32 sa, .int .u32 sn, .int .u32 rm, .int .u64 fu, .int .u32 ia, .int .u32 il, .int .u32 oa, .int .u32 ol, .slice A0 n0 c0, .slice A1 n1 c1] 78 (0, 0)) := heap_below hB3 (by (repeat' (first | (with_reducible first | assumption | exact hpA _ _ _ rfl | refine hpN ?_ | refine hpD ?_) | ((with_reducible first | refine hpP ?_ ?_ | refine hpT ?_ ?_); (focus (first | omega | (simp [zA, zS, zD, zQ] <;> omega)))) | ((with_reducible refine hpA _ _ _ ?_); (focus (first | omega | (simp [zA, zS, zD, zQ] <;> omega)))) | ((with_reducible refine hpB ?_ ?_); (focus assumption)) | (with_reducible apply hpS))))
          have b4 : w4.heap[w.heap.size]? = some (.cells #[.int .u32 f, .int .u32 fn, .int .u32 r, .int .u32 rn, .int .u32 en, .int .u32 tx, .int .u32 tn, .int .u32 sa, .int .u32 sn, .int .u32 rm, .int .u64 fu, .int .u32 ia, .int .u32 il, .int .u32 oa, .int .u32 ol, .slice A0 n0 c0, .slice A1 n1 c1] 78 (0, 0)) := heap_below hB4 (by (repeat' (first | (with_reducible first | assumption | exact hpA _ _ _ rfl | refine hpN ?_ | refine hpD ?_) | ((with_reducible first | refine hpP ?_ ?_ | refine hpT ?_ ?_); (focus (first | omega | (simp [zA, zS, zD, zQ] <;> omega)))) | ((with_reducible refine hpA _ _ _ ?_); (focus (first | omega | (simp [zA, zS, zD, zQ] <;> omega)))) | ((with_reducible refine hpB ?_ ?_); (focus assumption)) | (with_reducible apply hpS))))
          have b5 : w5.heap[w.heap.size]? = some (.cells #[.int .u32 f, .int .u32 fn, .int .u32 r, .int .u32 rn, .int .u32 en, .int .u32 tx, .int .u32 tn, .int .u32 sa, .int .u32 sn, .int .u32 rm, .int .u64 fu, .int .u32 ia, .int .u32 il, .int .u32 oa, .int .u32 ol, .slice A0 n0 c0, .slice A1 n1 c1] 78 (0, 0)) := hB5.heap (fun q => by have := hm _ q; omega) (by (repeat' (first | (with_reducible first | assumption | exact hpA _ _ _ rfl | refine hpN ?_ | refine hpD ?_) | ((with_reducible first | refine hpP ?_ ?_ | refine hpT ?_ ?_); (focus (first | omega | (simp [zA, zS, zD, zQ] <;> omega)))) | ((with_reducible refine hpA _ _ _ ?_); (focus (first | omega | (simp [zA, zS, zD, zQ] <;> omega)))) | ((with_reducible refine hpB ?_ ?_); (focus assumption)) | (with_reducible apply hpS))))
          have hB9 : Below w.heap.size w w5 := below_puts (by (repeat' (first | (with_reducible first | exact Below.refl _ _ | refine blQ ?_ _ | refine Below.drew ?_ | refine blO ?_ (by assumption) | refine Below.alloc ?_ ?_ _ | refine Below.setCell ?_ ?_ _ | refine Below.frame ?_ _) | omega | (simp only [zA, zS, zD, zQ]; omega)))) hB5 (fun g hg => Nat.le_of_lt (hm g hg))
          refine wp_abs (fun W => W.heap[w.heap.size]? = some (.cells #[.int .u32 f, .int .u32 fn, .int .u32 r, .int .u32 rn, .int .u32 en, .int .u32 tx, .int .u32 tn, .int .u32 sa, .int .u32 sn, .int .u32 rm, .int .u64 fu, .int .u32 ia, .int .u32 il, .int .u32 oa, .int .u32 ol, .slice A0 n0 c0, .slice A1 n1 c1] 78 (0, 0)) ∧ Below w.heap.size w W) ⟨by (repeat' (first | (with_reducible first | assumption | exact hpA _ _ _ rfl | refine hpN ?_ | refine hpD ?_) | ((with_reducible first | refine hpP ?_ ?_ | refine hpT ?_ ?_); (focus (first | omega | (simp [zA, zS, zD, zQ] <;> omega)))) | ((with_reducible refine hpA _ _ _ ?_); (focus (first | omega | (simp [zA, zS, zD, zQ] <;> omega)))) | ((with_reducible refine hpB ?_ ?_); (focus assumption)) | (with_reducible apply hpS))), by (repeat' (first | (with_reducible first | exact Below.refl _ _ | refine blQ ?_ _ | refine Below.drew ?_ | refine blO ?_ (by assumption) | refine Below.alloc ?_ ?_ _ | refine Below.setCell ?_ ?_ _ | refine Below.frame ?_ _) | omega | (simp only [zA, zS, zD, zQ]; omega)))⟩ ?_
          intro W hW
          obtain ⟨b0, hB⟩ := hW
          have xL : ∀ W2 : World, (∃ i : Cls W, W2 = i.val) → W2.heap[w.heap.size]? = some (.cells #[.int .u32 f, .int .u32 fn, .int .u32 r, .int .u32 rn, .int .u32 en, .int .u32 tx, .int .u32 tn, .int .u32 sa, .int .u32 sn, .int .u32 rm, .int .u64 fu, .int .u32 ia, .int .u32 il, .int .u32 oa, .int .u32 ol, .slice A0 n0 c0, .slice A1 n1 c1] 78 (0, 0)) := fun W2 h => by obtain ⟨i, rfl⟩ := h; exact heap_below i.property b0
          refine region_cls_f ?_
          repeat (first | (go_big_quiet_want; (refine' quiet_loadI (.tmp 3) 53 rfl rfl rfl xL (by kernel_rfl) (by simp only [Act.put, List.setIfInBounds_toArray, List.set_cons_zero, List.set_cons_succ] <;> rfl) ?_); go_big_quiet_on) | go_big_quiet_step (first | (go_at_call 45; with_reducible exact cls_call _ HN.out) | (go_at_call 41; with_reducible exact cls_call _ HV.out)))
          refine wpQuiet_nil ?_
          intro i
          have hI := i.property
          go_wp2
          go_returns
          exact ⟨by simp, below_on hB hI⟩
        · have d4 : decide (at_ ≤ 8252) = false := decide_eq_false h4
          have hin : inAt at_ = false := Bool.eq_false_iff.2 (fun q => by have := hiff.1 q; omega)
          clear h1 h2 h3 h4 hiff
          have HI := Lib.hid (fun (b mb fb rb g : Nat) (F : List Int) (s : St) (X : World) (h : Box b mb ⟨4096, 64, 8192, 64, fb, rb⟩ F s X) (hg : X.heap[g]? = some (.cells #[.int .u8 1, .int .u8 2, .int .u8 3, .int .u8 4] 5 (0, 0))) => (show Calls Try.prog 45 _ X (fun e w' => e = .returned (.int .i64 6) ∧ But [fb, rb] X w') from by
            have q := input_at at_ ha h hg
            rw [hin] at q
            exact q))
          go_enter Try.func13, Try.ntmps13
          go_upto_region 1 with (fail)
          (try simp only [Act.put, List.setIfInBounds_toArray, List.set_cons_zero, List.set_cons_succ])
          refine wp_abs (fun W => W.heap[w.heap.size]? = some (.cells #[.int .u32 f, .int .u32 fn, .int .u32 r, .int .u32 rn, .int .u32 en, .int .u32 tx, .int .u32 tn, .int .u32 sa, .int .u32 sn, .int .u32 rm, .int .u64 fu, .int .u32 ia, .int .u32 il, .int .u32 oa, .int .u32 ol, .slice A0 n0 c0, .slice A1 n1 c1] 78 (0, 0)) ∧ Below w.heap.size w W) ⟨by (repeat' (first | (with_reducible first | assumption | exact hpA _ _ _ rfl | refine hpN ?_ | refine hpD ?_) | ((with_reducible first | refine hpP ?_ ?_ | refine hpT ?_ ?_); (focus (first | omega | (simp [zA, zS, zD, zQ] <;> omega)))) | ((with_reducible refine hpA _ _ _ ?_); (focus (first | omega | (simp [zA, zS, zD, zQ] <;> omega)))) | ((with_reducible refine hpB ?_ ?_); (focus assumption)) | (with_reducible apply hpS))), by (repeat' (first | (with_reducible first | exact Below.refl _ _ | refine blQ ?_ _ | refine Below.drew ?_ | refine blO ?_ (by assumption) | refine Below.alloc ?_ ?_ _ | refine Below.setCell ?_ ?_ _ | refine Below.frame ?_ _) | omega | (simp only [zA, zS, zD, zQ]; omega)))⟩ ?_
          intro W hW
          obtain ⟨b0, hB⟩ := hW
          have xL : ∀ W2 : World, (∃ i : Cls W, W2 = i.val) → W2.heap[w.heap.size]? = some (.cells #[.int .u32 f, .int .u32 fn, .int .u32 r, .int .u32 rn, .int .u32 en, .int .u32 tx, .int .u32 tn, .int .u32 sa, .int .u32 sn, .int .u32 rm, .int .u64 fu, .int .u32 ia, .int .u32 il, .int .u32 oa, .int .u32 ol, .slice A0 n0 c0, .slice A1 n1 c1] 78 (0, 0)) := fun W2 h => by obtain ⟨i, rfl⟩ := h; exact heap_below i.property b0
          refine region_cls_f ?_
          repeat (first | (go_big_quiet_want; (refine' quiet_loadI (.tmp 3) 14 rfl rfl rfl xL (by kernel_rfl) (by simp only [Act.put, List.setIfInBounds_toArray, List.set_cons_zero, List.set_cons_succ] <;> rfl) ?_); go_big_quiet_on) | go_big_quiet_step (first | (go_at_call 47; with_reducible exact cls_call _ HO.out)))
          refine wpQuiet_nil ?_
          intro i
          have hI := i.property
          generalize i.val = W2 at *
          have b2 := heap_below hI b0
          have hB2 := below_on hB hI
          have q0 := lt_of_heap b2
          clear xL b0 hB hI
          go_upto_region 7 with (first
            | (go_at_call 50; (refine (one_calls _).mono ?_); rintro e w3 ⟨D0, d0, D1, d1, rfl, k0, l1, k1, hB3⟩; (have z3 := hB3.size); have K0 := Lib.hid k0; have K1 := Lib.hid k1; clear k0 k1)
            | (go_at_call 39; (refine (loadOne_calls D0 d0 D1 d1 _ K0.out l1 K1.out).mono ?_); rintro e w4 ⟨b, mb, fb, rb, rfl, hX, g1, g2, g3, g4, hB4⟩; (have z4 := hB4.size); have HX := Lib.hid hX; clear hX)
            | (go_at_call 45; (refine (HI.out b mb fb rb _ _ _ _ (HX.out.below (by (repeat' (first | (with_reducible first | exact Below.refl _ _ | refine blQ ?_ _ | refine Below.drew ?_ | refine blO ?_ (by assumption) | refine Below.alloc ?_ ?_ _ | refine Below.setCell ?_ ?_ _ | refine Below.frame ?_ _) | omega | (simp only [zA, zS, zD, zQ]; omega))))) ?_).mono ?_); (focus (repeat' (first | (with_reducible first | assumption | exact hpA _ _ _ rfl | refine hpN ?_ | refine hpD ?_) | ((with_reducible first | refine hpP ?_ ?_ | refine hpT ?_ ?_); (focus (first | omega | (simp [zA, zS, zD, zQ] <;> omega)))) | ((with_reducible refine hpA _ _ _ ?_); (focus (first | omega | (simp [zA, zS, zD, zQ] <;> omega)))) | ((with_reducible refine hpB ?_ ?_); (focus assumption)) | (with_reducible apply hpS)))); rintro e w5 ⟨rfl, hB5⟩))
          (try simp only [Act.put, List.setIfInBounds_toArray, List.set_cons_zero, List.set_cons_succ])
          have hf : w.heap.size < w3.heap.size := by (try simp only [zA, zD, zQ] at z3); omega
          have hm : ∀ g ∈ [fb, rb], w.heap.size < g := by
            (try simp only [zA, zD, zQ] at g3)
            (try simp only [zA, zD, zQ] at g4)
            intro g hg
            rcases List.mem_cons.1 hg with rfl | hg
            · omega
            · rw [List.mem_singleton] at hg; subst hg; omega
          have b3 : w3.heap[w.heap.size]? = some (.cells #[.int .u32 f, .int .u32 fn, .int .u32 r, .int .u32 rn, .int .u32 en, .int .u32 tx, .int .u32 tn, .int .u32 sa, .int .u32 sn, .int .u32 rm, .int .u64 fu, .int .u32 ia, .int .u32 il, .int .u32 oa, .int .u32 ol, .slice A0 n0 c0, .slice A1 n1 c1] 78 (0, 0)) := heap_below hB3 (by (repeat' (first | (with_reducible first | assumption | exact hpA _ _ _ rfl | refine hpN ?_ | refine hpD ?_) | ((with_reducible first | refine hpP ?_ ?_ | refine hpT ?_ ?_); (focus (first | omega | (simp [zA, zS, zD, zQ] <;> omega)))) | ((with_reducible refine hpA _ _ _ ?_); (focus (first | omega | (simp [zA, zS, zD, zQ] <;> omega)))) | ((with_reducible refine hpB ?_ ?_); (focus assumption)) | (with_reducible apply hpS))))
          have b4 : w4.heap[w.heap.size]? = some (.cells #[.int .u32 f, .int .u32 fn, .int .u32 r, .int .u32 rn, .int .u32 en, .int .u32 tx, .int .u32 tn, .int .u32 sa, .int .u32 sn, .int .u32 rm, .int .u64 fu, .int .u32 ia, .int .u32 il, .int .u32 oa, .int .u32 ol, .slice A0 n0 c0, .slice A1 n1 c1] 78 (0, 0)) := heap_below hB4 (by (repeat' (first | (with_reducible first | assumption | exact hpA _ _ _ rfl | refine hpN ?_ | refine hpD ?_) | ((with_reducible first | refine hpP ?_ ?_ | refine hpT ?_ ?_); (focus (first | omega | (simp [zA, zS, zD, zQ] <;> omega)))) | ((with_reducible refine hpA _ _ _ ?_); (focus (first | omega | (simp [zA, zS, zD, zQ] <;> omega)))) | ((with_reducible refine hpB ?_ ?_); (focus assumption)) | (with_reducible apply hpS))))
          have b5 : w5.heap[w.heap.size]? = some (.cells #[.int .u32 f, .int .u32 fn, .int .u32 r, .int .u32 rn, .int .u32 en, .int .u32 tx, .int .u32 tn, .int .u32 sa, .int .u32 sn, .int .u32 rm, .int .u64 fu, .int .u32 ia, .int .u32 il, .int .u32 oa, .int .u32 ol, .slice A0 n0 c0, .slice A1 n1 c1] 78 (0, 0)) := hB5.heap (fun q => by have := hm _ q; omega) (by (repeat' (first | (with_reducible first | assumption | exact hpA _ _ _ rfl | refine hpN ?_ | refine hpD ?_) | ((with_reducible first | refine hpP ?_ ?_ | refine hpT ?_ ?_); (focus (first | omega | (simp [zA, zS, zD, zQ] <;> omega)))) | ((with_reducible refine hpA _ _ _ ?_); (focus (first | omega | (simp [zA, zS, zD, zQ] <;> omega)))) | ((with_reducible refine hpB ?_ ?_); (focus assumption)) | (with_reducible apply hpS))))
          have hB9 : Below w.heap.size w w5 := below_puts (by (repeat' (first | (with_reducible first | exact Below.refl _ _ | refine blQ ?_ _ | refine Below.drew ?_ | refine blO ?_ (by assumption) | refine Below.alloc ?_ ?_ _ | refine Below.setCell ?_ ?_ _ | refine Below.frame ?_ _) | omega | (simp only [zA, zS, zD, zQ]; omega)))) hB5 (fun g hg => Nat.le_of_lt (hm g hg))
          refine wp_abs (fun W => W.heap[w.heap.size]? = some (.cells #[.int .u32 f, .int .u32 fn, .int .u32 r, .int .u32 rn, .int .u32 en, .int .u32 tx, .int .u32 tn, .int .u32 sa, .int .u32 sn, .int .u32 rm, .int .u64 fu, .int .u32 ia, .int .u32 il, .int .u32 oa, .int .u32 ol, .slice A0 n0 c0, .slice A1 n1 c1] 78 (0, 0)) ∧ Below w.heap.size w W) ⟨by (repeat' (first | (with_reducible first | assumption | exact hpA _ _ _ rfl | refine hpN ?_ | refine hpD ?_) | ((with_reducible first | refine hpP ?_ ?_ | refine hpT ?_ ?_); (focus (first | omega | (simp [zA, zS, zD, zQ] <;> omega)))) | ((with_reducible refine hpA _ _ _ ?_); (focus (first | omega | (simp [zA, zS, zD, zQ] <;> omega)))) | ((with_reducible refine hpB ?_ ?_); (focus assumption)) | (with_reducible apply hpS))), by (repeat' (first | (with_reducible first | exact Below.refl _ _ | refine blQ ?_ _ | refine Below.drew ?_ | refine blO ?_ (by assumption) | refine Below.alloc ?_ ?_ _ | refine Below.setCell ?_ ?_ _ | refine Below.frame ?_ _) | omega | (simp only [zA, zS, zD, zQ]; omega)))⟩ ?_
          intro W hW
          obtain ⟨b0, hB⟩ := hW
          have xL : ∀ W2 : World, (∃ i : Cls W, W2 = i.val) → W2.heap[w.heap.size]? = some (.cells #[.int .u32 f, .int .u32 fn, .int .u32 r, .int .u32 rn, .int .u32 en, .int .u32 tx, .int .u32 tn, .int .u32 sa, .int .u32 sn, .int .u32 rm, .int .u64 fu, .int .u32 ia, .int .u32 il, .int .u32 oa, .int .u32 ol, .slice A0 n0 c0, .slice A1 n1 c1] 78 (0, 0)) := fun W2 h => by obtain ⟨i, rfl⟩ := h; exact heap_below i.property b0
          refine region_cls_f ?_
          repeat (first | (go_big_quiet_want; (refine' quiet_loadI (.tmp 3) 53 rfl rfl rfl xL (by kernel_rfl) (by simp only [Act.put, List.setIfInBounds_toArray, List.set_cons_zero, List.set_cons_succ] <;> rfl) ?_); go_big_quiet_on) | go_big_quiet_step (first | (go_at_call 45; with_reducible exact cls_call _ HN.out) | (go_at_call 41; with_reducible exact cls_call _ HV.out)))
          refine wpQuiet_nil ?_
          intro i
          have hI := i.property
          go_wp2
          go_returns
          exact ⟨by simp, below_on hB hI⟩
      · have d3 : decide (8192 ≤ at_) = false := decide_eq_false h3
        have hin : inAt at_ = false := Bool.eq_false_iff.2 (fun q => by have := hiff.1 q; omega)
        clear h1 h2 h3 hiff
        have HI := Lib.hid (fun (b mb fb rb g : Nat) (F : List Int) (s : St) (X : World) (h : Box b mb ⟨4096, 64, 8192, 64, fb, rb⟩ F s X) (hg : X.heap[g]? = some (.cells #[.int .u8 1, .int .u8 2, .int .u8 3, .int .u8 4] 5 (0, 0))) => (show Calls Try.prog 45 _ X (fun e w' => e = .returned (.int .i64 6) ∧ But [fb, rb] X w') from by
          have q := input_at at_ ha h hg
          rw [hin] at q
          exact q))
        go_enter Try.func13, Try.ntmps13
        go_upto_region 1 with (fail)
        (try simp only [Act.put, List.setIfInBounds_toArray, List.set_cons_zero, List.set_cons_succ])
        refine wp_abs (fun W => W.heap[w.heap.size]? = some (.cells #[.int .u32 f, .int .u32 fn, .int .u32 r, .int .u32 rn, .int .u32 en, .int .u32 tx, .int .u32 tn, .int .u32 sa, .int .u32 sn, .int .u32 rm, .int .u64 fu, .int .u32 ia, .int .u32 il, .int .u32 oa, .int .u32 ol, .slice A0 n0 c0, .slice A1 n1 c1] 78 (0, 0)) ∧ Below w.heap.size w W) ⟨by (repeat' (first | (with_reducible first | assumption | exact hpA _ _ _ rfl | refine hpN ?_ | refine hpD ?_) | ((with_reducible first | refine hpP ?_ ?_ | refine hpT ?_ ?_); (focus (first | omega | (simp [zA, zS, zD, zQ] <;> omega)))) | ((with_reducible refine hpA _ _ _ ?_); (focus (first | omega | (simp [zA, zS, zD, zQ] <;> omega)))) | ((with_reducible refine hpB ?_ ?_); (focus assumption)) | (with_reducible apply hpS))), by (repeat' (first | (with_reducible first | exact Below.refl _ _ | refine blQ ?_ _ | refine Below.drew ?_ | refine blO ?_ (by assumption) | refine Below.alloc ?_ ?_ _ | refine Below.setCell ?_ ?_ _ | refine Below.frame ?_ _) | omega | (simp only [zA, zS, zD, zQ]; omega)))⟩ ?_
        intro W hW
        obtain ⟨b0, hB⟩ := hW
        have xL : ∀ W2 : World, (∃ i : Cls W, W2 = i.val) → W2.heap[w.heap.size]? = some (.cells #[.int .u32 f, .int .u32 fn, .int .u32 r, .int .u32 rn, .int .u32 en, .int .u32 tx, .int .u32 tn, .int .u32 sa, .int .u32 sn, .int .u32 rm, .int .u64 fu, .int .u32 ia, .int .u32 il, .int .u32 oa, .int .u32 ol, .slice A0 n0 c0, .slice A1 n1 c1] 78 (0, 0)) := fun W2 h => by obtain ⟨i, rfl⟩ := h; exact heap_below i.property b0
        refine region_cls_f ?_
        repeat (first | (go_big_quiet_want; (refine' quiet_loadI (.tmp 3) 14 rfl rfl rfl xL (by kernel_rfl) (by simp only [Act.put, List.setIfInBounds_toArray, List.set_cons_zero, List.set_cons_succ] <;> rfl) ?_); go_big_quiet_on) | go_big_quiet_step (first | (go_at_call 47; with_reducible exact cls_call _ HO.out)))
        refine wpQuiet_nil ?_
        intro i
        have hI := i.property
        generalize i.val = W2 at *
        have b2 := heap_below hI b0
        have hB2 := below_on hB hI
        have q0 := lt_of_heap b2
        clear xL b0 hB hI
        go_upto_region 7 with (first
          | (go_at_call 50; (refine (one_calls _).mono ?_); rintro e w3 ⟨D0, d0, D1, d1, rfl, k0, l1, k1, hB3⟩; (have z3 := hB3.size); have K0 := Lib.hid k0; have K1 := Lib.hid k1; clear k0 k1)
          | (go_at_call 39; (refine (loadOne_calls D0 d0 D1 d1 _ K0.out l1 K1.out).mono ?_); rintro e w4 ⟨b, mb, fb, rb, rfl, hX, g1, g2, g3, g4, hB4⟩; (have z4 := hB4.size); have HX := Lib.hid hX; clear hX)
          | (go_at_call 45; (refine (HI.out b mb fb rb _ _ _ _ (HX.out.below (by (repeat' (first | (with_reducible first | exact Below.refl _ _ | refine blQ ?_ _ | refine Below.drew ?_ | refine blO ?_ (by assumption) | refine Below.alloc ?_ ?_ _ | refine Below.setCell ?_ ?_ _ | refine Below.frame ?_ _) | omega | (simp only [zA, zS, zD, zQ]; omega))))) ?_).mono ?_); (focus (repeat' (first | (with_reducible first | assumption | exact hpA _ _ _ rfl | refine hpN ?_ | refine hpD ?_) | ((with_reducible first | refine hpP ?_ ?_ | refine hpT ?_ ?_); (focus (first | omega | (simp [zA, zS, zD, zQ] <;> omega)))) | ((with_reducible refine hpA _ _ _ ?_); (focus (first | omega | (simp [zA, zS, zD, zQ] <;> omega)))) | ((with_reducible refine hpB ?_ ?_); (focus assumption)) | (with_reducible apply hpS)))); rintro e w5 ⟨rfl, hB5⟩))
        (try simp only [Act.put, List.setIfInBounds_toArray, List.set_cons_zero, List.set_cons_succ])
        have hf : w.heap.size < w3.heap.size := by (try simp only [zA, zD, zQ] at z3); omega
        have hm : ∀ g ∈ [fb, rb], w.heap.size < g := by
          (try simp only [zA, zD, zQ] at g3)
          (try simp only [zA, zD, zQ] at g4)
          intro g hg
          rcases List.mem_cons.1 hg with rfl | hg
          · omega
          · rw [List.mem_singleton] at hg; subst hg; omega
        have b3 : w3.heap[w.heap.size]? = some (.cells #[.int .u32 f, .int .u32 fn, .int .u32 r, .int .u32 rn, .int .u32 en, .int .u32 tx, .int .u32 tn, .int .u32 sa, .int .u32 sn, .int .u32 rm, .int .u64 fu, .int .u32 ia, .int .u32 il, .int .u32 oa, .int .u32 ol, .slice A0 n0 c0, .slice A1 n1 c1] 78 (0, 0)) := heap_below hB3 (by (repeat' (first | (with_reducible first | assumption | exact hpA _ _ _ rfl | refine hpN ?_ | refine hpD ?_) | ((with_reducible first | refine hpP ?_ ?_ | refine hpT ?_ ?_); (focus (first | omega | (simp [zA, zS, zD, zQ] <;> omega)))) | ((with_reducible refine hpA _ _ _ ?_); (focus (first | omega | (simp [zA, zS, zD, zQ] <;> omega)))) | ((with_reducible refine hpB ?_ ?_); (focus assumption)) | (with_reducible apply hpS))))
        have b4 : w4.heap[w.heap.size]? = some (.cells #[.int .u32 f, .int .u32 fn, .int .u32 r, .int .u32 rn, .int .u32 en, .int .u32 tx, .int .u32 tn, .int .u32 sa, .int .u32 sn, .int .u32 rm, .int .u64 fu, .int .u32 ia, .int .u32 il, .int .u32 oa, .int .u32 ol, .slice A0 n0 c0, .slice A1 n1 c1] 78 (0, 0)) := heap_below hB4 (by (repeat' (first | (with_reducible first | assumption | exact hpA _ _ _ rfl | refine hpN ?_ | refine hpD ?_) | ((with_reducible first | refine hpP ?_ ?_ | refine hpT ?_ ?_); (focus (first | omega | (simp [zA, zS, zD, zQ] <;> omega)))) | ((with_reducible refine hpA _ _ _ ?_); (focus (first | omega | (simp [zA, zS, zD, zQ] <;> omega)))) | ((with_reducible refine hpB ?_ ?_); (focus assumption)) | (with_reducible apply hpS))))
        have b5 : w5.heap[w.heap.size]? = some (.cells #[.int .u32 f, .int .u32 fn, .int .u32 r, .int .u32 rn, .int .u32 en, .int .u32 tx, .int .u32 tn, .int .u32 sa, .int .u32 sn, .int .u32 rm, .int .u64 fu, .int .u32 ia, .int .u32 il, .int .u32 oa, .int .u32 ol, .slice A0 n0 c0, .slice A1 n1 c1] 78 (0, 0)) := hB5.heap (fun q => by have := hm _ q; omega) (by (repeat' (first | (with_reducible first | assumption | exact hpA _ _ _ rfl | refine hpN ?_ | refine hpD ?_) | ((with_reducible first | refine hpP ?_ ?_ | refine hpT ?_ ?_); (focus (first | omega | (simp [zA, zS, zD, zQ] <;> omega)))) | ((with_reducible refine hpA _ _ _ ?_); (focus (first | omega | (simp [zA, zS, zD, zQ] <;> omega)))) | ((with_reducible refine hpB ?_ ?_); (focus assumption)) | (with_reducible apply hpS))))
        have hB9 : Below w.heap.size w w5 := below_puts (by (repeat' (first | (with_reducible first | exact Below.refl _ _ | refine blQ ?_ _ | refine Below.drew ?_ | refine blO ?_ (by assumption) | refine Below.alloc ?_ ?_ _ | refine Below.setCell ?_ ?_ _ | refine Below.frame ?_ _) | omega | (simp only [zA, zS, zD, zQ]; omega)))) hB5 (fun g hg => Nat.le_of_lt (hm g hg))
        refine wp_abs (fun W => W.heap[w.heap.size]? = some (.cells #[.int .u32 f, .int .u32 fn, .int .u32 r, .int .u32 rn, .int .u32 en, .int .u32 tx, .int .u32 tn, .int .u32 sa, .int .u32 sn, .int .u32 rm, .int .u64 fu, .int .u32 ia, .int .u32 il, .int .u32 oa, .int .u32 ol, .slice A0 n0 c0, .slice A1 n1 c1] 78 (0, 0)) ∧ Below w.heap.size w W) ⟨by (repeat' (first | (with_reducible first | assumption | exact hpA _ _ _ rfl | refine hpN ?_ | refine hpD ?_) | ((with_reducible first | refine hpP ?_ ?_ | refine hpT ?_ ?_); (focus (first | omega | (simp [zA, zS, zD, zQ] <;> omega)))) | ((with_reducible refine hpA _ _ _ ?_); (focus (first | omega | (simp [zA, zS, zD, zQ] <;> omega)))) | ((with_reducible refine hpB ?_ ?_); (focus assumption)) | (with_reducible apply hpS))), by (repeat' (first | (with_reducible first | exact Below.refl _ _ | refine blQ ?_ _ | refine Below.drew ?_ | refine blO ?_ (by assumption) | refine Below.alloc ?_ ?_ _ | refine Below.setCell ?_ ?_ _ | refine Below.frame ?_ _) | omega | (simp only [zA, zS, zD, zQ]; omega)))⟩ ?_
        intro W hW
        obtain ⟨b0, hB⟩ := hW
        have xL : ∀ W2 : World, (∃ i : Cls W, W2 = i.val) → W2.heap[w.heap.size]? = some (.cells #[.int .u32 f, .int .u32 fn, .int .u32 r, .int .u32 rn, .int .u32 en, .int .u32 tx, .int .u32 tn, .int .u32 sa, .int .u32 sn, .int .u32 rm, .int .u64 fu, .int .u32 ia, .int .u32 il, .int .u32 oa, .int .u32 ol, .slice A0 n0 c0, .slice A1 n1 c1] 78 (0, 0)) := fun W2 h => by obtain ⟨i, rfl⟩ := h; exact heap_below i.property b0
        refine region_cls_f ?_
        repeat (first | (go_big_quiet_want; (refine' quiet_loadI (.tmp 3) 53 rfl rfl rfl xL (by kernel_rfl) (by simp only [Act.put, List.setIfInBounds_toArray, List.set_cons_zero, List.set_cons_succ] <;> rfl) ?_); go_big_quiet_on) | go_big_quiet_step (first | (go_at_call 45; with_reducible exact cls_call _ HN.out) | (go_at_call 41; with_reducible exact cls_call _ HV.out)))
        refine wpQuiet_nil ?_
        intro i
        have hI := i.property
        go_wp2
        go_returns
        exact ⟨by simp, below_on hB hI⟩
  · have d1 : decide (4096 ≤ at_) = false := decide_eq_false h1
    have d3 : decide (8192 ≤ at_) = false := decide_eq_false (by omega)
    have hin : inAt at_ = false := Bool.eq_false_iff.2 (fun q => by have := hiff.1 q; omega)
    clear h1 hiff
    have HI := Lib.hid (fun (b mb fb rb g : Nat) (F : List Int) (s : St) (X : World) (h : Box b mb ⟨4096, 64, 8192, 64, fb, rb⟩ F s X) (hg : X.heap[g]? = some (.cells #[.int .u8 1, .int .u8 2, .int .u8 3, .int .u8 4] 5 (0, 0))) => (show Calls Try.prog 45 _ X (fun e w' => e = .returned (.int .i64 6) ∧ But [fb, rb] X w') from by
      have q := input_at at_ ha h hg
      rw [hin] at q
      exact q))
    go_enter Try.func13, Try.ntmps13
    go_upto_region 1 with (fail)
    (try simp only [Act.put, List.setIfInBounds_toArray, List.set_cons_zero, List.set_cons_succ])
    refine wp_abs (fun W => W.heap[w.heap.size]? = some (.cells #[.int .u32 f, .int .u32 fn, .int .u32 r, .int .u32 rn, .int .u32 en, .int .u32 tx, .int .u32 tn, .int .u32 sa, .int .u32 sn, .int .u32 rm, .int .u64 fu, .int .u32 ia, .int .u32 il, .int .u32 oa, .int .u32 ol, .slice A0 n0 c0, .slice A1 n1 c1] 78 (0, 0)) ∧ Below w.heap.size w W) ⟨by (repeat' (first | (with_reducible first | assumption | exact hpA _ _ _ rfl | refine hpN ?_ | refine hpD ?_) | ((with_reducible first | refine hpP ?_ ?_ | refine hpT ?_ ?_); (focus (first | omega | (simp [zA, zS, zD, zQ] <;> omega)))) | ((with_reducible refine hpA _ _ _ ?_); (focus (first | omega | (simp [zA, zS, zD, zQ] <;> omega)))) | ((with_reducible refine hpB ?_ ?_); (focus assumption)) | (with_reducible apply hpS))), by (repeat' (first | (with_reducible first | exact Below.refl _ _ | refine blQ ?_ _ | refine Below.drew ?_ | refine blO ?_ (by assumption) | refine Below.alloc ?_ ?_ _ | refine Below.setCell ?_ ?_ _ | refine Below.frame ?_ _) | omega | (simp only [zA, zS, zD, zQ]; omega)))⟩ ?_
    intro W hW
    obtain ⟨b0, hB⟩ := hW
    have xL : ∀ W2 : World, (∃ i : Cls W, W2 = i.val) → W2.heap[w.heap.size]? = some (.cells #[.int .u32 f, .int .u32 fn, .int .u32 r, .int .u32 rn, .int .u32 en, .int .u32 tx, .int .u32 tn, .int .u32 sa, .int .u32 sn, .int .u32 rm, .int .u64 fu, .int .u32 ia, .int .u32 il, .int .u32 oa, .int .u32 ol, .slice A0 n0 c0, .slice A1 n1 c1] 78 (0, 0)) := fun W2 h => by obtain ⟨i, rfl⟩ := h; exact heap_below i.property b0
    refine region_cls_f ?_
    repeat (first | (go_big_quiet_want; (refine' quiet_loadI (.tmp 3) 14 rfl rfl rfl xL (by kernel_rfl) (by simp only [Act.put, List.setIfInBounds_toArray, List.set_cons_zero, List.set_cons_succ] <;> rfl) ?_); go_big_quiet_on) | go_big_quiet_step (first | (go_at_call 47; with_reducible exact cls_call _ HO.out)))
    refine wpQuiet_nil ?_
    intro i
    have hI := i.property
    generalize i.val = W2 at *
    have b2 := heap_below hI b0
    have hB2 := below_on hB hI
    have q0 := lt_of_heap b2
    clear xL b0 hB hI
    go_upto_region 7 with (first
      | (go_at_call 50; (refine (one_calls _).mono ?_); rintro e w3 ⟨D0, d0, D1, d1, rfl, k0, l1, k1, hB3⟩; (have z3 := hB3.size); have K0 := Lib.hid k0; have K1 := Lib.hid k1; clear k0 k1)
      | (go_at_call 39; (refine (loadOne_calls D0 d0 D1 d1 _ K0.out l1 K1.out).mono ?_); rintro e w4 ⟨b, mb, fb, rb, rfl, hX, g1, g2, g3, g4, hB4⟩; (have z4 := hB4.size); have HX := Lib.hid hX; clear hX)
      | (go_at_call 45; (refine (HI.out b mb fb rb _ _ _ _ (HX.out.below (by (repeat' (first | (with_reducible first | exact Below.refl _ _ | refine blQ ?_ _ | refine Below.drew ?_ | refine blO ?_ (by assumption) | refine Below.alloc ?_ ?_ _ | refine Below.setCell ?_ ?_ _ | refine Below.frame ?_ _) | omega | (simp only [zA, zS, zD, zQ]; omega))))) ?_).mono ?_); (focus (repeat' (first | (with_reducible first | assumption | exact hpA _ _ _ rfl | refine hpN ?_ | refine hpD ?_) | ((with_reducible first | refine hpP ?_ ?_ | refine hpT ?_ ?_); (focus (first | omega | (simp [zA, zS, zD, zQ] <;> omega)))) | ((with_reducible refine hpA _ _ _ ?_); (focus (first | omega | (simp [zA, zS, zD, zQ] <;> omega)))) | ((with_reducible refine hpB ?_ ?_); (focus assumption)) | (with_reducible apply hpS)))); rintro e w5 ⟨rfl, hB5⟩))
    (try simp only [Act.put, List.setIfInBounds_toArray, List.set_cons_zero, List.set_cons_succ])
    have hf : w.heap.size < w3.heap.size := by (try simp only [zA, zD, zQ] at z3); omega
    have hm : ∀ g ∈ [fb, rb], w.heap.size < g := by
      (try simp only [zA, zD, zQ] at g3)
      (try simp only [zA, zD, zQ] at g4)
      intro g hg
      rcases List.mem_cons.1 hg with rfl | hg
      · omega
      · rw [List.mem_singleton] at hg; subst hg; omega
    have b3 : w3.heap[w.heap.size]? = some (.cells #[.int .u32 f, .int .u32 fn, .int .u32 r, .int .u32 rn, .int .u32 en, .int .u32 tx, .int .u32 tn, .int .u32 sa, .int .u32 sn, .int .u32 rm, .int .u64 fu, .int .u32 ia, .int .u32 il, .int .u32 oa, .int .u32 ol, .slice A0 n0 c0, .slice A1 n1 c1] 78 (0, 0)) := heap_below hB3 (by (repeat' (first | (with_reducible first | assumption | exact hpA _ _ _ rfl | refine hpN ?_ | refine hpD ?_) | ((with_reducible first | refine hpP ?_ ?_ | refine hpT ?_ ?_); (focus (first | omega | (simp [zA, zS, zD, zQ] <;> omega)))) | ((with_reducible refine hpA _ _ _ ?_); (focus (first | omega | (simp [zA, zS, zD, zQ] <;> omega)))) | ((with_reducible refine hpB ?_ ?_); (focus assumption)) | (with_reducible apply hpS))))
    have b4 : w4.heap[w.heap.size]? = some (.cells #[.int .u32 f, .int .u32 fn, .int .u32 r, .int .u32 rn, .int .u32 en, .int .u32 tx, .int .u32 tn, .int .u32 sa, .int .u32 sn, .int .u32 rm, .int .u64 fu, .int .u32 ia, .int .u32 il, .int .u32 oa, .int .u32 ol, .slice A0 n0 c0, .slice A1 n1 c1] 78 (0, 0)) := heap_below hB4 (by (repeat' (first | (with_reducible first | assumption | exact hpA _ _ _ rfl | refine hpN ?_ | refine hpD ?_) | ((with_reducible first | refine hpP ?_ ?_ | refine hpT ?_ ?_); (focus (first | omega | (simp [zA, zS, zD, zQ] <;> omega)))) | ((with_reducible refine hpA _ _ _ ?_); (focus (first | omega | (simp [zA, zS, zD, zQ] <;> omega)))) | ((with_reducible refine hpB ?_ ?_); (focus assumption)) | (with_reducible apply hpS))))
    have b5 : w5.heap[w.heap.size]? = some (.cells #[.int .u32 f, .int .u32 fn, .int .u32 r, .int .u32 rn, .int .u32 en, .int .u32 tx, .int .u32 tn, .int .u32 sa, .int .u32 sn, .int .u32 rm, .int .u64 fu, .int .u32 ia, .int .u32 il, .int .u32 oa, .int .u32 ol, .slice A0 n0 c0, .slice A1 n1 c1] 78 (0, 0)) := hB5.heap (fun q => by have := hm _ q; omega) (by (repeat' (first | (with_reducible first | assumption | exact hpA _ _ _ rfl | refine hpN ?_ | refine hpD ?_) | ((with_reducible first | refine hpP ?_ ?_ | refine hpT ?_ ?_); (focus (first | omega | (simp [zA, zS, zD, zQ] <;> omega)))) | ((with_reducible refine hpA _ _ _ ?_); (focus (first | omega | (simp [zA, zS, zD, zQ] <;> omega)))) | ((with_reducible refine hpB ?_ ?_); (focus assumption)) | (with_reducible apply hpS))))
    have hB9 : Below w.heap.size w w5 := below_puts (by (repeat' (first | (with_reducible first | exact Below.refl _ _ | refine blQ ?_ _ | refine Below.drew ?_ | refine blO ?_ (by assumption) | refine Below.alloc ?_ ?_ _ | refine Below.setCell ?_ ?_ _ | refine Below.frame ?_ _) | omega | (simp only [zA, zS, zD, zQ]; omega)))) hB5 (fun g hg => Nat.le_of_lt (hm g hg))
    refine wp_abs (fun W => W.heap[w.heap.size]? = some (.cells #[.int .u32 f, .int .u32 fn, .int .u32 r, .int .u32 rn, .int .u32 en, .int .u32 tx, .int .u32 tn, .int .u32 sa, .int .u32 sn, .int .u32 rm, .int .u64 fu, .int .u32 ia, .int .u32 il, .int .u32 oa, .int .u32 ol, .slice A0 n0 c0, .slice A1 n1 c1] 78 (0, 0)) ∧ Below w.heap.size w W) ⟨by (repeat' (first | (with_reducible first | assumption | exact hpA _ _ _ rfl | refine hpN ?_ | refine hpD ?_) | ((with_reducible first | refine hpP ?_ ?_ | refine hpT ?_ ?_); (focus (first | omega | (simp [zA, zS, zD, zQ] <;> omega)))) | ((with_reducible refine hpA _ _ _ ?_); (focus (first | omega | (simp [zA, zS, zD, zQ] <;> omega)))) | ((with_reducible refine hpB ?_ ?_); (focus assumption)) | (with_reducible apply hpS))), by (repeat' (first | (with_reducible first | exact Below.refl _ _ | refine blQ ?_ _ | refine Below.drew ?_ | refine blO ?_ (by assumption) | refine Below.alloc ?_ ?_ _ | refine Below.setCell ?_ ?_ _ | refine Below.frame ?_ _) | omega | (simp only [zA, zS, zD, zQ]; omega)))⟩ ?_
    intro W hW
    obtain ⟨b0, hB⟩ := hW
    have xL : ∀ W2 : World, (∃ i : Cls W, W2 = i.val) → W2.heap[w.heap.size]? = some (.cells #[.int .u32 f, .int .u32 fn, .int .u32 r, .int .u32 rn, .int .u32 en, .int .u32 tx, .int .u32 tn, .int .u32 sa, .int .u32 sn, .int .u32 rm, .int .u64 fu, .int .u32 ia, .int .u32 il, .int .u32 oa, .int .u32 ol, .slice A0 n0 c0, .slice A1 n1 c1] 78 (0, 0)) := fun W2 h => by obtain ⟨i, rfl⟩ := h; exact heap_below i.property b0
    refine region_cls_f ?_
    repeat (first | (go_big_quiet_want; (refine' quiet_loadI (.tmp 3) 53 rfl rfl rfl xL (by kernel_rfl) (by simp only [Act.put, List.setIfInBounds_toArray, List.set_cons_zero, List.set_cons_succ] <;> rfl) ?_); go_big_quiet_on) | go_big_quiet_step (first | (go_at_call 45; with_reducible exact cls_call _ HN.out) | (go_at_call 41; with_reducible exact cls_call _ HV.out)))
    refine wpQuiet_nil ?_
    intro i
    have hI := i.property
    go_wp2
    go_returns
    exact ⟨by simp, below_on hB hI⟩
end Go.Proofs.Ytioopcilcgebeaa.CpuA
