/- image.data. -/
import Derived.Test.YtioopcilcgebeaaImgC
set_option linter.unusedVariables false
set_option linter.unusedSimpArgs false
namespace Go.Proofs.Ytioopcilcgebeaa.CpuA
open Go.RowKit Go.Proofs.Ytioopcilcgebeaa.Base Go.Proofs.YtioopcilcgebeaaW.PrintWords

set_option maxHeartbeats 8000000 in
set_option maxRecDepth 100000 in
theorem data_calls (f fn r rn en tx tn sa sn rm fu ia il oa ol : Int) (A0 : Option Addr) (c0 : Nat) (ws : List PCpu.S73) (A1 : Option Addr) (c1 : Nat) (ss : List PCpu.S85) (w : World) (hr0 : Kd.C PCpu.k73 w A0 ws.length ws) (hr1 : Kd.C PCpu.k85 w A1 ss.length ss) (l1 : ss.length ≤ 1000) :
    Calls Try.prog 137 #[.agg #[.int .u32 f, .int .u32 fn, .int .u32 r, .int .u32 rn, .int .u32 en, .int .u32 tx, .int .u32 tn, .int .u32 sa, .int .u32 sn, .int .u32 rm, .int .u64 fu, .int .u32 ia, .int .u32 il, .int .u32 oa, .int .u32 ol, .slice A0 ws.length c0, .slice A1 ss.length c1]] w fun e w' => e = .returned (.bool (dataT r rn sa sn rm ia il oa ol ws ss)) ∧ Below w.heap.size w w' := by
  have HR0 := Lib.hid hr0
  have HR1 := Lib.hid hr1
  clear hr0 hr1
  by_cases h1 : Int.tmod sa 16 ≠ 0
  · have eh1 : decide (Int.tmod sa 16 ≠ 0) = true := decide_eq_true h1
    have eh10 : (Int.tmod sa 16 != 0) = true := by simpa using h1
    clear h1
    go_enter Try.func137, Try.ntmps137
    go_wp2_with (first
      | (go_at_call 151; (refine (banks_calls _ _ _ _ _).mono ?_); rintro e w1 ⟨rfl, hB1⟩; (have z1 : w.heap.size < w1.heap.size := by (have := hB1.size; simp only [zA] at this; omega)); (have b1 : w1.heap[w.heap.size]? = some (.cells #[.int .u32 f, .int .u32 fn, .int .u32 r, .int .u32 rn, .int .u32 en, .int .u32 tx, .int .u32 tn, .int .u32 sa, .int .u32 sn, .int .u32 rm, .int .u64 fu, .int .u32 ia, .int .u32 il, .int .u32 oa, .int .u32 ol, .slice A0 ws.length c0, .slice A1 ss.length c1] 78 (0, 0)) := heap_below hB1 (by (repeat' (first | (with_reducible first | assumption | exact hpA _ _ _ rfl | refine hpN ?_ | refine hpD ?_) | ((with_reducible first | refine hpP ?_ ?_ | refine hpT ?_ ?_); (focus (first | omega | (simp [zA, zS, zD, zQ] <;> omega)))) | ((with_reducible refine hpA _ _ _ ?_); (focus (first | omega | (simp [zA, zS, zD, zQ] <;> omega)))) | ((with_reducible refine hpB ?_ ?_); (focus assumption)) | (with_reducible apply hpS))))); (have x7 : w1.cell? ⟨w.heap.size, 7, none⟩ = some (.int .u32 sa) := (cell_of_heap b1 7).trans rfl); (have x8 : w1.cell? ⟨w.heap.size, 8, none⟩ = some (.int .u32 sn) := (cell_of_heap b1 8).trans rfl); (have x15 : w1.cell? ⟨w.heap.size, 15, none⟩ = some (.slice A0 ws.length c0) := (cell_of_heap b1 15).trans rfl)))
    go_returns
    exact ⟨by simp [dataT, eh1], by (repeat' (first | (with_reducible first | exact Below.refl _ _ | refine blQ ?_ _ | refine Below.drew ?_ | refine blO ?_ (by assumption) | refine Below.alloc ?_ ?_ _ | refine Below.setCell ?_ ?_ _ | refine Below.frame ?_ _) | omega | (simp only [zA, zS, zD, zQ]; omega)))⟩
  · have eh1 : decide (Int.tmod sa 16 ≠ 0) = false := decide_eq_false h1
    have eh10 : (Int.tmod sa 16 != 0) = false := by simpa using h1
    clear h1
    by_cases h2 : Int.tmod sn 16 ≠ 0
    · have eh2 : decide (Int.tmod sn 16 ≠ 0) = true := decide_eq_true h2
      have eh20 : (Int.tmod sn 16 != 0) = true := by simpa using h2
      clear h2
      go_enter Try.func137, Try.ntmps137
      go_wp2_with (first
        | (go_at_call 151; (refine (banks_calls _ _ _ _ _).mono ?_); rintro e w1 ⟨rfl, hB1⟩; (have z1 : w.heap.size < w1.heap.size := by (have := hB1.size; simp only [zA] at this; omega)); (have b1 : w1.heap[w.heap.size]? = some (.cells #[.int .u32 f, .int .u32 fn, .int .u32 r, .int .u32 rn, .int .u32 en, .int .u32 tx, .int .u32 tn, .int .u32 sa, .int .u32 sn, .int .u32 rm, .int .u64 fu, .int .u32 ia, .int .u32 il, .int .u32 oa, .int .u32 ol, .slice A0 ws.length c0, .slice A1 ss.length c1] 78 (0, 0)) := heap_below hB1 (by (repeat' (first | (with_reducible first | assumption | exact hpA _ _ _ rfl | refine hpN ?_ | refine hpD ?_) | ((with_reducible first | refine hpP ?_ ?_ | refine hpT ?_ ?_); (focus (first | omega | (simp [zA, zS, zD, zQ] <;> omega)))) | ((with_reducible refine hpA _ _ _ ?_); (focus (first | omega | (simp [zA, zS, zD, zQ] <;> omega)))) | ((with_reducible refine hpB ?_ ?_); (focus assumption)) | (with_reducible apply hpS))))); (have x7 : w1.cell? ⟨w.heap.size, 7, none⟩ = some (.int .u32 sa) := (cell_of_heap b1 7).trans rfl); (have x8 : w1.cell? ⟨w.heap.size, 8, none⟩ = some (.int .u32 sn) := (cell_of_heap b1 8).trans rfl); (have x15 : w1.cell? ⟨w.heap.size, 15, none⟩ = some (.slice A0 ws.length c0) := (cell_of_heap b1 15).trans rfl)))
      go_returns
      exact ⟨by simp [dataT, eh1, eh2], by (repeat' (first | (with_reducible first | exact Below.refl _ _ | refine blQ ?_ _ | refine Below.drew ?_ | refine blO ?_ (by assumption) | refine Below.alloc ?_ ?_ _ | refine Below.setCell ?_ ?_ _ | refine Below.frame ?_ _) | omega | (simp only [zA, zS, zD, zQ]; omega)))⟩
    · have eh2 : decide (Int.tmod sn 16 ≠ 0) = false := decide_eq_false h2
      have eh20 : (Int.tmod sn 16 != 0) = false := by simpa using h2
      clear h2
      by_cases h3 : sa < sn
      · have eh3 : decide (sa < sn) = true := decide_eq_true h3
        clear h3
        go_enter Try.func137, Try.ntmps137
        go_wp2_with (first
          | (go_at_call 151; (refine (banks_calls _ _ _ _ _).mono ?_); rintro e w1 ⟨rfl, hB1⟩; (have z1 : w.heap.size < w1.heap.size := by (have := hB1.size; simp only [zA] at this; omega)); (have b1 : w1.heap[w.heap.size]? = some (.cells #[.int .u32 f, .int .u32 fn, .int .u32 r, .int .u32 rn, .int .u32 en, .int .u32 tx, .int .u32 tn, .int .u32 sa, .int .u32 sn, .int .u32 rm, .int .u64 fu, .int .u32 ia, .int .u32 il, .int .u32 oa, .int .u32 ol, .slice A0 ws.length c0, .slice A1 ss.length c1] 78 (0, 0)) := heap_below hB1 (by (repeat' (first | (with_reducible first | assumption | exact hpA _ _ _ rfl | refine hpN ?_ | refine hpD ?_) | ((with_reducible first | refine hpP ?_ ?_ | refine hpT ?_ ?_); (focus (first | omega | (simp [zA, zS, zD, zQ] <;> omega)))) | ((with_reducible refine hpA _ _ _ ?_); (focus (first | omega | (simp [zA, zS, zD, zQ] <;> omega)))) | ((with_reducible refine hpB ?_ ?_); (focus assumption)) | (with_reducible apply hpS))))); (have x7 : w1.cell? ⟨w.heap.size, 7, none⟩ = some (.int .u32 sa) := (cell_of_heap b1 7).trans rfl); (have x8 : w1.cell? ⟨w.heap.size, 8, none⟩ = some (.int .u32 sn) := (cell_of_heap b1 8).trans rfl); (have x15 : w1.cell? ⟨w.heap.size, 15, none⟩ = some (.slice A0 ws.length c0) := (cell_of_heap b1 15).trans rfl)))
        go_returns
        exact ⟨by simp [dataT, eh1, eh2, eh3], by (repeat' (first | (with_reducible first | exact Below.refl _ _ | refine blQ ?_ _ | refine Below.drew ?_ | refine blO ?_ (by assumption) | refine Below.alloc ?_ ?_ _ | refine Below.setCell ?_ ?_ _ | refine Below.frame ?_ _) | omega | (simp only [zA, zS, zD, zQ]; omega)))⟩
      · have eh3 : decide (sa < sn) = false := decide_eq_false h3
        clear h3
        by_cases h4 : 8 < (ws.length : Int)
        · have eh4 : decide (8 < (ws.length : Int)) = true := decide_eq_true h4
          have eh41 : decide (8 < ws.length) = true := decide_eq_true (by omega)
          clear h4
          go_enter Try.func137, Try.ntmps137
          go_wp2_with (first
            | (go_at_call 151; (refine (banks_calls _ _ _ _ _).mono ?_); rintro e w1 ⟨rfl, hB1⟩; (have z1 : w.heap.size < w1.heap.size := by (have := hB1.size; simp only [zA] at this; omega)); (have b1 : w1.heap[w.heap.size]? = some (.cells #[.int .u32 f, .int .u32 fn, .int .u32 r, .int .u32 rn, .int .u32 en, .int .u32 tx, .int .u32 tn, .int .u32 sa, .int .u32 sn, .int .u32 rm, .int .u64 fu, .int .u32 ia, .int .u32 il, .int .u32 oa, .int .u32 ol, .slice A0 ws.length c0, .slice A1 ss.length c1] 78 (0, 0)) := heap_below hB1 (by (repeat' (first | (with_reducible first | assumption | exact hpA _ _ _ rfl | refine hpN ?_ | refine hpD ?_) | ((with_reducible first | refine hpP ?_ ?_ | refine hpT ?_ ?_); (focus (first | omega | (simp [zA, zS, zD, zQ] <;> omega)))) | ((with_reducible refine hpA _ _ _ ?_); (focus (first | omega | (simp [zA, zS, zD, zQ] <;> omega)))) | ((with_reducible refine hpB ?_ ?_); (focus assumption)) | (with_reducible apply hpS))))); (have x7 : w1.cell? ⟨w.heap.size, 7, none⟩ = some (.int .u32 sa) := (cell_of_heap b1 7).trans rfl); (have x8 : w1.cell? ⟨w.heap.size, 8, none⟩ = some (.int .u32 sn) := (cell_of_heap b1 8).trans rfl); (have x15 : w1.cell? ⟨w.heap.size, 15, none⟩ = some (.slice A0 ws.length c0) := (cell_of_heap b1 15).trans rfl)))
          go_returns
          exact ⟨by simp [dataT, eh1, eh2, eh3, eh4], by (repeat' (first | (with_reducible first | exact Below.refl _ _ | refine blQ ?_ _ | refine Below.drew ?_ | refine blO ?_ (by assumption) | refine Below.alloc ?_ ?_ _ | refine Below.setCell ?_ ?_ _ | refine Below.frame ?_ _) | omega | (simp only [zA, zS, zD, zQ]; omega)))⟩
        · have eh4 : decide (8 < (ws.length : Int)) = false := decide_eq_false h4
          have eh41 : decide (8 < ws.length) = false := decide_eq_false (by omega)
          have l0 : ws.length ≤ 8 := by omega
          clear h4
          go_enter Try.func137, Try.ntmps137
          go_wp2_with (first
            | (go_at_call 151; (refine (banks_calls _ _ _ _ _).mono ?_); rintro e w1 ⟨rfl, hB1⟩; (have z1 : w.heap.size < w1.heap.size := by (have := hB1.size; simp only [zA] at this; omega)); (have b1 : w1.heap[w.heap.size]? = some (.cells #[.int .u32 f, .int .u32 fn, .int .u32 r, .int .u32 rn, .int .u32 en, .int .u32 tx, .int .u32 tn, .int .u32 sa, .int .u32 sn, .int .u32 rm, .int .u64 fu, .int .u32 ia, .int .u32 il, .int .u32 oa, .int .u32 ol, .slice A0 ws.length c0, .slice A1 ss.length c1] 78 (0, 0)) := heap_below hB1 (by (repeat' (first | (with_reducible first | assumption | exact hpA _ _ _ rfl | refine hpN ?_ | refine hpD ?_) | ((with_reducible first | refine hpP ?_ ?_ | refine hpT ?_ ?_); (focus (first | omega | (simp [zA, zS, zD, zQ] <;> omega)))) | ((with_reducible refine hpA _ _ _ ?_); (focus (first | omega | (simp [zA, zS, zD, zQ] <;> omega)))) | ((with_reducible refine hpB ?_ ?_); (focus assumption)) | (with_reducible apply hpS))))); (have x7 : w1.cell? ⟨w.heap.size, 7, none⟩ = some (.int .u32 sa) := (cell_of_heap b1 7).trans rfl); (have x8 : w1.cell? ⟨w.heap.size, 8, none⟩ = some (.int .u32 sn) := (cell_of_heap b1 8).trans rfl); (have x15 : w1.cell? ⟨w.heap.size, 15, none⟩ = some (.slice A0 ws.length c0) := (cell_of_heap b1 15).trans rfl)))
          refine wp_abs (fun W => W.heap[w.heap.size]? = some (.cells #[.int .u32 f, .int .u32 fn, .int .u32 r, .int .u32 rn, .int .u32 en, .int .u32 tx, .int .u32 tn, .int .u32 sa, .int .u32 sn, .int .u32 rm, .int .u64 fu, .int .u32 ia, .int .u32 il, .int .u32 oa, .int .u32 ol, .slice A0 ws.length c0, .slice A1 ss.length c1] 78 (0, 0)) ∧ W.heap[w1.heap.size + 1]? = some (.cells #[.int .u64 (ofS r rn).1, .int .u64 (ofS r rn).2] 196 (0, 0)) ∧ w1.heap.size + 2 ≤ W.heap.size ∧ Below w.heap.size w W) ⟨by (repeat' (first | (with_reducible first | assumption | exact hpA _ _ _ rfl | refine hpN ?_ | refine hpD ?_) | ((with_reducible first | refine hpP ?_ ?_ | refine hpT ?_ ?_); (focus (first | omega | (simp [zA, zS, zD, zQ] <;> omega)))) | ((with_reducible refine hpA _ _ _ ?_); (focus (first | omega | (simp [zA, zS, zD, zQ] <;> omega)))) | ((with_reducible refine hpB ?_ ?_); (focus assumption)) | (with_reducible apply hpS))), by (repeat' (first | (with_reducible first | assumption | exact hpA _ _ _ rfl | refine hpN ?_ | refine hpD ?_) | ((with_reducible first | refine hpP ?_ ?_ | refine hpT ?_ ?_); (focus (first | omega | (simp [zA, zS, zD, zQ] <;> omega)))) | ((with_reducible refine hpA _ _ _ ?_); (focus (first | omega | (simp [zA, zS, zD, zQ] <;> omega)))) | ((with_reducible refine hpB ?_ ?_); (focus assumption)) | (with_reducible apply hpS))), by simp only [zA]; omega, by (repeat' (first | (with_reducible first | exact Below.refl _ _ | refine blQ ?_ _ | refine Below.drew ?_ | refine blO ?_ (by assumption) | refine Below.alloc ?_ ?_ _ | refine Below.setCell ?_ ?_ _ | refine Below.frame ?_ _) | omega | (simp only [zA, zS, zD, zQ]; omega)))⟩ ?_
          intro W hW
          obtain ⟨b0, b4, hs1, hB⟩ := hW
          clear hB1 x7 x8 x15 b1
          have HB := Lib.hid hB
          have B0 := Lib.hid b0
          have B4 := Lib.hid b4
          generalize hg4 : w1.heap.size + 1 = g4 at *
          have h4l : g4 < W.heap.size := lt_of_heap b4
          have h0l : w.heap.size < W.heap.size := lt_of_heap b0
          have h40 : g4 ≠ w.heap.size := by omega
          clear hB b0 b4 hs1 hg4
          have hfi := fldS0
          refine region_al (W := W) 12 [0, 1, 2, 3, 4, 5, 6, 7, 8] [9, 10, 11] (fun _ => .cells #[.int .u64 0, .int .u64 0] 196 (0, 0)) (fun i => some (i - 4)) rfl (by kernel_rfl) (by kernel_rfl) rfl (by kernel_rfl) ?hop ?hal

          case hop =>
            intro i hi
            have hi' : i = 9 ∨ i = 10 ∨ i = 11 := by simpa using hi
            rcases hi' with rfl | rfl | rfl
            all_goals exact ⟨by omega, _, rfl, rfl, rfl, fun a w' => allocS a w' _ rfl⟩
          case hal =>
            apply Exists.intro
            refine ⟨?_, ?_⟩
            · intro w2 hw2 K hK
              have b0 := heap_below hw2 B0.out
              have x7 : ∀ i : Cls w2, i.val.cell? ⟨w.heap.size, 7, none⟩ = some (.int .u32 sa) := fun i => (cls_cell b0 7 i).trans rfl
              have x8 : ∀ i : Cls w2, i.val.cell? ⟨w.heap.size, 8, none⟩ = some (.int .u32 sn) := fun i => (cls_cell b0 8 i).trans rfl
              have x11 : ∀ i : Cls w2, i.val.cell? ⟨w.heap.size, 11, none⟩ = some (.int .u32 ia) := fun i => (cls_cell b0 11 i).trans rfl
              have x12 : ∀ i : Cls w2, i.val.cell? ⟨w.heap.size, 12, none⟩ = some (.int .u32 il) := fun i => (cls_cell b0 12 i).trans rfl
              have x13 : ∀ i : Cls w2, i.val.cell? ⟨w.heap.size, 13, none⟩ = some (.int .u32 oa) := fun i => (cls_cell b0 13 i).trans rfl
              have x14 : ∀ i : Cls w2, i.val.cell? ⟨w.heap.size, 14, none⟩ = some (.int .u32 ol) := fun i => (cls_cell b0 14 i).trans rfl
              clear b0
              change wpQuiet _ _ _ _ (_ :: _ :: _ :: _ :: _ :: _ :: _ :: _ :: _ :: []) _
              repeat (go_big_quiet_step (first | (go_at_call 155; exact cls_call _ (of_calls _ _)) | (go_at_call 156; exact cls_call _ (stack_calls _ _))))
              exact wpQuiet_nil hK
            · intro G w2 hG hne hB2 hz
              have e5 := hz 9 (by simp)
              have e6 := hz 10 (by simp)
              have e7 := hz 11 (by simp)
              have k5 := hG 9 (by simp)
              have k6 := hG 10 (by simp)
              have k7 := hG 11 (by simp)
              have n56 : G 9 ≠ G 10 := by simp at hne; exact hne.1.1
              have n57 : G 9 ≠ G 11 := by simp at hne; exact hne.1.2
              have n67 : G 10 ≠ G 11 := by simp at hne; exact hne.2
              clear hz hG hne
              simp only [List.foldl_cons, List.foldl_nil]
              generalize G 9 = g5 at *
              generalize G 10 = g6 at *
              generalize G 11 = g7 at *
              have b0 := heap_below hB2 B0.out
              have b4 := heap_below hB2 B4.out
              have hBw : Below w.heap.size w w2 := by have := HB.out; (repeat' (first | (with_reducible first | exact Below.refl _ _ | refine blQ ?_ _ | refine Below.drew ?_ | refine blO ?_ (by assumption) | refine Below.alloc ?_ ?_ _ | refine Below.setCell ?_ ?_ _ | refine Below.frame ?_ _) | omega | (simp only [zA, zS, zD, zQ]; omega)))
              have hw2 := hB2.size
              change wpList _ _ _ (_ :: _ :: _ :: []) _ _
              simp only [Act.put, List.setIfInBounds_toArray, List.set_cons_zero, List.set_cons_succ]
              refine storeSp rfl _ _ rfl rfl g5 (ofS ia il).1 (ofS ia il).2 _ _ rfl rfl e5 ?_
              intro w3 e5' hs3
              replace e6 := hs3.heap (by simp; omega) e6
              replace e7 := hs3.heap (by simp; omega) e7
              replace b0 := hs3.heap (by simp; omega) b0
              replace b4 := hs3.heap (by simp; omega) b4
              replace hBw := below_but hBw hs3 (by omega)
              refine storeSp rfl _ _ rfl rfl g6 (ofS oa ol).1 (ofS oa ol).2 _ _ rfl rfl e6 ?_
              intro w4 e6' hs4
              replace e5' := hs4.heap (by simp; omega) e5'
              replace e7 := hs4.heap (by simp; omega) e7
              replace b0 := hs4.heap (by simp; omega) b0
              replace b4 := hs4.heap (by simp; omega) b4
              replace hBw := below_but hBw hs4 (by omega)
              refine storeSp rfl _ _ rfl rfl g7 (stackS sa sn).1 (stackS sa sn).2 _ _ rfl rfl e7 ?_
              intro w5 e7' hs5
              replace e5' := hs5.heap (by simp; omega) e5'
              replace e6' := hs5.heap (by simp; omega) e6'
              replace b0 := hs5.heap (by simp; omega) b0
              replace b4 := hs5.heap (by simp; omega) b4
              replace hBw := below_but hBw hs5 (by omega)
              clear hs3 hs4 hs5 e5 e6 e7 hw2 hB2 HB B0 B4 k5 k6 k7
              have hb5 := hBw.size
              clear z1
              have E5 := Lib.hid e5'
              have E6 := Lib.hid e6'
              have E7 := Lib.hid e7'
              have B0 := Lib.hid b0
              have B4 := Lib.hid b4
              have HB := Lib.hid hBw
              have x15 : w5.cell? ⟨w.heap.size, 15, none⟩ = some (.slice A0 ws.length c0) := (cell_of_heap b0 15).trans rfl
              obtain ⟨c60, c61⟩ := cell2 e6'
              have s5 := lt_of_heap e5'
              have s6 := lt_of_heap e6'
              have s7 := lt_of_heap e7'
              have s0 := lt_of_heap b0
              clear e5' e6' e7' b0 b4 hBw
              go_wp2
              go_loopw [8, 63] (fun v i wr => ∃ k : Nat, k ≤ ws.length ∧ i = .int .i64 (k : Int) ∧ wr.ownsRow w5.heap.size 196 2 v (1 + k) (spF (wrS oa ol (ws.take k))) ∧ Below w5.heap.size w5 wr) (fun _ i _ => ws.length - (intOf i).toNat)
              case atStart => exact ⟨0, by omega, rfl, ⟨rfl, .inr ⟨w5.heap.size, 1, _, rfl, Nat.le_refl _, heap_at _ _ _ rfl, by omega, by unfold maxLen; omega, rfl, rfl⟩⟩, by (repeat' (first | (with_reducible first | exact Below.refl _ _ | refine blQ ?_ _ | refine Below.drew ?_ | refine blO ?_ (by assumption) | refine Below.alloc ?_ ?_ _ | refine Below.setCell ?_ ?_ _ | refine Below.frame ?_ _) | omega | (simp only [zA, zS, zD, zQ]; omega)))⟩
              case round =>
                obtain ⟨k, hk, rfl, hrow, hbe⟩ := hrel
                obtain ⟨vA, vc, rfl⟩ := own_slice hrow
                have hzz := hbe.size
                have hbw : Below w.heap.size w wr := by have := HB.out; (repeat' (first | (with_reducible first | exact Below.refl _ _ | refine blQ ?_ _ | refine Below.drew ?_ | refine blO ?_ (by assumption) | refine Below.alloc ?_ ?_ _ | refine Below.setCell ?_ ?_ _ | refine Below.frame ?_ _) | omega | (simp only [zA, zS, zD, zQ]; omega)))
                have HBW := Lib.hid hbw
                by_cases q : k < ws.length
                · obtain ⟨ad, ea, c0', c1'⟩ := PCpu.at_T73 (Kd.C_below HR0.out hbw) (k : Int) (by omega) (by omega)
                  rw [Int.toNat_natCast] at c0' c1'
                  have ex : wrS oa ol (ws.take (k + 1)) = wrS oa ol (ws.take k) ++ [ofS (PCpu.rd_T73 ws (k : Int)).f0 (PCpu.rd_T73 ws (k : Int)).f1] := by
                    unfold wrS PCpu.rd_T73
                    rw [List.take_succ_eq_append_getElem q, List.map_append, List.cons_append, Int.toNat_natCast, List.getD_eq_getElem?_getD, List.getElem?_eq_getElem q]
                    rfl
                  generalize PCpu.rd_T73 ws (k : Int) = x at *
                  obtain ⟨xa, xn⟩ := x
                  dsimp only at c0' c1' ex
                  generalize hy : ofS xa xn = y at *
                  obtain ⟨ya, yb⟩ := y
                  have Hrow := Lib.hid hrow
                  have Hbe := Lib.hid hbe
                  have Ho := Lib.hid (fun W => of_calls xa xn W)
                  rw [hy] at Ho
                  have Hex := Lib.hid ex
                  clear hrow hbe hbw ex hy
                  subst ea
                  obtain ⟨i0, hi0, hz0, hz1, hz2⟩ := info_parts infoSp
                  go_wp2_with (first
                    | (go_at_call 155; (refine (Ho.out _).mono ?_); rintro e w6 ⟨rfl, hB6⟩; (have z6 := hB6.size); (try simp only [zA, zD, zQ] at z6))
                    | (at_builtin; go_loud (refine wpList_append_lies _ rfl _ _ 202 rfl w5.heap.size 196 i0 _ 2 16 Try.underlying202 hi0 hz0 hz1 hz2 rfl (by omega) (.slice vA (1 + k) vc) (1 + k) _ rfl (pw_own_below Hrow.out (by (repeat' (first | (with_reducible first | exact Below.refl _ _ | refine blQ ?_ _ | refine Below.drew ?_ | refine blO ?_ (by assumption) | refine Below.alloc ?_ ?_ _ | refine Below.setCell ?_ ?_ _ | refine Below.frame ?_ _) | omega | (simp only [zA, zS, zD, zQ]; omega))))) ⟨w6.heap.size, 0, none⟩ 1 1 [.int .u64 ya, .int .u64 yb] rfl rfl (World.news_of_block (heap_at _ _ _ rfl)) (by simp [Value.oneCell']) (by omega) (by unfold maxLen; omega) (by omega) (by simp only [zA]; omega) _ rfl ?_; intro r cap1 w7 hown hgrow hat hlt; have HO := Lib.hid hown; have HW := Lib.hid hgrow; have HT := Lib.hid hat; clear hown hgrow hat)))
                  go_roundw
                  case rel =>
                    refine ⟨k + 1, by omega, by go_num, ?_, ?_⟩
                    · rw [Hex.out, spF_append]
                      exact HO.out
                    · have hbe := Hbe.out
                      have b1 : Below w5.heap.size w5 (w6.alloc (Obj.cells #[.int .u64 ya, .int .u64 yb] 196)) := by (repeat' (first | (with_reducible first | exact Below.refl _ _ | refine blQ ?_ _ | refine Below.drew ?_ | refine blO ?_ (by assumption) | refine Below.alloc ?_ ?_ _ | refine Below.setCell ?_ ?_ _ | refine Below.frame ?_ _) | omega | (simp only [zA, zS, zD, zQ]; omega)))
                      exact b1.grown HW.out (by simp only [zA]; omega) (fun k hk => own_base Hrow.out k hk)
                  case measure => simp [intOf]; omega
                · obtain rfl : k = ws.length := by omega
                  rw [List.take_length] at hrow
                  obtain ⟨g8, c8, e8, hb8, hl8⟩ := hrow.form (by omega)
                  injection e8 with e8 _ e8c
                  subst e8 e8c
                  have HS := Lib.hid (sp_own hrow (by simp [wrS]; omega))
                  have Hrow := Lib.hid hrow
                  have Hbe := Lib.hid hbe
                  have x16 : wr.cell? ⟨w.heap.size, 16, none⟩ = some (.slice A1 ss.length c1) := (cell_of_heap (heap_below hbe B0.out) 16).trans rfl
                  have x15' := x15
                  have s0' : w.heap.size < wr.heap.size := by omega
                  clear hrow hbe hbw q x15 c60 c61
                  obtain ⟨wA, hwA⟩ : ∃ w2, w2 = wr := ⟨_, rfl⟩
                  subst hwA
                  go_wp2
                  go_loopw [11, 77] (fun v i wq => ∃ (k : Nat) (g11 c11 : Nat), k ≤ ss.length ∧ i = .int .i64 (k : Int) ∧ v = .slice (some ⟨g11, 0, none⟩) (1 + ws.length + k) c11 ∧ wq.ownsRow w5.heap.size 196 2 v (1 + ws.length + k) (spF (wrS oa ol ws ++ (ss.take k).map partS)) ∧ SpR g8 (wrS oa ol ws) wq ∧ Below w5.heap.size w5 wq) (fun _ i _ => ss.length - (intOf i).toNat)
                  case atStart => exact ⟨0, g8, _, by omega, rfl, rfl, by simpa using Hrow.out, HS.out, Hbe.out⟩
                  case round =>
                    obtain ⟨k, g11, c11, hk, rfl, rfl, hrow, hsp, hbe⟩ := hrel
                    have hzz' := hbe.size
                    have hbw : Below w.heap.size w wr := by have := HB.out; (repeat' (first | (with_reducible first | exact Below.refl _ _ | refine blQ ?_ _ | refine Below.drew ?_ | refine blO ?_ (by assumption) | refine Below.alloc ?_ ?_ _ | refine Below.setCell ?_ ?_ _ | refine Below.frame ?_ _) | omega | (simp only [zA, zS, zD, zQ]; omega)))
                    have HBW2 := Lib.hid hbw
                    by_cases q : k < ss.length
                    · obtain ⟨ad, A5, c5, ea, c0', c1', hcl, hdat⟩ := PCpu.at_T85 (Kd.C_below HR1.out hbw) (k : Int) (by omega) (by omega)
                      rw [Int.toNat_natCast] at c0' c1'
                      have ex : (ss.take (k + 1)).map partS = (ss.take k).map partS ++ [partS (PCpu.rd_T85 ss (k : Int))] := by
                        unfold PCpu.rd_T85
                        rw [List.take_succ_eq_append_getElem q, List.map_append, Int.toNat_natCast, List.getD_eq_getElem?_getD, List.getElem?_eq_getElem q]
                        rfl
                      have Hp := Lib.hid (fun (W : World) (hb : Below wr.heap.size wr W) => part_calls (PCpu.rd_T85 ss (k : Int)) A5 c5 W (Kd.C_below hdat hb) hcl)
                      generalize PCpu.rd_T85 ss (k : Int) = x at *
                      have hlen : (wrS oa ol ws ++ (ss.take k).map partS).length = 1 + ws.length + k := by simp [wrS]; omega
                      generalize hy : partS x = y at *
                      obtain ⟨ya, yb⟩ := y
                      generalize x.f0 = xa at *
                      generalize x.f1.length = xl at *
                      have Hrow2 := Lib.hid hrow
                      have Hbe2 := Lib.hid hbe
                      have HS2 := Lib.hid hsp
                      have Hex := Lib.hid ex
                      have Hlen := Lib.hid hlen
                      clear hrow hbe hbw ex hy hsp hdat hcl hlen
                      subst ea
                      obtain ⟨i0, hi0, hz0, hz1, hz2⟩ := info_parts infoSp
                      go_wp2_with (first
                        | (go_at_call 152; (refine (Hp.out _ ?_).mono ?_); (focus (repeat' (first | (with_reducible first | exact Below.refl _ _ | refine blQ ?_ _ | refine Below.drew ?_ | refine blO ?_ (by assumption) | refine Below.alloc ?_ ?_ _ | refine Below.setCell ?_ ?_ _ | refine Below.frame ?_ _) | omega | (simp only [zA, zS, zD, zQ]; omega)))); rintro e w6 ⟨rfl, hB6⟩; (have z6 := hB6.size); (try simp only [zA, zD, zQ] at z6))
                        | (at_builtin; (refine wpList_append_kept _ rfl _ _ 202 rfl w5.heap.size 196 i0 _ 2 16 Try.underlying202 hi0 hz0 hz1 hz2 rfl (by omega) g11 c11 (1 + ws.length + k) _ rfl (pw_own_below Hrow2.out (by (repeat' (first | (with_reducible first | exact Below.refl _ _ | refine blQ ?_ _ | refine Below.drew ?_ | refine blO ?_ (by assumption) | refine Below.alloc ?_ ?_ _ | refine Below.setCell ?_ ?_ _ | refine Below.frame ?_ _) | omega | (simp only [zA, zS, zD, zQ]; omega))))) ⟨w6.heap.size, 0, none⟩ 1 1 [.int .u64 ya, .int .u64 yb] rfl rfl (World.news_of_block (heap_at _ _ _ rfl)) (by simp [Value.oneCell']) (by omega) (by unfold maxLen; omega) (by omega) (by simp only [zA]; omega) ?_; intro r cap1 w7 hown hgrow hat hlt hkept; have HO := Lib.hid hown; have HW := Lib.hid hgrow; have HT := Lib.hid hat; have HK := Lib.hid hkept; clear hown hgrow hat hkept)))
                      go_roundw
                      case rel =>
                        have hbx : Below wr.heap.size wr (w6.alloc (Obj.cells #[.int .u64 ya, .int .u64 yb] 196)) := by (repeat' (first | (with_reducible first | exact Below.refl _ _ | refine blQ ?_ _ | refine Below.drew ?_ | refine blO ?_ (by assumption) | refine Below.alloc ?_ ?_ _ | refine Below.setCell ?_ ?_ _ | refine Below.frame ?_ _) | omega | (simp only [zA, zS, zD, zQ]; omega)))
                        refine ⟨k + 1, r, cap1, by omega, by go_num, rfl, ?_, ?_, ?_⟩
                        · rw [Hex.out, ← List.append_assoc, spF_append]
                          exact HO.out
                        · exact spr_kept (HS2.out.below hbx) (by simp [wrS]; omega) HW.out HK.out
                        · have hbe := Hbe2.out
                          have b1 : Below w5.heap.size w5 (w6.alloc (Obj.cells #[.int .u64 ya, .int .u64 yb] 196)) := by (repeat' (first | (with_reducible first | exact Below.refl _ _ | refine blQ ?_ _ | refine Below.drew ?_ | refine blO ?_ (by assumption) | refine Below.alloc ?_ ?_ _ | refine Below.setCell ?_ ?_ _ | refine Below.frame ?_ _) | omega | (simp only [zA, zS, zD, zQ]; omega)))
                          exact b1.grown HW.out (by simp only [zA]; omega) (fun k hk => own_base Hrow2.out k (by simpa [Value.ownBlock] using hk))
                      case measure => simp [intOf]; omega
                    · obtain rfl : k = ss.length := by omega
                      rw [List.take_length] at hrow
                      have HS2 := Lib.hid hsp
                      have HL := Lib.hid (show SpR g11 (laS oa ol ws ss) wr from sp_own hrow (by simp [laS, wrS]; omega))
                      have Hbe2 := Lib.hid hbe
                      obtain ⟨c50, c51⟩ := cell2 (heap_below hbe E5.out)
                      obtain ⟨c70, c71⟩ := cell2 (heap_below hbe E7.out)
                      have hlw : (wrS oa ol ws).length = 1 + ws.length := by simp [wrS]; omega
                      have Hlw := Lib.hid hlw
                      obtain ⟨i0, hi0, hz0, hz1, hz2⟩ := info_parts infoSp
                      clear hrow hbe hbw q x15' x16 hlw hsp HBW HBW2
                      go_wp2_with (first
                        | (at_builtin; (refine wpList_append_lies _ rfl _ _ 202 rfl wr.heap.size 196 i0 _ 2 16 Try.underlying202 hi0 hz0 hz1 hz2 rfl (by omega) (.slice (some ⟨wr.heap.size, 0, none⟩) 2 2) 2 (spF [ofS ia il, stackS sa sn]) rfl ⟨rfl, .inr ⟨wr.heap.size, 2, _, rfl, Nat.le_refl _, heap_at _ _ _ rfl, by omega, by unfold maxLen; omega, rfl, rfl⟩⟩ ⟨g8, 0, none⟩ (1 + ws.length) _ (spF (wrS oa ol ws)) rfl (by rw [spF_length, Hlw.out]) (spr_news (HS2.out.below (by (repeat' (first | (with_reducible first | exact Below.refl _ _ | refine blQ ?_ _ | refine Below.drew ?_ | refine blO ?_ (by assumption) | refine Below.alloc ?_ ?_ _ | refine Below.setCell ?_ ?_ _ | refine Below.frame ?_ _) | omega | (simp only [zA, zS, zD, zQ]; omega)))))) (spF_one _) (by omega) (by unfold maxLen; omega) (by omega) (by simp only [zA]; omega) _ rfl ?_; intro g9 c9 w9 hown hgrow hat hlt; have HO := Lib.hid hown; have HW := Lib.hid hgrow; have HT := Lib.hid hat; clear hown hgrow hat)))
                      have hb9 : Below wr.heap.size wr w9 := by
                        have b1 : Below wr.heap.size wr (wr.alloc (Obj.cells #[.int .u64 (ofS ia il).1, .int .u64 (ofS ia il).2, .int .u64 (stackS sa sn).1, .int .u64 (stackS sa sn).2] 196)) := by (repeat' (first | (with_reducible first | exact Below.refl _ _ | refine blQ ?_ _ | refine Below.drew ?_ | refine blO ?_ (by assumption) | refine Below.alloc ?_ ?_ _ | refine Below.setCell ?_ ?_ _ | refine Below.frame ?_ _) | omega | (simp only [zA, zS, zD, zQ]; omega)))
                        exact b1.grown HW.out (by simp only [zA]; omega) (fun k hk => by simp [Value.ownBlock] at hk; omega)
                      have HS9 := Lib.hid (show SpR g9 (ofS ia il :: stackS sa sn :: wrS oa ol ws) w9 from sp_own HO.out (by rw [List.length_cons, List.length_cons, Hlw.out]; omega))
                      have hL9 : (ofS ia il :: stackS sa sn :: wrS oa ol ws).length = 2 + (1 + ws.length) := by rw [List.length_cons, List.length_cons, Hlw.out]; omega
                      have hw9 := hb9.size
                      have hbW : Below w.heap.size w w9 := by have h1 := HB.out; have h2 := Hbe2.out; (repeat' (first | (with_reducible first | exact Below.refl _ _ | refine blQ ?_ _ | refine Below.drew ?_ | refine blO ?_ (by assumption) | refine Below.alloc ?_ ?_ _ | refine Below.setCell ?_ ?_ _ | refine Below.frame ?_ _) | omega | (simp only [zA, zS, zD, zQ]; omega)))
                      have HBW := Lib.hid hbW
                      have Hb9 := Lib.hid hb9
                      have Hall : ∀ (h : (ofS ia il :: stackS sa sn :: wrS oa ol ws).all (fun s => withinS s (ofS r rn)) = false), dataT r rn sa sn rm ia il oa ol ws ss = false := fun h => by simp [dataT, eh1, eh2, eh3, eh4, h]
                      have Hall' : ∀ (h : (ofS ia il :: stackS sa sn :: wrS oa ol ws).all (fun s => withinS s (ofS r rn)) = true), dataT r rn sa sn rm ia il oa ol ws ss = (!((wrS oa ol ws ++ [stackS sa sn]).any (meetsS (ofS ia il))) && (!((laS oa ol ws ss).any (meetsS (stackS sa sn))) && decide (rm ≤ rn))) := fun h => by unfold dataT; rw [h]; simp [eh1, eh2, eh3, eh4]
                      generalize hL : (ofS ia il :: stackS sa sn :: wrS oa ol ws) = L at *
                      generalize hd : dataT r rn sa sn rm ia il oa ol ws ss = D at *
                      have Hd := Lib.hid Hall
                      have Hd' := Lib.hid Hall'
                      have HL9 := Lib.hid hL9
                      have Hdd := Lib.hid hd
                      clear Hall Hall' hL hd hL9 hbW hb9 c50 c51 c70 c71 HO HW HT
                      go_loopw [93] (fun i wq => ∃ k : Nat, k ≤ 2 + (1 + ws.length) ∧ i = .int .i64 (k : Int) ∧ Below w9.heap.size w9 wq ∧ (L.take k).all (fun s => withinS s (ofS r rn)) = true) (fun i _ => 2 + (1 + ws.length) - (intOf i).toNat)
                      case atStart => exact ⟨0, by omega, rfl, by (repeat' (first | (with_reducible first | exact Below.refl _ _ | refine blQ ?_ _ | refine Below.drew ?_ | refine blO ?_ (by assumption) | refine Below.alloc ?_ ?_ _ | refine Below.setCell ?_ ?_ _ | refine Below.frame ?_ _) | omega | (simp only [zA, zS, zD, zQ]; omega))), rfl⟩
                      case round =>
                        obtain ⟨k, hk, rfl, hbe, hal⟩ := hrel
                        have hze := hbe.size
                        by_cases q : k < 2 + (1 + ws.length)
                        · obtain ⟨c0', c1'⟩ := (HS9.out.below hbe).cells k (by rw [HL9.out]; exact q)
                          have hb4 : wr.heap[g4]? = some (.cells #[.int .u64 (ofS r rn).1, .int .u64 (ofS r rn).2] 196 (0, 0)) := heap_below hbe (heap_below Hb9.out (heap_below Hbe2.out B4.out))
                          obtain ⟨c40, c41⟩ := cell2 hb4
                          have e1 : L.take (k + 1) = L.take k ++ [L.getD k (0, 0)] := by
                            rw [List.take_succ_eq_append_getElem (by rw [HL9.out]; exact q), List.getD_eq_getElem?_getD, List.getElem?_eq_getElem (by rw [HL9.out]; exact q)]; rfl
                          have e2 : withinS (L.getD k (0, 0)) (ofS r rn) = false → L.all (fun s => withinS s (ofS r rn)) = false := fun h => by
                            rw [List.all_eq_false]
                            refine ⟨L.getD k (0, 0), ?_, by rw [h]; exact Bool.false_ne_true⟩
                            rw [List.getD_eq_getElem?_getD, List.getElem?_eq_getElem (by rw [HL9.out]; exact q)]
                            exact List.getElem_mem _
                          generalize L.getD k (0, 0) = s at *
                          obtain ⟨sp, sq⟩ := s
                          dsimp only at c0' c1'
                          have Hbe := Lib.hid hbe
                          have Hal := Lib.hid hal
                          have He1 := Lib.hid e1
                          have He2 := Lib.hid e2
                          have s4 := lt_of_heap hb4
                          clear hbe hal e1 e2 hb4
                          by_cases hw : withinS (sp, sq) (ofS r rn) = true
                          · have hw' : withinS (sp, sq) ((ofS r rn).1, (ofS r rn).2) = true := hw
                            go_wp2_with (first
                              | (go_at_call 154; (refine (within_calls _ _ _ _ _).mono ?_); rintro e wx ⟨rfl, hBx⟩; (have zx := hBx.size); rw [hw']))
                            go_roundw
                            case rel => exact ⟨k + 1, by omega, by go_num, (by have := Hbe.out; (repeat' (first | (with_reducible first | exact Below.refl _ _ | refine blQ ?_ _ | refine Below.drew ?_ | refine blO ?_ (by assumption) | refine Below.alloc ?_ ?_ _ | refine Below.setCell ?_ ?_ _ | refine Below.frame ?_ _) | omega | (simp only [zA, zS, zD, zQ]; omega)))), by rw [He1.out, List.all_append, Hal.out]; simp [hw]⟩
                            case measure => simp [intOf]; omega
                          · replace hw := Bool.eq_false_iff.mpr hw
                            have hw' : withinS (sp, sq) ((ofS r rn).1, (ofS r rn).2) = false := hw
                            go_wp2_with (first
                              | (go_at_call 154; (refine (within_calls _ _ _ _ _).mono ?_); rintro e wx ⟨rfl, hBx⟩; (have zx := hBx.size); rw [hw']))
                            go_returns
                            exact ⟨by simp [Hdd.out, Hd.out (He2.out hw)], (by have h1 := HBW.out; have h2 := Hbe.out; (repeat' (first | (with_reducible first | exact Below.refl _ _ | refine blQ ?_ _ | refine Below.drew ?_ | refine blO ?_ (by assumption) | refine Below.alloc ?_ ?_ _ | refine Below.setCell ?_ ?_ _ | refine Below.frame ?_ _) | omega | (simp only [zA, zS, zD, zQ]; omega))))⟩
                        · obtain rfl : k = 2 + (1 + ws.length) := by omega
                          rw [List.take_of_length_le (by rw [HL9.out]; omega)] at hal
                          have hd := Hd'.out hal
                          have hbW : Below w.heap.size w wr := below_on HBW.out hbe
                          have hbq := below_on Hb9.out hbe
                          have hbr : Below w5.heap.size w5 wr := below_on Hbe2.out hbq
                          have e5 := heap_below hbr E5.out
                          have e7 := heap_below hbr E7.out
                          have b0 := heap_below hbr B0.out
                          have hs8 : SpR g8 (wrS oa ol ws) wr := HS2.out.below hbq
                          have hs11 : SpR g11 (laS oa ol ws ss) wr := HL.out.below hbq
                          have hll : (laS oa ol ws ss).length = 1 + ws.length + ss.length := by simp [laS, wrS]; omega
                          have h1 : (wrS oa ol ws).length = 1 + ws.length := Hlw.out
                          have hlen : (wrS oa ol ws ++ [stackS sa sn]).length = 1 + ws.length + 1 := by rw [List.length_append, h1]; rfl
                          have hA1 : ∀ (g c : Nat) (X : World), SpR g (wrS oa ol ws ++ [stackS sa sn]) X → Calls Try.prog 157 #[.agg #[.int .u64 (ofS ia il).1, .int .u64 (ofS ia il).2], .slice (some ⟨g, 0, none⟩) (1 + ws.length + 1) c] X fun e w' => e = .returned (.bool (!(wrS oa ol ws ++ [stackS sa sn]).any (meetsS (ofS ia il)))) ∧ Below X.heap.size X w' := by
                            intro g c X h
                            rw [← hlen]
                            exact apart_calls (ofS ia il).1 (ofS ia il).2 g c _ X h (by omega)
                          have hA2 : ∀ (X : World), Below wr.heap.size wr X → Calls Try.prog 157 #[.agg #[.int .u64 (stackS sa sn).1, .int .u64 (stackS sa sn).2], .slice (some ⟨g11, 0, none⟩) (1 + ws.length + ss.length) c11] X fun e w' => e = .returned (.bool (!(laS oa ol ws ss).any (meetsS (stackS sa sn)))) ∧ Below X.heap.size X w' := by
                            intro X hX
                            rw [← hll]
                            exact apart_calls (stackS sa sn).1 (stackS sa sn).2 g11 c11 _ X (hs11.below hX) (by omega)
                          have e5 := e5
                          have hs8' := hs8
                          generalize hp1 : (wrS oa ol ws ++ [stackS sa sn]).any (meetsS (ofS ia il)) = p1 at *
                          generalize hp2 : (laS oa ol ws ss).any (meetsS (stackS sa sn)) = p2 at *
                          generalize hp3 : decide (rm ≤ rn) = p3 at *
                          clear q hal hs11 hbq hbr hs8 hll
                          have E5 := Lib.hid e5
                          have E7 := Lib.hid e7
                          have B0 := Lib.hid b0
                          have HBr := Lib.hid hbW
                          clear e5 e7 b0 hbW
                          cases p1 with
                          | true =>
                            simp only [Bool.not_true] at hA1
                            go_wp2
                            refine region_ev (W := wr) 6 3 [0, 1, 3] (fun _ => True) (fun _ _ _ _ => trivial) trivial rfl (by kernel_rfl) (by kernel_rfl) rfl ?_
                            apply Exists.intro
                            refine ⟨?_, ?_⟩
                            · intro w2 hw2 K hK
                              have e5 := heap_below hw2 E5.out
                              have e7 := heap_below hw2 E7.out
                              have x50 : ∀ i : Cls w2, i.val.cell? ⟨g5, 0, none⟩ = some (.int .u64 (ofS ia il).1) := fun i => (cls_cell e5 0 i).trans rfl
                              have x51 : ∀ i : Cls w2, i.val.cell? ⟨g5, 1, none⟩ = some (.int .u64 (ofS ia il).2) := fun i => (cls_cell e5 1 i).trans rfl
                              have x70 : ∀ i : Cls w2, i.val.cell? ⟨g7, 0, none⟩ = some (.int .u64 (stackS sa sn).1) := fun i => (cls_cell e7 0 i).trans rfl
                              have x71 : ∀ i : Cls w2, i.val.cell? ⟨g7, 1, none⟩ = some (.int .u64 (stackS sa sn).2) := fun i => (cls_cell e7 1 i).trans rfl
                              clear e5 e7
                              change wpQuiet _ _ _ _ (_ :: _ :: _ :: []) _
                              repeat (go_big_quiet_step (fail))
                              exact wpQuiet_nil hK
                            · refine he_step [2, 4] (by kernel_rfl) (by decide) ?_
                              intro i hi
                              have hi' : i = 2 ∨ i = 4 := by simpa using hi
                              rcases hi' with rfl | rfl
                              · refine ⟨by omega, _, rfl, .inl ⟨_, ev_clone g8 vc (wrS oa ol ws) (fun _ _ h _ => h) rfl (fun w => ?_) hs8' (by omega) (by omega), fun v2 => ⟨Up.and (fun _ _ h _ => h) (RCl.up _ _ _), ?_⟩⟩⟩
                                · rw [h1]; go_simp
                                change wpHe _ _ _ _ _ _ _ _ _ (Act.put _ (some 104) v2)
                                refine he_step [4] (by kernel_rfl) (by decide) ?_
                                intro i hi
                                obtain rfl : i = 4 := by simpa using hi
                                refine ⟨by omega, _, rfl, .inl ⟨_, ev_build (stackS sa sn).1 (stackS sa sn).2 (Up.and (fun _ _ h _ => h) (RCl.up _ _ _)) rfl (fun w => ?_), fun v4 => ⟨Up.and (Up.and (fun _ _ h _ => h) (RCl.up _ _ _)) (RBu.up _ _ _), ?_⟩⟩⟩
                                · (simp only [Act.put, List.setIfInBounds_toArray, List.set_cons_zero, List.set_cons_succ]); go_simp
                                change wpHe _ _ _ _ _ _ _ _ _ (Act.put _ (some 106) v4)
                                refine he_step [5] (by kernel_rfl) (by decide) ?_
                                intro i hi
                                obtain rfl : i = 5 := by simpa using hi
                                refine ⟨by omega, _, rfl, .inl ⟨_, ev_append (stackS sa sn).1 (stackS sa sn).2 (wrS oa ol ws) v2 v4 _ _ rfl rfl rfl rfl (by omega) (fun w h => ⟨h.1.2, h.2⟩), fun v5 => ⟨RAp.up _ _, ?_⟩⟩⟩
                                change wpHe _ _ _ _ _ _ _ _ _ (Act.put _ (some 107) v5)
                                refine ⟨by kernel_rfl, by kernel_rfl, fun w3 hb3 hF3 => ?_⟩
                                obtain ⟨gd, cd, hv5, hsd⟩ := hF3
                                rw [hlen] at hv5
                                subst hv5
                                have e7 := heap_below hb3 E7.out
                                have b0 := heap_below hb3 B0.out
                                have x70 : ∀ i : Cls w3, i.val.cell? ⟨g7, 0, none⟩ = some (.int .u64 (stackS sa sn).1) := fun i => (cls_cell e7 0 i).trans rfl
                                have x71 : ∀ i : Cls w3, i.val.cell? ⟨g7, 1, none⟩ = some (.int .u64 (stackS sa sn).2) := fun i => (cls_cell e7 1 i).trans rfl
                                have x9 : ∀ i : Cls w3, i.val.cell? ⟨w.heap.size, 9, none⟩ = some (.int .u32 rm) := fun i => (cls_cell b0 9 i).trans rfl
                                have x3 : ∀ i : Cls w3, i.val.cell? ⟨w.heap.size, 3, none⟩ = some (.int .u32 rn) := fun i => (cls_cell b0 3 i).trans rfl
                                have HC1 := Lib.hid (fun (X : World) (hX : Below w3.heap.size w3 X) => hA1 gd cd X (hsd.below hX))
                                have HC2 := Lib.hid (fun (X : World) (hX : Below w3.heap.size w3 X) => hA2 X (below_on hb3 hX))
                                clear e7 b0
                                change wpQuiet _ _ _ _ (_ :: _ :: _ :: _ :: _ :: _ :: _ :: _ :: _ :: _ :: _ :: _ :: _ :: _ :: _ :: []) _
                                (try dsimp only)
                                simp only [Act.put, List.setIfInBounds_toArray, List.set_cons_zero, List.set_cons_succ]
                                (try dsimp only)
                                repeat (go_big_quiet_step (first | (go_at_call 157; with_reducible exact cls_callB _ HC1.out) | (go_at_call 157; with_reducible exact cls_callB _ HC2.out)))
                                refine wpQuiet_nil ?_
                                intro i
                                have hI := i.property
                                go_wp2
                                go_returns
                                exact ⟨by simp [Hdd.out, hd], below_on HBr.out (below_on hb3 hI)⟩
                              · refine ⟨by omega, _, rfl, .inl ⟨_, ev_build (stackS sa sn).1 (stackS sa sn).2 (fun _ _ h _ => h) rfl (fun w => ?_), fun v4 => ⟨Up.and (fun _ _ h _ => h) (RBu.up _ _ _), ?_⟩⟩⟩
                                · go_simp
                                change wpHe _ _ _ _ _ _ _ _ _ (Act.put _ (some 106) v4)
                                refine he_step [2] (by kernel_rfl) (by decide) ?_
                                intro i hi
                                obtain rfl : i = 2 := by simpa using hi
                                refine ⟨by omega, _, rfl, .inl ⟨_, ev_clone g8 vc (wrS oa ol ws) (Up.and (fun _ _ h _ => h) (RBu.up _ _ _)) rfl (fun w => ?_) hs8' (by omega) (by omega), fun v2 => ⟨Up.and (Up.and (fun _ _ h _ => h) (RBu.up _ _ _)) (RCl.up _ _ _), ?_⟩⟩⟩
                                · rw [h1]; (simp only [Act.put, List.setIfInBounds_toArray, List.set_cons_zero, List.set_cons_succ]); go_simp
                                change wpHe _ _ _ _ _ _ _ _ _ (Act.put _ (some 104) v2)
                                refine he_step [5] (by kernel_rfl) (by decide) ?_
                                intro i hi
                                obtain rfl : i = 5 := by simpa using hi
                                refine ⟨by omega, _, rfl, .inl ⟨_, ev_append (stackS sa sn).1 (stackS sa sn).2 (wrS oa ol ws) v2 v4 _ _ rfl rfl rfl rfl (by omega) (fun w h => ⟨h.2, h.1.2⟩), fun v5 => ⟨RAp.up _ _, ?_⟩⟩⟩
                                change wpHe _ _ _ _ _ _ _ _ _ (Act.put _ (some 107) v5)
                                refine ⟨by kernel_rfl, by kernel_rfl, fun w3 hb3 hF3 => ?_⟩
                                obtain ⟨gd, cd, hv5, hsd⟩ := hF3
                                rw [hlen] at hv5
                                subst hv5
                                have e7 := heap_below hb3 E7.out
                                have b0 := heap_below hb3 B0.out
                                have x70 : ∀ i : Cls w3, i.val.cell? ⟨g7, 0, none⟩ = some (.int .u64 (stackS sa sn).1) := fun i => (cls_cell e7 0 i).trans rfl
                                have x71 : ∀ i : Cls w3, i.val.cell? ⟨g7, 1, none⟩ = some (.int .u64 (stackS sa sn).2) := fun i => (cls_cell e7 1 i).trans rfl
                                have x9 : ∀ i : Cls w3, i.val.cell? ⟨w.heap.size, 9, none⟩ = some (.int .u32 rm) := fun i => (cls_cell b0 9 i).trans rfl
                                have x3 : ∀ i : Cls w3, i.val.cell? ⟨w.heap.size, 3, none⟩ = some (.int .u32 rn) := fun i => (cls_cell b0 3 i).trans rfl
                                have HC1 := Lib.hid (fun (X : World) (hX : Below w3.heap.size w3 X) => hA1 gd cd X (hsd.below hX))
                                have HC2 := Lib.hid (fun (X : World) (hX : Below w3.heap.size w3 X) => hA2 X (below_on hb3 hX))
                                clear e7 b0
                                change wpQuiet _ _ _ _ (_ :: _ :: _ :: _ :: _ :: _ :: _ :: _ :: _ :: _ :: _ :: _ :: _ :: _ :: _ :: []) _
                                (try dsimp only)
                                simp only [Act.put, List.setIfInBounds_toArray, List.set_cons_zero, List.set_cons_succ]
                                (try dsimp only)
                                repeat (go_big_quiet_step (first | (go_at_call 157; with_reducible exact cls_callB _ HC1.out) | (go_at_call 157; with_reducible exact cls_callB _ HC2.out)))
                                refine wpQuiet_nil ?_
                                intro i
                                have hI := i.property
                                go_wp2
                                go_returns
                                exact ⟨by simp [Hdd.out, hd], below_on HBr.out (below_on hb3 hI)⟩
                          | false =>
                            simp only [Bool.not_false] at hA1
                            cases p2 with
                            | true =>
                              simp only [Bool.not_true] at hA2
                              go_wp2
                              refine region_ev (W := wr) 6 3 [0, 1, 3] (fun _ => True) (fun _ _ _ _ => trivial) trivial rfl (by kernel_rfl) (by kernel_rfl) rfl ?_
                              apply Exists.intro
                              refine ⟨?_, ?_⟩
                              · intro w2 hw2 K hK
                                have e5 := heap_below hw2 E5.out
                                have e7 := heap_below hw2 E7.out
                                have x50 : ∀ i : Cls w2, i.val.cell? ⟨g5, 0, none⟩ = some (.int .u64 (ofS ia il).1) := fun i => (cls_cell e5 0 i).trans rfl
                                have x51 : ∀ i : Cls w2, i.val.cell? ⟨g5, 1, none⟩ = some (.int .u64 (ofS ia il).2) := fun i => (cls_cell e5 1 i).trans rfl
                                have x70 : ∀ i : Cls w2, i.val.cell? ⟨g7, 0, none⟩ = some (.int .u64 (stackS sa sn).1) := fun i => (cls_cell e7 0 i).trans rfl
                                have x71 : ∀ i : Cls w2, i.val.cell? ⟨g7, 1, none⟩ = some (.int .u64 (stackS sa sn).2) := fun i => (cls_cell e7 1 i).trans rfl
                                clear e5 e7
                                change wpQuiet _ _ _ _ (_ :: _ :: _ :: []) _
                                repeat (go_big_quiet_step (fail))
                                exact wpQuiet_nil hK
                              · refine he_step [2, 4] (by kernel_rfl) (by decide) ?_
                                intro i hi
                                have hi' : i = 2 ∨ i = 4 := by simpa using hi
                                rcases hi' with rfl | rfl
                                · refine ⟨by omega, _, rfl, .inl ⟨_, ev_clone g8 vc (wrS oa ol ws) (fun _ _ h _ => h) rfl (fun w => ?_) hs8' (by omega) (by omega), fun v2 => ⟨Up.and (fun _ _ h _ => h) (RCl.up _ _ _), ?_⟩⟩⟩
                                  · rw [h1]; go_simp
                                  change wpHe _ _ _ _ _ _ _ _ _ (Act.put _ (some 104) v2)
                                  refine he_step [4] (by kernel_rfl) (by decide) ?_
                                  intro i hi
                                  obtain rfl : i = 4 := by simpa using hi
                                  refine ⟨by omega, _, rfl, .inl ⟨_, ev_build (stackS sa sn).1 (stackS sa sn).2 (Up.and (fun _ _ h _ => h) (RCl.up _ _ _)) rfl (fun w => ?_), fun v4 => ⟨Up.and (Up.and (fun _ _ h _ => h) (RCl.up _ _ _)) (RBu.up _ _ _), ?_⟩⟩⟩
                                  · (simp only [Act.put, List.setIfInBounds_toArray, List.set_cons_zero, List.set_cons_succ]); go_simp
                                  change wpHe _ _ _ _ _ _ _ _ _ (Act.put _ (some 106) v4)
                                  refine he_step [5] (by kernel_rfl) (by decide) ?_
                                  intro i hi
                                  obtain rfl : i = 5 := by simpa using hi
                                  refine ⟨by omega, _, rfl, .inl ⟨_, ev_append (stackS sa sn).1 (stackS sa sn).2 (wrS oa ol ws) v2 v4 _ _ rfl rfl rfl rfl (by omega) (fun w h => ⟨h.1.2, h.2⟩), fun v5 => ⟨RAp.up _ _, ?_⟩⟩⟩
                                  change wpHe _ _ _ _ _ _ _ _ _ (Act.put _ (some 107) v5)
                                  refine ⟨by kernel_rfl, by kernel_rfl, fun w3 hb3 hF3 => ?_⟩
                                  obtain ⟨gd, cd, hv5, hsd⟩ := hF3
                                  rw [hlen] at hv5
                                  subst hv5
                                  have e7 := heap_below hb3 E7.out
                                  have b0 := heap_below hb3 B0.out
                                  have x70 : ∀ i : Cls w3, i.val.cell? ⟨g7, 0, none⟩ = some (.int .u64 (stackS sa sn).1) := fun i => (cls_cell e7 0 i).trans rfl
                                  have x71 : ∀ i : Cls w3, i.val.cell? ⟨g7, 1, none⟩ = some (.int .u64 (stackS sa sn).2) := fun i => (cls_cell e7 1 i).trans rfl
                                  have x9 : ∀ i : Cls w3, i.val.cell? ⟨w.heap.size, 9, none⟩ = some (.int .u32 rm) := fun i => (cls_cell b0 9 i).trans rfl
                                  have x3 : ∀ i : Cls w3, i.val.cell? ⟨w.heap.size, 3, none⟩ = some (.int .u32 rn) := fun i => (cls_cell b0 3 i).trans rfl
                                  have HC1 := Lib.hid (fun (X : World) (hX : Below w3.heap.size w3 X) => hA1 gd cd X (hsd.below hX))
                                  have HC2 := Lib.hid (fun (X : World) (hX : Below w3.heap.size w3 X) => hA2 X (below_on hb3 hX))
                                  clear e7 b0
                                  change wpQuiet _ _ _ _ (_ :: _ :: _ :: _ :: _ :: _ :: _ :: _ :: _ :: _ :: _ :: _ :: _ :: _ :: _ :: []) _
                                  (try dsimp only)
                                  simp only [Act.put, List.setIfInBounds_toArray, List.set_cons_zero, List.set_cons_succ]
                                  (try dsimp only)
                                  repeat (go_big_quiet_step (first | (go_at_call 157; with_reducible exact cls_callB _ HC1.out) | (go_at_call 157; with_reducible exact cls_callB _ HC2.out)))
                                  refine wpQuiet_nil ?_
                                  intro i
                                  have hI := i.property
                                  go_wp2
                                  go_returns
                                  exact ⟨by simp [Hdd.out, hd], below_on HBr.out (below_on hb3 hI)⟩
                                · refine ⟨by omega, _, rfl, .inl ⟨_, ev_build (stackS sa sn).1 (stackS sa sn).2 (fun _ _ h _ => h) rfl (fun w => ?_), fun v4 => ⟨Up.and (fun _ _ h _ => h) (RBu.up _ _ _), ?_⟩⟩⟩
                                  · go_simp
                                  change wpHe _ _ _ _ _ _ _ _ _ (Act.put _ (some 106) v4)
                                  refine he_step [2] (by kernel_rfl) (by decide) ?_
                                  intro i hi
                                  obtain rfl : i = 2 := by simpa using hi
                                  refine ⟨by omega, _, rfl, .inl ⟨_, ev_clone g8 vc (wrS oa ol ws) (Up.and (fun _ _ h _ => h) (RBu.up _ _ _)) rfl (fun w => ?_) hs8' (by omega) (by omega), fun v2 => ⟨Up.and (Up.and (fun _ _ h _ => h) (RBu.up _ _ _)) (RCl.up _ _ _), ?_⟩⟩⟩
                                  · rw [h1]; (simp only [Act.put, List.setIfInBounds_toArray, List.set_cons_zero, List.set_cons_succ]); go_simp
                                  change wpHe _ _ _ _ _ _ _ _ _ (Act.put _ (some 104) v2)
                                  refine he_step [5] (by kernel_rfl) (by decide) ?_
                                  intro i hi
                                  obtain rfl : i = 5 := by simpa using hi
                                  refine ⟨by omega, _, rfl, .inl ⟨_, ev_append (stackS sa sn).1 (stackS sa sn).2 (wrS oa ol ws) v2 v4 _ _ rfl rfl rfl rfl (by omega) (fun w h => ⟨h.2, h.1.2⟩), fun v5 => ⟨RAp.up _ _, ?_⟩⟩⟩
                                  change wpHe _ _ _ _ _ _ _ _ _ (Act.put _ (some 107) v5)
                                  refine ⟨by kernel_rfl, by kernel_rfl, fun w3 hb3 hF3 => ?_⟩
                                  obtain ⟨gd, cd, hv5, hsd⟩ := hF3
                                  rw [hlen] at hv5
                                  subst hv5
                                  have e7 := heap_below hb3 E7.out
                                  have b0 := heap_below hb3 B0.out
                                  have x70 : ∀ i : Cls w3, i.val.cell? ⟨g7, 0, none⟩ = some (.int .u64 (stackS sa sn).1) := fun i => (cls_cell e7 0 i).trans rfl
                                  have x71 : ∀ i : Cls w3, i.val.cell? ⟨g7, 1, none⟩ = some (.int .u64 (stackS sa sn).2) := fun i => (cls_cell e7 1 i).trans rfl
                                  have x9 : ∀ i : Cls w3, i.val.cell? ⟨w.heap.size, 9, none⟩ = some (.int .u32 rm) := fun i => (cls_cell b0 9 i).trans rfl
                                  have x3 : ∀ i : Cls w3, i.val.cell? ⟨w.heap.size, 3, none⟩ = some (.int .u32 rn) := fun i => (cls_cell b0 3 i).trans rfl
                                  have HC1 := Lib.hid (fun (X : World) (hX : Below w3.heap.size w3 X) => hA1 gd cd X (hsd.below hX))
                                  have HC2 := Lib.hid (fun (X : World) (hX : Below w3.heap.size w3 X) => hA2 X (below_on hb3 hX))
                                  clear e7 b0
                                  change wpQuiet _ _ _ _ (_ :: _ :: _ :: _ :: _ :: _ :: _ :: _ :: _ :: _ :: _ :: _ :: _ :: _ :: _ :: []) _
                                  (try dsimp only)
                                  simp only [Act.put, List.setIfInBounds_toArray, List.set_cons_zero, List.set_cons_succ]
                                  (try dsimp only)
                                  repeat (go_big_quiet_step (first | (go_at_call 157; with_reducible exact cls_callB _ HC1.out) | (go_at_call 157; with_reducible exact cls_callB _ HC2.out)))
                                  refine wpQuiet_nil ?_
                                  intro i
                                  have hI := i.property
                                  go_wp2
                                  go_returns
                                  exact ⟨by simp [Hdd.out, hd], below_on HBr.out (below_on hb3 hI)⟩
                            | false =>
                              simp only [Bool.not_false] at hA2
                              go_wp2
                              refine region_ev (W := wr) 6 3 [0, 1, 3] (fun _ => True) (fun _ _ _ _ => trivial) trivial rfl (by kernel_rfl) (by kernel_rfl) rfl ?_
                              apply Exists.intro
                              refine ⟨?_, ?_⟩
                              · intro w2 hw2 K hK
                                have e5 := heap_below hw2 E5.out
                                have e7 := heap_below hw2 E7.out
                                have x50 : ∀ i : Cls w2, i.val.cell? ⟨g5, 0, none⟩ = some (.int .u64 (ofS ia il).1) := fun i => (cls_cell e5 0 i).trans rfl
                                have x51 : ∀ i : Cls w2, i.val.cell? ⟨g5, 1, none⟩ = some (.int .u64 (ofS ia il).2) := fun i => (cls_cell e5 1 i).trans rfl
                                have x70 : ∀ i : Cls w2, i.val.cell? ⟨g7, 0, none⟩ = some (.int .u64 (stackS sa sn).1) := fun i => (cls_cell e7 0 i).trans rfl
                                have x71 : ∀ i : Cls w2, i.val.cell? ⟨g7, 1, none⟩ = some (.int .u64 (stackS sa sn).2) := fun i => (cls_cell e7 1 i).trans rfl
                                clear e5 e7
                                change wpQuiet _ _ _ _ (_ :: _ :: _ :: []) _
                                repeat (go_big_quiet_step (fail))
                                exact wpQuiet_nil hK
                              · refine he_step [2, 4] (by kernel_rfl) (by decide) ?_
                                intro i hi
                                have hi' : i = 2 ∨ i = 4 := by simpa using hi
                                rcases hi' with rfl | rfl
                                · refine ⟨by omega, _, rfl, .inl ⟨_, ev_clone g8 vc (wrS oa ol ws) (fun _ _ h _ => h) rfl (fun w => ?_) hs8' (by omega) (by omega), fun v2 => ⟨Up.and (fun _ _ h _ => h) (RCl.up _ _ _), ?_⟩⟩⟩
                                  · rw [h1]; go_simp
                                  change wpHe _ _ _ _ _ _ _ _ _ (Act.put _ (some 104) v2)
                                  refine he_step [4] (by kernel_rfl) (by decide) ?_
                                  intro i hi
                                  obtain rfl : i = 4 := by simpa using hi
                                  refine ⟨by omega, _, rfl, .inl ⟨_, ev_build (stackS sa sn).1 (stackS sa sn).2 (Up.and (fun _ _ h _ => h) (RCl.up _ _ _)) rfl (fun w => ?_), fun v4 => ⟨Up.and (Up.and (fun _ _ h _ => h) (RCl.up _ _ _)) (RBu.up _ _ _), ?_⟩⟩⟩
                                  · (simp only [Act.put, List.setIfInBounds_toArray, List.set_cons_zero, List.set_cons_succ]); go_simp
                                  change wpHe _ _ _ _ _ _ _ _ _ (Act.put _ (some 106) v4)
                                  refine he_step [5] (by kernel_rfl) (by decide) ?_
                                  intro i hi
                                  obtain rfl : i = 5 := by simpa using hi
                                  refine ⟨by omega, _, rfl, .inl ⟨_, ev_append (stackS sa sn).1 (stackS sa sn).2 (wrS oa ol ws) v2 v4 _ _ rfl rfl rfl rfl (by omega) (fun w h => ⟨h.1.2, h.2⟩), fun v5 => ⟨RAp.up _ _, ?_⟩⟩⟩
                                  change wpHe _ _ _ _ _ _ _ _ _ (Act.put _ (some 107) v5)
                                  refine ⟨by kernel_rfl, by kernel_rfl, fun w3 hb3 hF3 => ?_⟩
                                  obtain ⟨gd, cd, hv5, hsd⟩ := hF3
                                  rw [hlen] at hv5
                                  subst hv5
                                  have e7 := heap_below hb3 E7.out
                                  have b0 := heap_below hb3 B0.out
                                  have x70 : ∀ i : Cls w3, i.val.cell? ⟨g7, 0, none⟩ = some (.int .u64 (stackS sa sn).1) := fun i => (cls_cell e7 0 i).trans rfl
                                  have x71 : ∀ i : Cls w3, i.val.cell? ⟨g7, 1, none⟩ = some (.int .u64 (stackS sa sn).2) := fun i => (cls_cell e7 1 i).trans rfl
                                  have x9 : ∀ i : Cls w3, i.val.cell? ⟨w.heap.size, 9, none⟩ = some (.int .u32 rm) := fun i => (cls_cell b0 9 i).trans rfl
                                  have x3 : ∀ i : Cls w3, i.val.cell? ⟨w.heap.size, 3, none⟩ = some (.int .u32 rn) := fun i => (cls_cell b0 3 i).trans rfl
                                  have HC1 := Lib.hid (fun (X : World) (hX : Below w3.heap.size w3 X) => hA1 gd cd X (hsd.below hX))
                                  have HC2 := Lib.hid (fun (X : World) (hX : Below w3.heap.size w3 X) => hA2 X (below_on hb3 hX))
                                  clear e7 b0
                                  change wpQuiet _ _ _ _ (_ :: _ :: _ :: _ :: _ :: _ :: _ :: _ :: _ :: _ :: _ :: _ :: _ :: _ :: _ :: []) _
                                  (try dsimp only)
                                  simp only [Act.put, List.setIfInBounds_toArray, List.set_cons_zero, List.set_cons_succ]
                                  (try dsimp only)
                                  repeat (go_big_quiet_step (first | (go_at_call 157; with_reducible exact cls_callB _ HC1.out) | (go_at_call 157; with_reducible exact cls_callB _ HC2.out)))
                                  refine wpQuiet_nil ?_
                                  intro i
                                  have hI := i.property
                                  go_wp2
                                  go_returns
                                  exact ⟨by simp [Hdd.out, hd], below_on HBr.out (below_on hb3 hI)⟩
                                · refine ⟨by omega, _, rfl, .inl ⟨_, ev_build (stackS sa sn).1 (stackS sa sn).2 (fun _ _ h _ => h) rfl (fun w => ?_), fun v4 => ⟨Up.and (fun _ _ h _ => h) (RBu.up _ _ _), ?_⟩⟩⟩
                                  · go_simp
                                  change wpHe _ _ _ _ _ _ _ _ _ (Act.put _ (some 106) v4)
                                  refine he_step [2] (by kernel_rfl) (by decide) ?_
                                  intro i hi
                                  obtain rfl : i = 2 := by simpa using hi
                                  refine ⟨by omega, _, rfl, .inl ⟨_, ev_clone g8 vc (wrS oa ol ws) (Up.and (fun _ _ h _ => h) (RBu.up _ _ _)) rfl (fun w => ?_) hs8' (by omega) (by omega), fun v2 => ⟨Up.and (Up.and (fun _ _ h _ => h) (RBu.up _ _ _)) (RCl.up _ _ _), ?_⟩⟩⟩
                                  · rw [h1]; (simp only [Act.put, List.setIfInBounds_toArray, List.set_cons_zero, List.set_cons_succ]); go_simp
                                  change wpHe _ _ _ _ _ _ _ _ _ (Act.put _ (some 104) v2)
                                  refine he_step [5] (by kernel_rfl) (by decide) ?_
                                  intro i hi
                                  obtain rfl : i = 5 := by simpa using hi
                                  refine ⟨by omega, _, rfl, .inl ⟨_, ev_append (stackS sa sn).1 (stackS sa sn).2 (wrS oa ol ws) v2 v4 _ _ rfl rfl rfl rfl (by omega) (fun w h => ⟨h.2, h.1.2⟩), fun v5 => ⟨RAp.up _ _, ?_⟩⟩⟩
                                  change wpHe _ _ _ _ _ _ _ _ _ (Act.put _ (some 107) v5)
                                  refine ⟨by kernel_rfl, by kernel_rfl, fun w3 hb3 hF3 => ?_⟩
                                  obtain ⟨gd, cd, hv5, hsd⟩ := hF3
                                  rw [hlen] at hv5
                                  subst hv5
                                  have e7 := heap_below hb3 E7.out
                                  have b0 := heap_below hb3 B0.out
                                  have x70 : ∀ i : Cls w3, i.val.cell? ⟨g7, 0, none⟩ = some (.int .u64 (stackS sa sn).1) := fun i => (cls_cell e7 0 i).trans rfl
                                  have x71 : ∀ i : Cls w3, i.val.cell? ⟨g7, 1, none⟩ = some (.int .u64 (stackS sa sn).2) := fun i => (cls_cell e7 1 i).trans rfl
                                  have x9 : ∀ i : Cls w3, i.val.cell? ⟨w.heap.size, 9, none⟩ = some (.int .u32 rm) := fun i => (cls_cell b0 9 i).trans rfl
                                  have x3 : ∀ i : Cls w3, i.val.cell? ⟨w.heap.size, 3, none⟩ = some (.int .u32 rn) := fun i => (cls_cell b0 3 i).trans rfl
                                  have HC1 := Lib.hid (fun (X : World) (hX : Below w3.heap.size w3 X) => hA1 gd cd X (hsd.below hX))
                                  have HC2 := Lib.hid (fun (X : World) (hX : Below w3.heap.size w3 X) => hA2 X (below_on hb3 hX))
                                  clear e7 b0
                                  change wpQuiet _ _ _ _ (_ :: _ :: _ :: _ :: _ :: _ :: _ :: _ :: _ :: _ :: _ :: _ :: _ :: _ :: _ :: []) _
                                  (try dsimp only)
                                  simp only [Act.put, List.setIfInBounds_toArray, List.set_cons_zero, List.set_cons_succ]
                                  (try dsimp only)
                                  repeat (go_big_quiet_step (first | (go_at_call 157; with_reducible exact cls_callB _ HC1.out) | (go_at_call 157; with_reducible exact cls_callB _ HC2.out)))
                                  refine wpQuiet_nil ?_
                                  intro i
                                  have hI := i.property
                                  go_wp2
                                  go_returns
                                  exact ⟨by simp [Hdd.out, hd], below_on HBr.out (below_on hb3 hI)⟩

end Go.Proofs.Ytioopcilcgebeaa.CpuA
