/- An image's text and entry. -/
import Derived.Test.YtioopcilcgebeaaImgA
set_option linter.unusedVariables false
set_option linter.unusedSimpArgs false
namespace Go.Proofs.Ytioopcilcgebeaa.CpuA
open Go.RowKit Go.Proofs.Ytioopcilcgebeaa.Base Go.Proofs.YtioopcilcgebeaaW.PrintWords

def ofS (a n : Int) : Int × Int := (IntKind.u64.wrap a, IntKind.u64.wrap (IntKind.u64.wrap a + IntKind.u64.wrap n))
theorem of_calls (a n : Int) (w : World) : Calls Try.prog 155 #[.agg #[.int .u32 a, .int .u32 n]] w fun e w' => e = .returned (.agg #[.int .u64 (ofS a n).1, .int .u64 (ofS a n).2]) ∧ Below w.heap.size w w' :=
  PCpu.image_of.calls a n _ _ w rfl
def codeT (en tx tn : Int) : Bool := decide (4 ≤ tn) && (decide (Int.tmod tn 4 = 0) && (decide (Int.tmod tx 4 = 0) && (decide (Int.tmod en 4 = 0) && (decide (tx ≤ en) && decide (IntKind.u64.wrap en < (ofS tx tn).2)))))
set_option maxHeartbeats 8000000 in
set_option maxRecDepth 100000 in
theorem code_calls (f fn r rn en tx tn sa sn rm fu ia il oa ol : Int) (A0 : Option Addr) (n0 c0 : Nat) (A1 : Option Addr) (n1 c1 : Nat) (w : World) :
    Calls Try.prog 136 #[.agg #[.int .u32 f, .int .u32 fn, .int .u32 r, .int .u32 rn, .int .u32 en, .int .u32 tx, .int .u32 tn, .int .u32 sa, .int .u32 sn, .int .u32 rm, .int .u64 fu, .int .u32 ia, .int .u32 il, .int .u32 oa, .int .u32 ol, .slice A0 n0 c0, .slice A1 n1 c1]] w fun e w' => e = .returned (.bool (codeT en tx tn)) ∧ Below w.heap.size w w' := by
  generalize hq : decide (IntKind.u64.wrap en < (ofS tx tn).2) = q
  by_cases h1 : 4 ≤ tn
  · have eh1 : decide (4 ≤ tn) = true := decide_eq_true h1
    clear h1
    by_cases h2 : Int.tmod tn 4 = 0
    · have eh2 : decide (Int.tmod tn 4 = 0) = true := decide_eq_true h2
      have eh20 : (Int.tmod tn 4 == 0) = true := by simpa using h2
      clear h2
      by_cases h3 : Int.tmod tx 4 = 0
      · have eh3 : decide (Int.tmod tx 4 = 0) = true := decide_eq_true h3
        have eh30 : (Int.tmod tx 4 == 0) = true := by simpa using h3
        clear h3
        by_cases h4 : Int.tmod en 4 = 0
        · have eh4 : decide (Int.tmod en 4 = 0) = true := decide_eq_true h4
          have eh40 : (Int.tmod en 4 == 0) = true := by simpa using h4
          clear h4
          by_cases h5 : tx ≤ en
          · have eh5 : decide (tx ≤ en) = true := decide_eq_true h5
            clear h5
            go_enter Try.func136, Try.ntmps136
            go_wp2
            refine wp_abs (fun W => W.heap[w.heap.size]? = some (.cells #[.int .u32 f, .int .u32 fn, .int .u32 r, .int .u32 rn, .int .u32 en, .int .u32 tx, .int .u32 tn, .int .u32 sa, .int .u32 sn, .int .u32 rm, .int .u64 fu, .int .u32 ia, .int .u32 il, .int .u32 oa, .int .u32 ol, .slice A0 n0 c0, .slice A1 n1 c1] 78 (0, 0)) ∧ W.heap[w.heap.size + 1]? = some (.cells #[.int .u32 tx, .int .u32 tn] 73 (0, 0)) ∧ Below w.heap.size w W) ⟨by (repeat' (first | (with_reducible first | assumption | exact hpA _ _ _ rfl | refine hpN ?_ | refine hpD ?_) | ((with_reducible first | refine hpP ?_ ?_ | refine hpT ?_ ?_); (focus (first | omega | (simp [zA, zS, zD, zQ] <;> omega)))) | ((with_reducible refine hpA _ _ _ ?_); (focus (first | omega | (simp [zA, zS, zD, zQ] <;> omega)))) | ((with_reducible refine hpB ?_ ?_); (focus assumption)) | (with_reducible apply hpS))), by (repeat' (first | (with_reducible first | assumption | exact hpA _ _ _ rfl | refine hpN ?_ | refine hpD ?_) | ((with_reducible first | refine hpP ?_ ?_ | refine hpT ?_ ?_); (focus (first | omega | (simp [zA, zS, zD, zQ] <;> omega)))) | ((with_reducible refine hpA _ _ _ ?_); (focus (first | omega | (simp [zA, zS, zD, zQ] <;> omega)))) | ((with_reducible refine hpB ?_ ?_); (focus assumption)) | (with_reducible apply hpS))), by (repeat' (first | (with_reducible first | exact Below.refl _ _ | refine blQ ?_ _ | refine Below.drew ?_ | refine blO ?_ (by assumption) | refine Below.alloc ?_ ?_ _ | refine Below.setCell ?_ ?_ _ | refine Below.frame ?_ _) | omega | (simp only [zA, zS, zD, zQ]; omega)))⟩ ?_
            intro W hW
            obtain ⟨b1, b2, hB⟩ := hW
            have x0 : ∀ i : Cls W, i.val.cell? ⟨w.heap.size + 1, 0, none⟩ = some (.int .u32 tx) := fun i => (cls_cell b2 0 i).trans rfl
            have x1 : ∀ i : Cls W, i.val.cell? ⟨w.heap.size + 1, 1, none⟩ = some (.int .u32 tn) := fun i => (cls_cell b2 1 i).trans rfl
            have x2 : ∀ i : Cls W, i.val.cell? ⟨w.heap.size, 4, none⟩ = some (.int .u32 en) := fun i => (cls_cell b1 4 i).trans rfl
            clear b1 b2
            have hf1 := fldS1
            refine region_cls rfl (by kernel_rfl) ?_
            repeat (go_big_quiet_step ((go_at_call 155; exact cls_call _ (of_calls _ _))))
            refine wpQuiet_nil ?_
            intro i
            have hI := i.property
            go_wp2
            go_returns
            exact ⟨by simp [codeT, eh1, eh2, eh3, eh4, eh5, hq], by (repeat' (first | (with_reducible first | exact Below.refl _ _ | refine blQ ?_ _ | refine Below.drew ?_ | refine blO ?_ (by assumption) | refine Below.alloc ?_ ?_ _ | refine Below.setCell ?_ ?_ _ | refine Below.frame ?_ _) | omega | (simp only [zA, zS, zD, zQ]; omega)))⟩
          · have eh5 : decide (tx ≤ en) = false := decide_eq_false h5
            clear h5
            go_enter Try.func136, Try.ntmps136
            go_wp2
            refine wp_abs (fun W => W.heap[w.heap.size]? = some (.cells #[.int .u32 f, .int .u32 fn, .int .u32 r, .int .u32 rn, .int .u32 en, .int .u32 tx, .int .u32 tn, .int .u32 sa, .int .u32 sn, .int .u32 rm, .int .u64 fu, .int .u32 ia, .int .u32 il, .int .u32 oa, .int .u32 ol, .slice A0 n0 c0, .slice A1 n1 c1] 78 (0, 0)) ∧ W.heap[w.heap.size + 1]? = some (.cells #[.int .u32 tx, .int .u32 tn] 73 (0, 0)) ∧ Below w.heap.size w W) ⟨by (repeat' (first | (with_reducible first | assumption | exact hpA _ _ _ rfl | refine hpN ?_ | refine hpD ?_) | ((with_reducible first | refine hpP ?_ ?_ | refine hpT ?_ ?_); (focus (first | omega | (simp [zA, zS, zD, zQ] <;> omega)))) | ((with_reducible refine hpA _ _ _ ?_); (focus (first | omega | (simp [zA, zS, zD, zQ] <;> omega)))) | ((with_reducible refine hpB ?_ ?_); (focus assumption)) | (with_reducible apply hpS))), by (repeat' (first | (with_reducible first | assumption | exact hpA _ _ _ rfl | refine hpN ?_ | refine hpD ?_) | ((with_reducible first | refine hpP ?_ ?_ | refine hpT ?_ ?_); (focus (first | omega | (simp [zA, zS, zD, zQ] <;> omega)))) | ((with_reducible refine hpA _ _ _ ?_); (focus (first | omega | (simp [zA, zS, zD, zQ] <;> omega)))) | ((with_reducible refine hpB ?_ ?_); (focus assumption)) | (with_reducible apply hpS))), by (repeat' (first | (with_reducible first | exact Below.refl _ _ | refine blQ ?_ _ | refine Below.drew ?_ | refine blO ?_ (by assumption) | refine Below.alloc ?_ ?_ _ | refine Below.setCell ?_ ?_ _ | refine Below.frame ?_ _) | omega | (simp only [zA, zS, zD, zQ]; omega)))⟩ ?_
            intro W hW
            obtain ⟨b1, b2, hB⟩ := hW
            have x0 : ∀ i : Cls W, i.val.cell? ⟨w.heap.size + 1, 0, none⟩ = some (.int .u32 tx) := fun i => (cls_cell b2 0 i).trans rfl
            have x1 : ∀ i : Cls W, i.val.cell? ⟨w.heap.size + 1, 1, none⟩ = some (.int .u32 tn) := fun i => (cls_cell b2 1 i).trans rfl
            have x2 : ∀ i : Cls W, i.val.cell? ⟨w.heap.size, 4, none⟩ = some (.int .u32 en) := fun i => (cls_cell b1 4 i).trans rfl
            clear b1 b2
            have hf1 := fldS1
            refine region_cls rfl (by kernel_rfl) ?_
            repeat (go_big_quiet_step ((go_at_call 155; exact cls_call _ (of_calls _ _))))
            refine wpQuiet_nil ?_
            intro i
            have hI := i.property
            go_wp2
            go_returns
            exact ⟨by simp [codeT, eh1, eh2, eh3, eh4, eh5, hq], by (repeat' (first | (with_reducible first | exact Below.refl _ _ | refine blQ ?_ _ | refine Below.drew ?_ | refine blO ?_ (by assumption) | refine Below.alloc ?_ ?_ _ | refine Below.setCell ?_ ?_ _ | refine Below.frame ?_ _) | omega | (simp only [zA, zS, zD, zQ]; omega)))⟩
        · have eh4 : decide (Int.tmod en 4 = 0) = false := decide_eq_false h4
          have eh40 : (Int.tmod en 4 == 0) = false := by simpa using h4
          clear h4
          go_enter Try.func136, Try.ntmps136
          go_wp2
          refine wp_abs (fun W => W.heap[w.heap.size]? = some (.cells #[.int .u32 f, .int .u32 fn, .int .u32 r, .int .u32 rn, .int .u32 en, .int .u32 tx, .int .u32 tn, .int .u32 sa, .int .u32 sn, .int .u32 rm, .int .u64 fu, .int .u32 ia, .int .u32 il, .int .u32 oa, .int .u32 ol, .slice A0 n0 c0, .slice A1 n1 c1] 78 (0, 0)) ∧ W.heap[w.heap.size + 1]? = some (.cells #[.int .u32 tx, .int .u32 tn] 73 (0, 0)) ∧ Below w.heap.size w W) ⟨by (repeat' (first | (with_reducible first | assumption | exact hpA _ _ _ rfl | refine hpN ?_ | refine hpD ?_) | ((with_reducible first | refine hpP ?_ ?_ | refine hpT ?_ ?_); (focus (first | omega | (simp [zA, zS, zD, zQ] <;> omega)))) | ((with_reducible refine hpA _ _ _ ?_); (focus (first | omega | (simp [zA, zS, zD, zQ] <;> omega)))) | ((with_reducible refine hpB ?_ ?_); (focus assumption)) | (with_reducible apply hpS))), by (repeat' (first | (with_reducible first | assumption | exact hpA _ _ _ rfl | refine hpN ?_ | refine hpD ?_) | ((with_reducible first | refine hpP ?_ ?_ | refine hpT ?_ ?_); (focus (first | omega | (simp [zA, zS, zD, zQ] <;> omega)))) | ((with_reducible refine hpA _ _ _ ?_); (focus (first | omega | (simp [zA, zS, zD, zQ] <;> omega)))) | ((with_reducible refine hpB ?_ ?_); (focus assumption)) | (with_reducible apply hpS))), by (repeat' (first | (with_reducible first | exact Below.refl _ _ | refine blQ ?_ _ | refine Below.drew ?_ | refine blO ?_ (by assumption) | refine Below.alloc ?_ ?_ _ | refine Below.setCell ?_ ?_ _ | refine Below.frame ?_ _) | omega | (simp only [zA, zS, zD, zQ]; omega)))⟩ ?_
          intro W hW
          obtain ⟨b1, b2, hB⟩ := hW
          have x0 : ∀ i : Cls W, i.val.cell? ⟨w.heap.size + 1, 0, none⟩ = some (.int .u32 tx) := fun i => (cls_cell b2 0 i).trans rfl
          have x1 : ∀ i : Cls W, i.val.cell? ⟨w.heap.size + 1, 1, none⟩ = some (.int .u32 tn) := fun i => (cls_cell b2 1 i).trans rfl
          have x2 : ∀ i : Cls W, i.val.cell? ⟨w.heap.size, 4, none⟩ = some (.int .u32 en) := fun i => (cls_cell b1 4 i).trans rfl
          clear b1 b2
          have hf1 := fldS1
          refine region_cls rfl (by kernel_rfl) ?_
          repeat (go_big_quiet_step ((go_at_call 155; exact cls_call _ (of_calls _ _))))
          refine wpQuiet_nil ?_
          intro i
          have hI := i.property
          go_wp2
          go_returns
          exact ⟨by simp [codeT, eh1, eh2, eh3, eh4], by (repeat' (first | (with_reducible first | exact Below.refl _ _ | refine blQ ?_ _ | refine Below.drew ?_ | refine blO ?_ (by assumption) | refine Below.alloc ?_ ?_ _ | refine Below.setCell ?_ ?_ _ | refine Below.frame ?_ _) | omega | (simp only [zA, zS, zD, zQ]; omega)))⟩
      · have eh3 : decide (Int.tmod tx 4 = 0) = false := decide_eq_false h3
        have eh30 : (Int.tmod tx 4 == 0) = false := by simpa using h3
        clear h3
        go_enter Try.func136, Try.ntmps136
        go_wp2
        refine wp_abs (fun W => W.heap[w.heap.size]? = some (.cells #[.int .u32 f, .int .u32 fn, .int .u32 r, .int .u32 rn, .int .u32 en, .int .u32 tx, .int .u32 tn, .int .u32 sa, .int .u32 sn, .int .u32 rm, .int .u64 fu, .int .u32 ia, .int .u32 il, .int .u32 oa, .int .u32 ol, .slice A0 n0 c0, .slice A1 n1 c1] 78 (0, 0)) ∧ W.heap[w.heap.size + 1]? = some (.cells #[.int .u32 tx, .int .u32 tn] 73 (0, 0)) ∧ Below w.heap.size w W) ⟨by (repeat' (first | (with_reducible first | assumption | exact hpA _ _ _ rfl | refine hpN ?_ | refine hpD ?_) | ((with_reducible first | refine hpP ?_ ?_ | refine hpT ?_ ?_); (focus (first | omega | (simp [zA, zS, zD, zQ] <;> omega)))) | ((with_reducible refine hpA _ _ _ ?_); (focus (first | omega | (simp [zA, zS, zD, zQ] <;> omega)))) | ((with_reducible refine hpB ?_ ?_); (focus assumption)) | (with_reducible apply hpS))), by (repeat' (first | (with_reducible first | assumption | exact hpA _ _ _ rfl | refine hpN ?_ | refine hpD ?_) | ((with_reducible first | refine hpP ?_ ?_ | refine hpT ?_ ?_); (focus (first | omega | (simp [zA, zS, zD, zQ] <;> omega)))) | ((with_reducible refine hpA _ _ _ ?_); (focus (first | omega | (simp [zA, zS, zD, zQ] <;> omega)))) | ((with_reducible refine hpB ?_ ?_); (focus assumption)) | (with_reducible apply hpS))), by (repeat' (first | (with_reducible first | exact Below.refl _ _ | refine blQ ?_ _ | refine Below.drew ?_ | refine blO ?_ (by assumption) | refine Below.alloc ?_ ?_ _ | refine Below.setCell ?_ ?_ _ | refine Below.frame ?_ _) | omega | (simp only [zA, zS, zD, zQ]; omega)))⟩ ?_
        intro W hW
        obtain ⟨b1, b2, hB⟩ := hW
        have x0 : ∀ i : Cls W, i.val.cell? ⟨w.heap.size + 1, 0, none⟩ = some (.int .u32 tx) := fun i => (cls_cell b2 0 i).trans rfl
        have x1 : ∀ i : Cls W, i.val.cell? ⟨w.heap.size + 1, 1, none⟩ = some (.int .u32 tn) := fun i => (cls_cell b2 1 i).trans rfl
        have x2 : ∀ i : Cls W, i.val.cell? ⟨w.heap.size, 4, none⟩ = some (.int .u32 en) := fun i => (cls_cell b1 4 i).trans rfl
        clear b1 b2
        have hf1 := fldS1
        refine region_cls rfl (by kernel_rfl) ?_
        repeat (go_big_quiet_step ((go_at_call 155; exact cls_call _ (of_calls _ _))))
        refine wpQuiet_nil ?_
        intro i
        have hI := i.property
        go_wp2
        go_returns
        exact ⟨by simp [codeT, eh1, eh2, eh3], by (repeat' (first | (with_reducible first | exact Below.refl _ _ | refine blQ ?_ _ | refine Below.drew ?_ | refine blO ?_ (by assumption) | refine Below.alloc ?_ ?_ _ | refine Below.setCell ?_ ?_ _ | refine Below.frame ?_ _) | omega | (simp only [zA, zS, zD, zQ]; omega)))⟩
    · have eh2 : decide (Int.tmod tn 4 = 0) = false := decide_eq_false h2
      have eh20 : (Int.tmod tn 4 == 0) = false := by simpa using h2
      clear h2
      go_enter Try.func136, Try.ntmps136
      go_wp2
      refine wp_abs (fun W => W.heap[w.heap.size]? = some (.cells #[.int .u32 f, .int .u32 fn, .int .u32 r, .int .u32 rn, .int .u32 en, .int .u32 tx, .int .u32 tn, .int .u32 sa, .int .u32 sn, .int .u32 rm, .int .u64 fu, .int .u32 ia, .int .u32 il, .int .u32 oa, .int .u32 ol, .slice A0 n0 c0, .slice A1 n1 c1] 78 (0, 0)) ∧ W.heap[w.heap.size + 1]? = some (.cells #[.int .u32 tx, .int .u32 tn] 73 (0, 0)) ∧ Below w.heap.size w W) ⟨by (repeat' (first | (with_reducible first | assumption | exact hpA _ _ _ rfl | refine hpN ?_ | refine hpD ?_) | ((with_reducible first | refine hpP ?_ ?_ | refine hpT ?_ ?_); (focus (first | omega | (simp [zA, zS, zD, zQ] <;> omega)))) | ((with_reducible refine hpA _ _ _ ?_); (focus (first | omega | (simp [zA, zS, zD, zQ] <;> omega)))) | ((with_reducible refine hpB ?_ ?_); (focus assumption)) | (with_reducible apply hpS))), by (repeat' (first | (with_reducible first | assumption | exact hpA _ _ _ rfl | refine hpN ?_ | refine hpD ?_) | ((with_reducible first | refine hpP ?_ ?_ | refine hpT ?_ ?_); (focus (first | omega | (simp [zA, zS, zD, zQ] <;> omega)))) | ((with_reducible refine hpA _ _ _ ?_); (focus (first | omega | (simp [zA, zS, zD, zQ] <;> omega)))) | ((with_reducible refine hpB ?_ ?_); (focus assumption)) | (with_reducible apply hpS))), by (repeat' (first | (with_reducible first | exact Below.refl _ _ | refine blQ ?_ _ | refine Below.drew ?_ | refine blO ?_ (by assumption) | refine Below.alloc ?_ ?_ _ | refine Below.setCell ?_ ?_ _ | refine Below.frame ?_ _) | omega | (simp only [zA, zS, zD, zQ]; omega)))⟩ ?_
      intro W hW
      obtain ⟨b1, b2, hB⟩ := hW
      have x0 : ∀ i : Cls W, i.val.cell? ⟨w.heap.size + 1, 0, none⟩ = some (.int .u32 tx) := fun i => (cls_cell b2 0 i).trans rfl
      have x1 : ∀ i : Cls W, i.val.cell? ⟨w.heap.size + 1, 1, none⟩ = some (.int .u32 tn) := fun i => (cls_cell b2 1 i).trans rfl
      have x2 : ∀ i : Cls W, i.val.cell? ⟨w.heap.size, 4, none⟩ = some (.int .u32 en) := fun i => (cls_cell b1 4 i).trans rfl
      clear b1 b2
      have hf1 := fldS1
      refine region_cls rfl (by kernel_rfl) ?_
      repeat (go_big_quiet_step ((go_at_call 155; exact cls_call _ (of_calls _ _))))
      refine wpQuiet_nil ?_
      intro i
      have hI := i.property
      go_wp2
      go_returns
      exact ⟨by simp [codeT, eh1, eh2], by (repeat' (first | (with_reducible first | exact Below.refl _ _ | refine blQ ?_ _ | refine Below.drew ?_ | refine blO ?_ (by assumption) | refine Below.alloc ?_ ?_ _ | refine Below.setCell ?_ ?_ _ | refine Below.frame ?_ _) | omega | (simp only [zA, zS, zD, zQ]; omega)))⟩
  · have eh1 : decide (4 ≤ tn) = false := decide_eq_false h1
    clear h1
    go_enter Try.func136, Try.ntmps136
    go_wp2
    refine wp_abs (fun W => W.heap[w.heap.size]? = some (.cells #[.int .u32 f, .int .u32 fn, .int .u32 r, .int .u32 rn, .int .u32 en, .int .u32 tx, .int .u32 tn, .int .u32 sa, .int .u32 sn, .int .u32 rm, .int .u64 fu, .int .u32 ia, .int .u32 il, .int .u32 oa, .int .u32 ol, .slice A0 n0 c0, .slice A1 n1 c1] 78 (0, 0)) ∧ W.heap[w.heap.size + 1]? = some (.cells #[.int .u32 tx, .int .u32 tn] 73 (0, 0)) ∧ Below w.heap.size w W) ⟨by (repeat' (first | (with_reducible first | assumption | exact hpA _ _ _ rfl | refine hpN ?_ | refine hpD ?_) | ((with_reducible first | refine hpP ?_ ?_ | refine hpT ?_ ?_); (focus (first | omega | (simp [zA, zS, zD, zQ] <;> omega)))) | ((with_reducible refine hpA _ _ _ ?_); (focus (first | omega | (simp [zA, zS, zD, zQ] <;> omega)))) | ((with_reducible refine hpB ?_ ?_); (focus assumption)) | (with_reducible apply hpS))), by (repeat' (first | (with_reducible first | assumption | exact hpA _ _ _ rfl | refine hpN ?_ | refine hpD ?_) | ((with_reducible first | refine hpP ?_ ?_ | refine hpT ?_ ?_); (focus (first | omega | (simp [zA, zS, zD, zQ] <;> omega)))) | ((with_reducible refine hpA _ _ _ ?_); (focus (first | omega | (simp [zA, zS, zD, zQ] <;> omega)))) | ((with_reducible refine hpB ?_ ?_); (focus assumption)) | (with_reducible apply hpS))), by (repeat' (first | (with_reducible first | exact Below.refl _ _ | refine blQ ?_ _ | refine Below.drew ?_ | refine blO ?_ (by assumption) | refine Below.alloc ?_ ?_ _ | refine Below.setCell ?_ ?_ _ | refine Below.frame ?_ _) | omega | (simp only [zA, zS, zD, zQ]; omega)))⟩ ?_
    intro W hW
    obtain ⟨b1, b2, hB⟩ := hW
    have x0 : ∀ i : Cls W, i.val.cell? ⟨w.heap.size + 1, 0, none⟩ = some (.int .u32 tx) := fun i => (cls_cell b2 0 i).trans rfl
    have x1 : ∀ i : Cls W, i.val.cell? ⟨w.heap.size + 1, 1, none⟩ = some (.int .u32 tn) := fun i => (cls_cell b2 1 i).trans rfl
    have x2 : ∀ i : Cls W, i.val.cell? ⟨w.heap.size, 4, none⟩ = some (.int .u32 en) := fun i => (cls_cell b1 4 i).trans rfl
    clear b1 b2
    have hf1 := fldS1
    refine region_cls rfl (by kernel_rfl) ?_
    repeat (go_big_quiet_step ((go_at_call 155; exact cls_call _ (of_calls _ _))))
    refine wpQuiet_nil ?_
    intro i
    have hI := i.property
    go_wp2
    go_returns
    exact ⟨by simp [codeT, eh1], by (repeat' (first | (with_reducible first | exact Below.refl _ _ | refine blQ ?_ _ | refine Below.drew ?_ | refine blO ?_ (by assumption) | refine Below.alloc ?_ ?_ _ | refine Below.setCell ?_ ?_ _ | refine Below.frame ?_ _) | omega | (simp only [zA, zS, zD, zQ]; omega)))⟩
end Go.Proofs.Ytioopcilcgebeaa.CpuA
