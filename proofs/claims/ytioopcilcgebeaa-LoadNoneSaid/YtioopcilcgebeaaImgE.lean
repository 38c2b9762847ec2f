/- Whether an image may be. -/
import Derived.Test.YtioopcilcgebeaaImgD
import Derived.Test.YtioopcilcgebeaaI3
import Derived.Laws.Rows
import Derived.Test.YtioopcilcgebeaaI2
set_option linter.unusedVariables false
set_option linter.unusedSimpArgs false
namespace Go.Proofs.Ytioopcilcgebeaa.CpuA
open Go.RowKit Go.Proofs.Ytioopcilcgebeaa.Base Go.Proofs.YtioopcilcgebeaaW.PrintWords

theorem wpList_of_quiet {P : Program} {ops : Array Oper} {C : World → Prop} {Qa : Act → Prop} {Q' : Exit → Act → World → Prop} (hQ : ∀ a w, C w → Qa a → Q' .normal a w) : ∀ (l : List Oper) (a : Act) (w : World), C w → wpQuiet P ops C Qa l a → wpList P ops Q' l a w
  | [], a, w, hw, h => hQ a w hw h
  | o :: l, a, w, hw, h => by
    unfold wpQuiet at h
    unfold wpList
    split
    · rename_i hwa
      rw [if_pos hwa] at h
      exact .inl (Oper.wp_of_quiet hw (fun a' w' hw' hk => wpList_of_quiet hQ l a' w' hw' hk) h)
    · rename_i hwa
      rw [if_neg hwa] at h
      exact wpList_of_quiet hQ l _ w hw h
/-- A region in one order, of reads and of calls that leave what lies. -/
theorem region_cls_f {P : Program} {id : Nat} {Q : Exit → Act → World → Prop} {a : Act} {W : World} {l : List Oper}
    (h : wpQuiet P l.toArray (fun w' => ∃ i : Cls W, w' = i.val) (fun a' => ∀ i : Cls W, Q .normal a' i.val) l a) : (Code.region id l.toArray false).wp P Q a W :=
  wp_region_lit (wpList_of_quiet (C := fun w' => ∃ i : Cls W, w' = i.val) (fun a w hw h => by obtain ⟨i, rfl⟩ := hw; exact h i) _ _ _ ⟨⟨W, Below.refl _ _⟩, rfl⟩ h)
/-- An image, loaded whole, in a quiet walk. -/
theorem quiet_loadI {C : World → Prop} {o : Oper} {a : Act} {K : Act → Prop} (x : Operand) (n : Nat) (ho : o.op = .load 78 x) (hn : o.dst = some n) {b : Nat} {cs : Array Value} (hx : a.eval x = .pointer (some ⟨b, 0, none⟩))
    (h : ∀ w, C w → w.heap[b]? = some (.cells cs 78 (0, 0))) (hi : (Try.prog.info? 78).map (·.size) = some cs.size) {a' : Act} (ha : a.put (some n) (.agg cs) = a') (hk : K a') : o.quiet Try.prog a C K := by
  refine ⟨.agg cs, fun w hw => ?_, by rw [hn, ha]; exact hk⟩
  unfold Oper.quietAt execOp
  simp only [ho, hx, Instr.loadAt, Instr.sureAddr, Sem.run_bind, Sem.run_pure, Result.andThen_ok, run_loadVar_row w b _ 78 cs (0, 0) _ (h w hw) Try.underlying78 rfl hi]
  exact ⟨rfl, rfl⟩
set_option maxHeartbeats 8000000 in
set_option maxRecDepth 100000 in
theorem valid_calls (k : Nat) (f fn r rn en tx tn sa sn rm fu ia il oa ol : Int) (A0 : Option Addr) (c0 : Nat) (ws : List PCpu.S73) (A1 : Option Addr) (c1 : Nat) (ss : List PCpu.S85) (w : World) (hr0 : Kd.C PCpu.k73 w A0 ws.length ws) (hc0 : ws.length ≤ c0) (hr1 : Kd.C PCpu.k85 w A1 ss.length ss) (hc1 : ss.length ≤ c1) (l1 : ss.length ≤ 1000) (c s : Bool) (hc : PCpu.mem_can.f f fn r rn = some c) (hs : c = true → PCpu.image_segs.f k f fn r rn en tx tn sa sn rm fu ia il oa ol ws ss = some s) :
    Calls Try.prog 113 #[.agg #[.int .u32 f, .int .u32 fn, .int .u32 r, .int .u32 rn, .int .u32 en, .int .u32 tx, .int .u32 tn, .int .u32 sa, .int .u32 sn, .int .u32 rm, .int .u64 fu, .int .u32 ia, .int .u32 il, .int .u32 oa, .int .u32 ol, .slice A0 ws.length c0, .slice A1 ss.length c1]] w fun e w' => e = .returned (.bool (c && (s && (codeT en tx tn && dataT r rn sa sn rm ia il oa ol ws ss)))) ∧ Below w.heap.size w w' := by
  have HC := Lib.hid (fun X => PCpu.mem_Can.calls f fn r rn c X (by show (PCpu.mem_can.f f fn r rn).bind _ = _; rw [hc]; rfl))
  have HK := Lib.hid (fun X => code_calls f fn r rn en tx tn sa sn rm fu ia il oa ol A0 ws.length c0 A1 ss.length c1 X)
  have HD := Lib.hid (fun X (hX : Below w.heap.size w X) => data_calls f fn r rn en tx tn sa sn rm fu ia il oa ol A0 c0 ws A1 c1 ss X (Kd.C_below hr0 hX) (Kd.C_below hr1 hX) l1)
  generalize codeT en tx tn = q at *
  generalize dataT r rn sa sn rm ia il oa ol ws ss = d at *
  cases c with
  | false =>
    clear hs
    clear hr0 hr1 hc0 hc1
    go_enter Try.func113, Try.ntmps113
    go_upto_region 1 with (fail)
    (try simp only [Act.put, List.setIfInBounds_toArray, List.set_cons_zero, List.set_cons_succ])
    refine wp_abs (fun W => W.heap[w.heap.size]? = some (.cells #[.int .u32 f, .int .u32 fn, .int .u32 r, .int .u32 rn, .int .u32 en, .int .u32 tx, .int .u32 tn, .int .u32 sa, .int .u32 sn, .int .u32 rm, .int .u64 fu, .int .u32 ia, .int .u32 il, .int .u32 oa, .int .u32 ol, .slice A0 ws.length c0, .slice A1 ss.length c1] 78 (0, 0)) ∧ Below w.heap.size w W) ⟨by (repeat' (first | (with_reducible first | assumption | exact hpA _ _ _ rfl | refine hpN ?_ | refine hpD ?_) | ((with_reducible first | refine hpP ?_ ?_ | refine hpT ?_ ?_); (focus (first | omega | (simp [zA, zS, zD, zQ] <;> omega)))) | ((with_reducible refine hpA _ _ _ ?_); (focus (first | omega | (simp [zA, zS, zD, zQ] <;> omega)))) | ((with_reducible refine hpB ?_ ?_); (focus assumption)) | (with_reducible apply hpS))), by (repeat' (first | (with_reducible first | exact Below.refl _ _ | refine blQ ?_ _ | refine Below.drew ?_ | refine blO ?_ (by assumption) | refine Below.alloc ?_ ?_ _ | refine Below.setCell ?_ ?_ _ | refine Below.frame ?_ _) | omega | (simp only [zA, zS, zD, zQ]; omega)))⟩ ?_
    intro W hW
    obtain ⟨b0, hB⟩ := hW
    have x0 : ∀ i : Cls W, i.val.cell? ⟨w.heap.size, 0, none⟩ = some (.int .u32 f) := fun i => (cls_cell b0 0 i).trans rfl
    have x1 : ∀ i : Cls W, i.val.cell? ⟨w.heap.size, 1, none⟩ = some (.int .u32 fn) := fun i => (cls_cell b0 1 i).trans rfl
    have x2 : ∀ i : Cls W, i.val.cell? ⟨w.heap.size, 2, none⟩ = some (.int .u32 r) := fun i => (cls_cell b0 2 i).trans rfl
    have x3 : ∀ i : Cls W, i.val.cell? ⟨w.heap.size, 3, none⟩ = some (.int .u32 rn) := fun i => (cls_cell b0 3 i).trans rfl
    have xL : ∀ W2 : World, (∃ i : Cls W, W2 = i.val) → W2.heap[w.heap.size]? = some (.cells #[.int .u32 f, .int .u32 fn, .int .u32 r, .int .u32 rn, .int .u32 en, .int .u32 tx, .int .u32 tn, .int .u32 sa, .int .u32 sn, .int .u32 rm, .int .u64 fu, .int .u32 ia, .int .u32 il, .int .u32 oa, .int .u32 ol, .slice A0 ws.length c0, .slice A1 ss.length c1] 78 (0, 0)) := fun W2 h => by obtain ⟨i, rfl⟩ := h; exact heap_below i.property b0
    clear b0
    refine region_cls_f ?_
    repeat (first | (go_big_quiet_want; (refine' quiet_loadI (.tmp 1) 7 rfl rfl rfl xL (by kernel_rfl) (by simp only [Act.put, List.setIfInBounds_toArray, List.set_cons_zero, List.set_cons_succ] <;> rfl) ?_); go_big_quiet_on) | (go_big_quiet_want; (refine' quiet_loadI (.tmp 1) 11 rfl rfl rfl xL (by kernel_rfl) (by simp only [Act.put, List.setIfInBounds_toArray, List.set_cons_zero, List.set_cons_succ] <;> rfl) ?_); go_big_quiet_on) | (go_big_quiet_want; (refine' quiet_loadI (.tmp 1) 15 rfl rfl rfl xL (by kernel_rfl) (by simp only [Act.put, List.setIfInBounds_toArray, List.set_cons_zero, List.set_cons_succ] <;> rfl) ?_); go_big_quiet_on) | go_big_quiet_step (first
      | (go_at_call 134; with_reducible exact cls_call _ HC.out)
      | (go_at_call 136; with_reducible exact cls_call _ HK.out)
      | (go_at_call 137; with_reducible exact cls_callB _ (fun X hX => HD.out X (below_on hB hX)))))
    refine wpQuiet_nil ?_
    intro i
    have hI := i.property
    go_wp2
    go_returns
    exact ⟨by simp, below_on hB hI⟩
  | true =>
    have HS := Lib.hid (fun X (hX : Below w.heap.size w X) => PCpu.image_segs.calls k f fn r rn en tx tn sa sn rm fu ia il oa ol A0 c0 ws A1 c1 ss s X (Kd.C_below hr0 hX) hc0 (Kd.C_below hr1 hX) hc1 (hs rfl))
    clear hr0 hr1 hc0 hc1 hs
    cases s with
    | false =>
      skip
      go_enter Try.func113, Try.ntmps113
      go_upto_region 1 with (fail)
      (try simp only [Act.put, List.setIfInBounds_toArray, List.set_cons_zero, List.set_cons_succ])
      refine wp_abs (fun W => W.heap[w.heap.size]? = some (.cells #[.int .u32 f, .int .u32 fn, .int .u32 r, .int .u32 rn, .int .u32 en, .int .u32 tx, .int .u32 tn, .int .u32 sa, .int .u32 sn, .int .u32 rm, .int .u64 fu, .int .u32 ia, .int .u32 il, .int .u32 oa, .int .u32 ol, .slice A0 ws.length c0, .slice A1 ss.length c1] 78 (0, 0)) ∧ Below w.heap.size w W) ⟨by (repeat' (first | (with_reducible first | assumption | exact hpA _ _ _ rfl | refine hpN ?_ | refine hpD ?_) | ((with_reducible first | refine hpP ?_ ?_ | refine hpT ?_ ?_); (focus (first | omega | (simp [zA, zS, zD, zQ] <;> omega)))) | ((with_reducible refine hpA _ _ _ ?_); (focus (first | omega | (simp [zA, zS, zD, zQ] <;> omega)))) | ((with_reducible refine hpB ?_ ?_); (focus assumption)) | (with_reducible apply hpS))), by (repeat' (first | (with_reducible first | exact Below.refl _ _ | refine blQ ?_ _ | refine Below.drew ?_ | refine blO ?_ (by assumption) | refine Below.alloc ?_ ?_ _ | refine Below.setCell ?_ ?_ _ | refine Below.frame ?_ _) | omega | (simp only [zA, zS, zD, zQ]; omega)))⟩ ?_
      intro W hW
      obtain ⟨b0, hB⟩ := hW
      have x0 : ∀ i : Cls W, i.val.cell? ⟨w.heap.size, 0, none⟩ = some (.int .u32 f) := fun i => (cls_cell b0 0 i).trans rfl
      have x1 : ∀ i : Cls W, i.val.cell? ⟨w.heap.size, 1, none⟩ = some (.int .u32 fn) := fun i => (cls_cell b0 1 i).trans rfl
      have x2 : ∀ i : Cls W, i.val.cell? ⟨w.heap.size, 2, none⟩ = some (.int .u32 r) := fun i => (cls_cell b0 2 i).trans rfl
      have x3 : ∀ i : Cls W, i.val.cell? ⟨w.heap.size, 3, none⟩ = some (.int .u32 rn) := fun i => (cls_cell b0 3 i).trans rfl
      have xL : ∀ W2 : World, (∃ i : Cls W, W2 = i.val) → W2.heap[w.heap.size]? = some (.cells #[.int .u32 f, .int .u32 fn, .int .u32 r, .int .u32 rn, .int .u32 en, .int .u32 tx, .int .u32 tn, .int .u32 sa, .int .u32 sn, .int .u32 rm, .int .u64 fu, .int .u32 ia, .int .u32 il, .int .u32 oa, .int .u32 ol, .slice A0 ws.length c0, .slice A1 ss.length c1] 78 (0, 0)) := fun W2 h => by obtain ⟨i, rfl⟩ := h; exact heap_below i.property b0
      clear b0
      refine region_cls_f ?_
      repeat (first | (go_big_quiet_want; (refine' quiet_loadI (.tmp 1) 7 rfl rfl rfl xL (by kernel_rfl) (by simp only [Act.put, List.setIfInBounds_toArray, List.set_cons_zero, List.set_cons_succ] <;> rfl) ?_); go_big_quiet_on) | (go_big_quiet_want; (refine' quiet_loadI (.tmp 1) 11 rfl rfl rfl xL (by kernel_rfl) (by simp only [Act.put, List.setIfInBounds_toArray, List.set_cons_zero, List.set_cons_succ] <;> rfl) ?_); go_big_quiet_on) | (go_big_quiet_want; (refine' quiet_loadI (.tmp 1) 15 rfl rfl rfl xL (by kernel_rfl) (by simp only [Act.put, List.setIfInBounds_toArray, List.set_cons_zero, List.set_cons_succ] <;> rfl) ?_); go_big_quiet_on) | go_big_quiet_step (first
        | (go_at_call 134; with_reducible exact cls_call _ HC.out)
        | (go_at_call 135; with_reducible exact cls_callB _ (fun X hX => HS.out X (below_on hB hX)))
        | (go_at_call 136; with_reducible exact cls_call _ HK.out)
        | (go_at_call 137; with_reducible exact cls_callB _ (fun X hX => HD.out X (below_on hB hX)))))
      refine wpQuiet_nil ?_
      intro i
      have hI := i.property
      go_wp2
      go_returns
      exact ⟨by simp, below_on hB hI⟩
    | true =>
      cases q with
      | false =>
        skip
        go_enter Try.func113, Try.ntmps113
        go_upto_region 1 with (fail)
        (try simp only [Act.put, List.setIfInBounds_toArray, List.set_cons_zero, List.set_cons_succ])
        refine wp_abs (fun W => W.heap[w.heap.size]? = some (.cells #[.int .u32 f, .int .u32 fn, .int .u32 r, .int .u32 rn, .int .u32 en, .int .u32 tx, .int .u32 tn, .int .u32 sa, .int .u32 sn, .int .u32 rm, .int .u64 fu, .int .u32 ia, .int .u32 il, .int .u32 oa, .int .u32 ol, .slice A0 ws.length c0, .slice A1 ss.length c1] 78 (0, 0)) ∧ Below w.heap.size w W) ⟨by (repeat' (first | (with_reducible first | assumption | exact hpA _ _ _ rfl | refine hpN ?_ | refine hpD ?_) | ((with_reducible first | refine hpP ?_ ?_ | refine hpT ?_ ?_); (focus (first | omega | (simp [zA, zS, zD, zQ] <;> omega)))) | ((with_reducible refine hpA _ _ _ ?_); (focus (first | omega | (simp [zA, zS, zD, zQ] <;> omega)))) | ((with_reducible refine hpB ?_ ?_); (focus assumption)) | (with_reducible apply hpS))), by (repeat' (first | (with_reducible first | exact Below.refl _ _ | refine blQ ?_ _ | refine Below.drew ?_ | refine blO ?_ (by assumption) | refine Below.alloc ?_ ?_ _ | refine Below.setCell ?_ ?_ _ | refine Below.frame ?_ _) | omega | (simp only [zA, zS, zD, zQ]; omega)))⟩ ?_
        intro W hW
        obtain ⟨b0, hB⟩ := hW
        have x0 : ∀ i : Cls W, i.val.cell? ⟨w.heap.size, 0, none⟩ = some (.int .u32 f) := fun i => (cls_cell b0 0 i).trans rfl
        have x1 : ∀ i : Cls W, i.val.cell? ⟨w.heap.size, 1, none⟩ = some (.int .u32 fn) := fun i => (cls_cell b0 1 i).trans rfl
        have x2 : ∀ i : Cls W, i.val.cell? ⟨w.heap.size, 2, none⟩ = some (.int .u32 r) := fun i => (cls_cell b0 2 i).trans rfl
        have x3 : ∀ i : Cls W, i.val.cell? ⟨w.heap.size, 3, none⟩ = some (.int .u32 rn) := fun i => (cls_cell b0 3 i).trans rfl
        have xL : ∀ W2 : World, (∃ i : Cls W, W2 = i.val) → W2.heap[w.heap.size]? = some (.cells #[.int .u32 f, .int .u32 fn, .int .u32 r, .int .u32 rn, .int .u32 en, .int .u32 tx, .int .u32 tn, .int .u32 sa, .int .u32 sn, .int .u32 rm, .int .u64 fu, .int .u32 ia, .int .u32 il, .int .u32 oa, .int .u32 ol, .slice A0 ws.length c0, .slice A1 ss.length c1] 78 (0, 0)) := fun W2 h => by obtain ⟨i, rfl⟩ := h; exact heap_below i.property b0
        clear b0
        refine region_cls_f ?_
        repeat (first | (go_big_quiet_want; (refine' quiet_loadI (.tmp 1) 7 rfl rfl rfl xL (by kernel_rfl) (by simp only [Act.put, List.setIfInBounds_toArray, List.set_cons_zero, List.set_cons_succ] <;> rfl) ?_); go_big_quiet_on) | (go_big_quiet_want; (refine' quiet_loadI (.tmp 1) 11 rfl rfl rfl xL (by kernel_rfl) (by simp only [Act.put, List.setIfInBounds_toArray, List.set_cons_zero, List.set_cons_succ] <;> rfl) ?_); go_big_quiet_on) | (go_big_quiet_want; (refine' quiet_loadI (.tmp 1) 15 rfl rfl rfl xL (by kernel_rfl) (by simp only [Act.put, List.setIfInBounds_toArray, List.set_cons_zero, List.set_cons_succ] <;> rfl) ?_); go_big_quiet_on) | go_big_quiet_step (first
          | (go_at_call 134; with_reducible exact cls_call _ HC.out)
          | (go_at_call 135; with_reducible exact cls_callB _ (fun X hX => HS.out X (below_on hB hX)))
          | (go_at_call 136; with_reducible exact cls_call _ HK.out)
          | (go_at_call 137; with_reducible exact cls_callB _ (fun X hX => HD.out X (below_on hB hX)))))
        refine wpQuiet_nil ?_
        intro i
        have hI := i.property
        go_wp2
        go_returns
        exact ⟨by simp, below_on hB hI⟩
      | true =>
        skip
        go_enter Try.func113, Try.ntmps113
        go_upto_region 1 with (fail)
        (try simp only [Act.put, List.setIfInBounds_toArray, List.set_cons_zero, List.set_cons_succ])
        refine wp_abs (fun W => W.heap[w.heap.size]? = some (.cells #[.int .u32 f, .int .u32 fn, .int .u32 r, .int .u32 rn, .int .u32 en, .int .u32 tx, .int .u32 tn, .int .u32 sa, .int .u32 sn, .int .u32 rm, .int .u64 fu, .int .u32 ia, .int .u32 il, .int .u32 oa, .int .u32 ol, .slice A0 ws.length c0, .slice A1 ss.length c1] 78 (0, 0)) ∧ Below w.heap.size w W) ⟨by (repeat' (first | (with_reducible first | assumption | exact hpA _ _ _ rfl | refine hpN ?_ | refine hpD ?_) | ((with_reducible first | refine hpP ?_ ?_ | refine hpT ?_ ?_); (focus (first | omega | (simp [zA, zS, zD, zQ] <;> omega)))) | ((with_reducible refine hpA _ _ _ ?_); (focus (first | omega | (simp [zA, zS, zD, zQ] <;> omega)))) | ((with_reducible refine hpB ?_ ?_); (focus assumption)) | (with_reducible apply hpS))), by (repeat' (first | (with_reducible first | exact Below.refl _ _ | refine blQ ?_ _ | refine Below.drew ?_ | refine blO ?_ (by assumption) | refine Below.alloc ?_ ?_ _ | refine Below.setCell ?_ ?_ _ | refine Below.frame ?_ _) | omega | (simp only [zA, zS, zD, zQ]; omega)))⟩ ?_
        intro W hW
        obtain ⟨b0, hB⟩ := hW
        have x0 : ∀ i : Cls W, i.val.cell? ⟨w.heap.size, 0, none⟩ = some (.int .u32 f) := fun i => (cls_cell b0 0 i).trans rfl
        have x1 : ∀ i : Cls W, i.val.cell? ⟨w.heap.size, 1, none⟩ = some (.int .u32 fn) := fun i => (cls_cell b0 1 i).trans rfl
        have x2 : ∀ i : Cls W, i.val.cell? ⟨w.heap.size, 2, none⟩ = some (.int .u32 r) := fun i => (cls_cell b0 2 i).trans rfl
        have x3 : ∀ i : Cls W, i.val.cell? ⟨w.heap.size, 3, none⟩ = some (.int .u32 rn) := fun i => (cls_cell b0 3 i).trans rfl
        have xL : ∀ W2 : World, (∃ i : Cls W, W2 = i.val) → W2.heap[w.heap.size]? = some (.cells #[.int .u32 f, .int .u32 fn, .int .u32 r, .int .u32 rn, .int .u32 en, .int .u32 tx, .int .u32 tn, .int .u32 sa, .int .u32 sn, .int .u32 rm, .int .u64 fu, .int .u32 ia, .int .u32 il, .int .u32 oa, .int .u32 ol, .slice A0 ws.length c0, .slice A1 ss.length c1] 78 (0, 0)) := fun W2 h => by obtain ⟨i, rfl⟩ := h; exact heap_below i.property b0
        clear b0
        refine region_cls_f ?_
        repeat (first | (go_big_quiet_want; (refine' quiet_loadI (.tmp 1) 7 rfl rfl rfl xL (by kernel_rfl) (by simp only [Act.put, List.setIfInBounds_toArray, List.set_cons_zero, List.set_cons_succ] <;> rfl) ?_); go_big_quiet_on) | (go_big_quiet_want; (refine' quiet_loadI (.tmp 1) 11 rfl rfl rfl xL (by kernel_rfl) (by simp only [Act.put, List.setIfInBounds_toArray, List.set_cons_zero, List.set_cons_succ] <;> rfl) ?_); go_big_quiet_on) | (go_big_quiet_want; (refine' quiet_loadI (.tmp 1) 15 rfl rfl rfl xL (by kernel_rfl) (by simp only [Act.put, List.setIfInBounds_toArray, List.set_cons_zero, List.set_cons_succ] <;> rfl) ?_); go_big_quiet_on) | go_big_quiet_step (first
          | (go_at_call 134; with_reducible exact cls_call _ HC.out)
          | (go_at_call 135; with_reducible exact cls_callB _ (fun X hX => HS.out X (below_on hB hX)))
          | (go_at_call 136; with_reducible exact cls_call _ HK.out)
          | (go_at_call 137; with_reducible exact cls_callB _ (fun X hX => HD.out X (below_on hB hX)))))
        refine wpQuiet_nil ?_
        intro i
        have hI := i.property
        go_wp2
        go_returns
        exact ⟨by simp, below_on hB hI⟩
set_option maxHeartbeats 8000000 in
set_option maxRecDepth 100000 in
theorem Valid_calls (k : Nat) (f fn r rn en tx tn sa sn rm fu ia il oa ol : Int) (A0 : Option Addr) (c0 : Nat) (ws : List PCpu.S73) (A1 : Option Addr) (c1 : Nat) (ss : List PCpu.S85) (w : World) (hr0 : Kd.C PCpu.k73 w A0 ws.length ws) (hc0 : ws.length ≤ c0) (hr1 : Kd.C PCpu.k85 w A1 ss.length ss) (hc1 : ss.length ≤ c1) (l1 : ss.length ≤ 1000) (c s : Bool) (hc : PCpu.mem_can.f f fn r rn = some c) (hs : c = true → PCpu.image_segs.f k f fn r rn en tx tn sa sn rm fu ia il oa ol ws ss = some s) :
    Calls Try.prog 102 #[.agg #[.int .u32 f, .int .u32 fn, .int .u32 r, .int .u32 rn, .int .u32 en, .int .u32 tx, .int .u32 tn, .int .u32 sa, .int .u32 sn, .int .u32 rm, .int .u64 fu, .int .u32 ia, .int .u32 il, .int .u32 oa, .int .u32 ol, .slice A0 ws.length c0, .slice A1 ss.length c1]] w fun e w' => e = .returned (.bool (c && (s && (codeT en tx tn && dataT r rn sa sn rm ia il oa ol ws ss)))) ∧ Below w.heap.size w w' := by
  have HV := Lib.hid (fun X (hX : Below w.heap.size w X) => valid_calls k f fn r rn en tx tn sa sn rm fu ia il oa ol A0 c0 ws A1 c1 ss X (Kd.C_below hr0 hX) hc0 (Kd.C_below hr1 hX) hc1 l1 c s hc hs)
  generalize (c && (s && (codeT en tx tn && dataT r rn sa sn rm ia il oa ol ws ss))) = d at *
  clear hr0 hr1 hc0 hc1 hc hs
  go_enter Try.func102, Try.ntmps102
  go_upto_region 1 with (fail)
  (try simp only [Act.put, List.setIfInBounds_toArray, List.set_cons_zero, List.set_cons_succ])
  refine wp_abs (fun W => W.heap[w.heap.size]? = some (.cells #[.int .u32 f, .int .u32 fn, .int .u32 r, .int .u32 rn, .int .u32 en, .int .u32 tx, .int .u32 tn, .int .u32 sa, .int .u32 sn, .int .u32 rm, .int .u64 fu, .int .u32 ia, .int .u32 il, .int .u32 oa, .int .u32 ol, .slice A0 ws.length c0, .slice A1 ss.length c1] 78 (0, 0)) ∧ Below w.heap.size w W) ⟨by (repeat' (first | (with_reducible first | assumption | exact hpA _ _ _ rfl | refine hpN ?_ | refine hpD ?_) | ((with_reducible first | refine hpP ?_ ?_ | refine hpT ?_ ?_); (focus (first | omega | (simp [zA, zS, zD, zQ] <;> omega)))) | ((with_reducible refine hpA _ _ _ ?_); (focus (first | omega | (simp [zA, zS, zD, zQ] <;> omega)))) | ((with_reducible refine hpB ?_ ?_); (focus assumption)) | (with_reducible apply hpS))), by (repeat' (first | (with_reducible first | exact Below.refl _ _ | refine blQ ?_ _ | refine Below.drew ?_ | refine blO ?_ (by assumption) | refine Below.alloc ?_ ?_ _ | refine Below.setCell ?_ ?_ _ | refine Below.frame ?_ _) | omega | (simp only [zA, zS, zD, zQ]; omega)))⟩ ?_
  intro W hW
  obtain ⟨b0, hB⟩ := hW
  have x0 : ∀ i : Cls W, i.val.cell? ⟨w.heap.size, 0, none⟩ = some (.int .u32 f) := fun i => (cls_cell b0 0 i).trans rfl
  have x1 : ∀ i : Cls W, i.val.cell? ⟨w.heap.size, 1, none⟩ = some (.int .u32 fn) := fun i => (cls_cell b0 1 i).trans rfl
  have x2 : ∀ i : Cls W, i.val.cell? ⟨w.heap.size, 2, none⟩ = some (.int .u32 r) := fun i => (cls_cell b0 2 i).trans rfl
  have x3 : ∀ i : Cls W, i.val.cell? ⟨w.heap.size, 3, none⟩ = some (.int .u32 rn) := fun i => (cls_cell b0 3 i).trans rfl
  have xL : ∀ W2 : World, (∃ i : Cls W, W2 = i.val) → W2.heap[w.heap.size]? = some (.cells #[.int .u32 f, .int .u32 fn, .int .u32 r, .int .u32 rn, .int .u32 en, .int .u32 tx, .int .u32 tn, .int .u32 sa, .int .u32 sn, .int .u32 rm, .int .u64 fu, .int .u32 ia, .int .u32 il, .int .u32 oa, .int .u32 ol, .slice A0 ws.length c0, .slice A1 ss.length c1] 78 (0, 0)) := fun W2 h => by obtain ⟨i, rfl⟩ := h; exact heap_below i.property b0
  clear b0
  refine region_cls_f ?_
  repeat (first | (go_big_quiet_want; (refine' quiet_loadI (.tmp 1) 3 rfl rfl rfl xL (by kernel_rfl) (by simp only [Act.put, List.setIfInBounds_toArray, List.set_cons_zero, List.set_cons_succ] <;> rfl) ?_); go_big_quiet_on) | go_big_quiet_step (first
    | (go_at_call 113; with_reducible exact cls_callB _ (fun X hX => HV.out X (below_on hB hX)))))
  refine wpQuiet_nil ?_
  intro i
  have hI := i.property
  go_wp2
  go_returns
  exact ⟨by simp, below_on hB hI⟩
end Go.Proofs.Ytioopcilcgebeaa.CpuA
