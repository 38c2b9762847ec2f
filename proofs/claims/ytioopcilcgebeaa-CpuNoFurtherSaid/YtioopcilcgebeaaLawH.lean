/- CpuOne. -/
import Derived.Test.YtioopcilcgebeaaLawHs
import Derived.Test.YtioopcilcgebeaaKKf
set_option linter.unusedVariables false
set_option linter.unusedSimpArgs false
namespace Go.Proofs.Ytioopcilcgebeaa.CpuA
open Go.RowKit Go.Proofs.Ytioopcilcgebeaa.Base Go.Proofs.Ytioopcilcgebeaa.InstS Go.Proofs.Ytioopcilcgebeaa.InstA Go.Proofs.YtioopcilcgebeaaW.PrintWords

set_option maxHeartbeats 16000000 in
set_option maxRecDepth 100000 in
theorem cpuOne_walk (i : Ins) (a b : Int) (ha : 0 ≤ a ∧ a < 4294967296) (hb : 0 ≤ b ∧ b < 4294967296) (w : World) :
    Calls Try.prog 7 #[iv i, .int .u32 a, .int .u32 b] w fun e w' => e = .returned (.bool true) ∧ Below w.heap.size w w' := by
  obtain ⟨op, rd, rs1, rs2, imm⟩ := i
  have He := Lib.hid (fun (W : World) => (show Calls Try.prog 32 #[.agg #[.int .i64 op, .int .i64 rd, .int .i64 rs1, .int .i64 rs2, .int .i32 imm]] W (RefA.EncPost ⟨op, rd, rs1, rs2, imm⟩ W) from RefA.renc_all ⟨op, rd, rs1, rs2, imm⟩ W))
  have mk := Lib.hid (show ∀ w : World, (Instr.makeSlice 42 (.int .i64 31) (.int .i64 31)).run Try.prog w = .ok (.slice (some ⟨w.heap.size, 0, none⟩) 31 31) (w.alloc (.cells ((List.replicate 31 (0 : Int)).map (Value.int .u32)).toArray 22)) from fun w => by
    have e : madeCells #[Value.int .u32 0] 31 = ((List.replicate 31 (0 : Int)).map (Value.int .u32)).toArray := by kernel_rfl
    have := run_make_row' (P := Try.prog) 42 22 (.int .u32 0) 4 Try.underlying42 rfl rfl .i64 .i64 31 (by omega) (by omega) w
    rw [e] at this
    exact this)
  have Hb := Lib.hid (fun (n k : Nat) (R : List Int) (x : Int) (W : World) (hR : W.heap[n]? = some (.cells (R.map (Value.int .u32)).toArray 22 (0, 0))) (h31 : R.length = 31) (hb : ∀ x ∈ R, 0 ≤ x ∧ x < 4294967296) (hc : W.heap[k]? = some (.cells #[.int .u32 x] 22 (0, 0))) (hx : 0 ≤ x ∧ x < 4294967296) => (show Calls Try.prog 25 #[.slice (some ⟨k, 0, none⟩) 1 1, .slice (some ⟨n, 0, none⟩) 31 31] W (BeganT [x] R W) from by
    have := begins_calls (some ⟨k, 0, none⟩) 1 [x] (some ⟨n, 0, none⟩) 31 R W (us_heap (R := [x]) hc (by intro y hy; rw [List.mem_singleton] at hy; subst hy; exact hx)) (us_heap hR hb) (by show 1 ≤ _; unfold maxLen; omega) (by rw [h31]; unfold maxLen; omega)
    rw [h31] at this
    exact this.mono fun _ _ h => began_T h))
  unfold iv
  dsimp only
  by_cases h1 : 0 < rs1
  · by_cases h2 : 0 < rs2
    · go_enter Try.func7, Try.ntmps7
      go_wp2_with (first
        | (go_at_call 32; (with_reducible refine (He.out _).mono ?_); rintro e w1 ⟨x, ok, rfl, hx, hr, hB⟩; have hz := hB.size; apply kept_block hB (n := w.heap.size); (focus (exact hpZ)); intro cr fr hbk hzk; simp at cr; clear cr fr; cases ok; rotate_left; obtain ⟨hr1, hr2, hr3, hr4⟩ := hr rfl; clear hr; dsimp only at hr1 hr2 hr3 hr4)
        | (go_at_call 23; (with_reducible refine (lives_calls _).mono ?_); rintro e w3 ⟨rfl, hB3⟩))
      rotate_left
      · go_returns
        exact ⟨by simp, by (exact blZ)⟩
      rw [mk.out w1]
      generalize hW2 : World.alloc w1 _ = W2
      have hR0 : W2.heap[w1.heap.size]? = some (.cells ((List.replicate 31 (0 : Int)).map (Value.int .u32)).toArray 22 (0, 0)) := by rw [← hW2]; exact heap_at _ _ _ rfl
      have hW0 : Below w1.heap.size w1 W2 := by rw [← hW2]; exact (Below.refl _ _).alloc (Nat.le_refl _) _
      have hx0 : w.heap.size < w1.heap.size := hzk
      have hbx : W2.heap[w.heap.size]? = some (.cells #[.int .i64 op, .int .i64 rd, .int .i64 rs1, .int .i64 rs2, .int .i32 imm] 58 (0, 0)) := heap_below hW0 hbk
      have b2 := cell_of_heap hbx 2
      have b3 := cell_of_heap hbx 3
      simp at b2 b3
      have nb : ¬ w1.heap.size = w.heap.size := by omega
      have nb' : ¬ w.heap.size = w1.heap.size := by omega
      have hz2 : W2.heap.size = w1.heap.size + 1 := by rw [← hW2, World.size_alloc]
      have HZ2 := Lib.hid hz2
      have hlt2 : w1.heap.size < W2.heap.size := by omega
      have i0 : (rs1.toNat - 1) < 31 := by omega
      have cw0 : (W2).cell? ⟨w1.heap.size, (rs1.toNat - 1), none⟩ = some (.int .u32 ((List.replicate 31 (0 : Int)).getD (rs1.toNat - 1) 0)) := ucell hR0 _ (by simp; omega)
      have fw0 : (W2).frozen? ⟨w1.heap.size, (rs1.toNat - 1), none⟩ = false := frozen_of_heap hR0 _
      generalize (List.replicate 31 (0 : Int)).getD (rs1.toNat - 1) 0 = y0 at cw0
      have hR1 : (W2.setCell ⟨w1.heap.size, (rs1.toNat - 1), none⟩ (.int .u32 a)).heap[w1.heap.size]? = some (.cells (((List.replicate 31 (0 : Int)).set (rs1.toNat - 1) a).map (Value.int .u32)).toArray 22 (0, 0)) := uset hR0 _ _
      have i1 : (rs2.toNat - 1) < 31 := by omega
      have cw1 : (W2.setCell ⟨w1.heap.size, (rs1.toNat - 1), none⟩ (.int .u32 a)).cell? ⟨w1.heap.size, (rs2.toNat - 1), none⟩ = some (.int .u32 (((List.replicate 31 (0 : Int)).set (rs1.toNat - 1) a).getD (rs2.toNat - 1) 0)) := ucell hR1 _ (by simp; omega)
      have fw1 : (W2.setCell ⟨w1.heap.size, (rs1.toNat - 1), none⟩ (.int .u32 a)).frozen? ⟨w1.heap.size, (rs2.toNat - 1), none⟩ = false := frozen_of_heap hR1 _
      generalize ((List.replicate 31 (0 : Int)).set (rs1.toNat - 1) a).getD (rs2.toNat - 1) 0 = y1 at cw1
      have hR2 : ((W2.setCell ⟨w1.heap.size, (rs1.toNat - 1), none⟩ (.int .u32 a)).setCell ⟨w1.heap.size, (rs2.toNat - 1), none⟩ (.int .u32 b)).heap[w1.heap.size]? = some (.cells ((((List.replicate 31 (0 : Int)).set (rs1.toNat - 1) a).set (rs2.toNat - 1) b).map (Value.int .u32)).toArray 22 (0, 0)) := uset hR1 _ _
      have hRl : (((List.replicate 31 (0 : Int)).set (rs1.toNat - 1) a).set (rs2.toNat - 1) b).length = 31 := by simp
      have hRb : ∀ x ∈ (((List.replicate 31 (0 : Int)).set (rs1.toNat - 1) a).set (rs2.toNat - 1) b), 0 ≤ x ∧ x < 4294967296 := by
        intro y hy
        rcases List.mem_or_eq_of_mem_set hy with hy | rfl
        rotate_left
        · assumption
        rcases List.mem_or_eq_of_mem_set hy with hy | rfl
        rotate_left
        · assumption
        have := List.eq_of_mem_replicate hy
        omega
      have HR := Lib.hid hR2
      clear hR0 hR1 hR2 hbx hbk hW2 hz2
      generalize hRf : (((List.replicate 31 (0 : Int)).set (rs1.toNat - 1) a).set (rs2.toNat - 1) b) = Rf at HR hRl hRb
      clear hRf
      have HRl := Lib.hid hRl
      have HRb := Lib.hid hRb
      clear hRl hRb
      go_wp2_with (first
        | (go_at_call 25; (refine (Hb.out _ _ Rf x _ ?_ HRl.out HRb.out ?_ hx).mono ?_); (focus (exact hpP (by first | omega | (simp only [zS]; omega)) HR.out)); (focus (exact heap_at _ _ _ (by first | rfl | simp only [zS]))); rintro e wb ⟨bb, mb, fb, rb, xb, g, bs, L, v, rfl, hT, hl, ⟨g1, g2, g3, g4, g5, g6, g7⟩, hBb⟩; have HT0 := Lib.hid hT; clear hT; generalize hF : fl [x] = F at *; generalize s0 Rf = s at *; have Hs' := step_calls HT0.out.c; have Hr' := fun (W : World) (hC : Box bb mb (mapK fb rb) F (stepT (mapK fb rb) F s).2.2 W) (hX : RBox xb g bs (mapK fb rb) F s L v W) => two_rstep hC hX (by omega); generalize stepT (mapK fb rb) F s = r at Hs' Hr'; obtain ⟨⟨p, wd, ⟨dk, da, ds⟩⟩, t, s'⟩ := r; have Hs := Lib.hid (show Calls Try.prog 20 #[.pointer (some ⟨bb, 0, none⟩)] wb (fun e w' => e = .returned (.tuple #[.agg #[.int .u32 p, .int .u32 wd, .int .i64 dk, .int .u32 da, .int .i64 ds], .int .i64 t]) ∧ Box bb mb (mapK fb rb) F s' w' ∧ But [bb, rb] wb w') from Hs'); have Hr := Lib.hid (show ∀ (W : World) (hC : Box bb mb (mapK fb rb) F s' W) (hX : RBox xb g bs (mapK fb rb) F s L v W), Calls Try.prog 30 #[.pointer (some ⟨xb, 0, none⟩)] W (fun e w' => e = .returned (.tuple #[.agg #[.int .u32 p, .int .u32 wd, .int .i64 dk, .int .u32 da, .int .i64 ds], .int .i64 t]) ∧ RBox xb g bs (mapK fb rb) F s L v W ∧ ∃ L' v', Two bb mb (mapK fb rb) F xb g bs s' L' v' w' ∧ L'.length ≤ L.length + 4 ∧ But (xb :: g :: rowL v) W w') from Hr'); clear Hs' Hr')
        | (go_at_call 20; (with_reducible refine Hs.out.mono ?_); rintro e w2 ⟨rfl, hC2, hB2⟩; have HC2 := Lib.hid hC2; have HX2 := Lib.hid (rbox_step HT0.out.c HT0.out.x hB2); have z2 := hB2.size; have HB2 := Lib.hid hB2; clear hC2 hB2)
        | (go_at_call 30; (with_reducible refine (Hr.out _ (HC2.out.below ?_) (HX2.out.below ?_)).mono ?_); (focus (exact blZ)); (focus (exact blZ)); rintro e w3 ⟨rfl, hxW, L', v', hT3, hl3, hB3⟩; apply rstep_keep hxW hB3 (n := w2.heap.size); (focus (exact hpZ)); (focus decide); intro ce fe he hz3; have e0 := ce 0; have e1 := ce 1; have e2 := ce 2; have e3 := ce 3; have e4 := ce 4; simp at e0 e1 e2 e3 e4; clear ce fe; have HT3 := Lib.hid hT3; have HS := Lib.hid (fun (W : World) (hB : Below w3.heap.size w3 W) => same_calls (Two.below hT3 hB).c.m (Two.below hT3 hB).x.m); have HL := Lib.hid (fun (W : World) (hB : Below w3.heap.size w3 W) => lawbytes_calls (Two.below hT3 hB)); clear hT3)
        | (go_at_call 28; (with_reducible refine (HS.out _ ?_).mono ?_); (focus (exact blZ)); rintro e w4 ⟨rfl, n4, rfl⟩)
        | (go_at_call 31; (with_reducible refine (HL.out _ ?_).mono ?_); (focus (exact blZ)); rintro e w5 ⟨rfl, hB5⟩; have z5 := hB5.size)
        | (go_at_call 23; (with_reducible refine (lives_calls _).mono ?_); rintro e w6 ⟨rfl, hB6⟩))
      go_returns
      have hz2 := HZ2.out
      simp only [zA, zS] at g1 g2 g3 g4 g5 g6 g7
      have y1 : Below w.heap.size w wb := by (exact blZ)
      have s1 := y1.size
      have y2 : Below w.heap.size w w2 := below_but y1 s1 HB2.out (by
        intro k hk
        simp only [List.mem_cons, List.not_mem_nil, or_false] at hk
        rcases hk with rfl | rfl <;> omega)
      have s2 := y2.size
      have hx9 := row_ge HT0.out.x.mem
      have y3 : Below w.heap.size w w3 := below_but (y2.alloc (by omega) _) (by rw [zA]; omega) hB3 (by
        intro k hk
        rcases List.mem_cons.1 hk with rfl | hk
        · omega
        · rcases List.mem_cons.1 hk with rfl | hk
          · omega
          · have := hx9 k hk
            omega)
      have s3 := y3.size
      exact ⟨by simp, by (exact blZ)⟩
    · go_enter Try.func7, Try.ntmps7
      go_wp2_with (first
        | (go_at_call 32; (with_reducible refine (He.out _).mono ?_); rintro e w1 ⟨x, ok, rfl, hx, hr, hB⟩; have hz := hB.size; apply kept_block hB (n := w.heap.size); (focus (exact hpZ)); intro cr fr hbk hzk; simp at cr; clear cr fr; cases ok; rotate_left; obtain ⟨hr1, hr2, hr3, hr4⟩ := hr rfl; clear hr; dsimp only at hr1 hr2 hr3 hr4)
        | (go_at_call 23; (with_reducible refine (lives_calls _).mono ?_); rintro e w3 ⟨rfl, hB3⟩))
      rotate_left
      · go_returns
        exact ⟨by simp, by (exact blZ)⟩
      rw [mk.out w1]
      generalize hW2 : World.alloc w1 _ = W2
      have hR0 : W2.heap[w1.heap.size]? = some (.cells ((List.replicate 31 (0 : Int)).map (Value.int .u32)).toArray 22 (0, 0)) := by rw [← hW2]; exact heap_at _ _ _ rfl
      have hW0 : Below w1.heap.size w1 W2 := by rw [← hW2]; exact (Below.refl _ _).alloc (Nat.le_refl _) _
      have hx0 : w.heap.size < w1.heap.size := hzk
      have hbx : W2.heap[w.heap.size]? = some (.cells #[.int .i64 op, .int .i64 rd, .int .i64 rs1, .int .i64 rs2, .int .i32 imm] 58 (0, 0)) := heap_below hW0 hbk
      have b2 := cell_of_heap hbx 2
      have b3 := cell_of_heap hbx 3
      simp at b2 b3
      have nb : ¬ w1.heap.size = w.heap.size := by omega
      have nb' : ¬ w.heap.size = w1.heap.size := by omega
      have hz2 : W2.heap.size = w1.heap.size + 1 := by rw [← hW2, World.size_alloc]
      have HZ2 := Lib.hid hz2
      have hlt2 : w1.heap.size < W2.heap.size := by omega
      have i0 : (rs1.toNat - 1) < 31 := by omega
      have cw0 : (W2).cell? ⟨w1.heap.size, (rs1.toNat - 1), none⟩ = some (.int .u32 ((List.replicate 31 (0 : Int)).getD (rs1.toNat - 1) 0)) := ucell hR0 _ (by simp; omega)
      have fw0 : (W2).frozen? ⟨w1.heap.size, (rs1.toNat - 1), none⟩ = false := frozen_of_heap hR0 _
      generalize (List.replicate 31 (0 : Int)).getD (rs1.toNat - 1) 0 = y0 at cw0
      have hR1 : (W2.setCell ⟨w1.heap.size, (rs1.toNat - 1), none⟩ (.int .u32 a)).heap[w1.heap.size]? = some (.cells (((List.replicate 31 (0 : Int)).set (rs1.toNat - 1) a).map (Value.int .u32)).toArray 22 (0, 0)) := uset hR0 _ _
      have hRl : ((List.replicate 31 (0 : Int)).set (rs1.toNat - 1) a).length = 31 := by simp
      have hRb : ∀ x ∈ ((List.replicate 31 (0 : Int)).set (rs1.toNat - 1) a), 0 ≤ x ∧ x < 4294967296 := by
        intro y hy
        rcases List.mem_or_eq_of_mem_set hy with hy | rfl
        rotate_left
        · assumption
        have := List.eq_of_mem_replicate hy
        omega
      have HR := Lib.hid hR1
      clear hR0 hR1 hbx hbk hW2 hz2
      generalize hRf : ((List.replicate 31 (0 : Int)).set (rs1.toNat - 1) a) = Rf at HR hRl hRb
      clear hRf
      have HRl := Lib.hid hRl
      have HRb := Lib.hid hRb
      clear hRl hRb
      go_wp2_with (first
        | (go_at_call 25; (refine (Hb.out _ _ Rf x _ ?_ HRl.out HRb.out ?_ hx).mono ?_); (focus (exact hpP (by first | omega | (simp only [zS]; omega)) HR.out)); (focus (exact heap_at _ _ _ (by first | rfl | simp only [zS]))); rintro e wb ⟨bb, mb, fb, rb, xb, g, bs, L, v, rfl, hT, hl, ⟨g1, g2, g3, g4, g5, g6, g7⟩, hBb⟩; have HT0 := Lib.hid hT; clear hT; generalize hF : fl [x] = F at *; generalize s0 Rf = s at *; have Hs' := step_calls HT0.out.c; have Hr' := fun (W : World) (hC : Box bb mb (mapK fb rb) F (stepT (mapK fb rb) F s).2.2 W) (hX : RBox xb g bs (mapK fb rb) F s L v W) => two_rstep hC hX (by omega); generalize stepT (mapK fb rb) F s = r at Hs' Hr'; obtain ⟨⟨p, wd, ⟨dk, da, ds⟩⟩, t, s'⟩ := r; have Hs := Lib.hid (show Calls Try.prog 20 #[.pointer (some ⟨bb, 0, none⟩)] wb (fun e w' => e = .returned (.tuple #[.agg #[.int .u32 p, .int .u32 wd, .int .i64 dk, .int .u32 da, .int .i64 ds], .int .i64 t]) ∧ Box bb mb (mapK fb rb) F s' w' ∧ But [bb, rb] wb w') from Hs'); have Hr := Lib.hid (show ∀ (W : World) (hC : Box bb mb (mapK fb rb) F s' W) (hX : RBox xb g bs (mapK fb rb) F s L v W), Calls Try.prog 30 #[.pointer (some ⟨xb, 0, none⟩)] W (fun e w' => e = .returned (.tuple #[.agg #[.int .u32 p, .int .u32 wd, .int .i64 dk, .int .u32 da, .int .i64 ds], .int .i64 t]) ∧ RBox xb g bs (mapK fb rb) F s L v W ∧ ∃ L' v', Two bb mb (mapK fb rb) F xb g bs s' L' v' w' ∧ L'.length ≤ L.length + 4 ∧ But (xb :: g :: rowL v) W w') from Hr'); clear Hs' Hr')
        | (go_at_call 20; (with_reducible refine Hs.out.mono ?_); rintro e w2 ⟨rfl, hC2, hB2⟩; have HC2 := Lib.hid hC2; have HX2 := Lib.hid (rbox_step HT0.out.c HT0.out.x hB2); have z2 := hB2.size; have HB2 := Lib.hid hB2; clear hC2 hB2)
        | (go_at_call 30; (with_reducible refine (Hr.out _ (HC2.out.below ?_) (HX2.out.below ?_)).mono ?_); (focus (exact blZ)); (focus (exact blZ)); rintro e w3 ⟨rfl, hxW, L', v', hT3, hl3, hB3⟩; apply rstep_keep hxW hB3 (n := w2.heap.size); (focus (exact hpZ)); (focus decide); intro ce fe he hz3; have e0 := ce 0; have e1 := ce 1; have e2 := ce 2; have e3 := ce 3; have e4 := ce 4; simp at e0 e1 e2 e3 e4; clear ce fe; have HT3 := Lib.hid hT3; have HS := Lib.hid (fun (W : World) (hB : Below w3.heap.size w3 W) => same_calls (Two.below hT3 hB).c.m (Two.below hT3 hB).x.m); have HL := Lib.hid (fun (W : World) (hB : Below w3.heap.size w3 W) => lawbytes_calls (Two.below hT3 hB)); clear hT3)
        | (go_at_call 28; (with_reducible refine (HS.out _ ?_).mono ?_); (focus (exact blZ)); rintro e w4 ⟨rfl, n4, rfl⟩)
        | (go_at_call 31; (with_reducible refine (HL.out _ ?_).mono ?_); (focus (exact blZ)); rintro e w5 ⟨rfl, hB5⟩; have z5 := hB5.size)
        | (go_at_call 23; (with_reducible refine (lives_calls _).mono ?_); rintro e w6 ⟨rfl, hB6⟩))
      go_returns
      have hz2 := HZ2.out
      simp only [zA, zS] at g1 g2 g3 g4 g5 g6 g7
      have y1 : Below w.heap.size w wb := by (exact blZ)
      have s1 := y1.size
      have y2 : Below w.heap.size w w2 := below_but y1 s1 HB2.out (by
        intro k hk
        simp only [List.mem_cons, List.not_mem_nil, or_false] at hk
        rcases hk with rfl | rfl <;> omega)
      have s2 := y2.size
      have hx9 := row_ge HT0.out.x.mem
      have y3 : Below w.heap.size w w3 := below_but (y2.alloc (by omega) _) (by rw [zA]; omega) hB3 (by
        intro k hk
        rcases List.mem_cons.1 hk with rfl | hk
        · omega
        · rcases List.mem_cons.1 hk with rfl | hk
          · omega
          · have := hx9 k hk
            omega)
      have s3 := y3.size
      exact ⟨by simp, by (exact blZ)⟩
  · by_cases h2 : 0 < rs2
    · go_enter Try.func7, Try.ntmps7
      go_wp2_with (first
        | (go_at_call 32; (with_reducible refine (He.out _).mono ?_); rintro e w1 ⟨x, ok, rfl, hx, hr, hB⟩; have hz := hB.size; apply kept_block hB (n := w.heap.size); (focus (exact hpZ)); intro cr fr hbk hzk; simp at cr; clear cr fr; cases ok; rotate_left; obtain ⟨hr1, hr2, hr3, hr4⟩ := hr rfl; clear hr; dsimp only at hr1 hr2 hr3 hr4)
        | (go_at_call 23; (with_reducible refine (lives_calls _).mono ?_); rintro e w3 ⟨rfl, hB3⟩))
      rotate_left
      · go_returns
        exact ⟨by simp, by (exact blZ)⟩
      rw [mk.out w1]
      generalize hW2 : World.alloc w1 _ = W2
      have hR0 : W2.heap[w1.heap.size]? = some (.cells ((List.replicate 31 (0 : Int)).map (Value.int .u32)).toArray 22 (0, 0)) := by rw [← hW2]; exact heap_at _ _ _ rfl
      have hW0 : Below w1.heap.size w1 W2 := by rw [← hW2]; exact (Below.refl _ _).alloc (Nat.le_refl _) _
      have hx0 : w.heap.size < w1.heap.size := hzk
      have hbx : W2.heap[w.heap.size]? = some (.cells #[.int .i64 op, .int .i64 rd, .int .i64 rs1, .int .i64 rs2, .int .i32 imm] 58 (0, 0)) := heap_below hW0 hbk
      have b2 := cell_of_heap hbx 2
      have b3 := cell_of_heap hbx 3
      simp at b2 b3
      have nb : ¬ w1.heap.size = w.heap.size := by omega
      have nb' : ¬ w.heap.size = w1.heap.size := by omega
      have hz2 : W2.heap.size = w1.heap.size + 1 := by rw [← hW2, World.size_alloc]
      have HZ2 := Lib.hid hz2
      have hlt2 : w1.heap.size < W2.heap.size := by omega
      have i0 : (rs2.toNat - 1) < 31 := by omega
      have cw0 : (W2).cell? ⟨w1.heap.size, (rs2.toNat - 1), none⟩ = some (.int .u32 ((List.replicate 31 (0 : Int)).getD (rs2.toNat - 1) 0)) := ucell hR0 _ (by simp; omega)
      have fw0 : (W2).frozen? ⟨w1.heap.size, (rs2.toNat - 1), none⟩ = false := frozen_of_heap hR0 _
      generalize (List.replicate 31 (0 : Int)).getD (rs2.toNat - 1) 0 = y0 at cw0
      have hR1 : (W2.setCell ⟨w1.heap.size, (rs2.toNat - 1), none⟩ (.int .u32 b)).heap[w1.heap.size]? = some (.cells (((List.replicate 31 (0 : Int)).set (rs2.toNat - 1) b).map (Value.int .u32)).toArray 22 (0, 0)) := uset hR0 _ _
      have hRl : ((List.replicate 31 (0 : Int)).set (rs2.toNat - 1) b).length = 31 := by simp
      have hRb : ∀ x ∈ ((List.replicate 31 (0 : Int)).set (rs2.toNat - 1) b), 0 ≤ x ∧ x < 4294967296 := by
        intro y hy
        rcases List.mem_or_eq_of_mem_set hy with hy | rfl
        rotate_left
        · assumption
        have := List.eq_of_mem_replicate hy
        omega
      have HR := Lib.hid hR1
      clear hR0 hR1 hbx hbk hW2 hz2
      generalize hRf : ((List.replicate 31 (0 : Int)).set (rs2.toNat - 1) b) = Rf at HR hRl hRb
      clear hRf
      have HRl := Lib.hid hRl
      have HRb := Lib.hid hRb
      clear hRl hRb
      go_wp2_with (first
        | (go_at_call 25; (refine (Hb.out _ _ Rf x _ ?_ HRl.out HRb.out ?_ hx).mono ?_); (focus (exact hpP (by first | omega | (simp only [zS]; omega)) HR.out)); (focus (exact heap_at _ _ _ (by first | rfl | simp only [zS]))); rintro e wb ⟨bb, mb, fb, rb, xb, g, bs, L, v, rfl, hT, hl, ⟨g1, g2, g3, g4, g5, g6, g7⟩, hBb⟩; have HT0 := Lib.hid hT; clear hT; generalize hF : fl [x] = F at *; generalize s0 Rf = s at *; have Hs' := step_calls HT0.out.c; have Hr' := fun (W : World) (hC : Box bb mb (mapK fb rb) F (stepT (mapK fb rb) F s).2.2 W) (hX : RBox xb g bs (mapK fb rb) F s L v W) => two_rstep hC hX (by omega); generalize stepT (mapK fb rb) F s = r at Hs' Hr'; obtain ⟨⟨p, wd, ⟨dk, da, ds⟩⟩, t, s'⟩ := r; have Hs := Lib.hid (show Calls Try.prog 20 #[.pointer (some ⟨bb, 0, none⟩)] wb (fun e w' => e = .returned (.tuple #[.agg #[.int .u32 p, .int .u32 wd, .int .i64 dk, .int .u32 da, .int .i64 ds], .int .i64 t]) ∧ Box bb mb (mapK fb rb) F s' w' ∧ But [bb, rb] wb w') from Hs'); have Hr := Lib.hid (show ∀ (W : World) (hC : Box bb mb (mapK fb rb) F s' W) (hX : RBox xb g bs (mapK fb rb) F s L v W), Calls Try.prog 30 #[.pointer (some ⟨xb, 0, none⟩)] W (fun e w' => e = .returned (.tuple #[.agg #[.int .u32 p, .int .u32 wd, .int .i64 dk, .int .u32 da, .int .i64 ds], .int .i64 t]) ∧ RBox xb g bs (mapK fb rb) F s L v W ∧ ∃ L' v', Two bb mb (mapK fb rb) F xb g bs s' L' v' w' ∧ L'.length ≤ L.length + 4 ∧ But (xb :: g :: rowL v) W w') from Hr'); clear Hs' Hr')
        | (go_at_call 20; (with_reducible refine Hs.out.mono ?_); rintro e w2 ⟨rfl, hC2, hB2⟩; have HC2 := Lib.hid hC2; have HX2 := Lib.hid (rbox_step HT0.out.c HT0.out.x hB2); have z2 := hB2.size; have HB2 := Lib.hid hB2; clear hC2 hB2)
        | (go_at_call 30; (with_reducible refine (Hr.out _ (HC2.out.below ?_) (HX2.out.below ?_)).mono ?_); (focus (exact blZ)); (focus (exact blZ)); rintro e w3 ⟨rfl, hxW, L', v', hT3, hl3, hB3⟩; apply rstep_keep hxW hB3 (n := w2.heap.size); (focus (exact hpZ)); (focus decide); intro ce fe he hz3; have e0 := ce 0; have e1 := ce 1; have e2 := ce 2; have e3 := ce 3; have e4 := ce 4; simp at e0 e1 e2 e3 e4; clear ce fe; have HT3 := Lib.hid hT3; have HS := Lib.hid (fun (W : World) (hB : Below w3.heap.size w3 W) => same_calls (Two.below hT3 hB).c.m (Two.below hT3 hB).x.m); have HL := Lib.hid (fun (W : World) (hB : Below w3.heap.size w3 W) => lawbytes_calls (Two.below hT3 hB)); clear hT3)
        | (go_at_call 28; (with_reducible refine (HS.out _ ?_).mono ?_); (focus (exact blZ)); rintro e w4 ⟨rfl, n4, rfl⟩)
        | (go_at_call 31; (with_reducible refine (HL.out _ ?_).mono ?_); (focus (exact blZ)); rintro e w5 ⟨rfl, hB5⟩; have z5 := hB5.size)
        | (go_at_call 23; (with_reducible refine (lives_calls _).mono ?_); rintro e w6 ⟨rfl, hB6⟩))
      go_returns
      have hz2 := HZ2.out
      simp only [zA, zS] at g1 g2 g3 g4 g5 g6 g7
      have y1 : Below w.heap.size w wb := by (exact blZ)
      have s1 := y1.size
      have y2 : Below w.heap.size w w2 := below_but y1 s1 HB2.out (by
        intro k hk
        simp only [List.mem_cons, List.not_mem_nil, or_false] at hk
        rcases hk with rfl | rfl <;> omega)
      have s2 := y2.size
      have hx9 := row_ge HT0.out.x.mem
      have y3 : Below w.heap.size w w3 := below_but (y2.alloc (by omega) _) (by rw [zA]; omega) hB3 (by
        intro k hk
        rcases List.mem_cons.1 hk with rfl | hk
        · omega
        · rcases List.mem_cons.1 hk with rfl | hk
          · omega
          · have := hx9 k hk
            omega)
      have s3 := y3.size
      exact ⟨by simp, by (exact blZ)⟩
    · go_enter Try.func7, Try.ntmps7
      go_wp2_with (first
        | (go_at_call 32; (with_reducible refine (He.out _).mono ?_); rintro e w1 ⟨x, ok, rfl, hx, hr, hB⟩; have hz := hB.size; apply kept_block hB (n := w.heap.size); (focus (exact hpZ)); intro cr fr hbk hzk; simp at cr; clear cr fr; cases ok; rotate_left; obtain ⟨hr1, hr2, hr3, hr4⟩ := hr rfl; clear hr; dsimp only at hr1 hr2 hr3 hr4)
        | (go_at_call 23; (with_reducible refine (lives_calls _).mono ?_); rintro e w3 ⟨rfl, hB3⟩))
      rotate_left
      · go_returns
        exact ⟨by simp, by (exact blZ)⟩
      rw [mk.out w1]
      generalize hW2 : World.alloc w1 _ = W2
      have hR0 : W2.heap[w1.heap.size]? = some (.cells ((List.replicate 31 (0 : Int)).map (Value.int .u32)).toArray 22 (0, 0)) := by rw [← hW2]; exact heap_at _ _ _ rfl
      have hW0 : Below w1.heap.size w1 W2 := by rw [← hW2]; exact (Below.refl _ _).alloc (Nat.le_refl _) _
      have hx0 : w.heap.size < w1.heap.size := hzk
      have hbx : W2.heap[w.heap.size]? = some (.cells #[.int .i64 op, .int .i64 rd, .int .i64 rs1, .int .i64 rs2, .int .i32 imm] 58 (0, 0)) := heap_below hW0 hbk
      have b2 := cell_of_heap hbx 2
      have b3 := cell_of_heap hbx 3
      simp at b2 b3
      have nb : ¬ w1.heap.size = w.heap.size := by omega
      have nb' : ¬ w.heap.size = w1.heap.size := by omega
      have hz2 : W2.heap.size = w1.heap.size + 1 := by rw [← hW2, World.size_alloc]
      have HZ2 := Lib.hid hz2
      have hlt2 : w1.heap.size < W2.heap.size := by omega
      have hRl : (List.replicate 31 (0 : Int)).length = 31 := by simp
      have hRb : ∀ x ∈ (List.replicate 31 (0 : Int)), 0 ≤ x ∧ x < 4294967296 := by
        intro y hy
        have := List.eq_of_mem_replicate hy
        omega
      have HR := Lib.hid hR0
      clear hR0 hbx hbk hW2 hz2
      generalize hRf : (List.replicate 31 (0 : Int)) = Rf at HR hRl hRb
      clear hRf
      have HRl := Lib.hid hRl
      have HRb := Lib.hid hRb
      clear hRl hRb
      go_wp2_with (first
        | (go_at_call 25; (refine (Hb.out _ _ Rf x _ ?_ HRl.out HRb.out ?_ hx).mono ?_); (focus (exact hpP (by first | omega | (simp only [zS]; omega)) HR.out)); (focus (exact heap_at _ _ _ (by first | rfl | simp only [zS]))); rintro e wb ⟨bb, mb, fb, rb, xb, g, bs, L, v, rfl, hT, hl, ⟨g1, g2, g3, g4, g5, g6, g7⟩, hBb⟩; have HT0 := Lib.hid hT; clear hT; generalize hF : fl [x] = F at *; generalize s0 Rf = s at *; have Hs' := step_calls HT0.out.c; have Hr' := fun (W : World) (hC : Box bb mb (mapK fb rb) F (stepT (mapK fb rb) F s).2.2 W) (hX : RBox xb g bs (mapK fb rb) F s L v W) => two_rstep hC hX (by omega); generalize stepT (mapK fb rb) F s = r at Hs' Hr'; obtain ⟨⟨p, wd, ⟨dk, da, ds⟩⟩, t, s'⟩ := r; have Hs := Lib.hid (show Calls Try.prog 20 #[.pointer (some ⟨bb, 0, none⟩)] wb (fun e w' => e = .returned (.tuple #[.agg #[.int .u32 p, .int .u32 wd, .int .i64 dk, .int .u32 da, .int .i64 ds], .int .i64 t]) ∧ Box bb mb (mapK fb rb) F s' w' ∧ But [bb, rb] wb w') from Hs'); have Hr := Lib.hid (show ∀ (W : World) (hC : Box bb mb (mapK fb rb) F s' W) (hX : RBox xb g bs (mapK fb rb) F s L v W), Calls Try.prog 30 #[.pointer (some ⟨xb, 0, none⟩)] W (fun e w' => e = .returned (.tuple #[.agg #[.int .u32 p, .int .u32 wd, .int .i64 dk, .int .u32 da, .int .i64 ds], .int .i64 t]) ∧ RBox xb g bs (mapK fb rb) F s L v W ∧ ∃ L' v', Two bb mb (mapK fb rb) F xb g bs s' L' v' w' ∧ L'.length ≤ L.length + 4 ∧ But (xb :: g :: rowL v) W w') from Hr'); clear Hs' Hr')
        | (go_at_call 20; (with_reducible refine Hs.out.mono ?_); rintro e w2 ⟨rfl, hC2, hB2⟩; have HC2 := Lib.hid hC2; have HX2 := Lib.hid (rbox_step HT0.out.c HT0.out.x hB2); have z2 := hB2.size; have HB2 := Lib.hid hB2; clear hC2 hB2)
        | (go_at_call 30; (with_reducible refine (Hr.out _ (HC2.out.below ?_) (HX2.out.below ?_)).mono ?_); (focus (exact blZ)); (focus (exact blZ)); rintro e w3 ⟨rfl, hxW, L', v', hT3, hl3, hB3⟩; apply rstep_keep hxW hB3 (n := w2.heap.size); (focus (exact hpZ)); (focus decide); intro ce fe he hz3; have e0 := ce 0; have e1 := ce 1; have e2 := ce 2; have e3 := ce 3; have e4 := ce 4; simp at e0 e1 e2 e3 e4; clear ce fe; have HT3 := Lib.hid hT3; have HS := Lib.hid (fun (W : World) (hB : Below w3.heap.size w3 W) => same_calls (Two.below hT3 hB).c.m (Two.below hT3 hB).x.m); have HL := Lib.hid (fun (W : World) (hB : Below w3.heap.size w3 W) => lawbytes_calls (Two.below hT3 hB)); clear hT3)
        | (go_at_call 28; (with_reducible refine (HS.out _ ?_).mono ?_); (focus (exact blZ)); rintro e w4 ⟨rfl, n4, rfl⟩)
        | (go_at_call 31; (with_reducible refine (HL.out _ ?_).mono ?_); (focus (exact blZ)); rintro e w5 ⟨rfl, hB5⟩; have z5 := hB5.size)
        | (go_at_call 23; (with_reducible refine (lives_calls _).mono ?_); rintro e w6 ⟨rfl, hB6⟩))
      go_returns
      have hz2 := HZ2.out
      simp only [zA, zS] at g1 g2 g3 g4 g5 g6 g7
      have y1 : Below w.heap.size w wb := by (exact blZ)
      have s1 := y1.size
      have y2 : Below w.heap.size w w2 := below_but y1 s1 HB2.out (by
        intro k hk
        simp only [List.mem_cons, List.not_mem_nil, or_false] at hk
        rcases hk with rfl | rfl <;> omega)
      have s2 := y2.size
      have hx9 := row_ge HT0.out.x.mem
      have y3 : Below w.heap.size w w3 := below_but (y2.alloc (by omega) _) (by rw [zA]; omega) hB3 (by
        intro k hk
        rcases List.mem_cons.1 hk with rfl | hk
        · omega
        · rcases List.mem_cons.1 hk with rfl | hk
          · omega
          · have := hx9 k hk
            omega)
      have s3 := y3.size
      exact ⟨by simp, by (exact blZ)⟩
end Go.Proofs.Ytioopcilcgebeaa.CpuA
