/- Proofs of this claim's family, merged: RxCf. -/
import Derived.Test.YtioopcilcgebeaaKXc
set_option linter.unusedVariables false
set_option linter.unusedSimpArgs false
/-! #### RxCf -/
namespace Go.Proofs.Ytioopcilcgebeaa.CpuA
open Go.RowKit Go.Proofs.Ytioopcilcgebeaa.Base Go.Proofs.Ytioopcilcgebeaa.AluP Go.Proofs.Ytioopcilcgebeaa.InstS Go.Proofs.Ytioopcilcgebeaa.InstA Go.Proofs.YtioopcilcgebeaaW.PrintWords

set_option maxHeartbeats 8000000 in
set_option maxRecDepth 100000 in
theorem rdoes_44 {xb g base : Nat} {K : Bk} {F : List Int} {s : St} {L : List (Int × Int)} {v : Value} {w : World} (h : RBox xb g base K F s L v w) (hL : L.length ≤ 1000000000) (rd rs1 rs2 imm : Int) (hrd : 0 ≤ rd ∧ rd < 32) (ha1 : 0 ≤ rs1 ∧ rs1 < 32) (hrs : 0 ≤ rs2 ∧ rs2 < 32)  :
    Calls Try.prog 63 #[.pointer (some ⟨xb, 0, none⟩), .agg #[.int .i64 44, .int .i64 rd, .int .i64 rs1, .int .i64 rs2, .int .i32 imm]] w (RDPost xb g base K F (no, s.go ((s.pc + imm) % 4294967296) rd) L v w) := by
  have hr := h.ok.reg rs1
  have hr2 := h.ok.reg rs2
  have hp0 := h.ok.pc0
  have hp1 := h.ok.pc1
  have c := cell_of_heap h.m.1 (2 + rs1.toNat)
  rw [mcells_reg _ _ _ _ (by rw [h.m.2]; omega)] at c
  have c2 := cell_of_heap h.m.1 (2 + rs2.toNat)
  rw [mcells_reg _ _ _ _ (by rw [h.m.2]; omega)] at c2
  have c1 := cell_of_heap h.m.1 1
  rw [mcells_pc] at c1
  have d1 : decide (rs1 < 0) = false := decide_eq_false (by omega)
  have d2 : decide (32 ≤ rs1) = false := decide_eq_false (by omega)
  have d3 : decide (rs2 < 0) = false := decide_eq_false (by omega)
  have d4 : decide (32 ≤ rs2) = false := decide_eq_false (by omega)
  have hlb := lt_of_heap h.m.1
  have hlg := lt_of_heap h.mem.mem
  have nb : ¬ w.heap.size = xb := by omega
  have nb1 : xb < w.heap.size + 1 := by omega
  have nb2 : xb < w.heap.size + 1 + 1 := by omega
  have nb3 : xb < w.heap.size + 1 + 1 + 1 := by omega
  have nb4 : xb < w.heap.size + 2 := by omega
  have nb5 : xb < w.heap.size + 3 := by omega
  have ea : s.R.getD rs1.toNat 0 = s.reg rs1 := rfl
  rw [ea] at c
  have ea2 : s.R.getD rs2.toNat 0 = s.reg rs2 := rfl
  rw [ea2] at c2
  clear ea ea2
  have H := Lib.hid h
  have hb' : w.heap[xb]? = some (.cells (mcells ⟨g, 0, none⟩ s.pc s.R) 89 (0, 0)) := h.m.1
  generalize s.reg rs1 = a at *
  generalize s.reg rs2 = a2 at *
  obtain ⟨dst, hdst⟩ : ∃ d, (s.pc + imm) % 4294967296 = d := ⟨_, rfl⟩
  have ew : IntKind.u32.wrap (s.pc + imm % 4294967296) = dst := by rw [IntKind.wrap_u32, ← hdst]; omega
  have hd : 0 ≤ dst ∧ dst < 4294967296 := by omega
  rw [hdst]
  clear hdst
  obtain ⟨r, hr'⟩ : ∃ r : Did × Int × St, (no, s.go dst rd) = r := ⟨_, rfl⟩
  rw [hr']
  have Hr := Lib.hid hr'
  clear hr' h
  have Hd := Lib.hid hd
  by_cases ga : dst % 4 = 0
  · have Hg := Lib.hid (show s.go dst rd = (0, ⟨dst, setR s.R rd ((s.pc + 4) % 4294967296), s.M⟩) from if_pos ga)
    have Hk := Lib.hid (show StOk K ⟨dst, setR s.R rd ((s.pc + 4) % 4294967296), s.M⟩ from by have x := H.out.ok.go dst rd hd; unfold St.go at x; rw [if_pos ga] at x; exact x)
    have Hga := Lib.hid ga
    clear ga hd
    go_enter Try.func63, Try.ntmps63
    go_wp2
    go_quiet (fail)
    go_wp2
    refine wp_region_held_drew (S := (fun u => u.cell? ⟨w.heap.size + 1 + 1, 0, none⟩ = some (.int .u32 0) ∧ u.cell? ⟨w.heap.size + 1 + 1, 1, none⟩ = some (.int .u32 0) ∧ u.cell? ⟨w.heap.size + 1 + 1, 2, none⟩ = some (.int .i64 0) ∧ u.cell? ⟨w.heap.size + 1 + 1, 3, none⟩ = some (.int .u32 0) ∧ u.cell? ⟨w.heap.size + 1 + 1, 4, none⟩ = some (.int .i64 0) ∧ u.cell? ⟨w.heap.size, 1, none⟩ = some (.int .i64 rd))) (by kernel_rfl) ?_ (fun hHeld => ?_)
    · (try dsimp only)
      (first | (go_keep; done) | (refine ⟨?_, ?_, ?_, ?_, ?_, ?_⟩ <;> (apply cq; (focus (exact hpZ)); rfl)))
    refine tk 0 (v := ?_) rfl (by kernel_rfl) (fun _ _ _ h => h) (.inl ⟨by rfl, ?hy⟩) (by assumption) ?_
    case hy => (intro w q; (try dsimp only at q); (go_simp <;> with_reducible rfl))
    refine tk 1 (v := ?_) rfl (by kernel_rfl) (fun _ _ _ h => h) (.inl ⟨by rfl, ?hy⟩) (by assumption) ?_
    case hy => (intro w q; (try dsimp only at q); (go_simp <;> with_reducible rfl))
    refine tk 2 (v := ?_) rfl (by kernel_rfl) (fun _ _ _ h => h) (.inl ⟨by rfl, ?hy⟩) (by assumption) ?_
    case hy => (intro w q; (try dsimp only at q); (go_simp <;> with_reducible rfl))
    refine tk 3 (v := ?_) rfl (by kernel_rfl) (fun _ _ _ h => h) (.inl ⟨by rfl, ?hy⟩) (by assumption) ?_
    case hy => (intro w q; (try dsimp only at q); (go_simp <;> with_reducible rfl))
    refine tk 4 (v := ?_) rfl (by kernel_rfl) (fun _ _ _ h => h) (.inl ⟨by rfl, ?hy⟩) (by assumption) ?_
    case hy => (intro w q; (try dsimp only at q); (go_simp <;> with_reducible rfl))
    refine tk 6 (v := ?_) rfl (by kernel_rfl) (fun _ _ _ h => h) (.inl ⟨by rfl, ?hy⟩) (by assumption) ?_
    case hy => (intro w q; (try dsimp only at q); (go_simp <;> with_reducible rfl))
    refine tk 8 (v := ?_) rfl (by kernel_rfl) (fun _ _ _ h => h) (.inl ⟨by rfl, ?hy⟩) (by assumption) ?_
    case hy => (intro w q; (try dsimp only at q); (go_simp <;> with_reducible rfl))
    refine tk 9 (v := ?_) rfl (by kernel_rfl) (fun _ _ _ h => h) (.inl ⟨by rfl, ?hy⟩) (by assumption) ?_
    case hy => (intro w q; (try dsimp only at q); (go_simp <;> with_reducible rfl))
    refine wpAnyH_ready (rs := [5]) (by kernel_rfl) (by simp) ?_
    refine AllReadyH.cons rfl (fun K hK => ?_) AllReadyH.nil
    go_simp
    refine hK.out _ _ (by assumption) (fun hHeld => ?_)
    clear hK K
    try simp only [Act.put, gz, List.getElem_cons_succ, List.getElem_cons_zero, List.setIfInBounds_toArray, List.set_cons_zero, List.set_cons_succ]
    refine tk 7 (v := ?_) rfl (by kernel_rfl) (fun _ _ _ h => h) (.inl ⟨by rfl, ?hy⟩) (by assumption) ?_
    case hy => (intro w q; (try dsimp only at q); (go_simp <;> with_reducible rfl))
    refine wpAnyH_ready (rs := [10]) (by kernel_rfl) (by simp) ?_
    refine AllReadyH.cons rfl (fun K hK => ?_) AllReadyH.nil
    go_simp
    (first
      | (go_at_call 99; (refine (rjump_yes (b := xb) (m := ⟨g, 0, none⟩) (pc := s.pc) (R := s.R) ⟨?_, H.out.m.2⟩ _ _ hrd Hd.out.1 Hga.out).mono ?_); (focus (exact hpZ)); rintro e w3 ⟨rfl, hM3, hB3⟩; apply but_block hB3 (n := w.heap.size + 1); (focus (simp; omega)); (focus (exact hpZ)); intro z0 zf xr xz; simp at z0; apply but_block hB3 (n := w.heap.size + 1 + 1); (focus (simp; omega)); (focus (exact hpZ)); intro z1 zf1 xe xz1; apply but_block hB3 (n := w.heap.size); (focus (simp; omega)); (focus (exact hpZ)); intro z2 zf2 xi xz2; clear z1 z2 zf1 zf2))
    refine hK.out _ _ ?_ (fun hHeld => ?_)
    · (try dsimp only)
      (first | (go_keep; done) | (refine ⟨?_, ?_, ?_, ?_, ?_, ?_⟩ <;> (apply cq; (focus (exact hpZ)); rfl)))
    clear hK K
    try simp only [Act.put, gz, List.getElem_cons_succ, List.getElem_cons_zero, List.setIfInBounds_toArray, List.set_cons_zero, List.set_cons_succ]
    refine wpAnyH_ready (rs := [11]) (by kernel_rfl) (by simp) ?_
    refine AllReadyH.cons rfl (fun K hK => ?_) AllReadyH.nil
    go_simp
    refine hK.out _ _ ?_ (fun hHeld => ?_)
    · (try dsimp only)
      (first | (go_keep; done) | (refine ⟨?_, ?_, ?_, ?_, ?_, ?_⟩ <;> (apply cq; (focus (exact hpZ)); rfl)))
    clear hK K
    try simp only [Act.put, gz, List.getElem_cons_succ, List.getElem_cons_zero, List.setIfInBounds_toArray, List.set_cons_zero, List.set_cons_succ]
    refine tk 12 (v := ?_) rfl (by kernel_rfl) (fun _ _ _ h => h) (.inl ⟨by rfl, ?hy⟩) (by assumption) ?_
    case hy => (intro w q; (try dsimp only at q); (go_simp <;> with_reducible rfl))
    try simp only [Act.put, gz, List.getElem_cons_succ, List.getElem_cons_zero, List.setIfInBounds_toArray, List.set_cons_zero, List.set_cons_succ]
    refine wpAnyH_done (by kernel_rfl) ?_ _
    go_wp2
    show bodyPost _ _ (fun e w' => e = .returned (.tuple #[evdid r.1, .int .i64 r.2.1]) ∧ RKeep xb g base K F r.2.2 L v w w') _ _ _
    refine post_res (B := fun w' => RKeep xb g base K F r.2.2 L v w w') ?_ rfl ?_
    · rw [← Hr.out, Hg.out]
      have kp := rkeep_put (s' := ⟨dst, setR s.R rd ((s.pc + 4) % 4294967296), s.M⟩) H.out (X := _) (by (exact blZ)) hB3 hM3 (Hk.out) rfl
      exact rkeep_fresh (k0 := w.heap.size + 1) kp hlb hlg (by omega) (fun c t fr hc => by rw [xr] at hc; injection hc with hc; injection hc with _ hc _; rw [← hc]; decide) ⟨_, _, _, xr⟩ (by repeat (first | exact But.refl _ _ | refine But.set ?_ _ _ (.inl (by simp))))
    · rw [← Hr.out, Hg.out]
      apply res_at (n := w.heap.size + 1)
      (focus (exact hpZ))
      intro W' cw
      simp at cw
      simp [results, Try.results63, go_sem, evdid, no, cw]
  · have Hg := Lib.hid (show s.go dst rd = (1, s) from if_neg ga)
    have Hga := Lib.hid ga
    clear ga hd
    go_enter Try.func63, Try.ntmps63
    go_wp2
    go_quiet (fail)
    go_wp2
    refine wp_region_held_drew (S := (fun u => u.cell? ⟨w.heap.size + 1 + 1, 0, none⟩ = some (.int .u32 0) ∧ u.cell? ⟨w.heap.size + 1 + 1, 1, none⟩ = some (.int .u32 0) ∧ u.cell? ⟨w.heap.size + 1 + 1, 2, none⟩ = some (.int .i64 0) ∧ u.cell? ⟨w.heap.size + 1 + 1, 3, none⟩ = some (.int .u32 0) ∧ u.cell? ⟨w.heap.size + 1 + 1, 4, none⟩ = some (.int .i64 0) ∧ u.cell? ⟨w.heap.size, 1, none⟩ = some (.int .i64 rd))) (by kernel_rfl) ?_ (fun hHeld => ?_)
    · (try dsimp only)
      (first | (go_keep; done) | (refine ⟨?_, ?_, ?_, ?_, ?_, ?_⟩ <;> (apply cq; (focus (exact hpZ)); rfl)))
    refine tk 0 (v := ?_) rfl (by kernel_rfl) (fun _ _ _ h => h) (.inl ⟨by rfl, ?hy⟩) (by assumption) ?_
    case hy => (intro w q; (try dsimp only at q); (go_simp <;> with_reducible rfl))
    refine tk 1 (v := ?_) rfl (by kernel_rfl) (fun _ _ _ h => h) (.inl ⟨by rfl, ?hy⟩) (by assumption) ?_
    case hy => (intro w q; (try dsimp only at q); (go_simp <;> with_reducible rfl))
    refine tk 2 (v := ?_) rfl (by kernel_rfl) (fun _ _ _ h => h) (.inl ⟨by rfl, ?hy⟩) (by assumption) ?_
    case hy => (intro w q; (try dsimp only at q); (go_simp <;> with_reducible rfl))
    refine tk 3 (v := ?_) rfl (by kernel_rfl) (fun _ _ _ h => h) (.inl ⟨by rfl, ?hy⟩) (by assumption) ?_
    case hy => (intro w q; (try dsimp only at q); (go_simp <;> with_reducible rfl))
    refine tk 4 (v := ?_) rfl (by kernel_rfl) (fun _ _ _ h => h) (.inl ⟨by rfl, ?hy⟩) (by assumption) ?_
    case hy => (intro w q; (try dsimp only at q); (go_simp <;> with_reducible rfl))
    refine tk 6 (v := ?_) rfl (by kernel_rfl) (fun _ _ _ h => h) (.inl ⟨by rfl, ?hy⟩) (by assumption) ?_
    case hy => (intro w q; (try dsimp only at q); (go_simp <;> with_reducible rfl))
    refine tk 8 (v := ?_) rfl (by kernel_rfl) (fun _ _ _ h => h) (.inl ⟨by rfl, ?hy⟩) (by assumption) ?_
    case hy => (intro w q; (try dsimp only at q); (go_simp <;> with_reducible rfl))
    refine tk 9 (v := ?_) rfl (by kernel_rfl) (fun _ _ _ h => h) (.inl ⟨by rfl, ?hy⟩) (by assumption) ?_
    case hy => (intro w q; (try dsimp only at q); (go_simp <;> with_reducible rfl))
    refine wpAnyH_ready (rs := [5]) (by kernel_rfl) (by simp) ?_
    refine AllReadyH.cons rfl (fun K hK => ?_) AllReadyH.nil
    go_simp
    refine hK.out _ _ (by assumption) (fun hHeld => ?_)
    clear hK K
    try simp only [Act.put, gz, List.getElem_cons_succ, List.getElem_cons_zero, List.setIfInBounds_toArray, List.set_cons_zero, List.set_cons_succ]
    refine tk 7 (v := ?_) rfl (by kernel_rfl) (fun _ _ _ h => h) (.inl ⟨by rfl, ?hy⟩) (by assumption) ?_
    case hy => (intro w q; (try dsimp only at q); (go_simp <;> with_reducible rfl))
    refine wpAnyH_ready (rs := [10]) (by kernel_rfl) (by simp) ?_
    refine AllReadyH.cons rfl (fun K hK => ?_) AllReadyH.nil
    go_simp
    (first
      | (go_at_call 99; (refine (rjump_no _ _ Hd.out.1 Hga.out _).mono ?_); rintro e w3 ⟨rfl, rfl⟩))
    refine hK.out _ _ ?_ (fun hHeld => ?_)
    · (try dsimp only)
      (first | (go_keep; done) | (refine ⟨?_, ?_, ?_, ?_, ?_, ?_⟩ <;> (apply cq; (focus (exact hpZ)); rfl)))
    clear hK K
    try simp only [Act.put, gz, List.getElem_cons_succ, List.getElem_cons_zero, List.setIfInBounds_toArray, List.set_cons_zero, List.set_cons_succ]
    refine wpAnyH_ready (rs := [11]) (by kernel_rfl) (by simp) ?_
    refine AllReadyH.cons rfl (fun K hK => ?_) AllReadyH.nil
    go_simp
    refine hK.out _ _ ?_ (fun hHeld => ?_)
    · (try dsimp only)
      (first | (go_keep; done) | (refine ⟨?_, ?_, ?_, ?_, ?_, ?_⟩ <;> (apply cq; (focus (exact hpZ)); rfl)))
    clear hK K
    try simp only [Act.put, gz, List.getElem_cons_succ, List.getElem_cons_zero, List.setIfInBounds_toArray, List.set_cons_zero, List.set_cons_succ]
    refine tk 12 (v := ?_) rfl (by kernel_rfl) (fun _ _ _ h => h) (.inl ⟨by rfl, ?hy⟩) (by assumption) ?_
    case hy => (intro w q; (try dsimp only at q); (go_simp <;> with_reducible rfl))
    try simp only [Act.put, gz, List.getElem_cons_succ, List.getElem_cons_zero, List.setIfInBounds_toArray, List.set_cons_zero, List.set_cons_succ]
    refine wpAnyH_done (by kernel_rfl) ?_ _
    go_wp2
    show bodyPost _ _ (fun e w' => e = .returned (.tuple #[evdid r.1, .int .i64 r.2.1]) ∧ RKeep xb g base K F r.2.2 L v w w') _ _ _
    refine post_res (B := fun w' => RKeep xb g base K F r.2.2 L v w w') ?_ rfl ?_
    · rw [← Hr.out, Hg.out]
      exact rkeep_same H.out (by (exact blZ))
    · rw [← Hr.out, Hg.out]
      apply res_at (n := w.heap.size + 1)
      (focus (exact hpZ))
      intro W' cw
      simp at cw
      simp [results, Try.results63, go_sem, evdid, no, cw]
set_option maxHeartbeats 8000000 in
set_option maxRecDepth 100000 in
theorem rdoes_45 {xb g base : Nat} {K : Bk} {F : List Int} {s : St} {L : List (Int × Int)} {v : Value} {w : World} (h : RBox xb g base K F s L v w) (hL : L.length ≤ 1000000000) (rd rs1 rs2 imm : Int) (hrd : 0 ≤ rd ∧ rd < 32) (ha1 : 0 ≤ rs1 ∧ rs1 < 32) (hrs : 0 ≤ rs2 ∧ rs2 < 32)  :
    Calls Try.prog 63 #[.pointer (some ⟨xb, 0, none⟩), .agg #[.int .i64 45, .int .i64 rd, .int .i64 rs1, .int .i64 rs2, .int .i32 imm]] w (RDPost xb g base K F (no, s.go ((s.reg rs1 + imm) % 4294967296 / 2 * 2) rd) L v w) := by
  have hr := h.ok.reg rs1
  have hr2 := h.ok.reg rs2
  have hp0 := h.ok.pc0
  have hp1 := h.ok.pc1
  have c := cell_of_heap h.m.1 (2 + rs1.toNat)
  rw [mcells_reg _ _ _ _ (by rw [h.m.2]; omega)] at c
  have c2 := cell_of_heap h.m.1 (2 + rs2.toNat)
  rw [mcells_reg _ _ _ _ (by rw [h.m.2]; omega)] at c2
  have c1 := cell_of_heap h.m.1 1
  rw [mcells_pc] at c1
  have d1 : decide (rs1 < 0) = false := decide_eq_false (by omega)
  have d2 : decide (32 ≤ rs1) = false := decide_eq_false (by omega)
  have d3 : decide (rs2 < 0) = false := decide_eq_false (by omega)
  have d4 : decide (32 ≤ rs2) = false := decide_eq_false (by omega)
  have hlb := lt_of_heap h.m.1
  have hlg := lt_of_heap h.mem.mem
  have nb : ¬ w.heap.size = xb := by omega
  have nb1 : xb < w.heap.size + 1 := by omega
  have nb2 : xb < w.heap.size + 1 + 1 := by omega
  have nb3 : xb < w.heap.size + 1 + 1 + 1 := by omega
  have nb4 : xb < w.heap.size + 2 := by omega
  have nb5 : xb < w.heap.size + 3 := by omega
  have ea : s.R.getD rs1.toNat 0 = s.reg rs1 := rfl
  rw [ea] at c
  have ea2 : s.R.getD rs2.toNat 0 = s.reg rs2 := rfl
  rw [ea2] at c2
  clear ea ea2
  have H := Lib.hid h
  have hb' : w.heap[xb]? = some (.cells (mcells ⟨g, 0, none⟩ s.pc s.R) 89 (0, 0)) := h.m.1
  generalize s.reg rs1 = a at *
  generalize s.reg rs2 = a2 at *
  obtain ⟨d0, hd0⟩ : ∃ d, (a + imm) % 4294967296 = d := ⟨_, rfl⟩
  obtain ⟨q0, hq0⟩ : ∃ d, d0 / 2 = d := ⟨_, rfl⟩
  obtain ⟨dst, hdst⟩ : ∃ d, q0 * 2 = d := ⟨_, rfl⟩
  have ew : IntKind.u32.wrap (a + imm % 4294967296) = d0 := by rw [IntKind.wrap_u32, ← hd0]; omega
  obtain ⟨q1, hq1⟩ : ∃ d, d = q0 := ⟨_, rfl⟩
  have eq : Int.tdiv d0 2 = q1 := by rw [hq1, ← hq0]; exact Int.tdiv_eq_ediv_of_nonneg (by omega)
  have eq1 : IntKind.u32.wrap q1 = q0 := by rw [IntKind.wrap_u32, hq1]; omega
  clear hq1
  have ew2 : IntKind.u32.wrap (q0 * 2) = dst := by rw [IntKind.wrap_u32, ← hdst]; omega
  have hd : 0 ≤ dst ∧ dst < 4294967296 := by omega
  rw [hd0, hq0, hdst]
  clear hd0 hq0 hdst
  obtain ⟨r, hr'⟩ : ∃ r : Did × Int × St, (no, s.go dst rd) = r := ⟨_, rfl⟩
  rw [hr']
  have Hr := Lib.hid hr'
  clear hr' h
  have Hd := Lib.hid hd
  by_cases ga : dst % 4 = 0
  · have Hg := Lib.hid (show s.go dst rd = (0, ⟨dst, setR s.R rd ((s.pc + 4) % 4294967296), s.M⟩) from if_pos ga)
    have Hk := Lib.hid (show StOk K ⟨dst, setR s.R rd ((s.pc + 4) % 4294967296), s.M⟩ from by have x := H.out.ok.go dst rd hd; unfold St.go at x; rw [if_pos ga] at x; exact x)
    have Hga := Lib.hid ga
    clear ga hd
    go_enter Try.func63, Try.ntmps63
    go_wp2
    go_quiet (fail)
    go_wp2
    go_region_held3 (fun u => u.cell? ⟨w.heap.size + 1 + 1, 0, none⟩ = some (.int .u32 0) ∧ u.cell? ⟨w.heap.size + 1 + 1, 1, none⟩ = some (.int .u32 0) ∧ u.cell? ⟨w.heap.size + 1 + 1, 2, none⟩ = some (.int .i64 0) ∧ u.cell? ⟨w.heap.size + 1 + 1, 3, none⟩ = some (.int .u32 0) ∧ u.cell? ⟨w.heap.size + 1 + 1, 4, none⟩ = some (.int .i64 0) ∧ u.cell? ⟨w.heap.size, 1, none⟩ = some (.int .i64 rd)) (first | (go_keep; done) | (refine ⟨?_, ?_, ?_, ?_, ?_, ?_⟩ <;> (apply cq; (focus (exact hpZ)); rfl)))
      (first
      | (go_at_call 99; (refine (rjump_yes (b := xb) (m := ⟨g, 0, none⟩) (pc := s.pc) (R := s.R) ⟨?_, H.out.m.2⟩ _ _ hrd Hd.out.1 Hga.out).mono ?_); (focus (exact hpZ)); rintro e w3 ⟨rfl, hM3, hB3⟩; apply but_block hB3 (n := w.heap.size + 1); (focus (simp; omega)); (focus (exact hpZ)); intro z0 zf xr xz; simp at z0; apply but_block hB3 (n := w.heap.size + 1 + 1); (focus (simp; omega)); (focus (exact hpZ)); intro z1 zf1 xe xz1; apply but_block hB3 (n := w.heap.size); (focus (simp; omega)); (focus (exact hpZ)); intro z2 zf2 xi xz2; clear z1 z2 zf1 zf2))
    go_wp2
    show bodyPost _ _ (fun e w' => e = .returned (.tuple #[evdid r.1, .int .i64 r.2.1]) ∧ RKeep xb g base K F r.2.2 L v w w') _ _ _
    refine post_res (B := fun w' => RKeep xb g base K F r.2.2 L v w w') ?_ rfl ?_
    · rw [← Hr.out, Hg.out]
      have kp := rkeep_put (s' := ⟨dst, setR s.R rd ((s.pc + 4) % 4294967296), s.M⟩) H.out (X := _) (by (exact blZ)) hB3 hM3 (Hk.out) rfl
      exact rkeep_fresh (k0 := w.heap.size + 1) kp hlb hlg (by omega) (fun c t fr hc => by rw [xr] at hc; injection hc with hc; injection hc with _ hc _; rw [← hc]; decide) ⟨_, _, _, xr⟩ (by repeat (first | exact But.refl _ _ | refine But.set ?_ _ _ (.inl (by simp))))
    · rw [← Hr.out, Hg.out]
      apply res_at (n := w.heap.size + 1)
      (focus (exact hpZ))
      intro W' cw
      simp at cw
      simp [results, Try.results63, go_sem, evdid, no, cw]
  · have Hg := Lib.hid (show s.go dst rd = (1, s) from if_neg ga)
    have Hga := Lib.hid ga
    clear ga hd
    go_enter Try.func63, Try.ntmps63
    go_wp2
    go_quiet (fail)
    go_wp2
    go_region_held3 (fun u => u.cell? ⟨w.heap.size + 1 + 1, 0, none⟩ = some (.int .u32 0) ∧ u.cell? ⟨w.heap.size + 1 + 1, 1, none⟩ = some (.int .u32 0) ∧ u.cell? ⟨w.heap.size + 1 + 1, 2, none⟩ = some (.int .i64 0) ∧ u.cell? ⟨w.heap.size + 1 + 1, 3, none⟩ = some (.int .u32 0) ∧ u.cell? ⟨w.heap.size + 1 + 1, 4, none⟩ = some (.int .i64 0) ∧ u.cell? ⟨w.heap.size, 1, none⟩ = some (.int .i64 rd)) (first | (go_keep; done) | (refine ⟨?_, ?_, ?_, ?_, ?_, ?_⟩ <;> (apply cq; (focus (exact hpZ)); rfl)))
      (first
      | (go_at_call 99; (refine (rjump_no _ _ Hd.out.1 Hga.out _).mono ?_); rintro e w3 ⟨rfl, rfl⟩))
    go_wp2
    show bodyPost _ _ (fun e w' => e = .returned (.tuple #[evdid r.1, .int .i64 r.2.1]) ∧ RKeep xb g base K F r.2.2 L v w w') _ _ _
    refine post_res (B := fun w' => RKeep xb g base K F r.2.2 L v w w') ?_ rfl ?_
    · rw [← Hr.out, Hg.out]
      exact rkeep_same H.out (by (exact blZ))
    · rw [← Hr.out, Hg.out]
      apply res_at (n := w.heap.size + 1)
      (focus (exact hpZ))
      intro W' cw
      simp at cw
      simp [results, Try.results63, go_sem, evdid, no, cw]
end Go.Proofs.Ytioopcilcgebeaa.CpuA
