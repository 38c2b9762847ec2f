/- Proofs of this claim's family, merged: RxCb. -/
import Derived.Test.YtioopcilcgebeaaKXc
set_option linter.unusedVariables false
set_option linter.unusedSimpArgs false
/-! #### RxCb -/
namespace Go.Proofs.Ytioopcilcgebeaa.CpuA
open Go.RowKit Go.Proofs.Ytioopcilcgebeaa.Base Go.Proofs.Ytioopcilcgebeaa.AluP Go.Proofs.Ytioopcilcgebeaa.InstS Go.Proofs.Ytioopcilcgebeaa.InstA Go.Proofs.YtioopcilcgebeaaW.PrintWords

set_option maxHeartbeats 8000000 in
set_option maxRecDepth 100000 in
theorem rdoes_19 {xb g base : Nat} {K : Bk} {F : List Int} {s : St} {L : List (Int × Int)} {v : Value} {w : World} (h : RBox xb g base K F s L v w) (hL : L.length ≤ 1000000000) (rd rs1 rs2 imm : Int) (hrd : 0 ≤ rd ∧ rd < 32) (ha1 : 0 ≤ rs1 ∧ rs1 < 32) (hrs : 0 ≤ rs2 ∧ rs2 < 32)  :
    Calls Try.prog 63 #[.pointer (some ⟨xb, 0, none⟩), .agg #[.int .i64 19, .int .i64 rd, .int .i64 rs1, .int .i64 rs2, .int .i32 imm]] w (RDPost xb g base K F (no, 0, s.put rd (aluS 1 (s.reg rs1) (imm % 4294967296))) L v w) := by
  have hr := h.ok.reg rs1
  have hr2 := h.ok.reg rs2
  have hp0 := h.ok.pc0
  have hp1 := h.ok.pc1
  have c := cell_of_heap h.m.1 (2 + rs1.toNat)
  rw [mcells_reg _ _ _ _ (by rw [h.m.2]; omega)] at c
  have c2 := cell_of_heap h.m.1 (2 + rs2.toNat)
  rw [mcells_reg _ _ _ _ (by rw [h.m.2]; omega)] at c2
  have c1 := cell_of_heap h.m.1 1
  rw [mcells_pc] at c1
  have d1 : decide (rs1 < 0) = false := decide_eq_false (by omega)
  have d2 : decide (32 ≤ rs1) = false := decide_eq_false (by omega)
  have d3 : decide (rs2 < 0) = false := decide_eq_false (by omega)
  have d4 : decide (32 ≤ rs2) = false := decide_eq_false (by omega)
  have hlb := lt_of_heap h.m.1
  have hlg := lt_of_heap h.mem.mem
  have nb : ¬ w.heap.size = xb := by omega
  have nb1 : xb < w.heap.size + 1 := by omega
  have nb2 : xb < w.heap.size + 1 + 1 := by omega
  have nb3 : xb < w.heap.size + 1 + 1 + 1 := by omega
  have nb4 : xb < w.heap.size + 2 := by omega
  have nb5 : xb < w.heap.size + 3 := by omega
  have ea : s.R.getD rs1.toNat 0 = s.reg rs1 := rfl
  rw [ea] at c
  have ea2 : s.R.getD rs2.toNat 0 = s.reg rs2 := rfl
  rw [ea2] at c2
  clear ea ea2
  have H := Lib.hid h
  have hb' : w.heap[xb]? = some (.cells (mcells ⟨g, 0, none⟩ s.pc s.R) 89 (0, 0)) := h.m.1
  have hn : 0 ≤ imm % 4294967296 ∧ imm % 4294967296 < 4294967296 := by omega
  have hz := aluS_bd 1 _ _ (by omega) hr.1 hr.2 hn.1 hn.2
  have Hz := Lib.hid hz
  have Ha := Lib.hid (ralu_calls 1 _ _ (by omega) hr hn)
  generalize aluS 1 (s.reg rs1) (imm % 4294967296) = z at *
  generalize s.reg rs1 = a at *
  generalize s.reg rs2 = a2 at *
  obtain ⟨r, hr'⟩ : ∃ r : Did × Int × St, (no, 0, s.put rd z) = r := ⟨_, rfl⟩
  rw [hr']
  have Hr := Lib.hid hr'
  clear hr' h
  clear hz hn
  have ei : IntKind.i64.wrap ((19 : Int) - 19) = 0 := rfl
  have ei2 : IntKind.i64.wrap 0 = 0 := rfl
  go_enter Try.func63, Try.ntmps63
  go_wp2
  go_quiet (fail)
  go_wp2
  go_region_held3 (fun u => u.cell? ⟨w.heap.size + 1 + 1, 0, none⟩ = some (.int .u32 0) ∧ u.cell? ⟨w.heap.size + 1 + 1, 1, none⟩ = some (.int .u32 0) ∧ u.cell? ⟨w.heap.size + 1 + 1, 2, none⟩ = some (.int .i64 0) ∧ u.cell? ⟨w.heap.size + 1 + 1, 3, none⟩ = some (.int .u32 0) ∧ u.cell? ⟨w.heap.size + 1 + 1, 4, none⟩ = some (.int .i64 0) ∧ u.cell? ⟨w.heap.size, 0, none⟩ = some (.int .i64 19) ∧ u.cell? ⟨w.heap.size, 1, none⟩ = some (.int .i64 rd) ∧ u.cell? ⟨w.heap.size + 1 + 1 + 1, 0, none⟩ = some (.int .i64 1)) (first | (go_keep; done) | (refine ⟨?_, ?_, ?_, ?_, ?_, ?_, ?_, ?_⟩ <;> (apply cq; (focus (exact hpZ)); rfl)))
    (first
    | (go_at_call 96; (with_reducible refine (Ha.out _).mono ?_); rintro e w' ⟨rfl, nx, rfl⟩)
    | (go_at_call 95; (refine (rset_calls (b := xb) (m := ⟨g, 0, none⟩) (pc := s.pc) (R := s.R) ⟨?_, H.out.m.2⟩ _ _ _ hrd).mono ?_); (focus (exact hpZ)); rintro e w3 ⟨rfl, hM3, hB3⟩; apply but_block hB3 (n := w.heap.size + 1); (focus (simp; omega)); (focus (exact hpZ)); intro z0 zf xr xz; simp at z0; apply but_block hB3 (n := w.heap.size + 1 + 1); (focus (simp; omega)); (focus (exact hpZ)); intro z1 zf1 xe xz1; apply but_block hB3 (n := w.heap.size); (focus (simp; omega)); (focus (exact hpZ)); intro z2 zf2 xi xz2; apply but_block hB3 (n := w.heap.size + 1 + 1 + 1); (focus (simp; omega)); (focus (exact hpZ)); intro z3 zf3 xl xz3; clear z1 z2 z3 zf1 zf2 zf3))
  go_wp2
  show bodyPost _ _ (fun e w' => e = .returned (.tuple #[evdid r.1, .int .i64 r.2.1]) ∧ RKeep xb g base K F r.2.2 L v w w') _ _ _
  refine post_res (B := fun w' => RKeep xb g base K F r.2.2 L v w w') ?_ rfl ?_
  · rw [← Hr.out]
    have kp := rkeep_put (s' := s.put rd z) H.out (X := _) (by (exact blZ)) hB3 hM3 (H.out.ok.put _ _ Hz.out) rfl
    exact rkeep_fresh (k0 := w.heap.size + 1) kp hlb hlg (by omega) (fun c t fr hc => by rw [xr] at hc; injection hc with hc; injection hc with _ hc _; rw [← hc]; decide) ⟨_, _, _, xr⟩ (by repeat (first | exact But.refl _ _ | refine But.set ?_ _ _ (.inl (by simp))))
  · rw [← Hr.out]
    apply res_at (n := w.heap.size + 1)
    (focus (exact hpZ))
    intro W' cw
    simp at cw
    simp [results, Try.results63, go_sem, evdid, no, cw]
set_option maxHeartbeats 8000000 in
set_option maxRecDepth 100000 in
theorem rdoes_20 {xb g base : Nat} {K : Bk} {F : List Int} {s : St} {L : List (Int × Int)} {v : Value} {w : World} (h : RBox xb g base K F s L v w) (hL : L.length ≤ 1000000000) (rd rs1 rs2 imm : Int) (hrd : 0 ≤ rd ∧ rd < 32) (ha1 : 0 ≤ rs1 ∧ rs1 < 32) (hrs : 0 ≤ rs2 ∧ rs2 < 32)  :
    Calls Try.prog 63 #[.pointer (some ⟨xb, 0, none⟩), .agg #[.int .i64 20, .int .i64 rd, .int .i64 rs1, .int .i64 rs2, .int .i32 imm]] w (RDPost xb g base K F (no, 0, s.put rd (aluS 4 (s.reg rs1) (imm % 4294967296))) L v w) := by
  have hr := h.ok.reg rs1
  have hr2 := h.ok.reg rs2
  have hp0 := h.ok.pc0
  have hp1 := h.ok.pc1
  have c := cell_of_heap h.m.1 (2 + rs1.toNat)
  rw [mcells_reg _ _ _ _ (by rw [h.m.2]; omega)] at c
  have c2 := cell_of_heap h.m.1 (2 + rs2.toNat)
  rw [mcells_reg _ _ _ _ (by rw [h.m.2]; omega)] at c2
  have c1 := cell_of_heap h.m.1 1
  rw [mcells_pc] at c1
  have d1 : decide (rs1 < 0) = false := decide_eq_false (by omega)
  have d2 : decide (32 ≤ rs1) = false := decide_eq_false (by omega)
  have d3 : decide (rs2 < 0) = false := decide_eq_false (by omega)
  have d4 : decide (32 ≤ rs2) = false := decide_eq_false (by omega)
  have hlb := lt_of_heap h.m.1
  have hlg := lt_of_heap h.mem.mem
  have nb : ¬ w.heap.size = xb := by omega
  have nb1 : xb < w.heap.size + 1 := by omega
  have nb2 : xb < w.heap.size + 1 + 1 := by omega
  have nb3 : xb < w.heap.size + 1 + 1 + 1 := by omega
  have nb4 : xb < w.heap.size + 2 := by omega
  have nb5 : xb < w.heap.size + 3 := by omega
  have ea : s.R.getD rs1.toNat 0 = s.reg rs1 := rfl
  rw [ea] at c
  have ea2 : s.R.getD rs2.toNat 0 = s.reg rs2 := rfl
  rw [ea2] at c2
  clear ea ea2
  have H := Lib.hid h
  have hb' : w.heap[xb]? = some (.cells (mcells ⟨g, 0, none⟩ s.pc s.R) 89 (0, 0)) := h.m.1
  have hn : 0 ≤ imm % 4294967296 ∧ imm % 4294967296 < 4294967296 := by omega
  have hz := aluS_bd 4 _ _ (by omega) hr.1 hr.2 hn.1 hn.2
  have Hz := Lib.hid hz
  have Ha := Lib.hid (ralu_calls 4 _ _ (by omega) hr hn)
  generalize aluS 4 (s.reg rs1) (imm % 4294967296) = z at *
  generalize s.reg rs1 = a at *
  generalize s.reg rs2 = a2 at *
  obtain ⟨r, hr'⟩ : ∃ r : Did × Int × St, (no, 0, s.put rd z) = r := ⟨_, rfl⟩
  rw [hr']
  have Hr := Lib.hid hr'
  clear hr' h
  clear hz hn
  have ei : IntKind.i64.wrap ((20 : Int) - 19) = 1 := rfl
  have ei2 : IntKind.i64.wrap 1 = 1 := rfl
  go_enter Try.func63, Try.ntmps63
  go_wp2
  go_quiet (fail)
  go_wp2
  go_region_held3 (fun u => u.cell? ⟨w.heap.size + 1 + 1, 0, none⟩ = some (.int .u32 0) ∧ u.cell? ⟨w.heap.size + 1 + 1, 1, none⟩ = some (.int .u32 0) ∧ u.cell? ⟨w.heap.size + 1 + 1, 2, none⟩ = some (.int .i64 0) ∧ u.cell? ⟨w.heap.size + 1 + 1, 3, none⟩ = some (.int .u32 0) ∧ u.cell? ⟨w.heap.size + 1 + 1, 4, none⟩ = some (.int .i64 0) ∧ u.cell? ⟨w.heap.size, 0, none⟩ = some (.int .i64 20) ∧ u.cell? ⟨w.heap.size, 1, none⟩ = some (.int .i64 rd) ∧ u.cell? ⟨w.heap.size + 1 + 1 + 1, 1, none⟩ = some (.int .i64 4)) (first | (go_keep; done) | (refine ⟨?_, ?_, ?_, ?_, ?_, ?_, ?_, ?_⟩ <;> (apply cq; (focus (exact hpZ)); rfl)))
    (first
    | (go_at_call 96; (with_reducible refine (Ha.out _).mono ?_); rintro e w' ⟨rfl, nx, rfl⟩)
    | (go_at_call 95; (refine (rset_calls (b := xb) (m := ⟨g, 0, none⟩) (pc := s.pc) (R := s.R) ⟨?_, H.out.m.2⟩ _ _ _ hrd).mono ?_); (focus (exact hpZ)); rintro e w3 ⟨rfl, hM3, hB3⟩; apply but_block hB3 (n := w.heap.size + 1); (focus (simp; omega)); (focus (exact hpZ)); intro z0 zf xr xz; simp at z0; apply but_block hB3 (n := w.heap.size + 1 + 1); (focus (simp; omega)); (focus (exact hpZ)); intro z1 zf1 xe xz1; apply but_block hB3 (n := w.heap.size); (focus (simp; omega)); (focus (exact hpZ)); intro z2 zf2 xi xz2; apply but_block hB3 (n := w.heap.size + 1 + 1 + 1); (focus (simp; omega)); (focus (exact hpZ)); intro z3 zf3 xl xz3; clear z1 z2 z3 zf1 zf2 zf3))
  go_wp2
  show bodyPost _ _ (fun e w' => e = .returned (.tuple #[evdid r.1, .int .i64 r.2.1]) ∧ RKeep xb g base K F r.2.2 L v w w') _ _ _
  refine post_res (B := fun w' => RKeep xb g base K F r.2.2 L v w w') ?_ rfl ?_
  · rw [← Hr.out]
    have kp := rkeep_put (s' := s.put rd z) H.out (X := _) (by (exact blZ)) hB3 hM3 (H.out.ok.put _ _ Hz.out) rfl
    exact rkeep_fresh (k0 := w.heap.size + 1) kp hlb hlg (by omega) (fun c t fr hc => by rw [xr] at hc; injection hc with hc; injection hc with _ hc _; rw [← hc]; decide) ⟨_, _, _, xr⟩ (by repeat (first | exact But.refl _ _ | refine But.set ?_ _ _ (.inl (by simp))))
  · rw [← Hr.out]
    apply res_at (n := w.heap.size + 1)
    (focus (exact hpZ))
    intro W' cw
    simp at cw
    simp [results, Try.results63, go_sem, evdid, no, cw]
set_option maxHeartbeats 8000000 in
set_option maxRecDepth 100000 in
theorem rdoes_21 {xb g base : Nat} {K : Bk} {F : List Int} {s : St} {L : List (Int × Int)} {v : Value} {w : World} (h : RBox xb g base K F s L v w) (hL : L.length ≤ 1000000000) (rd rs1 rs2 imm : Int) (hrd : 0 ≤ rd ∧ rd < 32) (ha1 : 0 ≤ rs1 ∧ rs1 < 32) (hrs : 0 ≤ rs2 ∧ rs2 < 32)  :
    Calls Try.prog 63 #[.pointer (some ⟨xb, 0, none⟩), .agg #[.int .i64 21, .int .i64 rd, .int .i64 rs1, .int .i64 rs2, .int .i32 imm]] w (RDPost xb g base K F (no, 0, s.put rd (aluS 5 (s.reg rs1) (imm % 4294967296))) L v w) := by
  have hr := h.ok.reg rs1
  have hr2 := h.ok.reg rs2
  have hp0 := h.ok.pc0
  have hp1 := h.ok.pc1
  have c := cell_of_heap h.m.1 (2 + rs1.toNat)
  rw [mcells_reg _ _ _ _ (by rw [h.m.2]; omega)] at c
  have c2 := cell_of_heap h.m.1 (2 + rs2.toNat)
  rw [mcells_reg _ _ _ _ (by rw [h.m.2]; omega)] at c2
  have c1 := cell_of_heap h.m.1 1
  rw [mcells_pc] at c1
  have d1 : decide (rs1 < 0) = false := decide_eq_false (by omega)
  have d2 : decide (32 ≤ rs1) = false := decide_eq_false (by omega)
  have d3 : decide (rs2 < 0) = false := decide_eq_false (by omega)
  have d4 : decide (32 ≤ rs2) = false := decide_eq_false (by omega)
  have hlb := lt_of_heap h.m.1
  have hlg := lt_of_heap h.mem.mem
  have nb : ¬ w.heap.size = xb := by omega
  have nb1 : xb < w.heap.size + 1 := by omega
  have nb2 : xb < w.heap.size + 1 + 1 := by omega
  have nb3 : xb < w.heap.size + 1 + 1 + 1 := by omega
  have nb4 : xb < w.heap.size + 2 := by omega
  have nb5 : xb < w.heap.size + 3 := by omega
  have ea : s.R.getD rs1.toNat 0 = s.reg rs1 := rfl
  rw [ea] at c
  have ea2 : s.R.getD rs2.toNat 0 = s.reg rs2 := rfl
  rw [ea2] at c2
  clear ea ea2
  have H := Lib.hid h
  have hb' : w.heap[xb]? = some (.cells (mcells ⟨g, 0, none⟩ s.pc s.R) 89 (0, 0)) := h.m.1
  have hn : 0 ≤ imm % 4294967296 ∧ imm % 4294967296 < 4294967296 := by omega
  have hz := aluS_bd 5 _ _ (by omega) hr.1 hr.2 hn.1 hn.2
  have Hz := Lib.hid hz
  have Ha := Lib.hid (ralu_calls 5 _ _ (by omega) hr hn)
  generalize aluS 5 (s.reg rs1) (imm % 4294967296) = z at *
  generalize s.reg rs1 = a at *
  generalize s.reg rs2 = a2 at *
  obtain ⟨r, hr'⟩ : ∃ r : Did × Int × St, (no, 0, s.put rd z) = r := ⟨_, rfl⟩
  rw [hr']
  have Hr := Lib.hid hr'
  clear hr' h
  clear hz hn
  have ei : IntKind.i64.wrap ((21 : Int) - 19) = 2 := rfl
  have ei2 : IntKind.i64.wrap 2 = 2 := rfl
  go_enter Try.func63, Try.ntmps63
  go_wp2
  go_quiet (fail)
  go_wp2
  go_region_held3 (fun u => u.cell? ⟨w.heap.size + 1 + 1, 0, none⟩ = some (.int .u32 0) ∧ u.cell? ⟨w.heap.size + 1 + 1, 1, none⟩ = some (.int .u32 0) ∧ u.cell? ⟨w.heap.size + 1 + 1, 2, none⟩ = some (.int .i64 0) ∧ u.cell? ⟨w.heap.size + 1 + 1, 3, none⟩ = some (.int .u32 0) ∧ u.cell? ⟨w.heap.size + 1 + 1, 4, none⟩ = some (.int .i64 0) ∧ u.cell? ⟨w.heap.size, 0, none⟩ = some (.int .i64 21) ∧ u.cell? ⟨w.heap.size, 1, none⟩ = some (.int .i64 rd) ∧ u.cell? ⟨w.heap.size + 1 + 1 + 1, 2, none⟩ = some (.int .i64 5)) (first | (go_keep; done) | (refine ⟨?_, ?_, ?_, ?_, ?_, ?_, ?_, ?_⟩ <;> (apply cq; (focus (exact hpZ)); rfl)))
    (first
    | (go_at_call 96; (with_reducible refine (Ha.out _).mono ?_); rintro e w' ⟨rfl, nx, rfl⟩)
    | (go_at_call 95; (refine (rset_calls (b := xb) (m := ⟨g, 0, none⟩) (pc := s.pc) (R := s.R) ⟨?_, H.out.m.2⟩ _ _ _ hrd).mono ?_); (focus (exact hpZ)); rintro e w3 ⟨rfl, hM3, hB3⟩; apply but_block hB3 (n := w.heap.size + 1); (focus (simp; omega)); (focus (exact hpZ)); intro z0 zf xr xz; simp at z0; apply but_block hB3 (n := w.heap.size + 1 + 1); (focus (simp; omega)); (focus (exact hpZ)); intro z1 zf1 xe xz1; apply but_block hB3 (n := w.heap.size); (focus (simp; omega)); (focus (exact hpZ)); intro z2 zf2 xi xz2; apply but_block hB3 (n := w.heap.size + 1 + 1 + 1); (focus (simp; omega)); (focus (exact hpZ)); intro z3 zf3 xl xz3; clear z1 z2 z3 zf1 zf2 zf3))
  go_wp2
  show bodyPost _ _ (fun e w' => e = .returned (.tuple #[evdid r.1, .int .i64 r.2.1]) ∧ RKeep xb g base K F r.2.2 L v w w') _ _ _
  refine post_res (B := fun w' => RKeep xb g base K F r.2.2 L v w w') ?_ rfl ?_
  · rw [← Hr.out]
    have kp := rkeep_put (s' := s.put rd z) H.out (X := _) (by (exact blZ)) hB3 hM3 (H.out.ok.put _ _ Hz.out) rfl
    exact rkeep_fresh (k0 := w.heap.size + 1) kp hlb hlg (by omega) (fun c t fr hc => by rw [xr] at hc; injection hc with hc; injection hc with _ hc _; rw [← hc]; decide) ⟨_, _, _, xr⟩ (by repeat (first | exact But.refl _ _ | refine But.set ?_ _ _ (.inl (by simp))))
  · rw [← Hr.out]
    apply res_at (n := w.heap.size + 1)
    (focus (exact hpZ))
    intro W' cw
    simp at cw
    simp [results, Try.results63, go_sem, evdid, no, cw]
set_option maxHeartbeats 8000000 in
set_option maxRecDepth 100000 in
theorem rdoes_22 {xb g base : Nat} {K : Bk} {F : List Int} {s : St} {L : List (Int × Int)} {v : Value} {w : World} (h : RBox xb g base K F s L v w) (hL : L.length ≤ 1000000000) (rd rs1 rs2 imm : Int) (hrd : 0 ≤ rd ∧ rd < 32) (ha1 : 0 ≤ rs1 ∧ rs1 < 32) (hrs : 0 ≤ rs2 ∧ rs2 < 32)  :
    Calls Try.prog 63 #[.pointer (some ⟨xb, 0, none⟩), .agg #[.int .i64 22, .int .i64 rd, .int .i64 rs1, .int .i64 rs2, .int .i32 imm]] w (RDPost xb g base K F (no, 0, s.put rd (aluS 6 (s.reg rs1) (imm % 4294967296))) L v w) := by
  have hr := h.ok.reg rs1
  have hr2 := h.ok.reg rs2
  have hp0 := h.ok.pc0
  have hp1 := h.ok.pc1
  have c := cell_of_heap h.m.1 (2 + rs1.toNat)
  rw [mcells_reg _ _ _ _ (by rw [h.m.2]; omega)] at c
  have c2 := cell_of_heap h.m.1 (2 + rs2.toNat)
  rw [mcells_reg _ _ _ _ (by rw [h.m.2]; omega)] at c2
  have c1 := cell_of_heap h.m.1 1
  rw [mcells_pc] at c1
  have d1 : decide (rs1 < 0) = false := decide_eq_false (by omega)
  have d2 : decide (32 ≤ rs1) = false := decide_eq_false (by omega)
  have d3 : decide (rs2 < 0) = false := decide_eq_false (by omega)
  have d4 : decide (32 ≤ rs2) = false := decide_eq_false (by omega)
  have hlb := lt_of_heap h.m.1
  have hlg := lt_of_heap h.mem.mem
  have nb : ¬ w.heap.size = xb := by omega
  have nb1 : xb < w.heap.size + 1 := by omega
  have nb2 : xb < w.heap.size + 1 + 1 := by omega
  have nb3 : xb < w.heap.size + 1 + 1 + 1 := by omega
  have nb4 : xb < w.heap.size + 2 := by omega
  have nb5 : xb < w.heap.size + 3 := by omega
  have ea : s.R.getD rs1.toNat 0 = s.reg rs1 := rfl
  rw [ea] at c
  have ea2 : s.R.getD rs2.toNat 0 = s.reg rs2 := rfl
  rw [ea2] at c2
  clear ea ea2
  have H := Lib.hid h
  have hb' : w.heap[xb]? = some (.cells (mcells ⟨g, 0, none⟩ s.pc s.R) 89 (0, 0)) := h.m.1
  have hn : 0 ≤ imm % 4294967296 ∧ imm % 4294967296 < 4294967296 := by omega
  have hz := aluS_bd 6 _ _ (by omega) hr.1 hr.2 hn.1 hn.2
  have Hz := Lib.hid hz
  have Ha := Lib.hid (ralu_calls 6 _ _ (by omega) hr hn)
  generalize aluS 6 (s.reg rs1) (imm % 4294967296) = z at *
  generalize s.reg rs1 = a at *
  generalize s.reg rs2 = a2 at *
  obtain ⟨r, hr'⟩ : ∃ r : Did × Int × St, (no, 0, s.put rd z) = r := ⟨_, rfl⟩
  rw [hr']
  have Hr := Lib.hid hr'
  clear hr' h
  clear hz hn
  have ei : IntKind.i64.wrap ((22 : Int) - 19) = 3 := rfl
  have ei2 : IntKind.i64.wrap 3 = 3 := rfl
  go_enter Try.func63, Try.ntmps63
  go_wp2
  go_quiet (fail)
  go_wp2
  go_region_held3 (fun u => u.cell? ⟨w.heap.size + 1 + 1, 0, none⟩ = some (.int .u32 0) ∧ u.cell? ⟨w.heap.size + 1 + 1, 1, none⟩ = some (.int .u32 0) ∧ u.cell? ⟨w.heap.size + 1 + 1, 2, none⟩ = some (.int .i64 0) ∧ u.cell? ⟨w.heap.size + 1 + 1, 3, none⟩ = some (.int .u32 0) ∧ u.cell? ⟨w.heap.size + 1 + 1, 4, none⟩ = some (.int .i64 0) ∧ u.cell? ⟨w.heap.size, 0, none⟩ = some (.int .i64 22) ∧ u.cell? ⟨w.heap.size, 1, none⟩ = some (.int .i64 rd) ∧ u.cell? ⟨w.heap.size + 1 + 1 + 1, 3, none⟩ = some (.int .i64 6)) (first | (go_keep; done) | (refine ⟨?_, ?_, ?_, ?_, ?_, ?_, ?_, ?_⟩ <;> (apply cq; (focus (exact hpZ)); rfl)))
    (first
    | (go_at_call 96; (with_reducible refine (Ha.out _).mono ?_); rintro e w' ⟨rfl, nx, rfl⟩)
    | (go_at_call 95; (refine (rset_calls (b := xb) (m := ⟨g, 0, none⟩) (pc := s.pc) (R := s.R) ⟨?_, H.out.m.2⟩ _ _ _ hrd).mono ?_); (focus (exact hpZ)); rintro e w3 ⟨rfl, hM3, hB3⟩; apply but_block hB3 (n := w.heap.size + 1); (focus (simp; omega)); (focus (exact hpZ)); intro z0 zf xr xz; simp at z0; apply but_block hB3 (n := w.heap.size + 1 + 1); (focus (simp; omega)); (focus (exact hpZ)); intro z1 zf1 xe xz1; apply but_block hB3 (n := w.heap.size); (focus (simp; omega)); (focus (exact hpZ)); intro z2 zf2 xi xz2; apply but_block hB3 (n := w.heap.size + 1 + 1 + 1); (focus (simp; omega)); (focus (exact hpZ)); intro z3 zf3 xl xz3; clear z1 z2 z3 zf1 zf2 zf3))
  go_wp2
  show bodyPost _ _ (fun e w' => e = .returned (.tuple #[evdid r.1, .int .i64 r.2.1]) ∧ RKeep xb g base K F r.2.2 L v w w') _ _ _
  refine post_res (B := fun w' => RKeep xb g base K F r.2.2 L v w w') ?_ rfl ?_
  · rw [← Hr.out]
    have kp := rkeep_put (s' := s.put rd z) H.out (X := _) (by (exact blZ)) hB3 hM3 (H.out.ok.put _ _ Hz.out) rfl
    exact rkeep_fresh (k0 := w.heap.size + 1) kp hlb hlg (by omega) (fun c t fr hc => by rw [xr] at hc; injection hc with hc; injection hc with _ hc _; rw [← hc]; decide) ⟨_, _, _, xr⟩ (by repeat (first | exact But.refl _ _ | refine But.set ?_ _ _ (.inl (by simp))))
  · rw [← Hr.out]
    apply res_at (n := w.heap.size + 1)
    (focus (exact hpZ))
    intro W' cw
    simp at cw
    simp [results, Try.results63, go_sem, evdid, no, cw]
set_option maxHeartbeats 8000000 in
set_option maxRecDepth 100000 in
theorem rdoes_23 {xb g base : Nat} {K : Bk} {F : List Int} {s : St} {L : List (Int × Int)} {v : Value} {w : World} (h : RBox xb g base K F s L v w) (hL : L.length ≤ 1000000000) (rd rs1 rs2 imm : Int) (hrd : 0 ≤ rd ∧ rd < 32) (ha1 : 0 ≤ rs1 ∧ rs1 < 32) (hrs : 0 ≤ rs2 ∧ rs2 < 32)  :
    Calls Try.prog 63 #[.pointer (some ⟨xb, 0, none⟩), .agg #[.int .i64 23, .int .i64 rd, .int .i64 rs1, .int .i64 rs2, .int .i32 imm]] w (RDPost xb g base K F (no, 0, s.put rd (aluS 9 (s.reg rs1) (imm % 4294967296))) L v w) := by
  have hr := h.ok.reg rs1
  have hr2 := h.ok.reg rs2
  have hp0 := h.ok.pc0
  have hp1 := h.ok.pc1
  have c := cell_of_heap h.m.1 (2 + rs1.toNat)
  rw [mcells_reg _ _ _ _ (by rw [h.m.2]; omega)] at c
  have c2 := cell_of_heap h.m.1 (2 + rs2.toNat)
  rw [mcells_reg _ _ _ _ (by rw [h.m.2]; omega)] at c2
  have c1 := cell_of_heap h.m.1 1
  rw [mcells_pc] at c1
  have d1 : decide (rs1 < 0) = false := decide_eq_false (by omega)
  have d2 : decide (32 ≤ rs1) = false := decide_eq_false (by omega)
  have d3 : decide (rs2 < 0) = false := decide_eq_false (by omega)
  have d4 : decide (32 ≤ rs2) = false := decide_eq_false (by omega)
  have hlb := lt_of_heap h.m.1
  have hlg := lt_of_heap h.mem.mem
  have nb : ¬ w.heap.size = xb := by omega
  have nb1 : xb < w.heap.size + 1 := by omega
  have nb2 : xb < w.heap.size + 1 + 1 := by omega
  have nb3 : xb < w.heap.size + 1 + 1 + 1 := by omega
  have nb4 : xb < w.heap.size + 2 := by omega
  have nb5 : xb < w.heap.size + 3 := by omega
  have ea : s.R.getD rs1.toNat 0 = s.reg rs1 := rfl
  rw [ea] at c
  have ea2 : s.R.getD rs2.toNat 0 = s.reg rs2 := rfl
  rw [ea2] at c2
  clear ea ea2
  have H := Lib.hid h
  have hb' : w.heap[xb]? = some (.cells (mcells ⟨g, 0, none⟩ s.pc s.R) 89 (0, 0)) := h.m.1
  have hn : 0 ≤ imm % 4294967296 ∧ imm % 4294967296 < 4294967296 := by omega
  have hz := aluS_bd 9 _ _ (by omega) hr.1 hr.2 hn.1 hn.2
  have Hz := Lib.hid hz
  have Ha := Lib.hid (ralu_calls 9 _ _ (by omega) hr hn)
  generalize aluS 9 (s.reg rs1) (imm % 4294967296) = z at *
  generalize s.reg rs1 = a at *
  generalize s.reg rs2 = a2 at *
  obtain ⟨r, hr'⟩ : ∃ r : Did × Int × St, (no, 0, s.put rd z) = r := ⟨_, rfl⟩
  rw [hr']
  have Hr := Lib.hid hr'
  clear hr' h
  clear hz hn
  have ei : IntKind.i64.wrap ((23 : Int) - 19) = 4 := rfl
  have ei2 : IntKind.i64.wrap 4 = 4 := rfl
  go_enter Try.func63, Try.ntmps63
  go_wp2
  go_quiet (fail)
  go_wp2
  go_region_held3 (fun u => u.cell? ⟨w.heap.size + 1 + 1, 0, none⟩ = some (.int .u32 0) ∧ u.cell? ⟨w.heap.size + 1 + 1, 1, none⟩ = some (.int .u32 0) ∧ u.cell? ⟨w.heap.size + 1 + 1, 2, none⟩ = some (.int .i64 0) ∧ u.cell? ⟨w.heap.size + 1 + 1, 3, none⟩ = some (.int .u32 0) ∧ u.cell? ⟨w.heap.size + 1 + 1, 4, none⟩ = some (.int .i64 0) ∧ u.cell? ⟨w.heap.size, 0, none⟩ = some (.int .i64 23) ∧ u.cell? ⟨w.heap.size, 1, none⟩ = some (.int .i64 rd) ∧ u.cell? ⟨w.heap.size + 1 + 1 + 1, 4, none⟩ = some (.int .i64 9)) (first | (go_keep; done) | (refine ⟨?_, ?_, ?_, ?_, ?_, ?_, ?_, ?_⟩ <;> (apply cq; (focus (exact hpZ)); rfl)))
    (first
    | (go_at_call 96; (with_reducible refine (Ha.out _).mono ?_); rintro e w' ⟨rfl, nx, rfl⟩)
    | (go_at_call 95; (refine (rset_calls (b := xb) (m := ⟨g, 0, none⟩) (pc := s.pc) (R := s.R) ⟨?_, H.out.m.2⟩ _ _ _ hrd).mono ?_); (focus (exact hpZ)); rintro e w3 ⟨rfl, hM3, hB3⟩; apply but_block hB3 (n := w.heap.size + 1); (focus (simp; omega)); (focus (exact hpZ)); intro z0 zf xr xz; simp at z0; apply but_block hB3 (n := w.heap.size + 1 + 1); (focus (simp; omega)); (focus (exact hpZ)); intro z1 zf1 xe xz1; apply but_block hB3 (n := w.heap.size); (focus (simp; omega)); (focus (exact hpZ)); intro z2 zf2 xi xz2; apply but_block hB3 (n := w.heap.size + 1 + 1 + 1); (focus (simp; omega)); (focus (exact hpZ)); intro z3 zf3 xl xz3; clear z1 z2 z3 zf1 zf2 zf3))
  go_wp2
  show bodyPost _ _ (fun e w' => e = .returned (.tuple #[evdid r.1, .int .i64 r.2.1]) ∧ RKeep xb g base K F r.2.2 L v w w') _ _ _
  refine post_res (B := fun w' => RKeep xb g base K F r.2.2 L v w w') ?_ rfl ?_
  · rw [← Hr.out]
    have kp := rkeep_put (s' := s.put rd z) H.out (X := _) (by (exact blZ)) hB3 hM3 (H.out.ok.put _ _ Hz.out) rfl
    exact rkeep_fresh (k0 := w.heap.size + 1) kp hlb hlg (by omega) (fun c t fr hc => by rw [xr] at hc; injection hc with hc; injection hc with _ hc _; rw [← hc]; decide) ⟨_, _, _, xr⟩ (by repeat (first | exact But.refl _ _ | refine But.set ?_ _ _ (.inl (by simp))))
  · rw [← Hr.out]
    apply res_at (n := w.heap.size + 1)
    (focus (exact hpZ))
    intro W' cw
    simp at cw
    simp [results, Try.results63, go_sem, evdid, no, cw]
end Go.Proofs.Ytioopcilcgebeaa.CpuA
