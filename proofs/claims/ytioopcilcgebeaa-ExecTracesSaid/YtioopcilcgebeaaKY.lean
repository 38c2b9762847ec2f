/- Proofs of this claim's family, merged: RxCa, RxCd. -/
import Derived.Test.YtioopcilcgebeaaKXc
set_option linter.unusedVariables false
set_option linter.unusedSimpArgs false
/-! #### RxCa -/
namespace Go.Proofs.Ytioopcilcgebeaa.CpuA
open Go.RowKit Go.Proofs.Ytioopcilcgebeaa.Base Go.Proofs.Ytioopcilcgebeaa.AluP Go.Proofs.Ytioopcilcgebeaa.InstS Go.Proofs.Ytioopcilcgebeaa.InstA Go.Proofs.YtioopcilcgebeaaW.PrintWords

set_option maxHeartbeats 8000000 in
set_option maxRecDepth 100000 in
theorem rdoes_alu {xb g base : Nat} {K : Bk} {F : List Int} {s : St} {L : List (Int × Int)} {v : Value} {w : World} (h : RBox xb g base K F s L v w) (hL : L.length ≤ 1000000000) (op rd rs1 rs2 imm : Int) (hrd : 0 ≤ rd ∧ rd < 32) (ha1 : 0 ≤ rs1 ∧ rs1 < 32) (hrs : 0 ≤ rs2 ∧ rs2 < 32) (hop : 1 ≤ op ∧ op ≤ 18) :
    Calls Try.prog 63 #[.pointer (some ⟨xb, 0, none⟩), .agg #[.int .i64 op, .int .i64 rd, .int .i64 rs1, .int .i64 rs2, .int .i32 imm]] w (RDPost xb g base K F (no, 0, s.put rd (aluS op (s.reg rs1) (s.reg rs2))) L v w) := by
  have hr := h.ok.reg rs1
  have hr2 := h.ok.reg rs2
  have hp0 := h.ok.pc0
  have hp1 := h.ok.pc1
  have c := cell_of_heap h.m.1 (2 + rs1.toNat)
  rw [mcells_reg _ _ _ _ (by rw [h.m.2]; omega)] at c
  have c2 := cell_of_heap h.m.1 (2 + rs2.toNat)
  rw [mcells_reg _ _ _ _ (by rw [h.m.2]; omega)] at c2
  have c1 := cell_of_heap h.m.1 1
  rw [mcells_pc] at c1
  have d1 : decide (rs1 < 0) = false := decide_eq_false (by omega)
  have d2 : decide (32 ≤ rs1) = false := decide_eq_false (by omega)
  have d3 : decide (rs2 < 0) = false := decide_eq_false (by omega)
  have d4 : decide (32 ≤ rs2) = false := decide_eq_false (by omega)
  have hlb := lt_of_heap h.m.1
  have hlg := lt_of_heap h.mem.mem
  have nb : ¬ w.heap.size = xb := by omega
  have nb1 : xb < w.heap.size + 1 := by omega
  have nb2 : xb < w.heap.size + 1 + 1 := by omega
  have nb3 : xb < w.heap.size + 1 + 1 + 1 := by omega
  have nb4 : xb < w.heap.size + 2 := by omega
  have nb5 : xb < w.heap.size + 3 := by omega
  have ea : s.R.getD rs1.toNat 0 = s.reg rs1 := rfl
  rw [ea] at c
  have ea2 : s.R.getD rs2.toNat 0 = s.reg rs2 := rfl
  rw [ea2] at c2
  clear ea ea2
  have H := Lib.hid h
  have hb' : w.heap[xb]? = some (.cells (mcells ⟨g, 0, none⟩ s.pc s.R) 89 (0, 0)) := h.m.1
  have hz := aluS_bd op _ _ hop hr.1 hr.2 hr2.1 hr2.2
  have Hz := Lib.hid hz
  have Ha := Lib.hid (ralu_calls op _ _ hop hr hr2)
  have t1 : decide (op ≤ 18) = true := decide_eq_true hop.2
  generalize aluS op (s.reg rs1) (s.reg rs2) = z at *
  generalize s.reg rs1 = a at *
  generalize s.reg rs2 = a2 at *
  obtain ⟨r, hr'⟩ : ∃ r : Did × Int × St, (no, 0, s.put rd z) = r := ⟨_, rfl⟩
  rw [hr']
  have Hr := Lib.hid hr'
  clear hr' h
  clear hop hz
  go_enter Try.func63, Try.ntmps63
  go_wp2
  go_quiet (fail)
  go_wp2
  go_region_held3 (fun u => u.cell? ⟨w.heap.size + 1 + 1, 0, none⟩ = some (.int .u32 0) ∧ u.cell? ⟨w.heap.size + 1 + 1, 1, none⟩ = some (.int .u32 0) ∧ u.cell? ⟨w.heap.size + 1 + 1, 2, none⟩ = some (.int .i64 0) ∧ u.cell? ⟨w.heap.size + 1 + 1, 3, none⟩ = some (.int .u32 0) ∧ u.cell? ⟨w.heap.size + 1 + 1, 4, none⟩ = some (.int .i64 0) ∧ u.cell? ⟨w.heap.size, 0, none⟩ = some (.int .i64 op) ∧ u.cell? ⟨w.heap.size, 1, none⟩ = some (.int .i64 rd)) (first | (go_keep; done) | (refine ⟨?_, ?_, ?_, ?_, ?_, ?_, ?_⟩ <;> (apply cq; (focus (exact hpZ)); rfl)))
    (first
    | (go_at_call 96; (with_reducible refine (Ha.out _).mono ?_); rintro e w' ⟨rfl, nx, rfl⟩)
    | (go_at_call 95; (refine (rset_calls (b := xb) (m := ⟨g, 0, none⟩) (pc := s.pc) (R := s.R) ⟨?_, H.out.m.2⟩ _ _ _ hrd).mono ?_); (focus (exact hpZ)); rintro e w3 ⟨rfl, hM3, hB3⟩; apply but_block hB3 (n := w.heap.size + 1); (focus (simp; omega)); (focus (exact hpZ)); intro z0 zf xr xz; simp at z0; apply but_block hB3 (n := w.heap.size + 1 + 1); (focus (simp; omega)); (focus (exact hpZ)); intro z1 zf1 xe xz1; apply but_block hB3 (n := w.heap.size); (focus (simp; omega)); (focus (exact hpZ)); intro z2 zf2 xi xz2; clear z1 z2 zf1 zf2))
  go_wp2
  show bodyPost _ _ (fun e w' => e = .returned (.tuple #[evdid r.1, .int .i64 r.2.1]) ∧ RKeep xb g base K F r.2.2 L v w w') _ _ _
  refine post_res (B := fun w' => RKeep xb g base K F r.2.2 L v w w') ?_ rfl ?_
  · rw [← Hr.out]
    have kp := rkeep_put (s' := s.put rd z) H.out (X := _) (by (exact blZ)) hB3 hM3 (H.out.ok.put _ _ Hz.out) rfl
    exact rkeep_fresh (k0 := w.heap.size + 1) kp hlb hlg (by omega) (fun c t fr hc => by rw [xr] at hc; injection hc with hc; injection hc with _ hc _; rw [← hc]; decide) ⟨_, _, _, xr⟩ (by repeat (first | exact But.refl _ _ | refine But.set ?_ _ _ (.inl (by simp))))
  · rw [← Hr.out]
    apply res_at (n := w.heap.size + 1)
    (focus (exact hpZ))
    intro W' cw
    simp at cw
    simp [results, Try.results63, go_sem, evdid, no, cw]
set_option maxHeartbeats 8000000 in
set_option maxRecDepth 100000 in
theorem rdoes_mem {xb g base : Nat} {K : Bk} {F : List Int} {s : St} {L : List (Int × Int)} {v : Value} {w : World} (h : RBox xb g base K F s L v w) (hL : L.length ≤ 1000000000) (op rd rs1 rs2 imm : Int) (hrd : 0 ≤ rd ∧ rd < 32) (ha1 : 0 ≤ rs1 ∧ rs1 < 32) (hrs : 0 ≤ rs2 ∧ rs2 < 32) (hop : 28 ≤ op ∧ op ≤ 35) :
    Calls Try.prog 63 #[.pointer (some ⟨xb, 0, none⟩), .agg #[.int .i64 op, .int .i64 rd, .int .i64 rs1, .int .i64 rs2, .int .i32 imm]] w (RDPost xb g base K F (if op ≤ 32 then loadsA K F op rd ((s.reg rs1 + imm) % 4294967296) s else storesA K op rs2 ((s.reg rs1 + imm) % 4294967296) s) L v w) := by
  have hr := h.ok.reg rs1
  have hr2 := h.ok.reg rs2
  have hp0 := h.ok.pc0
  have hp1 := h.ok.pc1
  have c := cell_of_heap h.m.1 (2 + rs1.toNat)
  rw [mcells_reg _ _ _ _ (by rw [h.m.2]; omega)] at c
  have c2 := cell_of_heap h.m.1 (2 + rs2.toNat)
  rw [mcells_reg _ _ _ _ (by rw [h.m.2]; omega)] at c2
  have c1 := cell_of_heap h.m.1 1
  rw [mcells_pc] at c1
  have d1 : decide (rs1 < 0) = false := decide_eq_false (by omega)
  have d2 : decide (32 ≤ rs1) = false := decide_eq_false (by omega)
  have d3 : decide (rs2 < 0) = false := decide_eq_false (by omega)
  have d4 : decide (32 ≤ rs2) = false := decide_eq_false (by omega)
  have hlb := lt_of_heap h.m.1
  have hlg := lt_of_heap h.mem.mem
  have nb : ¬ w.heap.size = xb := by omega
  have nb1 : xb < w.heap.size + 1 := by omega
  have nb2 : xb < w.heap.size + 1 + 1 := by omega
  have nb3 : xb < w.heap.size + 1 + 1 + 1 := by omega
  have nb4 : xb < w.heap.size + 2 := by omega
  have nb5 : xb < w.heap.size + 3 := by omega
  have ea : s.R.getD rs1.toNat 0 = s.reg rs1 := rfl
  rw [ea] at c
  have ea2 : s.R.getD rs2.toNat 0 = s.reg rs2 := rfl
  rw [ea2] at c2
  clear ea ea2
  have H := Lib.hid h
  have hb' : w.heap[xb]? = some (.cells (mcells ⟨g, 0, none⟩ s.pc s.R) 89 (0, 0)) := h.m.1
  have t1 : decide (op ≤ 18) = false := decide_eq_false (by omega)
  have t2 : decide (op ≤ 27) = false := decide_eq_false (by omega)
  have t3 : decide (op ≤ 35) = true := decide_eq_true hop.2
  have Hn := Lib.hid (fun n (hn : w.heap.size ≤ n) => row_fresh h.mem hn)
  have Hl := Lib.hid (fun W (hB : Below w.heap.size w W) => rmem_calls (h.below hB) hL op rd rs1 rs2 imm ((s.reg rs1 + imm) % 4294967296) hop hrd hrs (by omega))
  generalize (if op ≤ 32 then loadsA K F op rd ((s.reg rs1 + imm) % 4294967296) s else storesA K op rs2 ((s.reg rs1 + imm) % 4294967296) s) = r at *
  generalize s.reg rs1 = a at *
  generalize s.reg rs2 = a2 at *
  obtain ⟨dd, t, s'⟩ := r
  clear h hop
  replace Hl := Lib.hid (fun W hB => (show Calls Try.prog 97 #[.pointer (some ⟨xb, 0, none⟩), .agg #[.int .i64 op, .int .i64 rd, .int .i64 rs1, .int .i64 rs2, .int .i32 imm], .int .u32 ((a + imm) % 4294967296)] W (fun e w' => e = .returned (.tuple #[.agg #[.int .u32 0, .int .u32 0, .int .i64 dd.kind, .int .u32 dd.addr, .int .i64 dd.size], .int .i64 t]) ∧ RKeep xb g base K F s' L v W w') from Hl.out W hB))
  go_enter Try.func63, Try.ntmps63
  go_wp2
  go_quiet (fail)
  go_wp2_with (first
    | (go_at_call 97; (with_reducible refine (Hl.out _ ?_).mono ?_); (focus (exact blZ)); rintro e w3 ⟨rfl, hK⟩; have HK := Lib.hid hK; obtain ⟨L', v', hbx, hll, hbt, hrr⟩ := hK; apply but_block hbt (n := w.heap.size + 1); (focus (simp only [List.mem_cons, not_or]; exact ⟨by omega, by have := Hn.out (w.heap.size + 1) (by omega); simpa using this⟩)); (focus (exact hpZ)); intro z0 zf xr xz; simp at z0; clear hbx hll hbt hrr))
  show bodyPost _ _ (fun e w' => e = .returned (.tuple #[evdid dd, .int .i64 t]) ∧ RKeep xb g base K F s' L v w w') _ _ _
  refine post_res (B := fun w' => RKeep xb g base K F s' L v w w') ?_ rfl ?_
  · exact rkeep_fresh (k0 := w.heap.size + 1) (rdpost_trans (by (exact blZ)) HK.out) hlb hlg (by omega) (fun c t fr hc => by rw [xr] at hc; injection hc with hc; injection hc with _ hc _; rw [← hc]; decide) ⟨_, _, _, xr⟩ (by repeat (first | exact But.refl _ _ | refine But.set ?_ _ _ (.inl (by simp))))
  · apply res_at (n := w.heap.size + 1)
    (focus (exact hpZ))
    intro W' cw
    simp at cw
    simp [results, Try.results63, go_sem, evdid, cw]
end Go.Proofs.Ytioopcilcgebeaa.CpuA
/-! #### RxCd -/
namespace Go.Proofs.Ytioopcilcgebeaa.CpuA
open Go.RowKit Go.Proofs.Ytioopcilcgebeaa.Base Go.Proofs.Ytioopcilcgebeaa.AluP Go.Proofs.Ytioopcilcgebeaa.InstS Go.Proofs.Ytioopcilcgebeaa.InstA Go.Proofs.YtioopcilcgebeaaW.PrintWords

set_option maxHeartbeats 8000000 in
set_option maxRecDepth 100000 in
theorem rdoes_br {xb g base : Nat} {K : Bk} {F : List Int} {s : St} {L : List (Int × Int)} {v : Value} {w : World} (h : RBox xb g base K F s L v w) (hL : L.length ≤ 1000000000) (op rd rs1 rs2 imm : Int) (hrd : 0 ≤ rd ∧ rd < 32) (ha1 : 0 ≤ rs1 ∧ rs1 < 32) (hrs : 0 ≤ rs2 ∧ rs2 < 32) (hop : 36 ≤ op ∧ op ≤ 41) :
    Calls Try.prog 63 #[.pointer (some ⟨xb, 0, none⟩), .agg #[.int .i64 op, .int .i64 rd, .int .i64 rs1, .int .i64 rs2, .int .i32 imm]] w (RDPost xb g base K F (if takesS op (s.reg rs1) (s.reg rs2) = true then (no, s.go ((s.pc + imm) % 4294967296) 0) else (no, 0, s.put 0 0)) L v w) := by
  have hr := h.ok.reg rs1
  have hr2 := h.ok.reg rs2
  have hp0 := h.ok.pc0
  have hp1 := h.ok.pc1
  have c := cell_of_heap h.m.1 (2 + rs1.toNat)
  rw [mcells_reg _ _ _ _ (by rw [h.m.2]; omega)] at c
  have c2 := cell_of_heap h.m.1 (2 + rs2.toNat)
  rw [mcells_reg _ _ _ _ (by rw [h.m.2]; omega)] at c2
  have c1 := cell_of_heap h.m.1 1
  rw [mcells_pc] at c1
  have d1 : decide (rs1 < 0) = false := decide_eq_false (by omega)
  have d2 : decide (32 ≤ rs1) = false := decide_eq_false (by omega)
  have d3 : decide (rs2 < 0) = false := decide_eq_false (by omega)
  have d4 : decide (32 ≤ rs2) = false := decide_eq_false (by omega)
  have hlb := lt_of_heap h.m.1
  have hlg := lt_of_heap h.mem.mem
  have nb : ¬ w.heap.size = xb := by omega
  have nb1 : xb < w.heap.size + 1 := by omega
  have nb2 : xb < w.heap.size + 1 + 1 := by omega
  have nb3 : xb < w.heap.size + 1 + 1 + 1 := by omega
  have nb4 : xb < w.heap.size + 2 := by omega
  have nb5 : xb < w.heap.size + 3 := by omega
  have ea : s.R.getD rs1.toNat 0 = s.reg rs1 := rfl
  rw [ea] at c
  have ea2 : s.R.getD rs2.toNat 0 = s.reg rs2 := rfl
  rw [ea2] at c2
  clear ea ea2
  have H := Lib.hid h
  have hb' : w.heap[xb]? = some (.cells (mcells ⟨g, 0, none⟩ s.pc s.R) 89 (0, 0)) := h.m.1
  obtain ⟨dst, hdst⟩ : ∃ d, (s.pc + imm) % 4294967296 = d := ⟨_, rfl⟩
  have ew : IntKind.u32.wrap (s.pc + imm % 4294967296) = dst := by rw [IntKind.wrap_u32, ← hdst]; omega
  have hd : 0 ≤ dst ∧ dst < 4294967296 := by omega
  rw [hdst]
  clear hdst
  have t1 : decide (op ≤ 18) = false := decide_eq_false (by omega)
  have t2 : decide (op ≤ 27) = false := decide_eq_false (by omega)
  have t3 : decide (op ≤ 35) = false := decide_eq_false (by omega)
  have t4 : decide (op ≤ 41) = true := decide_eq_true hop.2
  have Ht := Lib.hid (rtaken_calls op _ _ hop hr hr2)
  generalize takesS op (s.reg rs1) (s.reg rs2) = tk at *
  generalize s.reg rs1 = a at *
  generalize s.reg rs2 = a2 at *
  cases tk with
  | false =>
    rw [if_neg (by decide)]
    obtain ⟨r, hr'⟩ : ∃ r : Did × Int × St, (no, 0, s.put 0 0) = r := ⟨_, rfl⟩
    rw [hr']
    have Hr := Lib.hid hr'
    clear hr' h
    clear hop
    go_enter Try.func63, Try.ntmps63
    go_wp2
    go_quiet (fail)
    go_wp2_with (first
      | (go_at_call 98; (with_reducible refine (Ht.out _).mono ?_); rintro e w' ⟨rfl, nt, rfl⟩))
    go_wp2
    go_region_held3 (fun u => u.cell? ⟨w.heap.size + 1 + 1, 0, none⟩ = some (.int .u32 0) ∧ u.cell? ⟨w.heap.size + 1 + 1, 1, none⟩ = some (.int .u32 0) ∧ u.cell? ⟨w.heap.size + 1 + 1, 2, none⟩ = some (.int .i64 0) ∧ u.cell? ⟨w.heap.size + 1 + 1, 3, none⟩ = some (.int .u32 0) ∧ u.cell? ⟨w.heap.size + 1 + 1, 4, none⟩ = some (.int .i64 0)) (first | (go_keep; done) | (refine ⟨?_, ?_, ?_, ?_, ?_⟩ <;> (apply cq; (focus (exact hpZ)); rfl)))
      (first
      | (go_at_call 95; (refine (rset_calls (b := xb) (m := ⟨g, 0, none⟩) (pc := s.pc) (R := s.R) ⟨?_, H.out.m.2⟩ _ _ _ (by omega)).mono ?_); (focus (exact hpZ)); rintro e w3 ⟨rfl, hM3, hB3⟩; apply but_block hB3 (n := w.heap.size + 1); (focus (simp; omega)); (focus (exact hpZ)); intro z0 zf xr xz; simp at z0; apply but_block hB3 (n := w.heap.size + 1 + 1); (focus (simp; omega)); (focus (exact hpZ)); intro z1 zf1 xe xz1; apply but_block hB3 (n := w.heap.size); (focus (simp; omega)); (focus (exact hpZ)); intro z2 zf2 xi xz2; clear z1 z2 zf1 zf2))
    go_wp2
    show bodyPost _ _ (fun e w' => e = .returned (.tuple #[evdid r.1, .int .i64 r.2.1]) ∧ RKeep xb g base K F r.2.2 L v w w') _ _ _
    refine post_res (B := fun w' => RKeep xb g base K F r.2.2 L v w w') ?_ rfl ?_
    · rw [← Hr.out]
      have kp := rkeep_put (s' := s.put 0 0) H.out (X := _) (by (exact blZ)) hB3 hM3 (H.out.ok.put _ _ (by omega)) rfl
      exact rkeep_fresh (k0 := w.heap.size + 1) kp hlb hlg (by omega) (fun c t fr hc => by rw [xr] at hc; injection hc with hc; injection hc with _ hc _; rw [← hc]; decide) ⟨_, _, _, xr⟩ (by repeat (first | exact But.refl _ _ | refine But.set ?_ _ _ (.inl (by simp))))
    · rw [← Hr.out]
      apply res_at (n := w.heap.size + 1)
      (focus (exact hpZ))
      intro W' cw
      simp at cw
      simp [results, Try.results63, go_sem, evdid, no, cw]
  | true =>
    rw [if_pos rfl]
    obtain ⟨r, hr'⟩ : ∃ r : Did × Int × St, (no, s.go dst 0) = r := ⟨_, rfl⟩
    rw [hr']
    have Hr := Lib.hid hr'
    clear hr' h
    clear hop
    have Hd := Lib.hid hd
    by_cases ga : dst % 4 = 0
    · have Hg := Lib.hid (show s.go dst 0 = (0, ⟨dst, setR s.R 0 ((s.pc + 4) % 4294967296), s.M⟩) from if_pos ga)
      have Hk := Lib.hid (show StOk K ⟨dst, setR s.R 0 ((s.pc + 4) % 4294967296), s.M⟩ from by have x := H.out.ok.go dst 0 hd; unfold St.go at x; rw [if_pos ga] at x; exact x)
      have Hga := Lib.hid ga
      clear ga hd
      go_enter Try.func63, Try.ntmps63
      go_wp2
      go_quiet (fail)
      go_wp2_with (first
        | (go_at_call 98; (with_reducible refine (Ht.out _).mono ?_); rintro e w' ⟨rfl, nt, rfl⟩))
      go_wp2
      refine wp_region_held_drew (S := (fun u => u.cell? ⟨w.heap.size + 1 + 1, 0, none⟩ = some (.int .u32 0) ∧ u.cell? ⟨w.heap.size + 1 + 1, 1, none⟩ = some (.int .u32 0) ∧ u.cell? ⟨w.heap.size + 1 + 1, 2, none⟩ = some (.int .i64 0) ∧ u.cell? ⟨w.heap.size + 1 + 1, 3, none⟩ = some (.int .u32 0) ∧ u.cell? ⟨w.heap.size + 1 + 1, 4, none⟩ = some (.int .i64 0))) (by kernel_rfl) ?_ (fun hHeld => ?_)
      · (try dsimp only)
        (first | (go_keep; done) | (refine ⟨?_, ?_, ?_, ?_, ?_⟩ <;> (apply cq; (focus (exact hpZ)); rfl)))
      refine tk 0 (v := ?_) rfl (by kernel_rfl) (fun _ _ _ h => h) (.inl ⟨by rfl, ?hy⟩) (by assumption) ?_
      case hy => (intro w q; (try dsimp only at q); (go_simp <;> with_reducible rfl))
      refine tk 1 (v := ?_) rfl (by kernel_rfl) (fun _ _ _ h => h) (.inl ⟨by rfl, ?hy⟩) (by assumption) ?_
      case hy => (intro w q; (try dsimp only at q); (go_simp <;> with_reducible rfl))
      refine tk 2 (v := ?_) rfl (by kernel_rfl) (fun _ _ _ h => h) (.inl ⟨by rfl, ?hy⟩) (by assumption) ?_
      case hy => (intro w q; (try dsimp only at q); (go_simp <;> with_reducible rfl))
      refine tk 3 (v := ?_) rfl (by kernel_rfl) (fun _ _ _ h => h) (.inl ⟨by rfl, ?hy⟩) (by assumption) ?_
      case hy => (intro w q; (try dsimp only at q); (go_simp <;> with_reducible rfl))
      refine tk 4 (v := ?_) rfl (by kernel_rfl) (fun _ _ _ h => h) (.inl ⟨by rfl, ?hy⟩) (by assumption) ?_
      case hy => (intro w q; (try dsimp only at q); (go_simp <;> with_reducible rfl))
      refine tk 6 (v := ?_) rfl (by kernel_rfl) (fun _ _ _ h => h) (.inl ⟨by rfl, ?hy⟩) (by assumption) ?_
      case hy => (intro w q; (try dsimp only at q); (go_simp <;> with_reducible rfl))
      refine wpAnyH_ready (rs := [5]) (by kernel_rfl) (by simp) ?_
      refine AllReadyH.cons rfl (fun K hK => ?_) AllReadyH.nil
      go_simp
      refine hK.out _ _ (by assumption) (fun hHeld => ?_)
      clear hK K
      try simp only [Act.put, gz, List.getElem_cons_succ, List.getElem_cons_zero, List.setIfInBounds_toArray, List.set_cons_zero, List.set_cons_succ]
      refine tk 7 (v := ?_) rfl (by kernel_rfl) (fun _ _ _ h => h) (.inl ⟨by rfl, ?hy⟩) (by assumption) ?_
      case hy => (intro w q; (try dsimp only at q); (go_simp <;> with_reducible rfl))
      refine wpAnyH_ready (rs := [8]) (by kernel_rfl) (by simp) ?_
      refine AllReadyH.cons rfl (fun K hK => ?_) AllReadyH.nil
      go_simp
      (first
        | (go_at_call 99; (refine (rjump_yes (b := xb) (m := ⟨g, 0, none⟩) (pc := s.pc) (R := s.R) ⟨?_, H.out.m.2⟩ _ _ (by omega) Hd.out.1 Hga.out).mono ?_); (focus (exact hpZ)); rintro e w3 ⟨rfl, hM3, hB3⟩; apply but_block hB3 (n := w.heap.size + 1); (focus (simp; omega)); (focus (exact hpZ)); intro z0 zf xr xz; simp at z0; apply but_block hB3 (n := w.heap.size + 1 + 1); (focus (simp; omega)); (focus (exact hpZ)); intro z1 zf1 xe xz1; apply but_block hB3 (n := w.heap.size); (focus (simp; omega)); (focus (exact hpZ)); intro z2 zf2 xi xz2; clear z1 z2 zf1 zf2))
      refine hK.out _ _ ?_ (fun hHeld => ?_)
      · (try dsimp only)
        (first | (go_keep; done) | (refine ⟨?_, ?_, ?_, ?_, ?_⟩ <;> (apply cq; (focus (exact hpZ)); rfl)))
      clear hK K
      try simp only [Act.put, gz, List.getElem_cons_succ, List.getElem_cons_zero, List.setIfInBounds_toArray, List.set_cons_zero, List.set_cons_succ]
      refine wpAnyH_ready (rs := [9]) (by kernel_rfl) (by simp) ?_
      refine AllReadyH.cons rfl (fun K hK => ?_) AllReadyH.nil
      go_simp
      refine hK.out _ _ ?_ (fun hHeld => ?_)
      · (try dsimp only)
        (first | (go_keep; done) | (refine ⟨?_, ?_, ?_, ?_, ?_⟩ <;> (apply cq; (focus (exact hpZ)); rfl)))
      clear hK K
      try simp only [Act.put, gz, List.getElem_cons_succ, List.getElem_cons_zero, List.setIfInBounds_toArray, List.set_cons_zero, List.set_cons_succ]
      refine tk 10 (v := ?_) rfl (by kernel_rfl) (fun _ _ _ h => h) (.inl ⟨by rfl, ?hy⟩) (by assumption) ?_
      case hy => (intro w q; (try dsimp only at q); (go_simp <;> with_reducible rfl))
      try simp only [Act.put, gz, List.getElem_cons_succ, List.getElem_cons_zero, List.setIfInBounds_toArray, List.set_cons_zero, List.set_cons_succ]
      refine wpAnyH_done (by kernel_rfl) ?_ _
      go_wp2
      show bodyPost _ _ (fun e w' => e = .returned (.tuple #[evdid r.1, .int .i64 r.2.1]) ∧ RKeep xb g base K F r.2.2 L v w w') _ _ _
      refine post_res (B := fun w' => RKeep xb g base K F r.2.2 L v w w') ?_ rfl ?_
      · rw [← Hr.out, Hg.out]
        have kp := rkeep_put (s' := ⟨dst, setR s.R 0 ((s.pc + 4) % 4294967296), s.M⟩) H.out (X := _) (by (exact blZ)) hB3 hM3 (Hk.out) rfl
        exact rkeep_fresh (k0 := w.heap.size + 1) kp hlb hlg (by omega) (fun c t fr hc => by rw [xr] at hc; injection hc with hc; injection hc with _ hc _; rw [← hc]; decide) ⟨_, _, _, xr⟩ (by repeat (first | exact But.refl _ _ | refine But.set ?_ _ _ (.inl (by simp))))
      · rw [← Hr.out, Hg.out]
        apply res_at (n := w.heap.size + 1)
        (focus (exact hpZ))
        intro W' cw
        simp at cw
        simp [results, Try.results63, go_sem, evdid, no, cw]
    · have Hg := Lib.hid (show s.go dst 0 = (1, s) from if_neg ga)
      have Hga := Lib.hid ga
      clear ga hd
      go_enter Try.func63, Try.ntmps63
      go_wp2
      go_quiet (fail)
      go_wp2_with (first
        | (go_at_call 98; (with_reducible refine (Ht.out _).mono ?_); rintro e w' ⟨rfl, nt, rfl⟩))
      go_wp2
      refine wp_region_held_drew (S := (fun u => u.cell? ⟨w.heap.size + 1 + 1, 0, none⟩ = some (.int .u32 0) ∧ u.cell? ⟨w.heap.size + 1 + 1, 1, none⟩ = some (.int .u32 0) ∧ u.cell? ⟨w.heap.size + 1 + 1, 2, none⟩ = some (.int .i64 0) ∧ u.cell? ⟨w.heap.size + 1 + 1, 3, none⟩ = some (.int .u32 0) ∧ u.cell? ⟨w.heap.size + 1 + 1, 4, none⟩ = some (.int .i64 0))) (by kernel_rfl) ?_ (fun hHeld => ?_)
      · (try dsimp only)
        (first | (go_keep; done) | (refine ⟨?_, ?_, ?_, ?_, ?_⟩ <;> (apply cq; (focus (exact hpZ)); rfl)))
      refine tk 0 (v := ?_) rfl (by kernel_rfl) (fun _ _ _ h => h) (.inl ⟨by rfl, ?hy⟩) (by assumption) ?_
      case hy => (intro w q; (try dsimp only at q); (go_simp <;> with_reducible rfl))
      refine tk 1 (v := ?_) rfl (by kernel_rfl) (fun _ _ _ h => h) (.inl ⟨by rfl, ?hy⟩) (by assumption) ?_
      case hy => (intro w q; (try dsimp only at q); (go_simp <;> with_reducible rfl))
      refine tk 2 (v := ?_) rfl (by kernel_rfl) (fun _ _ _ h => h) (.inl ⟨by rfl, ?hy⟩) (by assumption) ?_
      case hy => (intro w q; (try dsimp only at q); (go_simp <;> with_reducible rfl))
      refine tk 3 (v := ?_) rfl (by kernel_rfl) (fun _ _ _ h => h) (.inl ⟨by rfl, ?hy⟩) (by assumption) ?_
      case hy => (intro w q; (try dsimp only at q); (go_simp <;> with_reducible rfl))
      refine tk 4 (v := ?_) rfl (by kernel_rfl) (fun _ _ _ h => h) (.inl ⟨by rfl, ?hy⟩) (by assumption) ?_
      case hy => (intro w q; (try dsimp only at q); (go_simp <;> with_reducible rfl))
      refine tk 6 (v := ?_) rfl (by kernel_rfl) (fun _ _ _ h => h) (.inl ⟨by rfl, ?hy⟩) (by assumption) ?_
      case hy => (intro w q; (try dsimp only at q); (go_simp <;> with_reducible rfl))
      refine wpAnyH_ready (rs := [5]) (by kernel_rfl) (by simp) ?_
      refine AllReadyH.cons rfl (fun K hK => ?_) AllReadyH.nil
      go_simp
      refine hK.out _ _ (by assumption) (fun hHeld => ?_)
      clear hK K
      try simp only [Act.put, gz, List.getElem_cons_succ, List.getElem_cons_zero, List.setIfInBounds_toArray, List.set_cons_zero, List.set_cons_succ]
      refine tk 7 (v := ?_) rfl (by kernel_rfl) (fun _ _ _ h => h) (.inl ⟨by rfl, ?hy⟩) (by assumption) ?_
      case hy => (intro w q; (try dsimp only at q); (go_simp <;> with_reducible rfl))
      refine wpAnyH_ready (rs := [8]) (by kernel_rfl) (by simp) ?_
      refine AllReadyH.cons rfl (fun K hK => ?_) AllReadyH.nil
      go_simp
      (first
        | (go_at_call 99; (refine (rjump_no _ _ Hd.out.1 Hga.out _).mono ?_); rintro e w3 ⟨rfl, rfl⟩))
      refine hK.out _ _ ?_ (fun hHeld => ?_)
      · (try dsimp only)
        (first | (go_keep; done) | (refine ⟨?_, ?_, ?_, ?_, ?_⟩ <;> (apply cq; (focus (exact hpZ)); rfl)))
      clear hK K
      try simp only [Act.put, gz, List.getElem_cons_succ, List.getElem_cons_zero, List.setIfInBounds_toArray, List.set_cons_zero, List.set_cons_succ]
      refine wpAnyH_ready (rs := [9]) (by kernel_rfl) (by simp) ?_
      refine AllReadyH.cons rfl (fun K hK => ?_) AllReadyH.nil
      go_simp
      refine hK.out _ _ ?_ (fun hHeld => ?_)
      · (try dsimp only)
        (first | (go_keep; done) | (refine ⟨?_, ?_, ?_, ?_, ?_⟩ <;> (apply cq; (focus (exact hpZ)); rfl)))
      clear hK K
      try simp only [Act.put, gz, List.getElem_cons_succ, List.getElem_cons_zero, List.setIfInBounds_toArray, List.set_cons_zero, List.set_cons_succ]
      refine tk 10 (v := ?_) rfl (by kernel_rfl) (fun _ _ _ h => h) (.inl ⟨by rfl, ?hy⟩) (by assumption) ?_
      case hy => (intro w q; (try dsimp only at q); (go_simp <;> with_reducible rfl))
      try simp only [Act.put, gz, List.getElem_cons_succ, List.getElem_cons_zero, List.setIfInBounds_toArray, List.set_cons_zero, List.set_cons_succ]
      refine wpAnyH_done (by kernel_rfl) ?_ _
      go_wp2
      show bodyPost _ _ (fun e w' => e = .returned (.tuple #[evdid r.1, .int .i64 r.2.1]) ∧ RKeep xb g base K F r.2.2 L v w w') _ _ _
      refine post_res (B := fun w' => RKeep xb g base K F r.2.2 L v w w') ?_ rfl ?_
      · rw [← Hr.out, Hg.out]
        exact rkeep_same H.out (by (exact blZ))
      · rw [← Hr.out, Hg.out]
        apply res_at (n := w.heap.size + 1)
        (focus (exact hpZ))
        intro W' cw
        simp at cw
        simp [results, Try.results63, go_sem, evdid, no, cw]
end Go.Proofs.Ytioopcilcgebeaa.CpuA
