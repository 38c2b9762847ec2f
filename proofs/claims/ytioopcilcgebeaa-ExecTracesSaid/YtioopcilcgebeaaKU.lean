/- Proofs of this claim's family, merged: RxBa. -/
import Derived.Test.YtioopcilcgebeaaKT
set_option linter.unusedVariables false
set_option linter.unusedSimpArgs false
/-! #### RxBa -/
namespace Go.Proofs.Ytioopcilcgebeaa.CpuA
open Go.RowKit Go.Proofs.Ytioopcilcgebeaa.Base Go.Proofs.Ytioopcilcgebeaa.AluP Go.Proofs.Ytioopcilcgebeaa.InstS Go.Proofs.YtioopcilcgebeaaW.PrintWords

set_option maxHeartbeats 8000000 in
set_option maxRecDepth 100000 in
theorem rmem_28 {xb g base : Nat} {K : Bk} {F : List Int} {s : St} {L : List (Int × Int)} {v : Value} {w : World} (h : RBox xb g base K F s L v w) (rd rs1 rs2 imm at_ : Int) (hrd : 0 ≤ rd ∧ rd < 32) (ha : 0 ≤ at_ ∧ at_ < 4294967296) :
    Calls Try.prog 97 #[.pointer (some ⟨xb, 0, none⟩), .agg #[.int .i64 28, .int .i64 rd, .int .i64 rs1, .int .i64 rs2, .int .i32 imm], .int .u32 at_] w (RDPost xb g base K F (loadsA K F 28 rd at_ s) L v w) := by
  have c0 := cell_of_heap h.m.1 0
  rw [mcells_mem] at c0
  have c1 := cell_of_heap h.m.1 1
  rw [mcells_pc] at c1
  have hlb := lt_of_heap h.m.1
  have hlg := lt_of_heap h.mem.mem
  have nb : ¬ w.heap.size = xb := by omega
  have nb1 : xb < w.heap.size + 1 := by omega
  have nb2 : xb < w.heap.size + 1 + 1 := by omega
  have nb3 : xb < w.heap.size + 1 + 1 + 1 := by omega
  have nb4 : xb < w.heap.size + 2 := by omega
  have nb5 : xb < w.heap.size + 3 := by omega
  have H := Lib.hid h
  have hb' : w.heap[xb]? = some (.cells (mcells ⟨g, 0, none⟩ s.pc s.R) 89 (0, 0)) := h.m.1
  have Hl := Lib.hid (fun (W : World) (hB : Below w.heap.size w W) => (show Calls Try.prog 44 #[.pointer (some ⟨g, 0, none⟩), .int .u32 at_, .int .i64 1] W _ from rload_box (h.below hB) at_ ha 1 (by omega)))
  have hbd := loadS_bd h.fl h.ok.ml h.fb h.ok.bytes at_ 1 (by omega)
  have hR : loadsA K F 28 rd at_ s = if (loadS K F s.M at_ 1).2 = 0 then (⟨1, at_, 1⟩, 0, s.put rd (sextS 28 (loadS K F s.M at_ 1).1)) else (no, (loadS K F s.M at_ 1).2, s) := rfl
  rw [hR]
  clear hR
  generalize loadS K F s.M at_ 1 = vt at *
  obtain ⟨x, t⟩ := vt
  dsimp only at *
  have hbd2 : 0 ≤ x ∧ x < 4294967296 := ⟨hbd.1, Int.lt_of_lt_of_le hbd.2 (by decide)⟩
  clear hbd
  by_cases q : t = 0
  · subst q
    rw [if_pos rfl]
    have Hx := Lib.hid (show ∀ W : World, Calls Try.prog 130 #[.int .u32 x, .int .i64 8] W (fun e w' => e = .returned (.int .u32 (sextS 28 x)) ∧ ∃ n, w' = W.drewN n) from fun W => rsext_calls 28 x hbd2.1 hbd2.2 (by omega) W)
    have Hz := Lib.hid (sextS_bd 28 x hbd2.1 hbd2.2)
    generalize hz : sextS 28 x = z at *
    clear hz
    obtain ⟨r, hr'⟩ : ∃ r : Did × Int × St, (⟨1, at_, 1⟩, 0, s.put rd z) = r := ⟨_, rfl⟩
    rw [hr']
    have Hr := Lib.hid hr'
    clear hr' h hbd2
    go_enter Try.func97, Try.ntmps97
    go_wp2_with (first
      | (go_at_call 44; (with_reducible refine (Hl.out _ ?_).mono ?_); (focus (repeat' (first | (with_reducible first | exact Below.refl _ _ | refine blQ ?_ _ | refine Below.drew ?_ | refine blO ?_ (by assumption) | refine Below.alloc ?_ ?_ _ | refine Below.setCell ?_ ?_ _ | refine Below.frame ?_ _) | omega | (simp only [zA, zS, zD, zQ]; omega)))); rintro e w' ⟨rfl, n1, rfl⟩)
      | (go_at_call 130; (with_reducible refine (Hx.out _).mono ?_); rintro e w' ⟨rfl, nx, rfl⟩))
    refine wp_region_held_drew (S := (fun u => u.cell? ⟨w.heap.size + 1 + 1 + 1, 0, none⟩ = some (.int .u32 0) ∧ u.cell? ⟨w.heap.size + 1 + 1 + 1, 1, none⟩ = some (.int .u32 0) ∧ u.cell? ⟨w.heap.size + 1 + 1 + 1, 2, none⟩ = some (.int .i64 1) ∧ u.cell? ⟨w.heap.size + 1 + 1 + 1, 3, none⟩ = some (.int .u32 at_) ∧ u.cell? ⟨w.heap.size + 1 + 1 + 1, 4, none⟩ = some (.int .i64 1) ∧ u.cell? ⟨w.heap.size, 1, none⟩ = some (.int .i64 rd))) (by kernel_rfl) ?_ (fun hHeld => ?_)
    · (try dsimp only)
      (first | (go_keep; done) | (refine ⟨?_, ?_, ?_, ?_, ?_, ?_⟩ <;> (apply cq; (focus (repeat' (first | (with_reducible first | assumption | exact hpA _ _ _ rfl | refine hpN ?_ | refine hpD ?_) | ((with_reducible first | refine hpP ?_ ?_ | refine hpT ?_ ?_); (focus (first | omega | (simp [zA, zS, zD, zQ] <;> omega)))) | ((with_reducible refine hpA _ _ _ ?_); (focus (first | omega | (simp [zA, zS, zD, zQ] <;> omega)))) | ((with_reducible refine hpB ?_ ?_); (focus assumption)) | (with_reducible apply hpS)))); rfl)))
    refine tk 0 (v := ?_) rfl (by kernel_rfl) (fun _ _ _ h => h) (.inl ⟨by rfl, ?hy⟩) (by assumption) ?_
    case hy => (intro w q; (try dsimp only at q); (go_simp <;> with_reducible rfl))
    refine tk 1 (v := ?_) rfl (by kernel_rfl) (fun _ _ _ h => h) (.inl ⟨by rfl, ?hy⟩) (by assumption) ?_
    case hy => (intro w q; (try dsimp only at q); (go_simp <;> with_reducible rfl))
    refine tk 2 (v := ?_) rfl (by kernel_rfl) (fun _ _ _ h => h) (.inl ⟨by rfl, ?hy⟩) (by assumption) ?_
    case hy => (intro w q; (try dsimp only at q); (go_simp <;> with_reducible rfl))
    refine tk 3 (v := ?_) rfl (by kernel_rfl) (fun _ _ _ h => h) (.inl ⟨by rfl, ?hy⟩) (by assumption) ?_
    case hy => (intro w q; (try dsimp only at q); (go_simp <;> with_reducible rfl))
    refine tk 4 (v := ?_) rfl (by kernel_rfl) (fun _ _ _ h => h) (.inl ⟨by rfl, ?hy⟩) (by assumption) ?_
    case hy => (intro w q; (try dsimp only at q); (go_simp <;> with_reducible rfl))
    refine tk 5 (v := ?_) rfl (by kernel_rfl) (fun _ _ _ h => h) (.inl ⟨by rfl, ?hy⟩) (by assumption) ?_
    case hy => (intro w q; (try dsimp only at q); (go_simp <;> with_reducible rfl))
    refine tk 6 (v := ?_) rfl (by kernel_rfl) (fun _ _ _ h => h) (.inl ⟨by rfl, ?hy⟩) (by assumption) ?_
    case hy => (intro w q; (try dsimp only at q); (go_simp <;> with_reducible rfl))
    refine tk 7 (v := ?_) rfl (by kernel_rfl) (fun _ _ _ h => h) (.inl ⟨by rfl, ?hy⟩) (by assumption) ?_
    case hy => (intro w q; (try dsimp only at q); (go_simp <;> with_reducible rfl))
    refine wpAnyH_ready (rs := [8]) (by kernel_rfl) (by simp) ?_
    refine AllReadyH.cons rfl (fun K hK => ?_) AllReadyH.nil
    go_simp
    refine hK.out _ _ (by assumption) (fun hHeld => ?_)
    clear hK K
    try simp only [Act.put, gz, List.getElem_cons_succ, List.getElem_cons_zero, List.setIfInBounds_toArray, List.set_cons_zero, List.set_cons_succ]
    refine tk 9 (v := ?_) rfl (by kernel_rfl) (fun _ _ _ h => h) (.inl ⟨by rfl, ?hy⟩) (by assumption) ?_
    case hy => (intro w q; (try dsimp only at q); (go_simp <;> with_reducible rfl))
    refine wpAnyH_ready (rs := [10]) (by kernel_rfl) (by simp) ?_
    refine AllReadyH.cons rfl (fun K hK => ?_) AllReadyH.nil
    go_simp
    (first
      | (go_at_call 95; (refine (rset_calls (b := xb) (m := ⟨g, 0, none⟩) (pc := s.pc) (R := s.R) ⟨?_, H.out.m.2⟩ _ _ _ hrd).mono ?_); (focus (repeat' (first | (with_reducible first | assumption | exact hpA _ _ _ rfl | refine hpN ?_ | refine hpD ?_) | ((with_reducible first | refine hpP ?_ ?_ | refine hpT ?_ ?_); (focus (first | omega | (simp [zA, zS, zD, zQ] <;> omega)))) | ((with_reducible refine hpA _ _ _ ?_); (focus (first | omega | (simp [zA, zS, zD, zQ] <;> omega)))) | ((with_reducible refine hpB ?_ ?_); (focus assumption)) | (with_reducible apply hpS)))); rintro e w3 ⟨rfl, hM3, hB3⟩; apply but_block hB3 (n := w.heap.size + 1); (focus (simp; omega)); (focus (repeat' (first | (with_reducible first | assumption | exact hpA _ _ _ rfl | refine hpN ?_ | refine hpD ?_) | ((with_reducible first | refine hpP ?_ ?_ | refine hpT ?_ ?_); (focus (first | omega | (simp [zA, zS, zD, zQ] <;> omega)))) | ((with_reducible refine hpA _ _ _ ?_); (focus (first | omega | (simp [zA, zS, zD, zQ] <;> omega)))) | ((with_reducible refine hpB ?_ ?_); (focus assumption)) | (with_reducible apply hpS)))); intro z0 zf xr xz; simp at z0; apply but_block hB3 (n := w.heap.size + 1 + 1 + 1); (focus (simp; omega)); (focus (repeat' (first | (with_reducible first | assumption | exact hpA _ _ _ rfl | refine hpN ?_ | refine hpD ?_) | ((with_reducible first | refine hpP ?_ ?_ | refine hpT ?_ ?_); (focus (first | omega | (simp [zA, zS, zD, zQ] <;> omega)))) | ((with_reducible refine hpA _ _ _ ?_); (focus (first | omega | (simp [zA, zS, zD, zQ] <;> omega)))) | ((with_reducible refine hpB ?_ ?_); (focus assumption)) | (with_reducible apply hpS)))); intro z1 zf1 xe xz1; apply but_block hB3 (n := w.heap.size); (focus (simp; omega)); (focus (repeat' (first | (with_reducible first | assumption | exact hpA _ _ _ rfl | refine hpN ?_ | refine hpD ?_) | ((with_reducible first | refine hpP ?_ ?_ | refine hpT ?_ ?_); (focus (first | omega | (simp [zA, zS, zD, zQ] <;> omega)))) | ((with_reducible refine hpA _ _ _ ?_); (focus (first | omega | (simp [zA, zS, zD, zQ] <;> omega)))) | ((with_reducible refine hpB ?_ ?_); (focus assumption)) | (with_reducible apply hpS)))); intro z2 zf2 xi xz2; clear z1 z2 zf1 zf2))
    refine hK.out _ _ ?_ (fun hHeld => ?_)
    · (try dsimp only)
      (first | (go_keep; done) | (refine ⟨?_, ?_, ?_, ?_, ?_, ?_⟩ <;> (apply cq; (focus (repeat' (first | (with_reducible first | assumption | exact hpA _ _ _ rfl | refine hpN ?_ | refine hpD ?_) | ((with_reducible first | refine hpP ?_ ?_ | refine hpT ?_ ?_); (focus (first | omega | (simp [zA, zS, zD, zQ] <;> omega)))) | ((with_reducible refine hpA _ _ _ ?_); (focus (first | omega | (simp [zA, zS, zD, zQ] <;> omega)))) | ((with_reducible refine hpB ?_ ?_); (focus assumption)) | (with_reducible apply hpS)))); rfl)))
    clear hK K
    try simp only [Act.put, gz, List.getElem_cons_succ, List.getElem_cons_zero, List.setIfInBounds_toArray, List.set_cons_zero, List.set_cons_succ]
    refine wpAnyH_ready (rs := [11]) (by kernel_rfl) (by simp) ?_
    refine AllReadyH.cons rfl (fun K hK => ?_) AllReadyH.nil
    go_simp
    refine hK.out _ _ ?_ (fun hHeld => ?_)
    · (try dsimp only)
      (first | (go_keep; done) | (refine ⟨?_, ?_, ?_, ?_, ?_, ?_⟩ <;> (apply cq; (focus (repeat' (first | (with_reducible first | assumption | exact hpA _ _ _ rfl | refine hpN ?_ | refine hpD ?_) | ((with_reducible first | refine hpP ?_ ?_ | refine hpT ?_ ?_); (focus (first | omega | (simp [zA, zS, zD, zQ] <;> omega)))) | ((with_reducible refine hpA _ _ _ ?_); (focus (first | omega | (simp [zA, zS, zD, zQ] <;> omega)))) | ((with_reducible refine hpB ?_ ?_); (focus assumption)) | (with_reducible apply hpS)))); rfl)))
    clear hK K
    try simp only [Act.put, gz, List.getElem_cons_succ, List.getElem_cons_zero, List.setIfInBounds_toArray, List.set_cons_zero, List.set_cons_succ]
    refine tk 12 (v := ?_) rfl (by kernel_rfl) (fun _ _ _ h => h) (.inl ⟨by rfl, ?hy⟩) (by assumption) ?_
    case hy => (intro w q; (try dsimp only at q); (go_simp <;> with_reducible rfl))
    try simp only [Act.put, gz, List.getElem_cons_succ, List.getElem_cons_zero, List.setIfInBounds_toArray, List.set_cons_zero, List.set_cons_succ]
    refine wpAnyH_done (by kernel_rfl) ?_ _
    go_wp2
    show bodyPost _ _ (fun e w' => e = .returned (.tuple #[evdid r.1, .int .i64 r.2.1]) ∧ RKeep xb g base K F r.2.2 L v w w') _ _ _
    refine post_res (B := fun w' => RKeep xb g base K F r.2.2 L v w w') ?_ rfl ?_
    · rw [← Hr.out]
      have kp := rkeep_put (s' := s.put rd z) H.out (X := _) (by (repeat' (first | (with_reducible first | exact Below.refl _ _ | refine blQ ?_ _ | refine Below.drew ?_ | refine blO ?_ (by assumption) | refine Below.alloc ?_ ?_ _ | refine Below.setCell ?_ ?_ _ | refine Below.frame ?_ _) | omega | (simp only [zA, zS, zD, zQ]; omega)))) hB3 hM3 (H.out.ok.put _ _ Hz.out) rfl
      exact rkeep_fresh (k0 := w.heap.size + 1) kp hlb hlg (by omega) (fun c t fr hc => by rw [xr] at hc; injection hc with hc; injection hc with _ hc _; rw [← hc]; decide) ⟨_, _, _, xr⟩ (by repeat (first | exact But.refl _ _ | refine But.set ?_ _ _ (.inl (by simp))))
    · rw [← Hr.out]
      apply res_at (n := w.heap.size + 1)
      (focus (repeat' (first | (with_reducible first | assumption | exact hpA _ _ _ rfl | refine hpN ?_ | refine hpD ?_) | ((with_reducible first | refine hpP ?_ ?_ | refine hpT ?_ ?_); (focus (first | omega | (simp [zA, zS, zD, zQ] <;> omega)))) | ((with_reducible refine hpA _ _ _ ?_); (focus (first | omega | (simp [zA, zS, zD, zQ] <;> omega)))) | ((with_reducible refine hpB ?_ ?_); (focus assumption)) | (with_reducible apply hpS))))
      intro W' cw
      simp at cw
      simp [results, Try.results97, go_sem, evdid, cw]
  · rw [if_neg q]
    have q1 : (t != 0) = true := by simpa using q
    obtain ⟨r, hr'⟩ : ∃ r : Did × Int × St, (no, t, s) = r := ⟨_, rfl⟩
    rw [hr']
    have Hr := Lib.hid hr'
    clear hr' h hbd2 q
    go_enter Try.func97, Try.ntmps97
    go_wp2_with (first
      | (go_at_call 44; (with_reducible refine (Hl.out _ ?_).mono ?_); (focus (repeat' (first | (with_reducible first | exact Below.refl _ _ | refine blQ ?_ _ | refine Below.drew ?_ | refine blO ?_ (by assumption) | refine Below.alloc ?_ ?_ _ | refine Below.setCell ?_ ?_ _ | refine Below.frame ?_ _) | omega | (simp only [zA, zS, zD, zQ]; omega)))); rintro e w' ⟨rfl, n1, rfl⟩))
    show bodyPost _ _ (fun e w' => e = .returned (.tuple #[evdid r.1, .int .i64 r.2.1]) ∧ RKeep xb g base K F r.2.2 L v w w') _ _ _
    refine post_res (B := fun w' => RKeep xb g base K F r.2.2 L v w w') ?_ rfl ?_
    · rw [← Hr.out]
      exact rkeep_same H.out (by (repeat' (first | (with_reducible first | exact Below.refl _ _ | refine blQ ?_ _ | refine Below.drew ?_ | refine blO ?_ (by assumption) | refine Below.alloc ?_ ?_ _ | refine Below.setCell ?_ ?_ _ | refine Below.frame ?_ _) | omega | (simp only [zA, zS, zD, zQ]; omega))))
    · rw [← Hr.out]
      apply res_at (n := w.heap.size + 1)
      (focus (repeat' (first | (with_reducible first | assumption | exact hpA _ _ _ rfl | refine hpN ?_ | refine hpD ?_) | ((with_reducible first | refine hpP ?_ ?_ | refine hpT ?_ ?_); (focus (first | omega | (simp [zA, zS, zD, zQ] <;> omega)))) | ((with_reducible refine hpA _ _ _ ?_); (focus (first | omega | (simp [zA, zS, zD, zQ] <;> omega)))) | ((with_reducible refine hpB ?_ ?_); (focus assumption)) | (with_reducible apply hpS))))
      intro W' cw
      simp at cw
      simp [results, Try.results97, go_sem, evdid, no, cw]
set_option maxHeartbeats 8000000 in
set_option maxRecDepth 100000 in
theorem rmem_29 {xb g base : Nat} {K : Bk} {F : List Int} {s : St} {L : List (Int × Int)} {v : Value} {w : World} (h : RBox xb g base K F s L v w) (rd rs1 rs2 imm at_ : Int) (hrd : 0 ≤ rd ∧ rd < 32) (ha : 0 ≤ at_ ∧ at_ < 4294967296) :
    Calls Try.prog 97 #[.pointer (some ⟨xb, 0, none⟩), .agg #[.int .i64 29, .int .i64 rd, .int .i64 rs1, .int .i64 rs2, .int .i32 imm], .int .u32 at_] w (RDPost xb g base K F (loadsA K F 29 rd at_ s) L v w) := by
  have c0 := cell_of_heap h.m.1 0
  rw [mcells_mem] at c0
  have c1 := cell_of_heap h.m.1 1
  rw [mcells_pc] at c1
  have hlb := lt_of_heap h.m.1
  have hlg := lt_of_heap h.mem.mem
  have nb : ¬ w.heap.size = xb := by omega
  have nb1 : xb < w.heap.size + 1 := by omega
  have nb2 : xb < w.heap.size + 1 + 1 := by omega
  have nb3 : xb < w.heap.size + 1 + 1 + 1 := by omega
  have nb4 : xb < w.heap.size + 2 := by omega
  have nb5 : xb < w.heap.size + 3 := by omega
  have H := Lib.hid h
  have hb' : w.heap[xb]? = some (.cells (mcells ⟨g, 0, none⟩ s.pc s.R) 89 (0, 0)) := h.m.1
  have Hl := Lib.hid (fun (W : World) (hB : Below w.heap.size w W) => (show Calls Try.prog 44 #[.pointer (some ⟨g, 0, none⟩), .int .u32 at_, .int .i64 2] W _ from rload_box (h.below hB) at_ ha 2 (by omega)))
  have hbd := loadS_bd h.fl h.ok.ml h.fb h.ok.bytes at_ 2 (by omega)
  have hR : loadsA K F 29 rd at_ s = if (loadS K F s.M at_ 2).2 = 0 then (⟨1, at_, 2⟩, 0, s.put rd (sextS 29 (loadS K F s.M at_ 2).1)) else (no, (loadS K F s.M at_ 2).2, s) := rfl
  rw [hR]
  clear hR
  generalize loadS K F s.M at_ 2 = vt at *
  obtain ⟨x, t⟩ := vt
  dsimp only at *
  have hbd2 : 0 ≤ x ∧ x < 4294967296 := ⟨hbd.1, Int.lt_of_lt_of_le hbd.2 (by decide)⟩
  clear hbd
  by_cases q : t = 0
  · subst q
    rw [if_pos rfl]
    have Hx := Lib.hid (show ∀ W : World, Calls Try.prog 130 #[.int .u32 x, .int .i64 16] W (fun e w' => e = .returned (.int .u32 (sextS 29 x)) ∧ ∃ n, w' = W.drewN n) from fun W => rsext_calls 29 x hbd2.1 hbd2.2 (by omega) W)
    have Hz := Lib.hid (sextS_bd 29 x hbd2.1 hbd2.2)
    generalize hz : sextS 29 x = z at *
    clear hz
    obtain ⟨r, hr'⟩ : ∃ r : Did × Int × St, (⟨1, at_, 2⟩, 0, s.put rd z) = r := ⟨_, rfl⟩
    rw [hr']
    have Hr := Lib.hid hr'
    clear hr' h hbd2
    go_enter Try.func97, Try.ntmps97
    go_wp2_with (first
      | (go_at_call 44; (with_reducible refine (Hl.out _ ?_).mono ?_); (focus (repeat' (first | (with_reducible first | exact Below.refl _ _ | refine blQ ?_ _ | refine Below.drew ?_ | refine blO ?_ (by assumption) | refine Below.alloc ?_ ?_ _ | refine Below.setCell ?_ ?_ _ | refine Below.frame ?_ _) | omega | (simp only [zA, zS, zD, zQ]; omega)))); rintro e w' ⟨rfl, n1, rfl⟩)
      | (go_at_call 130; (with_reducible refine (Hx.out _).mono ?_); rintro e w' ⟨rfl, nx, rfl⟩))
    refine wp_region_held_drew (S := (fun u => u.cell? ⟨w.heap.size + 1 + 1 + 1, 0, none⟩ = some (.int .u32 0) ∧ u.cell? ⟨w.heap.size + 1 + 1 + 1, 1, none⟩ = some (.int .u32 0) ∧ u.cell? ⟨w.heap.size + 1 + 1 + 1, 2, none⟩ = some (.int .i64 1) ∧ u.cell? ⟨w.heap.size + 1 + 1 + 1, 3, none⟩ = some (.int .u32 at_) ∧ u.cell? ⟨w.heap.size + 1 + 1 + 1, 4, none⟩ = some (.int .i64 2) ∧ u.cell? ⟨w.heap.size, 1, none⟩ = some (.int .i64 rd))) (by kernel_rfl) ?_ (fun hHeld => ?_)
    · (try dsimp only)
      (first | (go_keep; done) | (refine ⟨?_, ?_, ?_, ?_, ?_, ?_⟩ <;> (apply cq; (focus (repeat' (first | (with_reducible first | assumption | exact hpA _ _ _ rfl | refine hpN ?_ | refine hpD ?_) | ((with_reducible first | refine hpP ?_ ?_ | refine hpT ?_ ?_); (focus (first | omega | (simp [zA, zS, zD, zQ] <;> omega)))) | ((with_reducible refine hpA _ _ _ ?_); (focus (first | omega | (simp [zA, zS, zD, zQ] <;> omega)))) | ((with_reducible refine hpB ?_ ?_); (focus assumption)) | (with_reducible apply hpS)))); rfl)))
    refine tk 0 (v := ?_) rfl (by kernel_rfl) (fun _ _ _ h => h) (.inl ⟨by rfl, ?hy⟩) (by assumption) ?_
    case hy => (intro w q; (try dsimp only at q); (go_simp <;> with_reducible rfl))
    refine tk 1 (v := ?_) rfl (by kernel_rfl) (fun _ _ _ h => h) (.inl ⟨by rfl, ?hy⟩) (by assumption) ?_
    case hy => (intro w q; (try dsimp only at q); (go_simp <;> with_reducible rfl))
    refine tk 2 (v := ?_) rfl (by kernel_rfl) (fun _ _ _ h => h) (.inl ⟨by rfl, ?hy⟩) (by assumption) ?_
    case hy => (intro w q; (try dsimp only at q); (go_simp <;> with_reducible rfl))
    refine tk 3 (v := ?_) rfl (by kernel_rfl) (fun _ _ _ h => h) (.inl ⟨by rfl, ?hy⟩) (by assumption) ?_
    case hy => (intro w q; (try dsimp only at q); (go_simp <;> with_reducible rfl))
    refine tk 4 (v := ?_) rfl (by kernel_rfl) (fun _ _ _ h => h) (.inl ⟨by rfl, ?hy⟩) (by assumption) ?_
    case hy => (intro w q; (try dsimp only at q); (go_simp <;> with_reducible rfl))
    refine tk 5 (v := ?_) rfl (by kernel_rfl) (fun _ _ _ h => h) (.inl ⟨by rfl, ?hy⟩) (by assumption) ?_
    case hy => (intro w q; (try dsimp only at q); (go_simp <;> with_reducible rfl))
    refine tk 6 (v := ?_) rfl (by kernel_rfl) (fun _ _ _ h => h) (.inl ⟨by rfl, ?hy⟩) (by assumption) ?_
    case hy => (intro w q; (try dsimp only at q); (go_simp <;> with_reducible rfl))
    refine tk 7 (v := ?_) rfl (by kernel_rfl) (fun _ _ _ h => h) (.inl ⟨by rfl, ?hy⟩) (by assumption) ?_
    case hy => (intro w q; (try dsimp only at q); (go_simp <;> with_reducible rfl))
    refine wpAnyH_ready (rs := [8]) (by kernel_rfl) (by simp) ?_
    refine AllReadyH.cons rfl (fun K hK => ?_) AllReadyH.nil
    go_simp
    refine hK.out _ _ (by assumption) (fun hHeld => ?_)
    clear hK K
    try simp only [Act.put, gz, List.getElem_cons_succ, List.getElem_cons_zero, List.setIfInBounds_toArray, List.set_cons_zero, List.set_cons_succ]
    refine tk 9 (v := ?_) rfl (by kernel_rfl) (fun _ _ _ h => h) (.inl ⟨by rfl, ?hy⟩) (by assumption) ?_
    case hy => (intro w q; (try dsimp only at q); (go_simp <;> with_reducible rfl))
    refine wpAnyH_ready (rs := [10]) (by kernel_rfl) (by simp) ?_
    refine AllReadyH.cons rfl (fun K hK => ?_) AllReadyH.nil
    go_simp
    (first
      | (go_at_call 95; (refine (rset_calls (b := xb) (m := ⟨g, 0, none⟩) (pc := s.pc) (R := s.R) ⟨?_, H.out.m.2⟩ _ _ _ hrd).mono ?_); (focus (repeat' (first | (with_reducible first | assumption | exact hpA _ _ _ rfl | refine hpN ?_ | refine hpD ?_) | ((with_reducible first | refine hpP ?_ ?_ | refine hpT ?_ ?_); (focus (first | omega | (simp [zA, zS, zD, zQ] <;> omega)))) | ((with_reducible refine hpA _ _ _ ?_); (focus (first | omega | (simp [zA, zS, zD, zQ] <;> omega)))) | ((with_reducible refine hpB ?_ ?_); (focus assumption)) | (with_reducible apply hpS)))); rintro e w3 ⟨rfl, hM3, hB3⟩; apply but_block hB3 (n := w.heap.size + 1); (focus (simp; omega)); (focus (repeat' (first | (with_reducible first | assumption | exact hpA _ _ _ rfl | refine hpN ?_ | refine hpD ?_) | ((with_reducible first | refine hpP ?_ ?_ | refine hpT ?_ ?_); (focus (first | omega | (simp [zA, zS, zD, zQ] <;> omega)))) | ((with_reducible refine hpA _ _ _ ?_); (focus (first | omega | (simp [zA, zS, zD, zQ] <;> omega)))) | ((with_reducible refine hpB ?_ ?_); (focus assumption)) | (with_reducible apply hpS)))); intro z0 zf xr xz; simp at z0; apply but_block hB3 (n := w.heap.size + 1 + 1 + 1); (focus (simp; omega)); (focus (repeat' (first | (with_reducible first | assumption | exact hpA _ _ _ rfl | refine hpN ?_ | refine hpD ?_) | ((with_reducible first | refine hpP ?_ ?_ | refine hpT ?_ ?_); (focus (first | omega | (simp [zA, zS, zD, zQ] <;> omega)))) | ((with_reducible refine hpA _ _ _ ?_); (focus (first | omega | (simp [zA, zS, zD, zQ] <;> omega)))) | ((with_reducible refine hpB ?_ ?_); (focus assumption)) | (with_reducible apply hpS)))); intro z1 zf1 xe xz1; apply but_block hB3 (n := w.heap.size); (focus (simp; omega)); (focus (repeat' (first | (with_reducible first | assumption | exact hpA _ _ _ rfl | refine hpN ?_ | refine hpD ?_) | ((with_reducible first | refine hpP ?_ ?_ | refine hpT ?_ ?_); (focus (first | omega | (simp [zA, zS, zD, zQ] <;> omega)))) | ((with_reducible refine hpA _ _ _ ?_); (focus (first | omega | (simp [zA, zS, zD, zQ] <;> omega)))) | ((with_reducible refine hpB ?_ ?_); (focus assumption)) | (with_reducible apply hpS)))); intro z2 zf2 xi xz2; clear z1 z2 zf1 zf2))
    refine hK.out _ _ ?_ (fun hHeld => ?_)
    · (try dsimp only)
      (first | (go_keep; done) | (refine ⟨?_, ?_, ?_, ?_, ?_, ?_⟩ <;> (apply cq; (focus (repeat' (first | (with_reducible first | assumption | exact hpA _ _ _ rfl | refine hpN ?_ | refine hpD ?_) | ((with_reducible first | refine hpP ?_ ?_ | refine hpT ?_ ?_); (focus (first | omega | (simp [zA, zS, zD, zQ] <;> omega)))) | ((with_reducible refine hpA _ _ _ ?_); (focus (first | omega | (simp [zA, zS, zD, zQ] <;> omega)))) | ((with_reducible refine hpB ?_ ?_); (focus assumption)) | (with_reducible apply hpS)))); rfl)))
    clear hK K
    try simp only [Act.put, gz, List.getElem_cons_succ, List.getElem_cons_zero, List.setIfInBounds_toArray, List.set_cons_zero, List.set_cons_succ]
    refine wpAnyH_ready (rs := [11]) (by kernel_rfl) (by simp) ?_
    refine AllReadyH.cons rfl (fun K hK => ?_) AllReadyH.nil
    go_simp
    refine hK.out _ _ ?_ (fun hHeld => ?_)
    · (try dsimp only)
      (first | (go_keep; done) | (refine ⟨?_, ?_, ?_, ?_, ?_, ?_⟩ <;> (apply cq; (focus (repeat' (first | (with_reducible first | assumption | exact hpA _ _ _ rfl | refine hpN ?_ | refine hpD ?_) | ((with_reducible first | refine hpP ?_ ?_ | refine hpT ?_ ?_); (focus (first | omega | (simp [zA, zS, zD, zQ] <;> omega)))) | ((with_reducible refine hpA _ _ _ ?_); (focus (first | omega | (simp [zA, zS, zD, zQ] <;> omega)))) | ((with_reducible refine hpB ?_ ?_); (focus assumption)) | (with_reducible apply hpS)))); rfl)))
    clear hK K
    try simp only [Act.put, gz, List.getElem_cons_succ, List.getElem_cons_zero, List.setIfInBounds_toArray, List.set_cons_zero, List.set_cons_succ]
    refine tk 12 (v := ?_) rfl (by kernel_rfl) (fun _ _ _ h => h) (.inl ⟨by rfl, ?hy⟩) (by assumption) ?_
    case hy => (intro w q; (try dsimp only at q); (go_simp <;> with_reducible rfl))
    try simp only [Act.put, gz, List.getElem_cons_succ, List.getElem_cons_zero, List.setIfInBounds_toArray, List.set_cons_zero, List.set_cons_succ]
    refine wpAnyH_done (by kernel_rfl) ?_ _
    go_wp2
    show bodyPost _ _ (fun e w' => e = .returned (.tuple #[evdid r.1, .int .i64 r.2.1]) ∧ RKeep xb g base K F r.2.2 L v w w') _ _ _
    refine post_res (B := fun w' => RKeep xb g base K F r.2.2 L v w w') ?_ rfl ?_
    · rw [← Hr.out]
      have kp := rkeep_put (s' := s.put rd z) H.out (X := _) (by (repeat' (first | (with_reducible first | exact Below.refl _ _ | refine blQ ?_ _ | refine Below.drew ?_ | refine blO ?_ (by assumption) | refine Below.alloc ?_ ?_ _ | refine Below.setCell ?_ ?_ _ | refine Below.frame ?_ _) | omega | (simp only [zA, zS, zD, zQ]; omega)))) hB3 hM3 (H.out.ok.put _ _ Hz.out) rfl
      exact rkeep_fresh (k0 := w.heap.size + 1) kp hlb hlg (by omega) (fun c t fr hc => by rw [xr] at hc; injection hc with hc; injection hc with _ hc _; rw [← hc]; decide) ⟨_, _, _, xr⟩ (by repeat (first | exact But.refl _ _ | refine But.set ?_ _ _ (.inl (by simp))))
    · rw [← Hr.out]
      apply res_at (n := w.heap.size + 1)
      (focus (repeat' (first | (with_reducible first | assumption | exact hpA _ _ _ rfl | refine hpN ?_ | refine hpD ?_) | ((with_reducible first | refine hpP ?_ ?_ | refine hpT ?_ ?_); (focus (first | omega | (simp [zA, zS, zD, zQ] <;> omega)))) | ((with_reducible refine hpA _ _ _ ?_); (focus (first | omega | (simp [zA, zS, zD, zQ] <;> omega)))) | ((with_reducible refine hpB ?_ ?_); (focus assumption)) | (with_reducible apply hpS))))
      intro W' cw
      simp at cw
      simp [results, Try.results97, go_sem, evdid, cw]
  · rw [if_neg q]
    have q1 : (t != 0) = true := by simpa using q
    obtain ⟨r, hr'⟩ : ∃ r : Did × Int × St, (no, t, s) = r := ⟨_, rfl⟩
    rw [hr']
    have Hr := Lib.hid hr'
    clear hr' h hbd2 q
    go_enter Try.func97, Try.ntmps97
    go_wp2_with (first
      | (go_at_call 44; (with_reducible refine (Hl.out _ ?_).mono ?_); (focus (repeat' (first | (with_reducible first | exact Below.refl _ _ | refine blQ ?_ _ | refine Below.drew ?_ | refine blO ?_ (by assumption) | refine Below.alloc ?_ ?_ _ | refine Below.setCell ?_ ?_ _ | refine Below.frame ?_ _) | omega | (simp only [zA, zS, zD, zQ]; omega)))); rintro e w' ⟨rfl, n1, rfl⟩))
    show bodyPost _ _ (fun e w' => e = .returned (.tuple #[evdid r.1, .int .i64 r.2.1]) ∧ RKeep xb g base K F r.2.2 L v w w') _ _ _
    refine post_res (B := fun w' => RKeep xb g base K F r.2.2 L v w w') ?_ rfl ?_
    · rw [← Hr.out]
      exact rkeep_same H.out (by (repeat' (first | (with_reducible first | exact Below.refl _ _ | refine blQ ?_ _ | refine Below.drew ?_ | refine blO ?_ (by assumption) | refine Below.alloc ?_ ?_ _ | refine Below.setCell ?_ ?_ _ | refine Below.frame ?_ _) | omega | (simp only [zA, zS, zD, zQ]; omega))))
    · rw [← Hr.out]
      apply res_at (n := w.heap.size + 1)
      (focus (repeat' (first | (with_reducible first | assumption | exact hpA _ _ _ rfl | refine hpN ?_ | refine hpD ?_) | ((with_reducible first | refine hpP ?_ ?_ | refine hpT ?_ ?_); (focus (first | omega | (simp [zA, zS, zD, zQ] <;> omega)))) | ((with_reducible refine hpA _ _ _ ?_); (focus (first | omega | (simp [zA, zS, zD, zQ] <;> omega)))) | ((with_reducible refine hpB ?_ ?_); (focus assumption)) | (with_reducible apply hpS))))
      intro W' cw
      simp at cw
      simp [results, Try.results97, go_sem, evdid, no, cw]
end Go.Proofs.Ytioopcilcgebeaa.CpuA
