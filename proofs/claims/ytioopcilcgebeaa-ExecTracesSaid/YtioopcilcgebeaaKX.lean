/- Proofs of this claim's family, merged: RxBc, RxBd. -/
import Derived.Test.YtioopcilcgebeaaKT
set_option linter.unusedVariables false
set_option linter.unusedSimpArgs false
/-! #### RxBc -/
namespace Go.Proofs.Ytioopcilcgebeaa.CpuA
open Go.RowKit Go.Proofs.Ytioopcilcgebeaa.Base Go.Proofs.Ytioopcilcgebeaa.AluP Go.Proofs.Ytioopcilcgebeaa.InstS Go.Proofs.YtioopcilcgebeaaW.PrintWords

/-! A block, and what lies below, in a world that is written out: the tactic is the hypothesis' own. -/
theorem hpZ {w : World} {n : Nat} {o : Obj} (h : w.heap[n]? = some o := by (repeat' (first | (with_reducible first | assumption | exact hpA _ _ _ rfl | refine hpN ?_ | refine hpD ?_) | ((with_reducible first | refine hpP ?_ ?_ | refine hpT ?_ ?_); (focus (first | omega | (simp [zA, zS, zD, zQ] <;> omega)))) | ((with_reducible refine hpA _ _ _ ?_); (focus (first | omega | (simp [zA, zS, zD, zQ] <;> omega)))) | ((with_reducible refine hpB ?_ ?_); (focus assumption)) | (with_reducible apply hpS)))) : w.heap[n]? = some o := h
theorem blZ {B : Nat} {a b : World} (h : Below B a b := by (repeat' (first | (with_reducible first | exact Below.refl _ _ | refine blQ ?_ _ | refine Below.drew ?_ | refine blO ?_ (by assumption) | refine Below.alloc ?_ ?_ _ | refine Below.setCell ?_ ?_ _ | refine Below.frame ?_ _) | omega | (simp only [zA, zS, zD, zQ]; omega)))) : Below B a b := h
theorem row_fresh {g base : Nat} {K : Bk} {L : List (Int × Int)} {v : Value} {w : World} (h : RM g base K L v w) {n : Nat} (hn : w.heap.size ≤ n) : n ∉ g :: rowL v := by
  intro hm
  rcases List.mem_cons.1 hm with rfl | hm
  · have := lt_of_heap h.mem; omega
  · rcases h.row.2 with ⟨rfl, _⟩ | ⟨r, cap, cur, rfl, hb, hr, _⟩
    · simp [rowL, Value.ownBlock] at hm
    · simp only [rowL, Value.ownBlock, List.mem_singleton] at hm
      subst hm
      have := lt_of_heap hr; omega
theorem rkeep_wrote {xb g base : Nat} {K : Bk} {F : List Int} {s s' : St} {L l : List (Int × Int)} {v v' : Value} {w X w1 w3 : World} (h : RBox xb g base K F s L v w) (hX : Below w.heap.size w X) (hM : RM g base K (L ++ l) v' w1) (hW : But (g :: rowL v) X w1) (hR : ∀ r ∈ rowL v', r ∈ rowL v ∨ X.heap.size ≤ r)
    (hl : l.length ≤ 4) (hm : IsX xb ⟨g, 0, none⟩ s'.pc s'.R w3) (hB : But [xb] w1 w3) (ok : StOk K s') (rel : Rel K F s'.M (L ++ l)) : RKeep xb g base K F s' L v w w3 := by
  have hx : xb ∉ g :: rowL v := by
    intro hm; rcases List.mem_cons.1 hm with hm | hm
    · exact h.xg hm
    · exact h.xr hm
  have x1 := hW.heap hx (h.below hX).m.1
  have hz := hX.size
  refine ⟨L ++ l, v', ⟨hm, hM.but hB (by simpa using Ne.symm h.xg) (fun k hk => by rintro hq; rw [List.mem_singleton] at hq; subst hq; exact hM.ne x1 (by decide) hk), rel, ok, h.fl, h.fb, h.can, ?_⟩, by rw [List.length_append]; omega, ?_, ?_⟩
  · exact Nat.le_trans h.base_ (Nat.le_trans hz (Nat.le_trans hW.size hB.size))
  · exact ((But.of_below hX).trans (hW.mono (fun k hk => List.mem_cons_of_mem _ hk))).trans (hB.mono (by simp))
  · intro r hr
    rcases hR r hr with hr | hr
    · exact .inl hr
    · exact .inr (Nat.le_trans hz hr)
set_option maxHeartbeats 8000000 in
set_option maxRecDepth 100000 in
theorem rmem_33 {xb g base : Nat} {K : Bk} {F : List Int} {s : St} {L : List (Int × Int)} {v : Value} {w : World} (h : RBox xb g base K F s L v w) (hL : L.length ≤ 1000000000) (rd rs1 rs2 imm at_ : Int) (hrs : 0 ≤ rs2 ∧ rs2 < 32) (ha : 0 ≤ at_ ∧ at_ < 4294967296) :
    Calls Try.prog 97 #[.pointer (some ⟨xb, 0, none⟩), .agg #[.int .i64 33, .int .i64 rd, .int .i64 rs1, .int .i64 rs2, .int .i32 imm], .int .u32 at_] w (RDPost xb g base K F (storesA K 33 rs2 at_ s) L v w) := by
  have hr2 := h.ok.reg rs2
  have c2 := cell_of_heap h.m.1 (2 + rs2.toNat)
  rw [mcells_reg _ _ _ _ (by rw [h.m.2]; omega)] at c2
  have ea2 : s.R.getD rs2.toNat 0 = s.reg rs2 := rfl
  rw [ea2] at c2
  clear ea2
  have d3 : decide (rs2 < 0) = false := decide_eq_false (by omega)
  have d4 : decide (32 ≤ rs2) = false := decide_eq_false (by omega)
  have c0 := cell_of_heap h.m.1 0
  rw [mcells_mem] at c0
  have c1 := cell_of_heap h.m.1 1
  rw [mcells_pc] at c1
  have hlb := lt_of_heap h.m.1
  have hlg := lt_of_heap h.mem.mem
  have nb : ¬ w.heap.size = xb := by omega
  have nb1 : xb < w.heap.size + 1 := by omega
  have nb2 : xb < w.heap.size + 1 + 1 := by omega
  have nb3 : xb < w.heap.size + 1 + 1 + 1 := by omega
  have nb4 : xb < w.heap.size + 2 := by omega
  have nb5 : xb < w.heap.size + 3 := by omega
  have H := Lib.hid h
  have hb' : w.heap[xb]? = some (.cells (mcells ⟨g, 0, none⟩ s.pc s.R) 89 (0, 0)) := h.m.1
  have Hx := Lib.hid (show xb ∉ g :: rowL v from by intro hm; rcases List.mem_cons.1 hm with hm | hm; (exact h.xg hm); (exact h.xr hm))
  have Hn := Lib.hid (fun n (hn : w.heap.size ≤ n) => row_fresh h.mem hn)
  have Hrel := Lib.hid (rel_store h.can h.ok.ml h.rel at_ (s.reg rs2) 1)
  have Hlen := Lib.hid (rstoreS_len K at_ (s.reg rs2) 1)
  have hok := Lib.hid (h.ok.mem at_ (s.reg rs2) 1)
  have Hl := Lib.hid (fun (W : World) (hB : Below w.heap.size w W) => (show Calls Try.prog 129 #[.pointer (some ⟨g, 0, none⟩), .int .u32 at_, .int .i64 1, .int .u32 (s.reg rs2)] W _ from rstore_calls (h.mem.below hB) h.can (Nat.le_trans h.base_ hB.size) hL at_ (s.reg rs2) ha hr2 1 (by omega)))
  have hR : storesA K 33 rs2 at_ s = if (storeS K s.M at_ (s.reg rs2) 1).1 = 0 then (⟨2, at_, 1⟩, 0, St.put ⟨s.pc, s.R, (storeS K s.M at_ (s.reg rs2) 1).2⟩ 0 0) else (no, (storeS K s.M at_ (s.reg rs2) 1).1, s) := rfl
  rw [hR]
  clear hR
  have hM' : (storeS K s.M at_ (s.reg rs2) 1).1 ≠ 0 → (storeS K s.M at_ (s.reg rs2) 1).2 = s.M := by
    unfold storeS
    split
    · split
      · exact fun h => absurd rfl h
      · exact fun _ => rfl
    · exact fun _ => rfl
  generalize s.reg rs2 = z at *
  generalize storeS K s.M at_ z 1 = vt at *
  generalize rstoreS K at_ z 1 = vr at *
  obtain ⟨t, M'⟩ := vt
  obtain ⟨t', wl⟩ := vr
  have htt := Hrel.out.1
  dsimp only at *
  subst htt
  by_cases q : t = 0
  · subst q
    rw [if_pos rfl]
    obtain ⟨r, hr'⟩ : ∃ r : Did × Int × St, (⟨2, at_, 1⟩, 0, St.put ⟨s.pc, s.R, M'⟩ 0 0) = r := ⟨_, rfl⟩
    rw [hr']
    have Hr := Lib.hid hr'
    clear hr' h hM'
    go_enter Try.func97, Try.ntmps97
    go_wp2
    refine region_tail (fun n => ((((w.alloc _).alloc _).alloc _).alloc _).drewN n) 13 rfl (by kernel_rfl) ⟨1, rfl⟩ ?_
    simp only [List.take_succ_cons, List.take_zero, List.drop_succ_cons, List.drop_zero]
    repeat (go_big_quiet_step (fail))
    refine wpQuiet_nil ?_
    intro n2
    go_wp2_with (first
      | (go_at_call 129; (refine (Hl.out _ (by (exact blZ))).mono ?_); rintro e w1 ⟨rfl, v', hM, hB, hR⟩; have HM := Lib.hid hM; have HRr := Lib.hid hR; have HB1 := Lib.hid hB; clear hM hR; apply but_block hB (n := xb) Hx.out; (focus (exact hpZ)); intro zx zfx xx xzx; (have cx : w1.cell? ⟨xb, 1, none⟩ = some (.int .u32 s.pc) := (zx 1).trans (mcells_pc _ _ _)); clear zx zfx; apply but_block hB (n := w.heap.size + 1) (Hn.out _ (by omega)); (focus (exact hpZ)); intro y0 yf yr yz; simp at y0; apply but_block hB (n := w.heap.size + 1 + 1 + 1) (Hn.out _ (by omega)); (focus (exact hpZ)); intro y1 yf1 ye yz1; simp at y1; clear hB))
    refine wp_region_held_drew (S := (fun u => u.cell? ⟨w.heap.size + 1 + 1 + 1, 0, none⟩ = some (.int .u32 0) ∧ u.cell? ⟨w.heap.size + 1 + 1 + 1, 1, none⟩ = some (.int .u32 0) ∧ u.cell? ⟨w.heap.size + 1 + 1 + 1, 2, none⟩ = some (.int .i64 2) ∧ u.cell? ⟨w.heap.size + 1 + 1 + 1, 3, none⟩ = some (.int .u32 at_) ∧ u.cell? ⟨w.heap.size + 1 + 1 + 1, 4, none⟩ = some (.int .i64 1))) (by kernel_rfl) ?_ (fun hHeld => ?_)
    · (try dsimp only)
      (first | (go_keep; done) | (refine ⟨?_, ?_, ?_, ?_, ?_⟩ <;> (apply cq; (focus (exact hpZ)); rfl)))
    refine tk 0 (v := ?_) rfl (by kernel_rfl) (fun _ _ _ h => h) (.inl ⟨by rfl, ?hy⟩) (by assumption) ?_
    case hy => (intro w q; (try dsimp only at q); (go_simp <;> with_reducible rfl))
    refine tk 1 (v := ?_) rfl (by kernel_rfl) (fun _ _ _ h => h) (.inl ⟨by rfl, ?hy⟩) (by assumption) ?_
    case hy => (intro w q; (try dsimp only at q); (go_simp <;> with_reducible rfl))
    refine tk 2 (v := ?_) rfl (by kernel_rfl) (fun _ _ _ h => h) (.inl ⟨by rfl, ?hy⟩) (by assumption) ?_
    case hy => (intro w q; (try dsimp only at q); (go_simp <;> with_reducible rfl))
    refine tk 3 (v := ?_) rfl (by kernel_rfl) (fun _ _ _ h => h) (.inl ⟨by rfl, ?hy⟩) (by assumption) ?_
    case hy => (intro w q; (try dsimp only at q); (go_simp <;> with_reducible rfl))
    refine tk 4 (v := ?_) rfl (by kernel_rfl) (fun _ _ _ h => h) (.inl ⟨by rfl, ?hy⟩) (by assumption) ?_
    case hy => (intro w q; (try dsimp only at q); (go_simp <;> with_reducible rfl))
    refine wpAnyH_ready (rs := [5]) (by kernel_rfl) (by simp) ?_
    refine AllReadyH.cons rfl (fun K hK => ?_) AllReadyH.nil
    go_simp
    refine hK.out _ _ (by assumption) (fun hHeld => ?_)
    clear hK K
    try simp only [Act.put, gz, List.getElem_cons_succ, List.getElem_cons_zero, List.setIfInBounds_toArray, List.set_cons_zero, List.set_cons_succ]
    refine tk 6 (v := ?_) rfl (by kernel_rfl) (fun _ _ _ h => h) (.inl ⟨by rfl, ?hy⟩) (by assumption) ?_
    case hy => (intro w q; (try dsimp only at q); (go_simp <;> with_reducible rfl))
    refine wpAnyH_ready (rs := [7]) (by kernel_rfl) (by simp) ?_
    refine AllReadyH.cons rfl (fun K hK => ?_) AllReadyH.nil
    go_simp
    (first
      | (go_at_call 95; (refine (rset_calls (b := xb) (m := ⟨g, 0, none⟩) (pc := s.pc) (R := s.R) ⟨?_, H.out.m.2⟩ _ _ _ (by omega)).mono ?_); (focus (exact hpZ)); rintro e w3 ⟨rfl, hM3, hB3⟩; apply but_block hB3 (n := w.heap.size + 1); (focus (simp; omega)); (focus (exact hpZ)); intro z0 zf xr xz; simp at z0; apply but_block hB3 (n := w.heap.size + 1 + 1 + 1); (focus (simp; omega)); (focus (exact hpZ)); intro z1 zf1 xe xz1; clear z1 zf1))
    refine hK.out _ _ ?_ (fun hHeld => ?_)
    · (try dsimp only)
      (first | (go_keep; done) | (refine ⟨?_, ?_, ?_, ?_, ?_⟩ <;> (apply cq; (focus (exact hpZ)); rfl)))
    clear hK K
    try simp only [Act.put, gz, List.getElem_cons_succ, List.getElem_cons_zero, List.setIfInBounds_toArray, List.set_cons_zero, List.set_cons_succ]
    refine wpAnyH_ready (rs := [8]) (by kernel_rfl) (by simp) ?_
    refine AllReadyH.cons rfl (fun K hK => ?_) AllReadyH.nil
    go_simp
    refine hK.out _ _ ?_ (fun hHeld => ?_)
    · (try dsimp only)
      (first | (go_keep; done) | (refine ⟨?_, ?_, ?_, ?_, ?_⟩ <;> (apply cq; (focus (exact hpZ)); rfl)))
    clear hK K
    try simp only [Act.put, gz, List.getElem_cons_succ, List.getElem_cons_zero, List.setIfInBounds_toArray, List.set_cons_zero, List.set_cons_succ]
    refine tk 9 (v := ?_) rfl (by kernel_rfl) (fun _ _ _ h => h) (.inl ⟨by rfl, ?hy⟩) (by assumption) ?_
    case hy => (intro w q; (try dsimp only at q); (go_simp <;> with_reducible rfl))
    try simp only [Act.put, gz, List.getElem_cons_succ, List.getElem_cons_zero, List.setIfInBounds_toArray, List.set_cons_zero, List.set_cons_succ]
    refine wpAnyH_done (by kernel_rfl) ?_ _
    go_wp2
    show bodyPost _ _ (fun e w' => e = .returned (.tuple #[evdid r.1, .int .i64 r.2.1]) ∧ RKeep xb g base K F r.2.2 L v w w') _ _ _
    refine post_res (B := fun w' => RKeep xb g base K F r.2.2 L v w w') ?_ rfl ?_
    · rw [← Hr.out]
      have kp := rkeep_wrote (s' := St.put ⟨s.pc, s.R, M'⟩ 0 0) H.out (X := _) (by (exact blZ)) HM.out HB1.out HRr.out (Nat.le_trans Hlen.out (by omega)) hM3 (But.trans (l := [xb]) (b := _) (But.of_below (by (exact blZ))) hB3) (hok.out.put _ _ (by omega)) Hrel.out.2
      exact rkeep_fresh (k0 := w.heap.size + 1) kp hlb hlg (by omega) (fun c t fr hc => by rw [xr] at hc; injection hc with hc; injection hc with _ hc _; rw [← hc]; decide) ⟨_, _, _, xr⟩ (by repeat (first | exact But.refl _ _ | refine But.set ?_ _ _ (.inl (by simp))))
    · rw [← Hr.out]
      apply res_at (n := w.heap.size + 1)
      (focus (exact hpZ))
      intro W' cw
      simp at cw
      simp [results, Try.results97, go_sem, evdid, cw]
  · rw [if_neg q]
    have q1 : (t != 0) = true := by simpa using q
    have hMM := hM' q
    have Hq := Lib.hid q
    obtain ⟨r, hr'⟩ : ∃ r : Did × Int × St, (no, t, s) = r := ⟨_, rfl⟩
    rw [hr']
    have Hr := Lib.hid hr'
    have HMM := Lib.hid hMM
    clear hr' h hM' q hMM
    go_enter Try.func97, Try.ntmps97
    go_wp2
    refine region_tail (fun n => ((((w.alloc _).alloc _).alloc _).alloc _).drewN n) 13 rfl (by kernel_rfl) ⟨1, rfl⟩ ?_
    simp only [List.take_succ_cons, List.take_zero, List.drop_succ_cons, List.drop_zero]
    repeat (go_big_quiet_step (fail))
    refine wpQuiet_nil ?_
    intro n2
    go_wp2_with (first
      | (go_at_call 129; (refine (Hl.out _ (by (exact blZ))).mono ?_); rintro e w1 ⟨rfl, v', hM, hB, hR⟩; have HM := Lib.hid hM; have HRr := Lib.hid hR; have HB1 := Lib.hid hB; clear hM hR; apply but_block hB (n := xb) Hx.out; (focus (exact hpZ)); intro zx zfx xx xzx; clear zx zfx; apply but_block hB (n := w.heap.size + 1) (Hn.out _ (by omega)); (focus (exact hpZ)); intro y0 yf yr yz; simp at y0; clear hB))
    show bodyPost _ _ (fun e w' => e = .returned (.tuple #[evdid r.1, .int .i64 r.2.1]) ∧ RKeep xb g base K F r.2.2 L v w w') _ _ _
    refine post_res (B := fun w' => RKeep xb g base K F r.2.2 L v w w') ?_ rfl ?_
    · rw [← Hr.out]
      have kp := rkeep_wrote (s' := s) H.out (X := _) (by (exact blZ)) HM.out HB1.out HRr.out (Nat.le_trans Hlen.out (by omega)) ⟨xx, H.out.m.2⟩ (But.refl _ _) H.out.ok (by have := Hrel.out.2; rw [HMM.out] at this; exact this)
      exact rkeep_fresh (k0 := w.heap.size + 1) kp hlb hlg (by omega) (fun c t fr hc => by rw [yr] at hc; injection hc with hc; injection hc with _ hc _; rw [← hc]; decide) ⟨_, _, _, yr⟩ (by repeat (first | exact But.refl _ _ | refine But.set ?_ _ _ (.inl (by simp))))
    · rw [← Hr.out]
      apply res_at (n := w.heap.size + 1)
      (focus (exact hpZ))
      intro W' cw
      simp at cw
      simp [results, Try.results97, go_sem, evdid, no, cw]
end Go.Proofs.Ytioopcilcgebeaa.CpuA
/-! #### RxBd -/
namespace Go.Proofs.Ytioopcilcgebeaa.CpuA
open Go.RowKit Go.Proofs.Ytioopcilcgebeaa.Base Go.Proofs.Ytioopcilcgebeaa.AluP Go.Proofs.Ytioopcilcgebeaa.InstS Go.Proofs.YtioopcilcgebeaaW.PrintWords

set_option maxHeartbeats 8000000 in
set_option maxRecDepth 100000 in
theorem rmem_34 {xb g base : Nat} {K : Bk} {F : List Int} {s : St} {L : List (Int × Int)} {v : Value} {w : World} (h : RBox xb g base K F s L v w) (hL : L.length ≤ 1000000000) (rd rs1 rs2 imm at_ : Int) (hrs : 0 ≤ rs2 ∧ rs2 < 32) (ha : 0 ≤ at_ ∧ at_ < 4294967296) :
    Calls Try.prog 97 #[.pointer (some ⟨xb, 0, none⟩), .agg #[.int .i64 34, .int .i64 rd, .int .i64 rs1, .int .i64 rs2, .int .i32 imm], .int .u32 at_] w (RDPost xb g base K F (storesA K 34 rs2 at_ s) L v w) := by
  have hr2 := h.ok.reg rs2
  have c2 := cell_of_heap h.m.1 (2 + rs2.toNat)
  rw [mcells_reg _ _ _ _ (by rw [h.m.2]; omega)] at c2
  have ea2 : s.R.getD rs2.toNat 0 = s.reg rs2 := rfl
  rw [ea2] at c2
  clear ea2
  have d3 : decide (rs2 < 0) = false := decide_eq_false (by omega)
  have d4 : decide (32 ≤ rs2) = false := decide_eq_false (by omega)
  have c0 := cell_of_heap h.m.1 0
  rw [mcells_mem] at c0
  have c1 := cell_of_heap h.m.1 1
  rw [mcells_pc] at c1
  have hlb := lt_of_heap h.m.1
  have hlg := lt_of_heap h.mem.mem
  have nb : ¬ w.heap.size = xb := by omega
  have nb1 : xb < w.heap.size + 1 := by omega
  have nb2 : xb < w.heap.size + 1 + 1 := by omega
  have nb3 : xb < w.heap.size + 1 + 1 + 1 := by omega
  have nb4 : xb < w.heap.size + 2 := by omega
  have nb5 : xb < w.heap.size + 3 := by omega
  have H := Lib.hid h
  have hb' : w.heap[xb]? = some (.cells (mcells ⟨g, 0, none⟩ s.pc s.R) 89 (0, 0)) := h.m.1
  have Hx := Lib.hid (show xb ∉ g :: rowL v from by intro hm; rcases List.mem_cons.1 hm with hm | hm; (exact h.xg hm); (exact h.xr hm))
  have Hn := Lib.hid (fun n (hn : w.heap.size ≤ n) => row_fresh h.mem hn)
  have Hrel := Lib.hid (rel_store h.can h.ok.ml h.rel at_ (s.reg rs2) 2)
  have Hlen := Lib.hid (rstoreS_len K at_ (s.reg rs2) 2)
  have hok := Lib.hid (h.ok.mem at_ (s.reg rs2) 2)
  have Hl := Lib.hid (fun (W : World) (hB : Below w.heap.size w W) => (show Calls Try.prog 129 #[.pointer (some ⟨g, 0, none⟩), .int .u32 at_, .int .i64 2, .int .u32 (s.reg rs2)] W _ from rstore_calls (h.mem.below hB) h.can (Nat.le_trans h.base_ hB.size) hL at_ (s.reg rs2) ha hr2 2 (by omega)))
  have hR : storesA K 34 rs2 at_ s = if (storeS K s.M at_ (s.reg rs2) 2).1 = 0 then (⟨2, at_, 2⟩, 0, St.put ⟨s.pc, s.R, (storeS K s.M at_ (s.reg rs2) 2).2⟩ 0 0) else (no, (storeS K s.M at_ (s.reg rs2) 2).1, s) := rfl
  rw [hR]
  clear hR
  have hM' : (storeS K s.M at_ (s.reg rs2) 2).1 ≠ 0 → (storeS K s.M at_ (s.reg rs2) 2).2 = s.M := by
    unfold storeS
    split
    · split
      · exact fun h => absurd rfl h
      · exact fun _ => rfl
    · exact fun _ => rfl
  generalize s.reg rs2 = z at *
  generalize storeS K s.M at_ z 2 = vt at *
  generalize rstoreS K at_ z 2 = vr at *
  obtain ⟨t, M'⟩ := vt
  obtain ⟨t', wl⟩ := vr
  have htt := Hrel.out.1
  dsimp only at *
  subst htt
  by_cases q : t = 0
  · subst q
    rw [if_pos rfl]
    obtain ⟨r, hr'⟩ : ∃ r : Did × Int × St, (⟨2, at_, 2⟩, 0, St.put ⟨s.pc, s.R, M'⟩ 0 0) = r := ⟨_, rfl⟩
    rw [hr']
    have Hr := Lib.hid hr'
    clear hr' h hM'
    go_enter Try.func97, Try.ntmps97
    go_wp2
    refine region_tail (fun n => ((((w.alloc _).alloc _).alloc _).alloc _).drewN n) 13 rfl (by kernel_rfl) ⟨1, rfl⟩ ?_
    simp only [List.take_succ_cons, List.take_zero, List.drop_succ_cons, List.drop_zero]
    repeat (go_big_quiet_step (fail))
    refine wpQuiet_nil ?_
    intro n2
    go_wp2_with (first
      | (go_at_call 129; (refine (Hl.out _ (by (exact blZ))).mono ?_); rintro e w1 ⟨rfl, v', hM, hB, hR⟩; have HM := Lib.hid hM; have HRr := Lib.hid hR; have HB1 := Lib.hid hB; clear hM hR; apply but_block hB (n := xb) Hx.out; (focus (exact hpZ)); intro zx zfx xx xzx; (have cx : w1.cell? ⟨xb, 1, none⟩ = some (.int .u32 s.pc) := (zx 1).trans (mcells_pc _ _ _)); clear zx zfx; apply but_block hB (n := w.heap.size + 1) (Hn.out _ (by omega)); (focus (exact hpZ)); intro y0 yf yr yz; simp at y0; apply but_block hB (n := w.heap.size + 1 + 1 + 1) (Hn.out _ (by omega)); (focus (exact hpZ)); intro y1 yf1 ye yz1; simp at y1; clear hB))
    refine wp_region_held_drew (S := (fun u => u.cell? ⟨w.heap.size + 1 + 1 + 1, 0, none⟩ = some (.int .u32 0) ∧ u.cell? ⟨w.heap.size + 1 + 1 + 1, 1, none⟩ = some (.int .u32 0) ∧ u.cell? ⟨w.heap.size + 1 + 1 + 1, 2, none⟩ = some (.int .i64 2) ∧ u.cell? ⟨w.heap.size + 1 + 1 + 1, 3, none⟩ = some (.int .u32 at_) ∧ u.cell? ⟨w.heap.size + 1 + 1 + 1, 4, none⟩ = some (.int .i64 2))) (by kernel_rfl) ?_ (fun hHeld => ?_)
    · (try dsimp only)
      (first | (go_keep; done) | (refine ⟨?_, ?_, ?_, ?_, ?_⟩ <;> (apply cq; (focus (exact hpZ)); rfl)))
    refine tk 0 (v := ?_) rfl (by kernel_rfl) (fun _ _ _ h => h) (.inl ⟨by rfl, ?hy⟩) (by assumption) ?_
    case hy => (intro w q; (try dsimp only at q); (go_simp <;> with_reducible rfl))
    refine tk 1 (v := ?_) rfl (by kernel_rfl) (fun _ _ _ h => h) (.inl ⟨by rfl, ?hy⟩) (by assumption) ?_
    case hy => (intro w q; (try dsimp only at q); (go_simp <;> with_reducible rfl))
    refine tk 2 (v := ?_) rfl (by kernel_rfl) (fun _ _ _ h => h) (.inl ⟨by rfl, ?hy⟩) (by assumption) ?_
    case hy => (intro w q; (try dsimp only at q); (go_simp <;> with_reducible rfl))
    refine tk 3 (v := ?_) rfl (by kernel_rfl) (fun _ _ _ h => h) (.inl ⟨by rfl, ?hy⟩) (by assumption) ?_
    case hy => (intro w q; (try dsimp only at q); (go_simp <;> with_reducible rfl))
    refine tk 4 (v := ?_) rfl (by kernel_rfl) (fun _ _ _ h => h) (.inl ⟨by rfl, ?hy⟩) (by assumption) ?_
    case hy => (intro w q; (try dsimp only at q); (go_simp <;> with_reducible rfl))
    refine wpAnyH_ready (rs := [5]) (by kernel_rfl) (by simp) ?_
    refine AllReadyH.cons rfl (fun K hK => ?_) AllReadyH.nil
    go_simp
    refine hK.out _ _ (by assumption) (fun hHeld => ?_)
    clear hK K
    try simp only [Act.put, gz, List.getElem_cons_succ, List.getElem_cons_zero, List.setIfInBounds_toArray, List.set_cons_zero, List.set_cons_succ]
    refine tk 6 (v := ?_) rfl (by kernel_rfl) (fun _ _ _ h => h) (.inl ⟨by rfl, ?hy⟩) (by assumption) ?_
    case hy => (intro w q; (try dsimp only at q); (go_simp <;> with_reducible rfl))
    refine wpAnyH_ready (rs := [7]) (by kernel_rfl) (by simp) ?_
    refine AllReadyH.cons rfl (fun K hK => ?_) AllReadyH.nil
    go_simp
    (first
      | (go_at_call 95; (refine (rset_calls (b := xb) (m := ⟨g, 0, none⟩) (pc := s.pc) (R := s.R) ⟨?_, H.out.m.2⟩ _ _ _ (by omega)).mono ?_); (focus (exact hpZ)); rintro e w3 ⟨rfl, hM3, hB3⟩; apply but_block hB3 (n := w.heap.size + 1); (focus (simp; omega)); (focus (exact hpZ)); intro z0 zf xr xz; simp at z0; apply but_block hB3 (n := w.heap.size + 1 + 1 + 1); (focus (simp; omega)); (focus (exact hpZ)); intro z1 zf1 xe xz1; clear z1 zf1))
    refine hK.out _ _ ?_ (fun hHeld => ?_)
    · (try dsimp only)
      (first | (go_keep; done) | (refine ⟨?_, ?_, ?_, ?_, ?_⟩ <;> (apply cq; (focus (exact hpZ)); rfl)))
    clear hK K
    try simp only [Act.put, gz, List.getElem_cons_succ, List.getElem_cons_zero, List.setIfInBounds_toArray, List.set_cons_zero, List.set_cons_succ]
    refine wpAnyH_ready (rs := [8]) (by kernel_rfl) (by simp) ?_
    refine AllReadyH.cons rfl (fun K hK => ?_) AllReadyH.nil
    go_simp
    refine hK.out _ _ ?_ (fun hHeld => ?_)
    · (try dsimp only)
      (first | (go_keep; done) | (refine ⟨?_, ?_, ?_, ?_, ?_⟩ <;> (apply cq; (focus (exact hpZ)); rfl)))
    clear hK K
    try simp only [Act.put, gz, List.getElem_cons_succ, List.getElem_cons_zero, List.setIfInBounds_toArray, List.set_cons_zero, List.set_cons_succ]
    refine tk 9 (v := ?_) rfl (by kernel_rfl) (fun _ _ _ h => h) (.inl ⟨by rfl, ?hy⟩) (by assumption) ?_
    case hy => (intro w q; (try dsimp only at q); (go_simp <;> with_reducible rfl))
    try simp only [Act.put, gz, List.getElem_cons_succ, List.getElem_cons_zero, List.setIfInBounds_toArray, List.set_cons_zero, List.set_cons_succ]
    refine wpAnyH_done (by kernel_rfl) ?_ _
    go_wp2
    show bodyPost _ _ (fun e w' => e = .returned (.tuple #[evdid r.1, .int .i64 r.2.1]) ∧ RKeep xb g base K F r.2.2 L v w w') _ _ _
    refine post_res (B := fun w' => RKeep xb g base K F r.2.2 L v w w') ?_ rfl ?_
    · rw [← Hr.out]
      have kp := rkeep_wrote (s' := St.put ⟨s.pc, s.R, M'⟩ 0 0) H.out (X := _) (by (exact blZ)) HM.out HB1.out HRr.out (Nat.le_trans Hlen.out (by omega)) hM3 (But.trans (l := [xb]) (b := _) (But.of_below (by (exact blZ))) hB3) (hok.out.put _ _ (by omega)) Hrel.out.2
      exact rkeep_fresh (k0 := w.heap.size + 1) kp hlb hlg (by omega) (fun c t fr hc => by rw [xr] at hc; injection hc with hc; injection hc with _ hc _; rw [← hc]; decide) ⟨_, _, _, xr⟩ (by repeat (first | exact But.refl _ _ | refine But.set ?_ _ _ (.inl (by simp))))
    · rw [← Hr.out]
      apply res_at (n := w.heap.size + 1)
      (focus (exact hpZ))
      intro W' cw
      simp at cw
      simp [results, Try.results97, go_sem, evdid, cw]
  · rw [if_neg q]
    have q1 : (t != 0) = true := by simpa using q
    have hMM := hM' q
    have Hq := Lib.hid q
    obtain ⟨r, hr'⟩ : ∃ r : Did × Int × St, (no, t, s) = r := ⟨_, rfl⟩
    rw [hr']
    have Hr := Lib.hid hr'
    have HMM := Lib.hid hMM
    clear hr' h hM' q hMM
    go_enter Try.func97, Try.ntmps97
    go_wp2
    refine region_tail (fun n => ((((w.alloc _).alloc _).alloc _).alloc _).drewN n) 13 rfl (by kernel_rfl) ⟨1, rfl⟩ ?_
    simp only [List.take_succ_cons, List.take_zero, List.drop_succ_cons, List.drop_zero]
    repeat (go_big_quiet_step (fail))
    refine wpQuiet_nil ?_
    intro n2
    go_wp2_with (first
      | (go_at_call 129; (refine (Hl.out _ (by (exact blZ))).mono ?_); rintro e w1 ⟨rfl, v', hM, hB, hR⟩; have HM := Lib.hid hM; have HRr := Lib.hid hR; have HB1 := Lib.hid hB; clear hM hR; apply but_block hB (n := xb) Hx.out; (focus (exact hpZ)); intro zx zfx xx xzx; clear zx zfx; apply but_block hB (n := w.heap.size + 1) (Hn.out _ (by omega)); (focus (exact hpZ)); intro y0 yf yr yz; simp at y0; clear hB))
    show bodyPost _ _ (fun e w' => e = .returned (.tuple #[evdid r.1, .int .i64 r.2.1]) ∧ RKeep xb g base K F r.2.2 L v w w') _ _ _
    refine post_res (B := fun w' => RKeep xb g base K F r.2.2 L v w w') ?_ rfl ?_
    · rw [← Hr.out]
      have kp := rkeep_wrote (s' := s) H.out (X := _) (by (exact blZ)) HM.out HB1.out HRr.out (Nat.le_trans Hlen.out (by omega)) ⟨xx, H.out.m.2⟩ (But.refl _ _) H.out.ok (by have := Hrel.out.2; rw [HMM.out] at this; exact this)
      exact rkeep_fresh (k0 := w.heap.size + 1) kp hlb hlg (by omega) (fun c t fr hc => by rw [yr] at hc; injection hc with hc; injection hc with _ hc _; rw [← hc]; decide) ⟨_, _, _, yr⟩ (by repeat (first | exact But.refl _ _ | refine But.set ?_ _ _ (.inl (by simp))))
    · rw [← Hr.out]
      apply res_at (n := w.heap.size + 1)
      (focus (exact hpZ))
      intro W' cw
      simp at cw
      simp [results, Try.results97, go_sem, evdid, no, cw]
set_option maxHeartbeats 8000000 in
set_option maxRecDepth 100000 in
theorem rmem_35 {xb g base : Nat} {K : Bk} {F : List Int} {s : St} {L : List (Int × Int)} {v : Value} {w : World} (h : RBox xb g base K F s L v w) (hL : L.length ≤ 1000000000) (rd rs1 rs2 imm at_ : Int) (hrs : 0 ≤ rs2 ∧ rs2 < 32) (ha : 0 ≤ at_ ∧ at_ < 4294967296) :
    Calls Try.prog 97 #[.pointer (some ⟨xb, 0, none⟩), .agg #[.int .i64 35, .int .i64 rd, .int .i64 rs1, .int .i64 rs2, .int .i32 imm], .int .u32 at_] w (RDPost xb g base K F (storesA K 35 rs2 at_ s) L v w) := by
  have hr2 := h.ok.reg rs2
  have c2 := cell_of_heap h.m.1 (2 + rs2.toNat)
  rw [mcells_reg _ _ _ _ (by rw [h.m.2]; omega)] at c2
  have ea2 : s.R.getD rs2.toNat 0 = s.reg rs2 := rfl
  rw [ea2] at c2
  clear ea2
  have d3 : decide (rs2 < 0) = false := decide_eq_false (by omega)
  have d4 : decide (32 ≤ rs2) = false := decide_eq_false (by omega)
  have c0 := cell_of_heap h.m.1 0
  rw [mcells_mem] at c0
  have c1 := cell_of_heap h.m.1 1
  rw [mcells_pc] at c1
  have hlb := lt_of_heap h.m.1
  have hlg := lt_of_heap h.mem.mem
  have nb : ¬ w.heap.size = xb := by omega
  have nb1 : xb < w.heap.size + 1 := by omega
  have nb2 : xb < w.heap.size + 1 + 1 := by omega
  have nb3 : xb < w.heap.size + 1 + 1 + 1 := by omega
  have nb4 : xb < w.heap.size + 2 := by omega
  have nb5 : xb < w.heap.size + 3 := by omega
  have H := Lib.hid h
  have hb' : w.heap[xb]? = some (.cells (mcells ⟨g, 0, none⟩ s.pc s.R) 89 (0, 0)) := h.m.1
  have Hx := Lib.hid (show xb ∉ g :: rowL v from by intro hm; rcases List.mem_cons.1 hm with hm | hm; (exact h.xg hm); (exact h.xr hm))
  have Hn := Lib.hid (fun n (hn : w.heap.size ≤ n) => row_fresh h.mem hn)
  have Hrel := Lib.hid (rel_store h.can h.ok.ml h.rel at_ (s.reg rs2) 4)
  have Hlen := Lib.hid (rstoreS_len K at_ (s.reg rs2) 4)
  have hok := Lib.hid (h.ok.mem at_ (s.reg rs2) 4)
  have Hl := Lib.hid (fun (W : World) (hB : Below w.heap.size w W) => (show Calls Try.prog 129 #[.pointer (some ⟨g, 0, none⟩), .int .u32 at_, .int .i64 4, .int .u32 (s.reg rs2)] W _ from rstore_calls (h.mem.below hB) h.can (Nat.le_trans h.base_ hB.size) hL at_ (s.reg rs2) ha hr2 4 (by omega)))
  have hR : storesA K 35 rs2 at_ s = if (storeS K s.M at_ (s.reg rs2) 4).1 = 0 then (⟨2, at_, 4⟩, 0, St.put ⟨s.pc, s.R, (storeS K s.M at_ (s.reg rs2) 4).2⟩ 0 0) else (no, (storeS K s.M at_ (s.reg rs2) 4).1, s) := rfl
  rw [hR]
  clear hR
  have hM' : (storeS K s.M at_ (s.reg rs2) 4).1 ≠ 0 → (storeS K s.M at_ (s.reg rs2) 4).2 = s.M := by
    unfold storeS
    split
    · split
      · exact fun h => absurd rfl h
      · exact fun _ => rfl
    · exact fun _ => rfl
  generalize s.reg rs2 = z at *
  generalize storeS K s.M at_ z 4 = vt at *
  generalize rstoreS K at_ z 4 = vr at *
  obtain ⟨t, M'⟩ := vt
  obtain ⟨t', wl⟩ := vr
  have htt := Hrel.out.1
  dsimp only at *
  subst htt
  by_cases q : t = 0
  · subst q
    rw [if_pos rfl]
    obtain ⟨r, hr'⟩ : ∃ r : Did × Int × St, (⟨2, at_, 4⟩, 0, St.put ⟨s.pc, s.R, M'⟩ 0 0) = r := ⟨_, rfl⟩
    rw [hr']
    have Hr := Lib.hid hr'
    clear hr' h hM'
    go_enter Try.func97, Try.ntmps97
    go_wp2
    refine region_tail (fun n => ((((w.alloc _).alloc _).alloc _).alloc _).drewN n) 13 rfl (by kernel_rfl) ⟨1, rfl⟩ ?_
    simp only [List.take_succ_cons, List.take_zero, List.drop_succ_cons, List.drop_zero]
    repeat (go_big_quiet_step (fail))
    refine wpQuiet_nil ?_
    intro n2
    go_wp2_with (first
      | (go_at_call 129; (refine (Hl.out _ (by (exact blZ))).mono ?_); rintro e w1 ⟨rfl, v', hM, hB, hR⟩; have HM := Lib.hid hM; have HRr := Lib.hid hR; have HB1 := Lib.hid hB; clear hM hR; apply but_block hB (n := xb) Hx.out; (focus (exact hpZ)); intro zx zfx xx xzx; (have cx : w1.cell? ⟨xb, 1, none⟩ = some (.int .u32 s.pc) := (zx 1).trans (mcells_pc _ _ _)); clear zx zfx; apply but_block hB (n := w.heap.size + 1) (Hn.out _ (by omega)); (focus (exact hpZ)); intro y0 yf yr yz; simp at y0; apply but_block hB (n := w.heap.size + 1 + 1 + 1) (Hn.out _ (by omega)); (focus (exact hpZ)); intro y1 yf1 ye yz1; simp at y1; clear hB))
    refine wp_region_held_drew (S := (fun u => u.cell? ⟨w.heap.size + 1 + 1 + 1, 0, none⟩ = some (.int .u32 0) ∧ u.cell? ⟨w.heap.size + 1 + 1 + 1, 1, none⟩ = some (.int .u32 0) ∧ u.cell? ⟨w.heap.size + 1 + 1 + 1, 2, none⟩ = some (.int .i64 2) ∧ u.cell? ⟨w.heap.size + 1 + 1 + 1, 3, none⟩ = some (.int .u32 at_) ∧ u.cell? ⟨w.heap.size + 1 + 1 + 1, 4, none⟩ = some (.int .i64 4))) (by kernel_rfl) ?_ (fun hHeld => ?_)
    · (try dsimp only)
      (first | (go_keep; done) | (refine ⟨?_, ?_, ?_, ?_, ?_⟩ <;> (apply cq; (focus (exact hpZ)); rfl)))
    refine tk 0 (v := ?_) rfl (by kernel_rfl) (fun _ _ _ h => h) (.inl ⟨by rfl, ?hy⟩) (by assumption) ?_
    case hy => (intro w q; (try dsimp only at q); (go_simp <;> with_reducible rfl))
    refine tk 1 (v := ?_) rfl (by kernel_rfl) (fun _ _ _ h => h) (.inl ⟨by rfl, ?hy⟩) (by assumption) ?_
    case hy => (intro w q; (try dsimp only at q); (go_simp <;> with_reducible rfl))
    refine tk 2 (v := ?_) rfl (by kernel_rfl) (fun _ _ _ h => h) (.inl ⟨by rfl, ?hy⟩) (by assumption) ?_
    case hy => (intro w q; (try dsimp only at q); (go_simp <;> with_reducible rfl))
    refine tk 3 (v := ?_) rfl (by kernel_rfl) (fun _ _ _ h => h) (.inl ⟨by rfl, ?hy⟩) (by assumption) ?_
    case hy => (intro w q; (try dsimp only at q); (go_simp <;> with_reducible rfl))
    refine tk 4 (v := ?_) rfl (by kernel_rfl) (fun _ _ _ h => h) (.inl ⟨by rfl, ?hy⟩) (by assumption) ?_
    case hy => (intro w q; (try dsimp only at q); (go_simp <;> with_reducible rfl))
    refine wpAnyH_ready (rs := [5]) (by kernel_rfl) (by simp) ?_
    refine AllReadyH.cons rfl (fun K hK => ?_) AllReadyH.nil
    go_simp
    refine hK.out _ _ (by assumption) (fun hHeld => ?_)
    clear hK K
    try simp only [Act.put, gz, List.getElem_cons_succ, List.getElem_cons_zero, List.setIfInBounds_toArray, List.set_cons_zero, List.set_cons_succ]
    refine tk 6 (v := ?_) rfl (by kernel_rfl) (fun _ _ _ h => h) (.inl ⟨by rfl, ?hy⟩) (by assumption) ?_
    case hy => (intro w q; (try dsimp only at q); (go_simp <;> with_reducible rfl))
    refine wpAnyH_ready (rs := [7]) (by kernel_rfl) (by simp) ?_
    refine AllReadyH.cons rfl (fun K hK => ?_) AllReadyH.nil
    go_simp
    (first
      | (go_at_call 95; (refine (rset_calls (b := xb) (m := ⟨g, 0, none⟩) (pc := s.pc) (R := s.R) ⟨?_, H.out.m.2⟩ _ _ _ (by omega)).mono ?_); (focus (exact hpZ)); rintro e w3 ⟨rfl, hM3, hB3⟩; apply but_block hB3 (n := w.heap.size + 1); (focus (simp; omega)); (focus (exact hpZ)); intro z0 zf xr xz; simp at z0; apply but_block hB3 (n := w.heap.size + 1 + 1 + 1); (focus (simp; omega)); (focus (exact hpZ)); intro z1 zf1 xe xz1; clear z1 zf1))
    refine hK.out _ _ ?_ (fun hHeld => ?_)
    · (try dsimp only)
      (first | (go_keep; done) | (refine ⟨?_, ?_, ?_, ?_, ?_⟩ <;> (apply cq; (focus (exact hpZ)); rfl)))
    clear hK K
    try simp only [Act.put, gz, List.getElem_cons_succ, List.getElem_cons_zero, List.setIfInBounds_toArray, List.set_cons_zero, List.set_cons_succ]
    refine wpAnyH_ready (rs := [8]) (by kernel_rfl) (by simp) ?_
    refine AllReadyH.cons rfl (fun K hK => ?_) AllReadyH.nil
    go_simp
    refine hK.out _ _ ?_ (fun hHeld => ?_)
    · (try dsimp only)
      (first | (go_keep; done) | (refine ⟨?_, ?_, ?_, ?_, ?_⟩ <;> (apply cq; (focus (exact hpZ)); rfl)))
    clear hK K
    try simp only [Act.put, gz, List.getElem_cons_succ, List.getElem_cons_zero, List.setIfInBounds_toArray, List.set_cons_zero, List.set_cons_succ]
    refine tk 9 (v := ?_) rfl (by kernel_rfl) (fun _ _ _ h => h) (.inl ⟨by rfl, ?hy⟩) (by assumption) ?_
    case hy => (intro w q; (try dsimp only at q); (go_simp <;> with_reducible rfl))
    try simp only [Act.put, gz, List.getElem_cons_succ, List.getElem_cons_zero, List.setIfInBounds_toArray, List.set_cons_zero, List.set_cons_succ]
    refine wpAnyH_done (by kernel_rfl) ?_ _
    go_wp2
    show bodyPost _ _ (fun e w' => e = .returned (.tuple #[evdid r.1, .int .i64 r.2.1]) ∧ RKeep xb g base K F r.2.2 L v w w') _ _ _
    refine post_res (B := fun w' => RKeep xb g base K F r.2.2 L v w w') ?_ rfl ?_
    · rw [← Hr.out]
      have kp := rkeep_wrote (s' := St.put ⟨s.pc, s.R, M'⟩ 0 0) H.out (X := _) (by (exact blZ)) HM.out HB1.out HRr.out (Nat.le_trans Hlen.out (by omega)) hM3 (But.trans (l := [xb]) (b := _) (But.of_below (by (exact blZ))) hB3) (hok.out.put _ _ (by omega)) Hrel.out.2
      exact rkeep_fresh (k0 := w.heap.size + 1) kp hlb hlg (by omega) (fun c t fr hc => by rw [xr] at hc; injection hc with hc; injection hc with _ hc _; rw [← hc]; decide) ⟨_, _, _, xr⟩ (by repeat (first | exact But.refl _ _ | refine But.set ?_ _ _ (.inl (by simp))))
    · rw [← Hr.out]
      apply res_at (n := w.heap.size + 1)
      (focus (exact hpZ))
      intro W' cw
      simp at cw
      simp [results, Try.results97, go_sem, evdid, cw]
  · rw [if_neg q]
    have q1 : (t != 0) = true := by simpa using q
    have hMM := hM' q
    have Hq := Lib.hid q
    obtain ⟨r, hr'⟩ : ∃ r : Did × Int × St, (no, t, s) = r := ⟨_, rfl⟩
    rw [hr']
    have Hr := Lib.hid hr'
    have HMM := Lib.hid hMM
    clear hr' h hM' q hMM
    go_enter Try.func97, Try.ntmps97
    go_wp2
    refine region_tail (fun n => ((((w.alloc _).alloc _).alloc _).alloc _).drewN n) 13 rfl (by kernel_rfl) ⟨1, rfl⟩ ?_
    simp only [List.take_succ_cons, List.take_zero, List.drop_succ_cons, List.drop_zero]
    repeat (go_big_quiet_step (fail))
    refine wpQuiet_nil ?_
    intro n2
    go_wp2_with (first
      | (go_at_call 129; (refine (Hl.out _ (by (exact blZ))).mono ?_); rintro e w1 ⟨rfl, v', hM, hB, hR⟩; have HM := Lib.hid hM; have HRr := Lib.hid hR; have HB1 := Lib.hid hB; clear hM hR; apply but_block hB (n := xb) Hx.out; (focus (exact hpZ)); intro zx zfx xx xzx; clear zx zfx; apply but_block hB (n := w.heap.size + 1) (Hn.out _ (by omega)); (focus (exact hpZ)); intro y0 yf yr yz; simp at y0; clear hB))
    show bodyPost _ _ (fun e w' => e = .returned (.tuple #[evdid r.1, .int .i64 r.2.1]) ∧ RKeep xb g base K F r.2.2 L v w w') _ _ _
    refine post_res (B := fun w' => RKeep xb g base K F r.2.2 L v w w') ?_ rfl ?_
    · rw [← Hr.out]
      have kp := rkeep_wrote (s' := s) H.out (X := _) (by (exact blZ)) HM.out HB1.out HRr.out (Nat.le_trans Hlen.out (by omega)) ⟨xx, H.out.m.2⟩ (But.refl _ _) H.out.ok (by have := Hrel.out.2; rw [HMM.out] at this; exact this)
      exact rkeep_fresh (k0 := w.heap.size + 1) kp hlb hlg (by omega) (fun c t fr hc => by rw [yr] at hc; injection hc with hc; injection hc with _ hc _; rw [← hc]; decide) ⟨_, _, _, yr⟩ (by repeat (first | exact But.refl _ _ | refine But.set ?_ _ _ (.inl (by simp))))
    · rw [← Hr.out]
      apply res_at (n := w.heap.size + 1)
      (focus (exact hpZ))
      intro W' cw
      simp at cw
      simp [results, Try.results97, go_sem, evdid, no, cw]
end Go.Proofs.Ytioopcilcgebeaa.CpuA
