/- Proofs of this claim's family, merged: RxD, RxE, RmD, MemI, LawA. -/
import Derived.Test.YtioopcilcgebeaaKY
import Derived.Test.YtioopcilcgebeaaKZ
import Derived.Test.YtioopcilcgebeaaKZc
import Derived.Test.YtioopcilcgebeaaKZe
import Derived.Test.YtioopcilcgebeaaKZf
import Derived.Test.YtioopcilcgebeaaKL
import Derived.Test.YtioopcilcgebeaaKR
import Derived.Laws.CopyOwn
set_option linter.unusedVariables false
set_option linter.unusedSimpArgs false
/-! #### RxD -/
namespace Go.Proofs.Ytioopcilcgebeaa.CpuA
open Go.RowKit Go.Proofs.Ytioopcilcgebeaa.Base Go.Proofs.Ytioopcilcgebeaa.AluP Go.Proofs.Ytioopcilcgebeaa.InstS Go.Proofs.Ytioopcilcgebeaa.InstA Go.Proofs.YtioopcilcgebeaaW.PrintWords

theorem rdoes_calls {xb g base : Nat} {K : Bk} {F : List Int} {s : St} {L : List (Int × Int)} {v : Value} {w : World} (h : RBox xb g base K F s L v w) (hL : L.length ≤ 1000000000) (i : Ins) (hi : InsOk i) :
    Calls Try.prog 63 #[.pointer (some ⟨xb, 0, none⟩), iv i] w (RDPost xb g base K F (doesT K F i s) L v w) := by
  obtain ⟨op, rd, rs1, rs2, imm⟩ := i
  have o1 := hi.op0
  have o2 := hi.op1
  have hrd : 0 ≤ rd ∧ rd < 32 := ⟨hi.rd0, hi.rd1⟩
  have ha : 0 ≤ rs1 ∧ rs1 < 32 := ⟨hi.a0, hi.a1⟩
  have hb : 0 ≤ rs2 ∧ rs2 < 32 := ⟨hi.b0, hi.b1⟩
  dsimp only at o1 o2
  unfold iv
  by_cases g1 : op ≤ 18
  · rw [show doesT K F ⟨op, rd, rs1, rs2, imm⟩ s = (no, 0, s.put rd (aluS op (s.reg rs1) (s.reg rs2))) from if_pos g1]
    exact rdoes_alu h hL op rd rs1 rs2 imm hrd ha hb ⟨o1, g1⟩
  by_cases g2 : op ≤ 27
  · have : op = 19 ∨ op = 20 ∨ op = 21 ∨ op = 22 ∨ op = 23 ∨ op = 24 ∨ op = 25 ∨ op = 26 ∨ op = 27 := by omega
    rcases this with rfl | rfl | rfl | rfl | rfl | rfl | rfl | rfl | rfl
    · exact rdoes_19 h hL rd rs1 rs2 imm hrd ha hb
    · exact rdoes_20 h hL rd rs1 rs2 imm hrd ha hb
    · exact rdoes_21 h hL rd rs1 rs2 imm hrd ha hb
    · exact rdoes_22 h hL rd rs1 rs2 imm hrd ha hb
    · exact rdoes_23 h hL rd rs1 rs2 imm hrd ha hb
    · exact rdoes_24 h hL rd rs1 rs2 imm hrd ha hb
    · exact rdoes_25 h hL rd rs1 rs2 imm hrd ha hb
    · exact rdoes_26 h hL rd rs1 rs2 imm hrd ha hb
    · exact rdoes_27 h hL rd rs1 rs2 imm hrd ha hb
  by_cases g3 : op ≤ 35
  · have e : doesT K F ⟨op, rd, rs1, rs2, imm⟩ s = if op ≤ 32 then loadsA K F op rd ((s.reg rs1 + imm) % 4294967296) s else storesA K op rs2 ((s.reg rs1 + imm) % 4294967296) s := by
      unfold doesT
      rw [if_neg g1, if_neg g2]
      by_cases g : op ≤ 32
      · rw [if_pos g, if_pos g]; rfl
      · rw [if_neg g, if_neg g, if_pos g3]; rfl
    rw [e]
    exact rdoes_mem h hL op rd rs1 rs2 imm hrd ha hb ⟨by omega, g3⟩
  by_cases g4 : op ≤ 41
  · have e : doesT K F ⟨op, rd, rs1, rs2, imm⟩ s = if takesS op (s.reg rs1) (s.reg rs2) = true then (no, s.go ((s.pc + imm) % 4294967296) 0) else (no, 0, s.put 0 0) := by
      unfold doesT
      rw [if_neg g1, if_neg g2, if_neg (show ¬ op ≤ 32 by omega), if_neg g3, if_pos g4]
    rw [e]
    exact rdoes_br h hL op rd rs1 rs2 imm hrd ha hb ⟨by omega, g4⟩
  have : op = 42 ∨ op = 43 ∨ op = 44 ∨ op = 45 ∨ op = 46 ∨ op = 47 ∨ op = 48 := by omega
  rcases this with rfl | rfl | rfl | rfl | rfl | rfl | rfl
  · exact rdoes_42 h hL rd rs1 rs2 imm hrd ha hb
  · exact rdoes_43 h hL rd rs1 rs2 imm hrd ha hb
  · exact rdoes_44 h hL rd rs1 rs2 imm hrd ha hb
  · exact rdoes_45 h hL rd rs1 rs2 imm hrd ha hb
  · exact rdoes_46 h hL rd rs1 rs2 imm hrd ha hb
  · exact rdoes_47 h hL rd rs1 rs2 imm hrd ha hb
  · exact rdoes_48 h hL rd rs1 rs2 imm hrd ha hb
end Go.Proofs.Ytioopcilcgebeaa.CpuA
/-! #### RxE -/
namespace Go.Proofs.Ytioopcilcgebeaa.CpuA
open Go.RowKit Go.Proofs.Ytioopcilcgebeaa.Base Go.Proofs.Ytioopcilcgebeaa.InstS Go.Proofs.Ytioopcilcgebeaa.InstA Go.Proofs.Ytioopcilcgebeaa.AluP Go.Proofs.YtioopcilcgebeaaW.PrintWords

def RSPost (xb g base : Nat) (K : Bk) (F : List Int) (r : Evt × Int × St) (L : List (Int × Int)) (v : Value) (w : World) (e : Ending) (w' : World) : Prop :=
  e = .returned (.tuple #[evV r.1, .int .i64 r.2.1]) ∧ RKeep xb g base K F r.2.2 L v w w'
theorem cell_new_drew {X : World} {c : Array Value} {t : TypeId} {n i : Nat} (hn : n = X.heap.size) : (X.alloc (.cells c t)).drew.cell? ⟨n, i, none⟩ = c[i]? := by
  have h : (X.alloc (.cells c t)).drew.heap[n]? = some (.cells c t (0, 0)) := Base.heap_drew (heap_at _ _ _ hn)
  exact cell_of_heap h i
set_option maxHeartbeats 8000000 in
set_option maxRecDepth 100000 in
theorem rstep_calls {xb g base : Nat} {K : Bk} {F : List Int} {s : St} {L : List (Int × Int)} {v : Value} {w : World} (h : RBox xb g base K F s L v w) (hL : L.length ≤ 1000000000) :
    Calls Try.prog 30 #[.pointer (some ⟨xb, 0, none⟩)] w (RSPost xb g base K F (stepT K F s) L v w) := by
  have hp0 := h.ok.pc0
  have hp1 := h.ok.pc1
  have c0 := cell_of_heap h.m.1 0
  rw [mcells_mem] at c0
  have c1 := cell_of_heap h.m.1 1
  rw [mcells_pc] at c1
  have hlb := lt_of_heap h.m.1
  have hlg := lt_of_heap h.mem.mem
  have nb : ¬ w.heap.size = xb := by omega
  have nb1 : xb < w.heap.size + 1 := by omega
  have H := Lib.hid h
  have Hf := Lib.hid (fun (W : World) (hB : Below w.heap.size w W) => rfetch_box (h.below hB))
  have Hn := Lib.hid (fun n (hn : w.heap.size ≤ n) => row_fresh h.mem hn)
  have hx : 0 ≤ (fetchS K F s.M s.pc).1 ∧ (fetchS K F s.M s.pc).1 < 4294967296 := by
    unfold fetchS
    split
    · split
      · rename_i l hl
        obtain ⟨h1, h2⟩ := bytesAt_ok hl h.fl h.ok.ml h.fb h.ok.bytes
        have := leS_bd l h2
        rw [h1] at this
        exact this
      · omega
    · omega
  have hb' : w.heap[xb]? = some (.cells (mcells ⟨g, 0, none⟩ s.pc s.R) 89 (0, 0)) := h.m.1
  have hR : stepT K F s = if (fetchS K F s.M s.pc).2 = 0 then (match dec (fetchS K F s.M s.pc).1 with
    | some i => let d := doesT K F i s; (⟨s.pc, (fetchS K F s.M s.pc).1, d.1⟩, d.2.1, d.2.2)
    | none => (⟨s.pc, (fetchS K F s.M s.pc).1, no⟩, 5, s))
  else (⟨s.pc, 0, no⟩, (fetchS K F s.M s.pc).2, s) := rfl
  rw [hR]
  clear hR
  generalize fetchS K F s.M s.pc = ft at *
  obtain ⟨x, t⟩ := ft
  dsimp only at *
  by_cases q : t = 0
  · subst q
    rw [if_pos rfl]
    have Hd := Lib.hid (RefA.decode_calls x hx.1 hx.2)
    cases hdec : dec x with
    | none =>
      rw [hdec] at Hd
      clear hdec h
      obtain ⟨r, hr'⟩ : ∃ r : Evt × Int × St, (⟨s.pc, x, no⟩, 5, s) = r := ⟨_, rfl⟩
      simp only
      rw [hr']
      have Hr := Lib.hid hr'
      clear hr'
      unfold decV iv at Hd
      go_enter Try.func30, Try.ntmps30
      go_wp2
      go_quiet ((go_at_call 61; exact Calls.quiet_of (Hf.out _ (by (exact blZ)))))
      go_wp2_with (first
        | (go_at_call 62; (refine (Hd.out _).mono ?_); rintro e w2 ⟨rfl, hB2⟩; apply kept_block hB2 (n := w.heap.size); (focus (exact hpZ)); intro cr9 fr9 hr9 hz9; (have u0 : w2.cell? ⟨w.heap.size, 0, none⟩ = some (.int .u32 0) := cr9 0); (have u1 : w2.cell? ⟨w.heap.size, 1, none⟩ = some (.int .u32 0) := cr9 1); (have u2 : w2.cell? ⟨w.heap.size, 2, none⟩ = some (.int .i64 0) := cr9 2); (have u3 : w2.cell? ⟨w.heap.size, 3, none⟩ = some (.int .u32 0) := cr9 3); (have u4 : w2.cell? ⟨w.heap.size, 4, none⟩ = some (.int .i64 0) := cr9 4); clear cr9; apply kept_block hB2 (n := w.heap.size + 1); (focus (exact hpZ)); intro ce9 fe9 he9 hze9; (have x0 : w2.cell? ⟨w.heap.size + 1, 0, none⟩ = some (.int .u32 s.pc) := ce9 0); (have x1 : w2.cell? ⟨w.heap.size + 1, 1, none⟩ = some (.int .u32 x) := ce9 1); (have x2 : w2.cell? ⟨w.heap.size + 1, 2, none⟩ = some (.int .i64 0) := ce9 2); (have x3 : w2.cell? ⟨w.heap.size + 1, 3, none⟩ = some (.int .u32 0) := ce9 3); (have x4 : w2.cell? ⟨w.heap.size + 1, 4, none⟩ = some (.int .i64 0) := ce9 4); clear ce9))
      show bodyPost _ _ (fun e w' => e = .returned (.tuple #[evV r.1, .int .i64 r.2.1]) ∧ RKeep xb g base K F r.2.2 L v w w') _ _ _
      refine post_res (B := fun w' => RKeep xb g base K F r.2.2 L v w w') ?_ rfl ?_
      · obtain rfl := Hr.out
        exact rkeep_same H.out (by (exact blZ))
      · obtain rfl := Hr.out
        apply res_at (n := w.heap.size)
        (focus (exact hpZ))
        intro W' cw
        simp at cw
        simp [results, Try.results30, go_sem, evV, no, cw]
    | some i =>
      have hi := dec_ok hdec
      rw [hdec] at Hd
      clear hdec
      have Hx := Lib.hid (fun (W : World) (hB : Below w.heap.size w W) => rdoes_calls (h.below hB) hL i hi)
      simp only
      generalize doesT K F i s = d at *
      obtain ⟨dd, t, s'⟩ := d
      obtain ⟨op, rd, rs1, rs2, imm⟩ := i
      clear h
      obtain ⟨r, hr'⟩ : ∃ r : Evt × Int × St, (⟨s.pc, x, dd⟩, t, s') = r := ⟨_, rfl⟩
      rw [hr']
      have Hr := Lib.hid hr'
      clear hr' hi
      unfold decV at Hd
      unfold iv at Hd Hx
      replace Hx := Lib.hid (fun W hB => (show Calls Try.prog 63 #[.pointer (some ⟨xb, 0, none⟩), .agg #[.int .i64 op, .int .i64 rd, .int .i64 rs1, .int .i64 rs2, .int .i32 imm]] W (fun e w' => e = .returned (.tuple #[.agg #[.int .u32 0, .int .u32 0, .int .i64 dd.kind, .int .u32 dd.addr, .int .i64 dd.size], .int .i64 t]) ∧ RKeep xb g base K F s' L v W w') from Hx.out W hB))
      go_enter Try.func30, Try.ntmps30
      go_wp2
      go_quiet ((go_at_call 61; exact Calls.quiet_of (Hf.out _ (by (exact blZ)))))
      go_wp2_with (first
        | (go_at_call 62; (refine (Hd.out _).mono ?_); rintro e w2 ⟨rfl, hB2⟩; apply kept_block hB2 (n := w.heap.size); (focus (exact hpZ)); intro cr9 fr9 hr9 hz9; (have u0 : w2.cell? ⟨w.heap.size, 0, none⟩ = some (.int .u32 0) := cr9 0); (have u1 : w2.cell? ⟨w.heap.size, 1, none⟩ = some (.int .u32 0) := cr9 1); (have u2 : w2.cell? ⟨w.heap.size, 2, none⟩ = some (.int .i64 0) := cr9 2); (have u3 : w2.cell? ⟨w.heap.size, 3, none⟩ = some (.int .u32 0) := cr9 3); (have u4 : w2.cell? ⟨w.heap.size, 4, none⟩ = some (.int .i64 0) := cr9 4); clear cr9; apply kept_block hB2 (n := w.heap.size + 1); (focus (exact hpZ)); intro ce9 fe9 he9 hze9; (have x0 : w2.cell? ⟨w.heap.size + 1, 0, none⟩ = some (.int .u32 s.pc) := ce9 0); (have x1 : w2.cell? ⟨w.heap.size + 1, 1, none⟩ = some (.int .u32 x) := ce9 1); (have x2 : w2.cell? ⟨w.heap.size + 1, 2, none⟩ = some (.int .i64 0) := ce9 2); (have x3 : w2.cell? ⟨w.heap.size + 1, 3, none⟩ = some (.int .u32 0) := ce9 3); (have x4 : w2.cell? ⟨w.heap.size + 1, 4, none⟩ = some (.int .i64 0) := ce9 4); clear ce9)
        | (go_at_call 63; (refine (Hx.out _ (by (exact blZ))).mono ?_); rintro e w3 ⟨rfl, hK⟩; have HK := Lib.hid hK; obtain ⟨L', v', hbx, hll, hbt, hrr⟩ := hK; apply but_block hbt (n := w.heap.size); (focus (simp only [List.mem_cons, not_or]; exact ⟨by omega, by have := Hn.out w.heap.size (by omega); simpa using this⟩)); (focus (exact hpZ)); intro z0 zf xr xz; (have v0 : w3.cell? ⟨w.heap.size, 0, none⟩ = some (.int .u32 0) := z0 0); (have v1 : w3.cell? ⟨w.heap.size, 1, none⟩ = some (.int .u32 0) := z0 1); (have v2 : w3.cell? ⟨w.heap.size, 2, none⟩ = some (.int .i64 0) := z0 2); (have v3 : w3.cell? ⟨w.heap.size, 3, none⟩ = some (.int .u32 0) := z0 3); (have v4 : w3.cell? ⟨w.heap.size, 4, none⟩ = some (.int .i64 0) := z0 4); clear z0; apply but_block hbt (n := w.heap.size + 1); (focus (simp only [List.mem_cons, not_or]; exact ⟨by omega, by have := Hn.out (w.heap.size + 1) (by omega); simpa using this⟩)); (focus (exact hpZ)); intro y0 yf yr yz; (have x0' : w3.cell? ⟨w.heap.size + 1, 0, none⟩ = some (.int .u32 s.pc) := y0 0); (have x1' : w3.cell? ⟨w.heap.size + 1, 1, none⟩ = some (.int .u32 x) := y0 1); (have x2' : w3.cell? ⟨w.heap.size + 1, 2, none⟩ = some (.int .i64 0) := y0 2); (have x3' : w3.cell? ⟨w.heap.size + 1, 3, none⟩ = some (.int .u32 0) := y0 3); (have x4' : w3.cell? ⟨w.heap.size + 1, 4, none⟩ = some (.int .i64 0) := y0 4); clear y0 hbx hll hbt hrr))
      have hne : ¬ w3.heap.size = w.heap.size + 1 := by omega
      have hne2 : ¬ w.heap.size + 1 = w3.heap.size := by omega
      go_region_held3 (fun u => u.cell? ⟨w3.heap.size, 2, none⟩ = some (.int .i64 dd.kind) ∧ u.cell? ⟨w3.heap.size, 3, none⟩ = some (.int .u32 dd.addr) ∧ u.cell? ⟨w3.heap.size, 4, none⟩ = some (.int .i64 dd.size)) (first | (go_keep; done) | (exact ⟨(cell_new_drew (by simp only [World.size_setCell])).trans rfl, (cell_new_drew (by simp only [World.size_setCell])).trans rfl, (cell_new_drew (by simp only [World.size_setCell])).trans rfl⟩)) (fail)
      generalize hW : World.drew (World.alloc (World.setCell (World.setCell (World.setCell w3 _ _) _ _) _ _) _) = W
      have Wr : W.heap[w.heap.size]? = some (Obj.cells #[.int .u32 0, .int .u32 0, .int .i64 0, .int .u32 0, .int .i64 0] 35 (0, 0)) := by
        rw [← hW]
        exact Base.heap_drew (heap_past (by simp only [World.size_setCell]; exact xz) (heap_set_ne (by simp) (heap_set_ne (by simp) (heap_set_ne (by simp) xr))))
      have We : W.heap[w.heap.size + 1]? = some (Obj.cells (ecells s.pc x dd) 35 (0, 0)) := by
        rw [← hW]
        exact Base.heap_drew (heap_past (by simp only [World.size_setCell]; exact yz) (heap_set (heap_set (heap_set yr))))
      have WB : But [w.heap.size + 1] w3 W := by
        rw [← hW]
        exact (((((But.refl _ _).set _ _ (.inl (by simp))).set _ _ (.inl (by simp))).set _ _ (.inl (by simp))).alloc _).drewN 1
      have kp := rkeep_fresh (k0 := w.heap.size + 1) (rdpost_trans (w := w) (by (exact blZ)) HK.out) hlb hlg (by omega) (fun c t fr hc => by rw [yr] at hc; injection hc with hc; injection hc with _ hc _; rw [← hc]; decide) ⟨_, _, _, yr⟩ WB
      have KP := Lib.hid kp
      have Fr := frozen_of_heap Wr
      have Fe := frozen_of_heap We
      have r0 : W.cell? ⟨w.heap.size, 0, none⟩ = some (.int .u32 0) := cell_of_heap Wr 0
      have r1 : W.cell? ⟨w.heap.size, 1, none⟩ = some (.int .u32 0) := cell_of_heap Wr 1
      have r2 : W.cell? ⟨w.heap.size, 2, none⟩ = some (.int .i64 0) := cell_of_heap Wr 2
      have r3 : W.cell? ⟨w.heap.size, 3, none⟩ = some (.int .u32 0) := cell_of_heap Wr 3
      have r4 : W.cell? ⟨w.heap.size, 4, none⟩ = some (.int .i64 0) := cell_of_heap Wr 4
      have s0 : W.cell? ⟨w.heap.size + 1, 0, none⟩ = some (.int .u32 s.pc) := cell_of_heap We 0
      have s1 : W.cell? ⟨w.heap.size + 1, 1, none⟩ = some (.int .u32 x) := cell_of_heap We 1
      have s2 : W.cell? ⟨w.heap.size + 1, 2, none⟩ = some (.int .i64 dd.kind) := cell_of_heap We 2
      have s3 : W.cell? ⟨w.heap.size + 1, 3, none⟩ = some (.int .u32 dd.addr) := cell_of_heap We 3
      have s4 : W.cell? ⟨w.heap.size + 1, 4, none⟩ = some (.int .i64 dd.size) := cell_of_heap We 4
      have HWr := Lib.hid Wr
      clear hW kp WB We Wr v0 v1 v2 v3 v4 x0' x1' x2' x3' x4' zf yf u0 u1 u2 u3 u4
      go_wp2
      show bodyPost _ _ (fun e w' => e = .returned (.tuple #[evV r.1, .int .i64 r.2.1]) ∧ RKeep xb g base K F r.2.2 L v w w') _ _ _
      refine post_res (B := fun w' => RKeep xb g base K F r.2.2 L v w w') ?_ rfl ?_
      · obtain rfl := Hr.out
        exact rkeep_fresh (k0 := w.heap.size) KP.out hlb hlg (by omega) (fun c t fr hc => by rw [HWr.out] at hc; injection hc with hc; injection hc with _ hc _; rw [← hc]; decide) ⟨_, _, _, HWr.out⟩ (by repeat (first | exact But.refl _ _ | refine But.set ?_ _ _ (.inl (by simp))))
      · obtain rfl := Hr.out
        have hWr := HWr.out
        apply res_at (n := w.heap.size)
        (focus (exact hpZ))
        intro W' cw
        simp at cw
        simp [results, Try.results30, go_sem, evV, cw]
  · rw [if_neg q]
    have q1 : (t != 0) = true := by simpa using q
    clear h q
    obtain ⟨r, hr'⟩ : ∃ r : Evt × Int × St, (⟨s.pc, 0, no⟩, t, s) = r := ⟨_, rfl⟩
    rw [hr']
    have Hr := Lib.hid hr'
    clear hr'
    go_enter Try.func30, Try.ntmps30
    go_wp2
    go_quiet ((go_at_call 61; exact Calls.quiet_of (Hf.out _ (by (exact blZ)))))
    go_wp2
    show bodyPost _ _ (fun e w' => e = .returned (.tuple #[evV r.1, .int .i64 r.2.1]) ∧ RKeep xb g base K F r.2.2 L v w w') _ _ _
    refine post_res (B := fun w' => RKeep xb g base K F r.2.2 L v w w') ?_ rfl ?_
    · obtain rfl := Hr.out
      exact rkeep_same H.out (by (exact blZ))
    · obtain rfl := Hr.out
      apply res_at (n := w.heap.size)
      (focus (exact hpZ))
      intro W' cw
      simp at cw
      simp [results, Try.results30, go_sem, evV, no, cw]
end Go.Proofs.Ytioopcilcgebeaa.CpuA
/-! #### RmD -/
namespace Go.Proofs.Ytioopcilcgebeaa.CpuA
open Go.RowKit Go.Proofs.Ytioopcilcgebeaa.Base Go.Proofs.YtioopcilcgebeaaW.PrintWords

/-- A slice of bytes, in a block of bytes. -/
def BS (A : Option Addr) (B : List Int) (w : World) : Prop :=
  (B = [] ∧ (A = none ∨ ∃ a, A = some a)) ∨ ∃ bb off X fr, A = some ⟨bb, off, none⟩ ∧ w.heap[bb]? = some (.cells X 5 fr) ∧ ∀ i, i < B.length → X[off + i]? = some (.int .u8 (B.getD i 0))
theorem BS.but {A : Option Addr} {B : List Int} {l : List Nat} {w w' : World} (h : BS A B w) (hb : But l w w') (hl : ∀ bb X fr, w.heap[bb]? = some (.cells X 5 fr) → bb ∉ l) : BS A B w' := by
  rcases h with h | ⟨bb, off, X, fr, e, hh, hc⟩
  · exact .inl h
  · exact .inr ⟨bb, off, X, fr, e, hb.heap (hl bb X fr hh) hh, hc⟩
theorem RM.no5 {g base : Nat} {K : Bk} {L : List (Int × Int)} {v : Value} {w : World} (h : RM g base K L v w) (bb : Nat) (X : Array Value) (fr : Nat × Nat) (hb : w.heap[bb]? = some (.cells X 5 fr)) : bb ∉ g :: rowL v := by
  intro hm
  rcases List.mem_cons.1 hm with rfl | hm
  · exact blk_ne hb h.mem (by decide) rfl
  · exact h.ne hb (by decide) hm
theorem rm_append' {g base : Nat} {K : Bk} {L : List (Int × Int)} {v : Value} {wx w1 : World} {r cap : Nat} (h : RM g base K L v wx) (a b : Int) (hb : 0 ≤ b ∧ b < 256)
    (hown : w1.ownsRow base 141 2 (.slice (some ⟨r, 0, none⟩) (L.length + 1) cap) (L.length + 1) (flat L ++ [.int .u32 a, .int .u8 b])) (hg : wx.grownBy w1 v.ownBlock) :
    RM g base K (L ++ [(a, b)]) (.slice (some ⟨r, 0, none⟩) (L.length + 1) cap) (w1.setCell ⟨g, 4, none⟩ (.slice (some ⟨r, 0, none⟩) (L.length + 1) cap)) := by
  have b1 : But (rowL v) wx w1 := grown_but hg
  have m1 := b1.heap (h.ne h.mem (by decide)) h.mem
  have ho : w1.ownsRow base 141 2 (.slice (some ⟨r, 0, none⟩) (L.length + 1) cap) (L ++ [(a, b)]).length (flat (L ++ [(a, b)])) := by
    rw [flat_append, List.length_append]
    exact hown
  have hrg : r ≠ g := by
    rcases hown.2 with ⟨q, _⟩ | ⟨r', cap', cur, e, _, hr, _⟩
    · cases q
    · injection e with e1 _ _
      injection e1 with e1
      injection e1 with e1 _ _
      rintro rfl
      rw [← e1] at hr
      exact blk_ne hr m1 (by decide) rfl
  refine ⟨heap_set m1, ⟨ho.1, ?_⟩, ?_⟩
  · rcases ho.2 with ⟨q, _⟩ | ⟨r', cap', cur, e, hbs, hr, q⟩
    · cases q
    · have e' := e
      injection e with e1 _ _
      injection e1 with e1
      injection e1 with e1 _ _
      exact .inr ⟨r', cap', cur, e', hbs, heap_set_ne (by rw [← e1]; exact hrg) hr, q⟩
  · intro x hx
    rcases List.mem_append.1 hx with hx | hx
    · exact h.wide x hx
    · rw [List.mem_singleton] at hx; subst hx; exact hb
/-- What a put writes. -/
def putL (a : Int) : List Int → List (Int × Int)
  | [] => []
  | c :: l => (a % 4294967296, c) :: putL (a + 1) l
theorem putL_len : ∀ (l : List Int) (a : Int), (putL a l).length = l.length
  | [], _ => rfl
  | c :: l, a => by simp only [putL, List.length_cons, putL_len l]
def PInv (g base : Nat) (K : Bk) (L : List (Int × Int)) (v : Value) (A : Option Addr) (B : List Int) (w : World) (addr : Int) (t : Nat) (wr : World) : Prop :=
  ∃ (G : List (Int × Int)) (v' : Value), RM g base K G v' wr ∧ G ++ putL (addr + t) (B.drop t) = L ++ putL addr B ∧ But (g :: rowL v) w wr ∧ (∀ r ∈ rowL v', r ∈ rowL v ∨ w.heap.size ≤ r) ∧ BS A B wr
theorem pinv_step {g base : Nat} {K : Bk} {L G : List (Int × Int)} {v v' : Value} {A : Option Addr} {B : List Int} {w wr wx w1 : World} {addr : Int} {t : Nat} {r cap : Nat} (ht : t < B.length) (hw : ∀ c ∈ B, 0 ≤ c ∧ c < 256) (hM : RM g base K G v' wr) (hG : G ++ putL (addr + t) (B.drop t) = L ++ putL addr B) (hB : But (g :: rowL v) w wr) (hR : ∀ r ∈ rowL v', r ∈ rowL v ∨ w.heap.size ≤ r) (hS : BS A B wr)
    (hx : Below wr.heap.size wr wx)
    (hown : w1.ownsRow base 141 2 (.slice (some ⟨r, 0, none⟩) (G.length + 1) cap) (G.length + 1) (flat G ++ [.int .u32 ((addr + t) % 4294967296), .int .u8 (B.getD t 0)])) (hg : wx.grownBy w1 v'.ownBlock) (hat : v'.ownBlock = some r ∨ r = wx.heap.size) :
    PInv g base K L v A B w addr (t + 1) (w1.setCell ⟨g, 4, none⟩ (.slice (some ⟨r, 0, none⟩) (G.length + 1) cap)) := by
  have hz := hB.size
  have hxs := hx.size
  have hMx := hM.below hx
  have hSx := hS.but (l := []) (But.of_below hx) (fun _ _ _ _ => by simp)
  have hbt : 0 ≤ B.getD t 0 ∧ B.getD t 0 < 256 := by
    rw [List.getD_eq_getElem?_getD, List.getElem?_eq_getElem ht]
    exact hw _ (List.getElem_mem ht)
  have b0 : But (rowL v') wx w1 := grown_but hg
  have hne := hMx.ne hMx.mem (by decide)
  have m1 := b0.heap hne hMx.mem
  have rr : ∀ q ∈ rowL (.slice (some ⟨r, 0, none⟩) (G.length + 1) cap), q ∈ rowL v ∨ w.heap.size ≤ q := by
    intro q hq
    have e : q = r := by simpa [rowL, Value.ownBlock] using hq
    subst e
    rcases hat with hat | hat
    · exact hR _ (by unfold rowL; rw [hat]; simp)
    · right; omega
  refine ⟨G ++ [((addr + t) % 4294967296, B.getD t 0)], _, ?_, ?_, ?_, rr, ?_⟩
  · exact rm_append' hMx ((addr + t) % 4294967296) (B.getD t 0) hbt hown hg
  · rw [List.append_assoc, List.singleton_append, ← hG]
    have e : B.drop t = B.getD t 0 :: B.drop (t + 1) := by
      rw [List.drop_eq_getElem_cons ht, List.getD_eq_getElem?_getD, List.getElem?_eq_getElem ht]; rfl
    rw [e, putL]
    congr 3
    omega
  · have b1 : But (rowL v') wr w1 := (But.of_below hx).trans b0
    have b2 : But (g :: rowL v) w w1 := by
      refine ⟨b1.os.trans hB.os, b1.tape.trans hB.tape, b1.output.trans hB.output, Nat.le_trans hB.size b1.size, fun n hn hl => ?_⟩
      rw [b1.block n (Nat.lt_of_lt_of_le hn hB.size) ?_, hB.block n hn hl]
      intro hq
      rcases hR n hq with hq | hq
      · exact hl (List.mem_cons_of_mem _ hq)
      · omega
    exact b2.set _ _ (.inl (by simp))
  · have s1 := hSx.but b0 (fun bb X fr hb => fun hm => hMx.no5 bb X fr hb (List.mem_cons_of_mem _ hm))
    exact s1.but (l := [g]) ((But.refl _ _).set _ _ (.inl (by simp))) (fun bb X fr hb => by
      rw [List.mem_singleton]
      exact blk_ne hb m1 (by decide))
theorem pinv_end {g base : Nat} {K : Bk} {L : List (Int × Int)} {v : Value} {A : Option Addr} {B : List Int} {w w' : World} {addr : Int} {t : Nat} (h : PInv g base K L v A B w addr t w') (ht : B.length ≤ t) {e : Ending} {r : Value} (he : e = .returned r) : WPost g base K (L ++ putL addr B) v w r e w' := by
  obtain ⟨G, v', hM, hG, hB, hR, _⟩ := h
  rw [List.drop_eq_nil_of_le ht] at hG
  simp only [putL, List.append_nil] at hG
  subst hG
  exact ⟨he, v', hM, hB, hR⟩
set_option maxHeartbeats 8000000 in
set_option maxRecDepth 100000 in
theorem rput_in {g base : Nat} {K : Bk} {L : List (Int × Int)} {v : Value} {w : World} (h : RM g base K L v w) (hc : K.Can) (hbase : base ≤ w.heap.size) (hL : L.length ≤ 1000000000) (addr : Int) (ha : 0 ≤ addr ∧ addr < 4294967296) (A : Option Addr) (cap : Nat) (B : List Int) (hB : BS A B w) (hw : ∀ c ∈ B, 0 ≤ c ∧ c < 256) (h0 : 0 < B.length)
    (hi : hasB K addr B.length = true) :
    Calls Try.prog 46 #[.pointer (some ⟨g, 0, none⟩), .int .u32 addr, .slice A B.length cap] w (WPost g base K (L ++ putL addr B) v w (.bool true)) := by
  have hok := hc.ok
  unfold Bk.Ok at hok
  have hm : (B.length : Int) ≤ 1048576 ∧ addr + B.length ≤ 4294967296 := by
    have a1 := hc.fe
    have a2 := hc.re
    simp only [hasB, Bool.or_eq_true, decide_eq_true_eq] at hi
    unfold InB at hi
    rcases hi with hi | hi <;> omega
  have Hh := has_calls h hc.ok addr B.length ha (by omega)
  rw [hi] at Hh
  replace Hh := Lib.hid Hh
  have H := Lib.hid h
  have HB0 := Lib.hid hB
  have Hw := Lib.hid hw
  obtain ⟨i0, hi0, hz0, hz1, hz2⟩ := info_parts infoB
  have t1 : decide ((0 : Int) < (B.length : Int)) = true := decide_eq_true (by omega)
  clear h hB hw hi
  go_enter Try.func46, Try.ntmps46
  go_wp2_with (first
    | (go_at_call 49; (refine Hh.out.mono ?_); rintro e w' ⟨rfl, n1, rfl⟩))
  go_loopw [7] (fun i wr => ∃ (t : Nat), t ≤ B.length ∧ i = .int .i64 (t : Int) ∧ PInv g base K L v A B w addr t wr) (fun i _ => B.length - (intOf i).toNat)
  case atStart => exact ⟨0, by omega, rfl, L, v, H.out.below (by (exact blZ)), by simp, But.of_below (by (exact blZ)), fun _ hr => .inl hr, HB0.out.but (l := []) (But.of_below (by (exact blZ))) (fun _ _ _ _ => by simp)⟩
  case round =>
    obtain ⟨t, ht, rfl, hI⟩ := hrel
    by_cases q : t < B.length
    · obtain ⟨G, v', hM, hG, hB, hR, hS⟩ := hI
      obtain ⟨⟨Ad, cap1, rfl⟩, hl⟩ := hM.len
      have c4 : wr.cell? ⟨g, 4, none⟩ = some (.slice Ad G.length cap1) := cell_of_heap hM.mem 4
      have f4 : wr.frozen? ⟨g, 4, none⟩ = false := frozen_of_heap hM.mem 4
      have hlg : (G.length : Int) ≤ 1001048576 := by
        have := congrArg List.length hG
        simp only [List.length_append, putL_len] at this
        omega
      have hgs := lt_of_heap hM.mem
      have hbs := hB.size
      have hne := Lib.hid (rowL_own (hM.ne hM.mem (by decide)))
      obtain ⟨bb, off, X, fr, e1, hbb, hx⟩ : ∃ bb off X fr, A = some ⟨bb, off, none⟩ ∧ wr.heap[bb]? = some (.cells X 5 fr) ∧ ∀ i, i < B.length → X[off + i]? = some (.int .u8 (B.getD i 0)) := by
        rcases hS with ⟨hS, _⟩ | hS
        · rw [hS] at q; simp at q
        · exact hS
      subst e1
      have cb : wr.cell? ⟨bb, off + t, none⟩ = some (.int .u8 (B.getD t 0)) := (cell_of_heap hbb _).trans (hx t q)
      have hbl := lt_of_heap hbb
      have hbg : bb ≠ g := blk_ne hbb hM.mem (by decide)
      have hbg2 : g ≠ bb := Ne.symm hbg
      have Hbn := Lib.hid (hM.ne hbb (by decide))
      have Hgn := Lib.hid (hM.ne hM.mem (by decide))
      have Hx1 := Lib.hid (hx t q)
      have HM := Lib.hid hM
      have HG := Lib.hid hG
      have HR := Lib.hid hR
      have HB := Lib.hid hB
      have HS := Lib.hid hS
      have Hbb := Lib.hid hbb
      have Hx := Lib.hid hx
      clear hM hG hR hB hl hS hx hbb
      have i0' : (0 : Int) ≤ (t : Int) := by omega
      have i1' : (t : Int) < (B.length : Int) := by omega
      have ew : IntKind.u32.wrap (addr + (t : Int) % 4294967296) = addr + t := by rw [IntKind.wrap_u32]; omega
      have ew2 : IntKind.u32.wrap (t : Int) = t := by rw [IntKind.wrap_u32]; omega
      have ew3 : IntKind.u32.wrap (addr + (t : Int)) = addr + t := by rw [IntKind.wrap_u32]; omega
      generalize hcc : B.getD t 0 = c at *
      have Hcc := Lib.hid hcc
      clear hcc
      go_wp2
      refine wp_region_noPanic ?_
      refine wp_region_held_drew (S := (fun u => u.cell? ⟨bb, off + t, none⟩ = some (.int .u8 c))) (by kernel_rfl) ?_ (fun hHeld => ?_)
      · (try dsimp only)
        (go_keep)
      refine tk 0 (v := ?_) rfl (by kernel_rfl) (fun _ _ _ h => h) (.inl ⟨by rfl, ?hy⟩) (by assumption) ?_
      case hy => (intro w q; (try dsimp only at q); (go_simp <;> with_reducible rfl))
      refine tk 1 (v := ?_) rfl (by kernel_rfl) (fun _ _ _ h => h) (.inl ⟨by rfl, ?hy⟩) (by assumption) ?_
      case hy => (intro w q; (try dsimp only at q); (go_simp <;> with_reducible rfl))
      refine tk 2 (v := ?_) rfl (by kernel_rfl) (fun _ _ _ h => h) (.inl ⟨by rfl, ?hy⟩) (by assumption) ?_
      case hy => (intro w q; (try dsimp only at q); (go_simp <;> with_reducible rfl))
      refine tk 3 (v := ?_) rfl (by kernel_rfl) (fun _ _ _ h => h) (.inl ⟨by rfl, ?hy⟩) (by assumption) ?_
      case hy => (intro w q; (try dsimp only at q); (go_simp <;> with_reducible rfl))
      refine tk 5 (v := ?_) rfl (by kernel_rfl) (fun _ _ _ h => h) (.inl ⟨by rfl, ?hy⟩) (by assumption) ?_
      case hy => (intro w q; (try dsimp only at q); (go_simp <;> with_reducible rfl))
      refine tk 6 (v := ?_) rfl (by kernel_rfl) (fun _ _ _ h => h) (.inl ⟨by rfl, ?hy⟩) (by assumption) ?_
      case hy => (intro w q; (try dsimp only at q); (go_simp <;> with_reducible rfl))
      refine tk 7 (v := ?_) rfl (by kernel_rfl) (fun _ _ _ h => h) (.inl ⟨by rfl, ?hy⟩) (by assumption) ?_
      case hy => (intro w q; (try dsimp only at q); (go_simp <;> with_reducible rfl))
      refine tk 8 (v := ?_) rfl (by kernel_rfl) (fun _ _ _ h => h) (.inl ⟨by rfl, ?hy⟩) (by assumption) ?_
      case hy => (intro w q; (try dsimp only at q); (go_simp <;> with_reducible rfl))
      refine tk 9 (v := ?_) rfl (by kernel_rfl) (fun _ _ _ h => h) (.inl ⟨by rfl, ?hy⟩) (by assumption) ?_
      case hy => (intro w q; (try dsimp only at q); (go_simp <;> with_reducible rfl))
      refine tk 10 (v := ?_) rfl (by kernel_rfl) (fun _ _ _ h => h) (.inl ⟨by rfl, ?hy⟩) (by assumption) ?_
      case hy => (intro w q; (try dsimp only at q); (go_simp <;> with_reducible rfl))
      refine tk 11 (v := ?_) rfl (by kernel_rfl) (fun _ _ _ h => h) (.inl ⟨by rfl, ?hy⟩) (by assumption) ?_
      case hy => (intro w q; (try dsimp only at q); (go_simp <;> with_reducible rfl))
      refine tk 12 (v := ?_) rfl (by kernel_rfl) (fun _ _ _ h => h) (.inl ⟨by rfl, ?hy⟩) (by assumption) ?_
      case hy => (intro w q; (try dsimp only at q); (go_simp <;> with_reducible rfl))
      refine tk 13 (v := ?_) rfl (by kernel_rfl) (fun _ _ _ h => h) (.inl ⟨by rfl, ?hy⟩) (by assumption) ?_
      case hy => (intro w q; (try dsimp only at q); (go_simp <;> with_reducible rfl))
      try simp only [Act.put, gz, List.getElem_cons_succ, List.getElem_cons_zero, List.setIfInBounds_toArray, List.set_cons_zero, List.set_cons_succ]
      refine wpAnyH_ready (rs := [4, 14]) (by kernel_rfl) (by simp) ?_
      refine AllReadyH.cons rfl (fun Kk hKk => ?_) (AllReadyH.cons rfl (fun Kk hKk => ?_) AllReadyH.nil)
      go_simp
      refine hKk.out _ _ (by assumption) (fun hHeld => ?_)
      clear hKk Kk
      try simp only [Act.put, gz, List.getElem_cons_succ, List.getElem_cons_zero, List.setIfInBounds_toArray, List.set_cons_zero, List.set_cons_succ]
      refine wpAnyH_ready (rs := [14]) (by kernel_rfl) (by simp) ?_
      refine AllReadyH.cons rfl (fun Kk hKk => ?_) AllReadyH.nil
      go_simp
      refine hKk.out _ _ ?_ (fun hHeld => ?_)
      · (try dsimp only)
        (go_keep)
      clear hKk Kk
      try simp only [Act.put, gz, List.getElem_cons_succ, List.getElem_cons_zero, List.setIfInBounds_toArray, List.set_cons_zero, List.set_cons_succ]
      refine wpAnyH_ready (rs := [15]) (by kernel_rfl) (by simp) ?_
      refine AllReadyH.cons rfl (fun Kk hKk => ?_) AllReadyH.nil
      ((refine step_append_lies _ (by rfl) _ _ 118 (by rfl) base 141 i0 _ 2 8 Try.underlying118 hi0 hz0 hz1 hz2 rfl (by omega) (.slice Ad G.length cap1) G.length (flat G) (by rfl) ?_ ⟨wr.heap.size, 0, none⟩ 1 1 [.int .u32 (addr + t), .int .u8 c] (by rfl) rfl ?_ (by simp [Value.oneCell']) (by omega) (by unfold maxLen; omega) (by omega) ?_ _ rfl ?_; (focus (exact (HM.out.below (by (exact blZ))).row)); (focus (exact World.news_of_block (by (exact hpZ)))); (focus (simp; omega)); intro r cap2 w1 hown hgrow hat hlt; have hb1 := (grown_but hgrow).heap Hbn.out (by have hq := Hbb.out; (exact hpZ) : _ = some (Obj.cells X 5 fr)); (have cb1 : w1.cell? ⟨bb, off + t, none⟩ = some (.int .u8 c) := (cell_of_heap hb1 _).trans Hx1.out); have hg1 := (grown_but hgrow).heap Hgn.out (by have hq := HM.out.mem; (exact hpZ) : _ = some (Obj.cells (rcells K (.slice Ad G.length cap1)) 120 (0, 0))); (have c5 : w1.cell? ⟨g, 4, none⟩ = some (.slice Ad G.length cap1) := cell_of_heap hg1 4); (have f5 : w1.frozen? ⟨g, 4, none⟩ = false := frozen_of_heap hg1 4); have HO := Lib.hid hown; have HW := Lib.hid hgrow; have HT := Lib.hid hat; clear hown hgrow hat))
      refine hKk.out _ _ ?_ (fun hHeld => ?_)
      · (try dsimp only)
        (go_keep)
      clear hKk Kk
      try simp only [Act.put, gz, List.getElem_cons_succ, List.getElem_cons_zero, List.setIfInBounds_toArray, List.set_cons_zero, List.set_cons_succ]
      refine tk 16 (v := ?_) rfl (by kernel_rfl) (fun _ _ _ h => h) (.inl ⟨by rfl, ?hy⟩) (by assumption) ?_
      case hy => (intro w q; (try dsimp only at q); (go_simp <;> with_reducible rfl))
      refine tk 17 (v := ?_) rfl (by kernel_rfl) (fun _ _ _ h => h) (.inl ⟨by rfl, ?hy⟩) (by assumption) ?_
      case hy => (intro w q; (try dsimp only at q); (go_simp <;> with_reducible rfl))
      refine wpAnyH_ready (rs := [18]) (by kernel_rfl) (by simp) ?_
      refine AllReadyH.cons rfl (fun Kk hKk => ?_) AllReadyH.nil
      go_simp
      refine hKk.out _ _ ?_ (fun hHeld => ?_)
      · (try dsimp only)
        (go_keep)
      clear hKk Kk
      try simp only [Act.put, gz, List.getElem_cons_succ, List.getElem_cons_zero, List.setIfInBounds_toArray, List.set_cons_zero, List.set_cons_succ]
      try simp only [Act.put, gz, List.getElem_cons_succ, List.getElem_cons_zero, List.setIfInBounds_toArray, List.set_cons_zero, List.set_cons_succ]
      refine wpAnyH_done (by kernel_rfl) ?_ _
      refine NoPanic.normal ?_
      rotate_left
      go_simp
      refine hKk.out _ _ ?_ (fun hHeld => ?_)
      · (try dsimp only)
        (go_keep)
      clear hKk Kk
      try simp only [Act.put, gz, List.getElem_cons_succ, List.getElem_cons_zero, List.setIfInBounds_toArray, List.set_cons_zero, List.set_cons_succ]
      refine wpAnyH_ready (rs := [4]) (by kernel_rfl) (by simp) ?_
      refine AllReadyH.cons rfl (fun Kk hKk => ?_) AllReadyH.nil
      go_simp
      refine hKk.out _ _ (by assumption) (fun hHeld => ?_)
      clear hKk Kk
      try simp only [Act.put, gz, List.getElem_cons_succ, List.getElem_cons_zero, List.setIfInBounds_toArray, List.set_cons_zero, List.set_cons_succ]
      refine wpAnyH_ready (rs := [15]) (by kernel_rfl) (by simp) ?_
      refine AllReadyH.cons rfl (fun Kk hKk => ?_) AllReadyH.nil
      ((refine step_append_lies _ (by rfl) _ _ 118 (by rfl) base 141 i0 _ 2 8 Try.underlying118 hi0 hz0 hz1 hz2 rfl (by omega) (.slice Ad G.length cap1) G.length (flat G) (by rfl) ?_ ⟨wr.heap.size, 0, none⟩ 1 1 [.int .u32 (addr + t), .int .u8 c] (by rfl) rfl ?_ (by simp [Value.oneCell']) (by omega) (by unfold maxLen; omega) (by omega) ?_ _ rfl ?_; (focus (exact (HM.out.below (by (exact blZ))).row)); (focus (exact World.news_of_block (by (exact hpZ)))); (focus (simp; omega)); intro r cap2 w1 hown hgrow hat hlt; have hb1 := (grown_but hgrow).heap Hbn.out (by have hq := Hbb.out; (exact hpZ) : _ = some (Obj.cells X 5 fr)); (have cb1 : w1.cell? ⟨bb, off + t, none⟩ = some (.int .u8 c) := (cell_of_heap hb1 _).trans Hx1.out); have hg1 := (grown_but hgrow).heap Hgn.out (by have hq := HM.out.mem; (exact hpZ) : _ = some (Obj.cells (rcells K (.slice Ad G.length cap1)) 120 (0, 0))); (have c5 : w1.cell? ⟨g, 4, none⟩ = some (.slice Ad G.length cap1) := cell_of_heap hg1 4); (have f5 : w1.frozen? ⟨g, 4, none⟩ = false := frozen_of_heap hg1 4); have HO := Lib.hid hown; have HW := Lib.hid hgrow; have HT := Lib.hid hat; clear hown hgrow hat))
      refine hKk.out _ _ ?_ (fun hHeld => ?_)
      · (try dsimp only)
        (go_keep)
      clear hKk Kk
      try simp only [Act.put, gz, List.getElem_cons_succ, List.getElem_cons_zero, List.setIfInBounds_toArray, List.set_cons_zero, List.set_cons_succ]
      refine tk 16 (v := ?_) rfl (by kernel_rfl) (fun _ _ _ h => h) (.inl ⟨by rfl, ?hy⟩) (by assumption) ?_
      case hy => (intro w q; (try dsimp only at q); (go_simp <;> with_reducible rfl))
      refine tk 17 (v := ?_) rfl (by kernel_rfl) (fun _ _ _ h => h) (.inl ⟨by rfl, ?hy⟩) (by assumption) ?_
      case hy => (intro w q; (try dsimp only at q); (go_simp <;> with_reducible rfl))
      refine wpAnyH_ready (rs := [18]) (by kernel_rfl) (by simp) ?_
      refine AllReadyH.cons rfl (fun Kk hKk => ?_) AllReadyH.nil
      go_simp
      refine hKk.out _ _ ?_ (fun hHeld => ?_)
      · (try dsimp only)
        (go_keep)
      clear hKk Kk
      try simp only [Act.put, gz, List.getElem_cons_succ, List.getElem_cons_zero, List.setIfInBounds_toArray, List.set_cons_zero, List.set_cons_succ]
      try simp only [Act.put, gz, List.getElem_cons_succ, List.getElem_cons_zero, List.setIfInBounds_toArray, List.set_cons_zero, List.set_cons_succ]
      refine wpAnyH_done (by kernel_rfl) ?_ _
      refine NoPanic.normal ?_
      all_goals
        go_wp2
        go_roundw
        case rel =>
          refine ⟨t + 1, by omega, by go_num, ?_⟩
          exact pinv_step q Hw.out HM.out HG.out HB.out HR.out HS.out (by (exact blZ)) (by rw [Hcc.out, Int.emod_eq_of_lt (by omega) (by omega)]; exact HO.out) HW.out HT.out
        case measure => simp [intOf]; omega
    · go_wp2
      go_returns
      exact pinv_end hI (by omega) (by simp)
end Go.Proofs.Ytioopcilcgebeaa.CpuA
/-! #### MemI -/
namespace Go.Proofs.Ytioopcilcgebeaa.CpuA
open Go.RowKit Go.Proofs.Ytioopcilcgebeaa.Base Go.Proofs.YtioopcilcgebeaaW.PrintWords

/-- Bytes laid over others. -/
def spl (X : List Int) (d : Nat) (B : List Int) : List Int := X.take d ++ (B ++ X.drop (d + B.length))
theorem spl_len (X : List Int) (d : Nat) (B : List Int) (h : d + B.length ≤ X.length) : (spl X d B).length = X.length := by simp [spl]; omega
theorem spl_bytes {X B : List Int} (d : Nat) (hX : ∀ c ∈ X, 0 ≤ c ∧ c < 256) (hB : ∀ c ∈ B, 0 ≤ c ∧ c < 256) : ∀ c ∈ spl X d B, 0 ≤ c ∧ c < 256 := by
  intro c hc
  unfold spl at hc
  rcases List.mem_append.1 hc with hc | hc
  · exact hX c (List.mem_of_mem_take hc)
  · rcases List.mem_append.1 hc with hc | hc
    · exact hB c hc
    · exact hX c (List.mem_of_mem_drop hc)
theorem But.setRow {l : List Nat} {a b : World} (h : But l a b) (g : Nat) (cs : Array Value) (hg : g ∈ l) : But l a (b.setRow g cs) := by
  refine ⟨h.os, h.tape, h.output, by simpa [World.setRow] using h.size, fun k hk hl => ?_⟩
  rw [← h.block k hk hl]
  exact setRow_other b g k cs (by rintro rfl; exact hl hg)
theorem bytes_row {g : Nat} {X : List Int} {w : World} (h : IsBytes g X w) (d : Nat) (B : List Int) :
    IsBytes g (spl X d B) (w.setRow g ((X.map (Value.int .u8)).take d ++ (B.map (Value.int .u8) ++ (X.map (Value.int .u8)).drop (d + B.length))).toArray) := by
  unfold IsBytes
  rw [setRow_heap w g _ _ 5 (0, 0) h]
  congr 3
  simp [spl, List.map_append, List.map_take, List.map_drop]
theorem BS.news {A : Option Addr} {B : List Int} {w : World} (h : BS A B w) (h0 : 0 < B.length) : ∃ ad, A = some ad ∧ ∀ j v, (B.map (Value.int .u8))[j]? = some v → w.cell? (ad.add j) = some v := by
  rcases h with ⟨rfl, _⟩ | ⟨bb, off, X, fr, rfl, hh, hc⟩
  · simp at h0
  · refine ⟨_, rfl, fun j v hv => ?_⟩
    have e : (Addr.add ⟨bb, off, none⟩ j) = ⟨bb, off + j, none⟩ := by
      unfold Addr.add
      split
      · subst_vars; rfl
      · rfl
    rw [e, cell_of_heap hh]
    rw [List.getElem?_map] at hv
    cases hj : B[j]? with
    | none => rw [hj] at hv; cases hv
    | some c =>
      rw [hj] at hv
      have hl := (List.getElem?_eq_some_iff.1 hj).1
      rw [hc j hl, List.getD_eq_getElem?_getD, hj]
      exact hv
theorem info5z : (Try.prog.info? 5).map (·.size) = some 1 := by kernel_rfl
set_option maxHeartbeats 8000000 in
set_option maxRecDepth 100000 in
theorem put_flash {b : Nat} {K : Bk} {F R : List Int} {w : World} (h : Mem b K F R w) (hn : K.fb ≠ K.rb) (addr : Int) (ha : 0 ≤ addr ∧ addr < 4294967296) (A : Option Addr) (cap : Nat) (B : List Int) (hB : BS A B w) (hw : ∀ c ∈ B, 0 ≤ c ∧ c < 256) (h0 : 0 < B.length)
    (hi : InB K.f K.fn addr B.length) :
    Calls Try.prog 59 #[.pointer (some ⟨b, 0, none⟩), .int .u32 addr, .slice A B.length cap] w fun e w' => e = .returned (.bool true) ∧ Mem b K (spl F (addr - K.f).toNat B) R w' ∧ But [K.fb] w w' := by
  have hbf : b ≠ K.fb := blk_ne h.mem h.flash (by decide)
  have hi' := hi
  unfold InB at hi'
  have Hp := Lib.hid (mpart_flash h.mem h.ok addr (addr - K.f).toNat B.length ha.2 (by omega) (by omega) (by omega))
  have hl : (addr - K.f).toNat + B.length ≤ F.length := by rw [h.fl]; omega
  generalize (addr - K.f).toNat = d at *
  have H := Lib.hid h
  obtain ⟨ad, rfl, hs⟩ := hB.news h0
  have HS := Lib.hid (fun (w1 : World) (hB1 : Below w.heap.size w w1) => hB.but (l := []) (But.of_below hB1) (fun _ _ _ _ => by simp))
  have Hw := Lib.hid hw
  clear h hB hw hi hi' hs
  go_enter Try.func59, Try.ntmps59
  go_wp2_with (first
    | (go_at_call 68; (refine Hp.out.mono ?_); rintro e w1 ⟨rfl, hB1⟩; (have hfl : w1.heap[K.fb]? = some (.cells (F.map (Value.int .u8)).toArray 5 (0, 0)) := heap_below hB1 H.out.flash); obtain ⟨ad', ea, hs⟩ := (HS.out w1 hB1).news h0; cases ea; have Hs := Lib.hid hs; clear hs)
    | (refine wpList_copy_own rfl (.tmp 18) (.tmp 19) 63 63 rfl 5 Try.underlying63 info5z K.fb d B.length (K.fn - d) ad B.length cap (by rfl) (by rfl) _ 5 hfl (B.map (Value.int .u8)) (by simp) Hs.out (by simpa using hl) (by simp [Value.oneCell']) ?_))
  go_returns
  have hr : IsBytes K.rb R w1 := heap_below hB1 H.out.ram
  have hm : IsMem b K w1 := heap_below hB1 H.out.mem
  refine ⟨by simp, ⟨H.out.ok, ?_, ?_, ?_, by rw [spl_len _ _ _ hl]; exact H.out.fl, H.out.rl, spl_bytes d H.out.fbytes Hw.out, H.out.rbytes⟩, ?_⟩
  · exact ((But.refl [K.fb] _).setRow _ _ (by simp)).heap (by simpa using hbf) hm
  · have := bytes_row hfl d B
    simpa using this
  · exact ((But.refl [K.fb] _).setRow _ _ (by simp)).heap (by simpa using Ne.symm hn) hr
  · exact (But.of_below hB1).setRow _ _ (by simp)
set_option maxHeartbeats 8000000 in
set_option maxRecDepth 100000 in
theorem put_ram {b : Nat} {K : Bk} {F R : List Int} {w : World} (h : Mem b K F R w) (hn : K.fb ≠ K.rb) (addr : Int) (ha : 0 ≤ addr ∧ addr < 4294967296) (A : Option Addr) (cap : Nat) (B : List Int) (hB : BS A B w) (hw : ∀ c ∈ B, 0 ≤ c ∧ c < 256) (h0 : 0 < B.length)
    (hi : InB K.r K.rn addr B.length) (hf : ¬ InB K.f K.fn addr B.length) :
    Calls Try.prog 59 #[.pointer (some ⟨b, 0, none⟩), .int .u32 addr, .slice A B.length cap] w fun e w' => e = .returned (.bool true) ∧ Mem b K F (spl R (addr - K.r).toNat B) w' ∧ But [K.rb] w w' := by
  have hbf : b ≠ K.rb := blk_ne h.mem h.ram (by decide)
  have hi' := hi
  unfold InB at hi'
  have Hp := Lib.hid (mpart_ram h.mem h.ok addr (addr - K.r).toNat B.length ha.2 (by omega) (by omega) (by omega) hf)
  have hl : (addr - K.r).toNat + B.length ≤ R.length := by rw [h.rl]; omega
  generalize (addr - K.r).toNat = d at *
  have H := Lib.hid h
  obtain ⟨ad, rfl, hs⟩ := hB.news h0
  have HS := Lib.hid (fun (w1 : World) (hB1 : Below w.heap.size w w1) => hB.but (l := []) (But.of_below hB1) (fun _ _ _ _ => by simp))
  have Hw := Lib.hid hw
  clear h hB hw hi hi' hs hf
  go_enter Try.func59, Try.ntmps59
  go_wp2_with (first
    | (go_at_call 68; (refine Hp.out.mono ?_); rintro e w1 ⟨rfl, hB1⟩; (have hfl : w1.heap[K.rb]? = some (.cells (R.map (Value.int .u8)).toArray 5 (0, 0)) := heap_below hB1 H.out.ram); obtain ⟨ad', ea, hs⟩ := (HS.out w1 hB1).news h0; cases ea; have Hs := Lib.hid hs; clear hs)
    | (refine wpList_copy_own rfl (.tmp 18) (.tmp 19) 63 63 rfl 5 Try.underlying63 info5z K.rb d B.length (K.rn - d) ad B.length cap (by rfl) (by rfl) _ 5 hfl (B.map (Value.int .u8)) (by simp) Hs.out (by simpa using hl) (by simp [Value.oneCell']) ?_))
  go_returns
  have hr : IsBytes K.fb F w1 := heap_below hB1 H.out.flash
  have hm : IsMem b K w1 := heap_below hB1 H.out.mem
  refine ⟨by simp, ⟨H.out.ok, ?_, ?_, ?_, H.out.fl, by rw [spl_len _ _ _ hl]; exact H.out.rl, H.out.fbytes, spl_bytes d H.out.rbytes Hw.out⟩, ?_⟩
  · exact ((But.refl [K.rb] _).setRow _ _ (by simp)).heap (by simpa using hbf) hm
  · exact ((But.refl [K.rb] _).setRow _ _ (by simp)).heap (by simpa using hn) hr
  · have := bytes_row hfl d B
    simpa using this
  · exact (But.of_below hB1).setRow _ _ (by simp)
set_option maxHeartbeats 8000000 in
set_option maxRecDepth 100000 in
theorem put_flash0 {b : Nat} {K : Bk} {F R : List Int} {w : World} (h : Mem b K F R w) (addr : Int) (ha : 0 ≤ addr ∧ addr < 4294967296) (A : Option Addr) (cap : Nat) (hi : InB K.f K.fn addr 1) :
    Calls Try.prog 59 #[.pointer (some ⟨b, 0, none⟩), .int .u32 addr, .slice A 0 cap] w fun e w' => e = .returned (.bool true) ∧ Below w.heap.size w w' := by
  unfold InB at hi
  have Hp := Lib.hid (mpart_flash h.mem h.ok addr (addr - K.f).toNat 0 ha.2 (by omega) (by omega) (by omega))
  generalize (addr - K.f).toNat = d at *
  clear h hi
  go_enter Try.func59, Try.ntmps59
  go_wp2_with (first
    | (go_at_call 68; (refine Hp.out.mono ?_); rintro e w1 ⟨rfl, hB1⟩)
    | (refine wpList_copy_nothing rfl (.tmp 18) (.tmp 19) 63 63 rfl 5 Try.underlying63 info5z _ _ 0 _ 0 _ (by rfl) (by rfl) rfl ?_))
  go_returns
  exact ⟨by simp, hB1⟩
end Go.Proofs.Ytioopcilcgebeaa.CpuA
/-! #### LawA -/
namespace Go.Proofs.Ytioopcilcgebeaa.CpuA
open Go.RowKit Go.Proofs.Ytioopcilcgebeaa.Base Go.Proofs.YtioopcilcgebeaaW.PrintWords

theorem IsM.drewN {b : Nat} {m : Addr} {pc : Int} {R : List Int} {w : World} (h : IsM b m pc R w) (n : Nat) : IsM b m pc R (w.drewN n) := h
theorem quiet_at {P : Program} {f : FuncId} {args : Array Value} {w : World} {v : Value} (h : ∀ n, Calls P f args (w.drewN n) fun e w' => e = .returned v ∧ w' = w.drewN n) (a n : Nat) :
    Calls P f args (w.drewN (a + n)) fun e w'' => e = .returned v ∧ ∃ m, w'' = w.drewN (a + m) := (h (a + n)).mono fun _ _ hh => ⟨hh.1, n, hh.2⟩
set_option maxHeartbeats 8000000 in
set_option maxRecDepth 100000 in
theorem same_calls {b xb : Nat} {m mx : Addr} {pc : Int} {R : List Int} {w : World} (h : IsM b m pc R w) (hx : IsX xb mx pc R w) :
    Calls Try.prog 28 #[.pointer (some ⟨b, 0, none⟩), .pointer (some ⟨xb, 0, none⟩)] w fun e w' => e = .returned (.bool true) ∧ ∃ n, w' = w.drewN n := by
  have c1 := cell_of_heap hx.1 1
  rw [mcells_pc] at c1
  have H := Lib.hid h
  have HX := Lib.hid hx
  clear h hx
  go_enter Try.func28, Try.ntmps28
  go_wp2
  go_loopw [5] (fun i wr => ∃ k m : Nat, k ≤ 32 ∧ i = .int .i64 (k : Int) ∧ wr = w.drewN m) (fun i _ => 32 - (intOf i).toNat)
  case atStart => exact ⟨0, 0, by omega, rfl, rfl⟩
  case round =>
    obtain ⟨k, m1, hk, rfl, rfl⟩ := hrel
    by_cases q : k < 32
    · have c := cell_of_heap HX.out.1 (2 + k)
      rw [mcells_reg _ _ _ _ (by rw [HX.out.2]; exact q)] at c
      have Hr := Lib.hid (fun n => reg_calls (H.out.drewN n) (k : Int))
      have hr : (if 0 ≤ (k : Int) ∧ (k : Int) < 32 then R.getD ((k : Int)).toNat 0 else 0) = R.getD k 0 := by rw [if_pos ⟨by omega, by omega⟩]; rfl
      rw [hr] at Hr
      clear hr
      generalize R.getD k 0 = r at *
      have i0' : (0 : Int) ≤ (k : Int) := by omega
      have i1' : (k : Int) < 32 := by omega
      go_wp2
      go_quiet ((go_at_call 21; exact quiet_at Hr.out _ _))
      go_wp2
      refine ⟨⟨k + 1, _, by omega, by go_num, rfl⟩, by simp [intOf]; omega⟩
    · have Hp := Lib.hid (fun n => pc_calls (H.out.drewN n))
      go_wp2
      go_quiet ((go_at_call 18; exact quiet_at Hp.out _ _))
      go_wp2
      go_returns
      exact ⟨by simp, m1 + nq, World.drewN_drewN ..⟩
end Go.Proofs.Ytioopcilcgebeaa.CpuA
