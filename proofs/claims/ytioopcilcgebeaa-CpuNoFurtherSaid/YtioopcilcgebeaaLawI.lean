/- CpuNoFurther. -/
import Derived.Test.YtioopcilcgebeaaLawH
import Derived.Test.YtioopcilcgebeaaKN
set_option linter.unusedVariables false
set_option linter.unusedSimpArgs false
namespace Go.Proofs.Ytioopcilcgebeaa.CpuA
open Go.RowKit Go.Proofs.Ytioopcilcgebeaa.Base Go.Proofs.Ytioopcilcgebeaa.InstS Go.Proofs.Ytioopcilcgebeaa.InstA Go.Proofs.YtioopcilcgebeaaW.PrintWords

def wasL (R : List Int) (k : Nat) : List Int := R.take k ++ List.replicate (32 - k) 0
theorem wasL_len {R : List Int} (h : R.length = 32) (k : Nat) (hk : k ≤ 32) : (wasL R k).length = 32 := by simp [wasL, h]; omega
theorem wasL_set {R : List Int} (h : R.length = 32) (k : Nat) (hk : k < 32) : (wasL R k).set k (R.getD k 0) = wasL R (k + 1) := by
  unfold wasL
  have e : List.replicate (32 - k) (0 : Int) = 0 :: List.replicate (32 - (k + 1)) 0 := by rw [show 32 - k = (32 - (k + 1)) + 1 by omega]; rfl
  have l : (R.take k).length = k := by simp; omega
  rw [e, List.set_append_right _ _ (by omega), l, Nat.sub_self, List.set_cons_zero, List.take_succ_eq_append_getElem (by omega), List.append_assoc]
  simp [List.getD_eq_getElem?_getD, List.getElem?_eq_getElem (show k < R.length by omega)]
theorem wasL_all {R : List Int} (h : R.length = 32) : wasL R 32 = R := by unfold wasL; rw [List.take_of_length_le (by omega)]; simp
theorem wasL_zero (R : List Int) : (#[.int .u32 0, .int .u32 0, .int .u32 0, .int .u32 0, .int .u32 0, .int .u32 0, .int .u32 0, .int .u32 0, .int .u32 0, .int .u32 0, .int .u32 0, .int .u32 0, .int .u32 0, .int .u32 0, .int .u32 0, .int .u32 0, .int .u32 0, .int .u32 0, .int .u32 0, .int .u32 0, .int .u32 0, .int .u32 0, .int .u32 0, .int .u32 0, .int .u32 0, .int .u32 0, .int .u32 0, .int .u32 0, .int .u32 0, .int .u32 0, .int .u32 0, .int .u32 0] : Array Value) = ((wasL R 0).map (Value.int .u32)).toArray := rfl
theorem modify_same {w : World} {g : Nat} {o : Obj} (f : Obj → Obj) (h : w.heap[g]? = some o) (hf : f o = o) : w.heap.modify g f = w.heap := by
  apply Array.ext_getElem?
  intro i
  rw [Array.getElem?_modify]
  split
  · subst_vars; rw [h]; simp [hf]
  · rfl
theorem setRow_same {w : World} {g : Nat} {c : Array Value} {t : TypeId} {fr : Nat × Nat} (h : w.heap[g]? = some (.cells c t fr)) : w.setRow g c = w := by
  unfold World.setRow
  rw [modify_same _ h rfl]
set_option maxHeartbeats 4000000 in
set_option maxRecDepth 100000 in
theorem zv62 (w : World) : (zeroValue 62).run Try.prog w = .ok (.agg #[.int .u32 0, .int .u32 0, .int .u32 0, .int .u32 0, .int .u32 0, .int .u32 0, .int .u32 0, .int .u32 0, .int .u32 0, .int .u32 0, .int .u32 0, .int .u32 0, .int .u32 0, .int .u32 0, .int .u32 0, .int .u32 0, .int .u32 0, .int .u32 0, .int .u32 0, .int .u32 0, .int .u32 0, .int .u32 0, .int .u32 0, .int .u32 0, .int .u32 0, .int .u32 0, .int .u32 0, .int .u32 0, .int .u32 0, .int .u32 0, .int .u32 0, .int .u32 0]) w := by
  simp [go_sem]
/-- The variable of registers, made: held under a name. -/
def allocZ : Sem Value := Instr.alloc 62 true (.tuple #[])
theorem allocZ_eq : Instr.alloc 62 true (.tuple #[]) = allocZ := rfl
theorem run_allocZ (w : World) : allocZ.run Try.prog w = .ok (.pointer (some ⟨w.heap.size, 0, none⟩)) (w.alloc (.cells #[.int .u32 0, .int .u32 0, .int .u32 0, .int .u32 0, .int .u32 0, .int .u32 0, .int .u32 0, .int .u32 0, .int .u32 0, .int .u32 0, .int .u32 0, .int .u32 0, .int .u32 0, .int .u32 0, .int .u32 0, .int .u32 0, .int .u32 0, .int .u32 0, .int .u32 0, .int .u32 0, .int .u32 0, .int .u32 0, .int .u32 0, .int .u32 0, .int .u32 0, .int .u32 0, .int .u32 0, .int .u32 0, .int .u32 0, .int .u32 0, .int .u32 0, .int .u32 0] 62)) := by
  unfold allocZ Instr.alloc
  simp only [Sem.run_bind, zv62, Result.andThen_ok, newVar, newRow, run_newObj_alloc, Sem.run_pure, Value.cells]
attribute [local go_sem high] allocZ_eq run_allocZ
def buildZ : Sem Value := Instr.build 62 #[]
theorem buildZ_eq : Instr.build 62 #[] = buildZ := rfl
set_option maxHeartbeats 4000000 in
set_option maxRecDepth 100000 in
theorem run_buildZ (w : World) : buildZ.run Try.prog w = .ok (.agg #[.int .u32 0, .int .u32 0, .int .u32 0, .int .u32 0, .int .u32 0, .int .u32 0, .int .u32 0, .int .u32 0, .int .u32 0, .int .u32 0, .int .u32 0, .int .u32 0, .int .u32 0, .int .u32 0, .int .u32 0, .int .u32 0, .int .u32 0, .int .u32 0, .int .u32 0, .int .u32 0, .int .u32 0, .int .u32 0, .int .u32 0, .int .u32 0, .int .u32 0, .int .u32 0, .int .u32 0, .int .u32 0, .int .u32 0, .int .u32 0, .int .u32 0, .int .u32 0]) w := by
  unfold buildZ
  simp [go_sem]
attribute [local go_sem high] buildZ_eq run_buildZ
set_option maxHeartbeats 16000000 in
set_option maxRecDepth 100000 in
theorem cpuNoFurther_walk (x : Int) (hx : 0 ≤ x ∧ x < 4294967296) (A1 : Option Addr) (cap1 : Nat) (regs : List Int) (w : World) (h1 : US A1 regs w) (l1 : regs.length ≤ maxLen) :
    Calls Try.prog 8 #[.int .u32 x, .slice A1 regs.length cap1] w fun e w' => e = .returned (.bool true) ∧ Below w.heap.size w w' := by
  have Hb := Lib.hid (fun (W : World) (hW : Below w.heap.size w W) (hc : W.heap[w.heap.size]? = some (.cells #[.int .u32 x] 22 (0, 0))) => (show Calls Try.prog 25 #[.slice (some ⟨w.heap.size, 0, none⟩) 1 1, .slice A1 regs.length cap1] W (BeganT [x] regs W) from
    (begins_calls (some ⟨w.heap.size, 0, none⟩) 1 [x] A1 cap1 regs W (us_heap (R := [x]) hc (by intro y hy; rw [List.mem_singleton] at hy; subst hy; exact hx)) (h1.below hW) (by show 1 ≤ _; unfold maxLen; omega) l1).mono fun _ _ h => began_T h))
  clear h1
  go_enter Try.func8, Try.ntmps8
  go_wp2_with (first
    | (go_at_call 25; (refine (Hb.out _ ?_ ?_).mono ?_); (focus (exact blZ)); (focus (exact hpZ)); rintro e wb ⟨b, mb, fb, rb, xb, g, bs, L, v, rfl, hT, hl, ⟨g1, g2, g3, g4, g5, g6, g7⟩, hBb⟩; have HC := Lib.hid hT.c; clear hT g5 g6 g7; have z1 := hBb.size)
    | (refine wpList_store_row rfl 62 (.tmp 8) (.tmp 30) rfl wb.heap.size #[.int .u32 0, .int .u32 0, .int .u32 0, .int .u32 0, .int .u32 0, .int .u32 0, .int .u32 0, .int .u32 0, .int .u32 0, .int .u32 0, .int .u32 0, .int .u32 0, .int .u32 0, .int .u32 0, .int .u32 0, .int .u32 0, .int .u32 0, .int .u32 0, .int .u32 0, .int .u32 0, .int .u32 0, .int .u32 0, .int .u32 0, .int .u32 0, .int .u32 0, .int .u32 0, .int .u32 0, .int .u32 0, .int .u32 0, .int .u32 0, .int .u32 0, .int .u32 0] rfl rfl 62 #[.int .u32 0, .int .u32 0, .int .u32 0, .int .u32 0, .int .u32 0, .int .u32 0, .int .u32 0, .int .u32 0, .int .u32 0, .int .u32 0, .int .u32 0, .int .u32 0, .int .u32 0, .int .u32 0, .int .u32 0, .int .u32 0, .int .u32 0, .int .u32 0, .int .u32 0, .int .u32 0, .int .u32 0, .int .u32 0, .int .u32 0, .int .u32 0, .int .u32 0, .int .u32 0, .int .u32 0, .int .u32 0, .int .u32 0, .int .u32 0, .int .u32 0, .int .u32 0] (heap_at _ _ _ rfl) (by kernel_rfl) rfl (by kernel_rfl) ?_))
  rw [setRow_same (heap_at wb _ wb.heap.size rfl)]
  simp only [zA] at z1 g1 g2 g3 g4
  generalize fl [x] = F at *
  have hpc : (s0 regs).pc = 4096 := rfl
  generalize s0 regs = s at *
  have hR := HC.out.ok.rl
  obtain ⟨w0, hw0⟩ : ∃ w0, wb.alloc (.cells #[.int .u32 0, .int .u32 0, .int .u32 0, .int .u32 0, .int .u32 0, .int .u32 0, .int .u32 0, .int .u32 0, .int .u32 0, .int .u32 0, .int .u32 0, .int .u32 0, .int .u32 0, .int .u32 0, .int .u32 0, .int .u32 0, .int .u32 0, .int .u32 0, .int .u32 0, .int .u32 0, .int .u32 0, .int .u32 0, .int .u32 0, .int .u32 0, .int .u32 0, .int .u32 0, .int .u32 0, .int .u32 0, .int .u32 0, .int .u32 0, .int .u32 0, .int .u32 0] 62) = w0 := ⟨_, rfl⟩
  have hA0 : w0.heap[wb.heap.size]? = some (.cells ((wasL s.R 0).map (Value.int .u32)).toArray 62 (0, 0)) := by rw [← hw0, ← wasL_zero s.R]; exact heap_at _ _ _ rfl
  have hC0 : Box b mb (mapK fb rb) F s w0 := by rw [← hw0]; exact HC.out.below ((Below.refl _ wb).alloc (Nat.le_refl _) _)
  have hb0 : Below w.heap.size w w0 := by rw [← hw0]; (exact blZ)
  rw [hw0]
  have HC0 := Lib.hid hC0
  have HA0 := Lib.hid hA0
  have HB0 := Lib.hid hb0
  have hwb : wb.heap.size < w0.heap.size := lt_of_heap hA0
  have n1 : b ≠ wb.heap.size := by have := lt_of_heap HC.out.m.1; omega
  have n2 : mb ≠ wb.heap.size := by have := lt_of_heap HC.out.mem.mem; omega
  have n3 : fb ≠ wb.heap.size := by have : fb < wb.heap.size := lt_of_heap HC.out.mem.flash; omega
  have n4 : rb ≠ wb.heap.size := by have : rb < wb.heap.size := lt_of_heap HC.out.mem.ram; omega
  clear hA0 hC0 hb0 hw0
  go_loopw [10] (fun i wr => ∃ k : Nat, k ≤ 32 ∧ i = .int .i64 (k : Int) ∧ RowKit.Hid (wr.heap[wb.heap.size]? = some (.cells ((wasL s.R k).map (Value.int .u32)).toArray 62 (0, 0))) ∧ RowKit.Hid (But [wb.heap.size] w0 wr)) (fun i _ => 32 - (intOf i).toNat)
  case atStart => exact ⟨0, by omega, rfl, HA0, Lib.hid (But.refl _ _)⟩
  case round =>
    obtain ⟨k, hk, rfl, hA, hbe⟩ := hrel
    by_cases q : k < 32
    · have hCr : Box b mb (mapK fb rb) F s wr := HC0.out.but hbe (by simpa using n1) (by simpa using n2) (show fb ∉ [wb.heap.size] by simpa using n3) (show rb ∉ [wb.heap.size] by simpa using n4)
      have hr := reg_calls hCr.m (k : Int)
      rw [if_pos ⟨by omega, by omega⟩, Int.toNat_natCast] at hr
      have hset := uset hA k (s.R.getD k 0)
      rw [wasL_set hR k q] at hset
      have ca := ucell hA k (by rw [wasL_len hR k hk]; exact q)
      have fa := frozen_of_heap (show wr.heap[wb.heap.size]? = some (.cells _ _ (0, 0)) from hA) k
      generalize (wasL s.R k).getD k 0 = old at ca
      have HSET := Lib.hid hset
      have HR := Lib.hid hr
      generalize s.R.getD k 0 = r at *
      clear hset hr hCr
      go_wp2_with (first
        | (go_at_call 21; (with_reducible refine HR.out.mono ?_); rintro e wq ⟨rfl, hwq⟩; subst hwq))
      exact ⟨⟨k + 1, by omega, by go_num, HSET, Lib.hid (hbe.out.set _ _ (.inl (by simp)))⟩, by simp [intOf]; omega⟩
    · obtain rfl : k = 32 := by omega
      have hA' := hA.out
      rw [wasL_all hR] at hA'
      have hCr : Box b mb (mapK fb rb) F s wr := HC0.out.but hbe (by simpa using n1) (by simpa using n2) (show fb ∉ [wb.heap.size] by simpa using n3) (show rb ∉ [wb.heap.size] by simpa using n4)
      have hsz := hbe.out.size
      have Hm := Lib.hid (mem_calls hCr.m)
      have Hg := Lib.hid (ram_get wr.heap.size (Nat.le_refl _) hCr)
      have HBE := Lib.hid hbe.out
      have hst := fun (W : World) (hW : Below wr.heap.size wr W) => step_calls (hCr.below hW)
      have hdf := step_diffs (mapK fb rb) F s
      have htr := step_trap (mapK fb rb) F s
      have hmm := step_mem (mapK fb rb) F s
      generalize stepT (mapK fb rb) F s = r at hst hdf htr hmm
      obtain ⟨⟨ep, ew, ⟨ek, ea, ez⟩⟩, t, s'⟩ := r
      dsimp only at hdf htr hmm
      have Hst := Lib.hid (show ∀ (W : World) (hW : Below wr.heap.size wr W), Calls Try.prog 20 #[.pointer (some ⟨b, 0, none⟩)] W (fun e w' => e = .returned (.tuple #[.agg #[.int .u32 ep, .int .u32 ew, .int .i64 ek, .int .u32 ea, .int .i64 ez], .int .i64 t]) ∧ Box b mb (mapK fb rb) F s' w' ∧ But [b, rb] W w') from hst)
      have HDF := Lib.hid hdf
      have HTR := Lib.hid htr
      have HMM := Lib.hid hmm
      have HA1 := Lib.hid hA'
      have hlb : b < wb.heap.size := lt_of_heap HC.out.m.1
      have hlr : rb < wb.heap.size := lt_of_heap HC.out.mem.ram
      clear hA hA' hCr hbe hst hdf htr hmm HA0 HC0
      go_wp2_with (first
        | (go_at_call 22; (with_reducible refine Hm.out.mono ?_); rintro e wq ⟨rfl, hwq⟩; subst hwq)
        | (go_at_call 33; (with_reducible refine Hg.out.mono ?_); rintro e w1 ⟨gb, cap, cur, rfl, hgb, hgc, hcur, hB1⟩; have HG1 := Lib.hid hgc; have HCU := Lib.hid hcur; have HB1 := Lib.hid hB1; have z2 := hB1.size; clear hgc hcur)
        | (go_at_call 20; (with_reducible refine (Hst.out _ ?_).mono ?_); (focus (exact HB1.out)); rintro e w2 ⟨rfl, hC2, hB2⟩; have HC2 := Lib.hid hC2; have HB2 := Lib.hid hB2; have z3 := hB2.size; clear hC2 hB2))
      obtain ⟨w3, hw3⟩ : ∃ w3, w2.alloc (.cells #[.int .u32 ep, .int .u32 ew, .int .i64 ek, .int .u32 ea, .int .i64 ez] 35) = w3 := ⟨_, rfl⟩
      have nb : ∀ k, wb.heap.size ≤ k → k ∉ [b, rb] := fun k hk hm => by
        simp only [List.mem_cons, List.not_mem_nil, or_false] at hm
        rcases hm with rfl | rfl <;> omega
      have b23 : Below w2.heap.size w2 w3 := by rw [← hw3]; exact (Below.refl _ w2).alloc (Nat.le_refl _) _
      have hC3 : Box b mb (mapK fb rb) F s' w3 := HC2.out.below b23
      have hA3 := heap_below b23 (HB2.out.heap (nb _ (Nat.le_refl _)) (heap_below HB1.out HA1.out))
      have hG3 := heap_below b23 (HB2.out.heap (nb gb (by omega)) HG1.out)
      have hE3 : w3.heap[w2.heap.size]? = some (.cells #[.int .u32 ep, .int .u32 ew, .int .i64 ek, .int .u32 ea, .int .i64 ez] 35 (0, 0)) := by rw [← hw3]; exact heap_at _ _ _ rfl
      have y0 := below_but HB0.out (by have := HB0.out.size; exact this) HBE.out (by intro k hk; rw [List.mem_singleton] at hk; omega)
      have y1 := blO y0 HB1.out
      have y2 := below_but y1 y1.size HB2.out (by
        intro k hk
        simp only [List.mem_cons, List.not_mem_nil, or_false] at hk
        rcases hk with rfl | rfl <;> omega)
      have y3 := blO y2 b23
      rw [hw3]
      have hM3 := Lib.hid hC3
      have HA3 := Lib.hid hA3
      have HG3 := Lib.hid hG3
      have HE3 := Lib.hid hE3
      have HY3 := Lib.hid y3
      have HRG := Lib.hid (fun (n : Nat) (k : Int) => reg_calls (hC3.m.drewN n) k)
      have hl3 : w2.heap.size < w3.heap.size := lt_of_heap hE3
      have hR' := hC3.ok.rl
      clear hC3 hA3 hG3 hE3 y0 y1 y2 y3 hw3 b23 nb
      go_loopw [9, 15] (fun nw i wr2 => ∃ k m : Nat, k ≤ 32 ∧ i = .int .i64 (k : Int) ∧ nw = .int .i64 ((diffs s.R s'.R k : Nat) : Int) ∧ wr2 = w3.drewN m) (fun _ i _ => 32 - (intOf i).toNat)
      case atStart => exact ⟨0, 0, by omega, rfl, rfl, rfl⟩
      case round =>
        obtain ⟨k, m, hk, rfl, rfl, rfl⟩ := hrel
        have hd1 := HDF.out k
        by_cases q : k < 32
        · have hd2 := HDF.out (k + 1)
          have e1 : diffs s.R s'.R (k + 1) = diffs s.R s'.R k + if s'.R.getD k 0 = s.R.getD k 0 then 0 else 1 := rfl
          have ca := ucell HA3.out k (by rw [hR]; exact q)
          have hr := fun n => HRG.out n (k : Int)
          have hv : (if 0 ≤ (k : Int) ∧ (k : Int) < 32 then s'.R.getD ((k : Int)).toNat 0 else 0) = s'.R.getD k 0 := by rw [if_pos ⟨by omega, by omega⟩, Int.toNat_natCast]
          rw [hv] at hr
          clear hv
          rw [e1] at hd2
          have E1 := Lib.hid e1
          clear e1
          generalize s.R.getD k 0 = a at *
          generalize s'.R.getD k 0 = c at *
          generalize diffs s.R s'.R k = dn at *
          have HR := Lib.hid hr
          have i0' : (0 : Int) ≤ (k : Int) := by omega
          have i1' : (k : Int) < 32 := by omega
          clear hr
          by_cases hca : c = a
          · subst hca
            go_wp2
            go_quiet ((go_at_call 21; exact quiet_at HR.out _ _))
            go_wp2
            exact ⟨⟨k + 1, _, by omega, by go_num, by rw [E1.out]; simp, rfl⟩, by simp [intOf]; omega⟩
          · have hb1 : (c != a) = true := by rw [bne_iff_ne]; exact hca
            go_wp2
            go_quiet ((go_at_call 21; exact quiet_at HR.out _ _))
            go_wp2
            exact ⟨⟨k + 1, _, by omega, by go_num, by rw [E1.out, if_neg hca]; go_num, rfl⟩, by simp [intOf]; omega⟩
        · obtain rfl : k = 32 := by omega
          have hmc := Lib.hid (mem_calls (hM3.out.m.drewN m))
          have Hg2 := Lib.hid (ram_get (w3.drewN m).heap.size (Nat.le_refl _) (hM3.out.below (below_drewQ (Below.refl _ w3) m)))
          generalize hdn : diffs s.R s'.R 32 = dn at *
          have HDN := Lib.hid hdn
          clear hdn
          go_wp2_with (first
            | (go_at_call 22; (with_reducible refine hmc.out.mono ?_); rintro e wq ⟨rfl, hwq⟩; subst hwq)
            | (go_at_call 33; (with_reducible refine Hg2.out.mono ?_); rintro e w4 ⟨gd, cap2, cur2, rfl, hgd, hgd2, hcur2, hB4⟩; have HG4 := Lib.hid hgd2; have HCU2 := Lib.hid hcur2; have HB4 := Lib.hid hB4; have z5 := hB4.size; clear hgd2 hcur2))
          have b34 : Below w3.heap.size w3 w4 := blO (below_drewQ (Below.refl _ w3) m) HB4.out
          have hG4 := heap_below b34 HG3.out
          have hE4 := heap_below b34 HE3.out
          have hM4 := hM3.out.below b34
          have y4 := blO HY3.out b34
          have e2 := cell_of_heap hE4 2
          have e3 := cell_of_heap hE4 3
          have e4 := cell_of_heap hE4 4
          simp at e2 e3 e4
          have HGb := Lib.hid hG4
          have HM4 := Lib.hid hM4
          have HY4 := Lib.hid y4
          clear b34 hG4 hE4 hM4 y4
          go_loopw [18] (fun i wr3 => ∃ k m2 : Nat, k ≤ 128 ∧ i = .int .i64 (k : Int) ∧ wr3 = w4.drewN m2) (fun i _ => 128 - (intOf i).toNat)
          case atStart => exact ⟨0, 0, by omega, rfl, rfl⟩
          case round =>
            obtain ⟨k, m2, hk, rfl, rfl⟩ := hrel
            by_cases q : k < 128
            · have cb := (cell_of_heap HGb.out k).trans (HCU.out k q)
              have cd := (cell_of_heap HG4.out k).trans (HCU2.out k q)
              have hm := HMM.out k
              generalize s.M.getD k 0 = x1 at *
              generalize s'.M.getD k 0 = y1 at *
              have i0' : (0 : Int) ≤ (k : Int) := by omega
              have i1' : (k : Int) < 128 := by omega
              by_cases hxy : x1 = y1
              · subst hxy
                clear hm
                have ek' : (k : Int) % 4294967296 = (k : Int) := by omega
                obtain ⟨d1, hd1'⟩ : ∃ d, IntKind.u32.wrap (ea - 2147483648) = d := ⟨_, rfl⟩
                obtain ⟨z2, hz2⟩ : ∃ d, ez % 4294967296 = d := ⟨_, rfl⟩
                obtain ⟨d2, hd2'⟩ : ∃ d, IntKind.u32.wrap (d1 + z2) = d := ⟨_, rfl⟩
                cases h1 : (ek == 2)
                · go_wp2
                  go_quiet (fail)
                  go_wp2
                  exact ⟨⟨k + 1, _, by omega, by go_num, rfl⟩, by simp [intOf]; omega⟩
                · cases h2 : decide (d1 ≤ (k : Int))
                  · go_wp2
                    go_quiet (fail)
                    go_wp2
                    exact ⟨⟨k + 1, _, by omega, by go_num, rfl⟩, by simp [intOf]; omega⟩
                  · cases h3 : decide ((k : Int) < d2)
                    all_goals
                      go_wp2
                      go_quiet (fail)
                      go_wp2
                      exact ⟨⟨k + 1, _, by omega, by go_num, rfl⟩, by simp [intOf]; omega⟩
              · obtain ⟨at_, kk, he, hib, hk4, hj1, hj2⟩ := hm (fun e => hxy e.symm)
                simp only [Did.mk.injEq] at he
                obtain ⟨rfl, rfl, rfl⟩ := he
                have hb1 : (x1 != y1) = true := by rw [bne_iff_ne]; exact hxy
                have hib' : 2147483648 ≤ ea ∧ 0 ≤ (kk : Int) ∧ ea - 2147483648 + (kk : Int) ≤ 128 := hib
                have hj1' : (ea - 2147483648).toNat ≤ k := hj1
                have hj2' : k < (ea - 2147483648).toNat + kk := hj2
                have w1' : IntKind.u32.wrap (ea - 2147483648) = ea - 2147483648 := by rw [IntKind.wrap_u32]; omega
                have ek' : (k : Int) % 4294967296 = (k : Int) := by omega
                have z2' : (kk : Int) % 4294967296 = (kk : Int) := by omega
                have w2' : IntKind.u32.wrap (ea - 2147483648 + (kk : Int)) = ea - 2147483648 + (kk : Int) := by rw [IntKind.wrap_u32]; omega
                have t1 : decide (ea - 2147483648 ≤ (k : Int)) = true := by rw [decide_eq_true_eq]; omega
                have t2 : decide ((k : Int) < ea - 2147483648 + (kk : Int)) = true := by rw [decide_eq_true_eq]; omega
                clear hib hj1 hj2 hm
                generalize hd1' : ea - 2147483648 = d1 at *
                generalize hd2' : d1 + (kk : Int) = d2 at *
                generalize hkk : (kk : Int) = z2 at *
                go_wp2
                go_quiet (fail)
                go_wp2
                exact ⟨⟨k + 1, _, by omega, by go_num, rfl⟩, by simp [intOf]; omega⟩
            · obtain rfl : k = 128 := by omega
              have hp := pc_calls (HM4.out.m.drewN m2)
              by_cases ht : t = 0
              · subst ht
                clear hp
                go_wp2_with (first
                  | (go_at_call 23; (with_reducible refine (lives_calls _).mono ?_); rintro e w9 ⟨rfl, hB9⟩))
                go_returns
                have y9 := HY4.out
                have s9 := y9.size
                exact ⟨by first | (simp; done) | (simp; omega), by (exact blZ)⟩
              · obtain ⟨hs', hno⟩ := HTR.out ht
                have hdn0 : dn = 0 := by rw [← HDN.out, hs']; exact diffs_same _ _
                have hno' : (⟨ek, ea, ez⟩ : Did) = ⟨0, 0, 0⟩ := hno
                simp only [Did.mk.injEq] at hno'
                obtain ⟨rfl, rfl, rfl⟩ := hno'
                rw [hs', hpc] at hp
                subst hdn0
                have ht' : (t == 0) = false := by rw [beq_eq_false_iff_ne]; exact ht
                have Hp := Lib.hid hp
                clear hp hno hs'
                go_wp2_with (first
                  | (go_at_call 18; (with_reducible refine Hp.out.mono ?_); rintro e wp ⟨rfl, hwp⟩; subst hwp)
                  | (go_at_call 23; (with_reducible refine (lives_calls _).mono ?_); rintro e w9 ⟨rfl, hB9⟩))
                go_returns
                have y9 := HY4.out
                have s9 := y9.size
                exact ⟨by first | (simp; done) | (simp; omega), by (exact blZ)⟩
end Go.Proofs.Ytioopcilcgebeaa.CpuA
