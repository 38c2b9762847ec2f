/- load.Load of any image; of the image of one instruction. -/
import Derived.Test.YtioopcilcgebeaaImgG
import Derived.Test.YtioopcilcgebeaaI6
import Derived.Test.YtioopcilcgebeaaKR
set_option linter.unusedVariables false
set_option linter.unusedSimpArgs false
namespace Go.Proofs.Ytioopcilcgebeaa.CpuA
open Go.RowKit Go.Proofs.Ytioopcilcgebeaa.Base Go.Proofs.YtioopcilcgebeaaW.PrintWords

def oneS : List PCpu.S85 := [⟨4096, [115, 0, 16, 0]⟩]
theorem one_can : PCpu.mem_can.f 4096 64 8192 64 = some true := by kernel_rfl
theorem one_segs : PCpu.image_segs.f 9 4096 64 8192 64 4096 4096 4 0 0 0 0 0 0 0 0 [] oneS = some true := by kernel_rfl
theorem one_code : codeT 4096 4096 4 = true := by kernel_rfl
theorem one_data : dataT 8192 64 0 0 0 0 0 0 0 [] oneS = true := by kernel_rfl
theorem one_puts (fb rb : Nat) : putsS ⟨4096, 64, 8192, 64, fb, rb⟩ oneS = ([115, 0, 16, 0] ++ List.replicate 60 0, List.replicate 64 0) := by kernel_rfl
/-- The image of one instruction. -/
theorem one_calls (w : World) : Calls Try.prog 50 #[] w fun e w' => ∃ A0 c0 A1 c1, e = .returned (.agg #[.int .u32 4096, .int .u32 64, .int .u32 8192, .int .u32 64, .int .u32 4096, .int .u32 4096, .int .u32 4, .int .u32 0, .int .u32 0, .int .u32 0, .int .u64 0, .int .u32 0, .int .u32 0, .int .u32 0, .int .u32 0, .slice A0 0 c0, .slice A1 1 c1]) ∧ Kd.C PCpu.k73 w' A0 0 [] ∧ 1 ≤ c1 ∧ Kd.C PCpu.k85 w' A1 1 oneS ∧ Below w.heap.size w w' := by
  refine (PCpu.pintlelaw09_One.calls _ _ _ _ _ _ _ _ _ _ _ _ _ _ _ _ _ w rfl).mono ?_
  rintro e w' ⟨v15, v16, rfl, h1, h2, hb⟩
  obtain ⟨A0, c0, rfl, _, k0⟩ := Kd.R_reads h1
  obtain ⟨A1, c1, rfl, l1, k1⟩ := Kd.N_reads h2
  exact ⟨A0, c0, A1, c1, rfl, k0, l1, k1, hb⟩
theorem one_seg : ∀ x ∈ oneS, SegOk ⟨4096, 64, 8192, 64, 0, 0⟩ x := by
  intro x hx
  obtain rfl : x = ⟨4096, [115, 0, 16, 0]⟩ := by simpa [oneS] using hx
  refine ⟨by simp, by simp, by simp, fun c hc => ?_, .inl ?_⟩
  · simp at hc; omega
  · unfold InB; simp
theorem load_one (A0 : Option Addr) (c0 : Nat) (A1 : Option Addr) (c1 : Nat) (w : World) (hr0 : Kd.C PCpu.k73 w A0 0 []) (l1 : 1 ≤ c1) (hr1 : Kd.C PCpu.k85 w A1 1 oneS) :
    Calls Try.prog 71 #[.agg #[.int .u32 4096, .int .u32 64, .int .u32 8192, .int .u32 64, .int .u32 4096, .int .u32 4096, .int .u32 4, .int .u32 0, .int .u32 0, .int .u32 0, .int .u64 0, .int .u32 0, .int .u32 0, .int .u32 0, .int .u32 0, .slice A0 0 c0, .slice A1 1 c1]] w (Loaded 4096 8192 4096 0 64 64 oneS w) :=
  load_yes 9 4096 8192 4096 4096 4 0 0 0 0 0 0 0 0 64 64 A0 c0 [] A1 c1 oneS w hr0 (Nat.zero_le _) hr1 l1 (by decide) true true one_can (fun _ => one_segs) (by rw [one_code]; exact one_data) (by omega) (by omega) (by omega) (by omega) (by omega) (by omega) one_seg
set_option maxHeartbeats 8000000 in
set_option maxRecDepth 100000 in
theorem loadOne_calls (A0 : Option Addr) (c0 : Nat) (A1 : Option Addr) (c1 : Nat) (w : World) (hr0 : Kd.C PCpu.k73 w A0 0 []) (l1 : 1 ≤ c1) (hr1 : Kd.C PCpu.k85 w A1 1 oneS) :
    Calls Try.prog 39 #[.agg #[.int .u32 4096, .int .u32 64, .int .u32 8192, .int .u32 64, .int .u32 4096, .int .u32 4096, .int .u32 4, .int .u32 0, .int .u32 0, .int .u32 0, .int .u64 0, .int .u32 0, .int .u32 0, .int .u32 0, .int .u32 0, .slice A0 0 c0, .slice A1 1 c1]] w (Loaded 4096 8192 4096 0 64 64 oneS w) := by
  have HL := Lib.hid (fun X (hX : Below w.heap.size w X) => load_one A0 c0 A1 c1 X (Kd.C_below hr0 hX) l1 (Kd.C_below hr1 hX))
  go_enter Try.func39, Try.ntmps39
  go_upto_region 1 with (fail)
  (try simp only [Act.put, List.setIfInBounds_toArray, List.set_cons_zero, List.set_cons_succ])
  refine wp_abs (fun W => W.heap[w.heap.size]? = some (.cells #[.int .u32 4096, .int .u32 64, .int .u32 8192, .int .u32 64, .int .u32 4096, .int .u32 4096, .int .u32 4, .int .u32 0, .int .u32 0, .int .u32 0, .int .u64 0, .int .u32 0, .int .u32 0, .int .u32 0, .int .u32 0, .slice A0 0 c0, .slice A1 1 c1] 78 (0, 0)) ∧ Below w.heap.size w W) ⟨by (repeat' (first | (with_reducible first | assumption | exact hpA _ _ _ rfl | refine hpN ?_ | refine hpD ?_) | ((with_reducible first | refine hpP ?_ ?_ | refine hpT ?_ ?_); (focus (first | omega | (simp [zA, zS, zD, zQ] <;> omega)))) | ((with_reducible refine hpA _ _ _ ?_); (focus (first | omega | (simp [zA, zS, zD, zQ] <;> omega)))) | ((with_reducible refine hpB ?_ ?_); (focus assumption)) | (with_reducible apply hpS))), by (repeat' (first | (with_reducible first | exact Below.refl _ _ | refine blQ ?_ _ | refine Below.drew ?_ | refine blO ?_ (by assumption) | refine Below.alloc ?_ ?_ _ | refine Below.setCell ?_ ?_ _ | refine Below.frame ?_ _) | omega | (simp only [zA, zS, zD, zQ]; omega)))⟩ ?_
  intro W hW
  obtain ⟨b0, hB⟩ := hW
  refine wp_region_lit ?_
  refine wpList_load_row rfl 78 (.tmp 1) rfl w.heap.size rfl 78 _ (0, 0) _ b0 Try.underlying78 rfl (by kernel_rfl) ?_
  simp only [Act.put, List.setIfInBounds_toArray, List.set_cons_zero, List.set_cons_succ]
  clear b0
  go_wp2_with (first
    | (go_at_call 71; (refine (HL.out _ ?_).mono ?_); (focus (repeat' (first | (with_reducible first | exact Below.refl _ _ | refine blQ ?_ _ | refine Below.drew ?_ | refine blO ?_ (by assumption) | refine Below.alloc ?_ ?_ _ | refine Below.setCell ?_ ?_ _ | refine Below.frame ?_ _) | omega | (simp only [zA, zS, zD, zQ]; omega)))); rintro e w2 ⟨b, mb, fb, rb, rfl, hX, g1, g2, g3, g4, hB2⟩; have HX := Lib.hid hX; clear hX))
  go_returns
  have z := hB.size
  exact ⟨b, mb, fb, rb, by simp, HX.out, by omega, by omega, by omega, by omega, below_on hB hB2⟩
theorem one_step (fb rb : Nat) : stepT ⟨4096, 64, 8192, 64, fb, rb⟩ ([115, 0, 16, 0] ++ List.replicate 60 0) ⟨4096, setR (List.replicate 32 0) 2 0, List.replicate 64 0⟩ = (⟨4096, 1048691, no⟩, 7, ⟨4096, setR (List.replicate 32 0) 2 0, List.replicate 64 0⟩) := by kernel_rfl
set_option maxHeartbeats 8000000 in
set_option maxRecDepth 100000 in
theorem lives10_calls (w : World) : Calls Try.prog 41 #[] w fun e w' => e = .returned (.bool true) ∧ Below w.heap.size w w' := by
  have Hs := Lib.hid (fun (b mb fb rb : Nat) (W : World) (h : Box b mb ⟨4096, 64, 8192, 64, fb, rb⟩ (putsS ⟨4096, 64, 8192, 64, fb, rb⟩ oneS).1 ⟨4096, setR (List.replicate 32 0) 2 0, (putsS ⟨4096, 64, 8192, 64, fb, rb⟩ oneS).2⟩ W) => (show Calls Try.prog 20 #[.pointer (some ⟨b, 0, none⟩)] W (fun e w' => e = .returned (.tuple #[.agg #[.int .u32 4096, .int .u32 1048691, .int .i64 0, .int .u32 0, .int .i64 0], .int .i64 7]) ∧ But [b, rb] W w') from by
    rw [one_puts] at h
    have := step_calls h
    rw [one_step] at this
    exact this.mono fun e w' hh => ⟨hh.1, hh.2.2⟩))
  have qP : ∀ (w : World) (a : Addr), (binOp .eql 30 (.pointer (some a)) (.pointer none)).run Try.prog w = .ok (.bool false) w := fun w a => by simp [go_sem]
  go_enter Try.func41, Try.ntmps41
  go_wp2_with (first
    | (go_at_call 50; (refine (one_calls _).mono ?_); rintro e w1 ⟨A0, c0, A1, c1, rfl, k0, l1, k1, hB1⟩; have K0 := Lib.hid k0; have K1 := Lib.hid k1; clear k0 k1)
    | (go_at_call 39; (refine (loadOne_calls A0 c0 A1 c1 _ K0.out l1 K1.out).mono ?_); rintro e w2 ⟨b, mb, fb, rb, rfl, hX, g1, g2, g3, g4, hB2⟩; have HX := Lib.hid hX; clear hX)
    | (go_at_call 20; (refine (Hs.out _ _ _ _ _ (HX.out.below (by (repeat' (first | (with_reducible first | exact Below.refl _ _ | refine blQ ?_ _ | refine Below.drew ?_ | refine blO ?_ (by assumption) | refine Below.alloc ?_ ?_ _ | refine Below.setCell ?_ ?_ _ | refine Below.frame ?_ _) | omega | (simp only [zA, zS, zD, zQ]; omega)))))).mono ?_); rintro e w3 ⟨rfl, hB3⟩))
  go_returns
  have z1 := hB1.size
  have x1 : Below w.heap.size w w3 := below_puts (by (repeat' (first | (with_reducible first | exact Below.refl _ _ | refine blQ ?_ _ | refine Below.drew ?_ | refine blO ?_ (by assumption) | refine Below.alloc ?_ ?_ _ | refine Below.setCell ?_ ?_ _ | refine Below.frame ?_ _) | omega | (simp only [zA, zS, zD, zQ]; omega)))) hB3 (by intro g hg; rcases List.mem_cons.1 hg with rfl | hg; omega; rw [List.mem_singleton] at hg; subst hg; omega)
  have z3 := x1.size
  exact ⟨by simp, by (repeat' (first | (with_reducible first | exact Below.refl _ _ | refine blQ ?_ _ | refine Below.drew ?_ | refine blO ?_ (by assumption) | refine Below.alloc ?_ ?_ _ | refine Below.setCell ?_ ?_ _ | refine Below.frame ?_ _) | omega | (simp only [zA, zS, zD, zQ]; omega)))⟩
end Go.Proofs.Ytioopcilcgebeaa.CpuA
