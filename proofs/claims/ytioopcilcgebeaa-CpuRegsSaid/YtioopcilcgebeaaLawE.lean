/- CpuRegs. -/
import Derived.Test.YtioopcilcgebeaaK8
import Derived.LaidEqlPtr
set_option linter.unusedVariables false
set_option linter.unusedSimpArgs false
namespace Go.Proofs.Ytioopcilcgebeaa.CpuA
open Go.RowKit Go.Proofs.Ytioopcilcgebeaa.Base Go.Proofs.Ytioopcilcgebeaa.InstS Go.Proofs.Ytioopcilcgebeaa.InstA Go.Proofs.YtioopcilcgebeaaW.PrintWords

theorem reg_nil (n : Int) (w : World) : Calls Try.prog 21 #[.pointer none, .int .i64 n] w fun e w' => e = .returned (.int .u32 0) ∧ w' = w := by
  go_enter Try.func21, Try.ntmps21
  go_wp2
  go_returns
  exact ⟨by simp, rfl⟩
theorem pc_nil (w : World) : Calls Try.prog 18 #[.pointer none] w fun e w' => e = .returned (.int .u32 0) ∧ w' = w := by
  go_enter Try.func18, Try.ntmps18
  go_wp2
  go_returns
  exact ⟨by simp, rfl⟩
theorem mem_nil (w : World) : Calls Try.prog 22 #[.pointer none] w fun e w' => e = .returned (.pointer none) ∧ w' = w := by
  go_enter Try.func22, Try.ntmps22
  go_wp2
  go_returns
  exact ⟨by simp, rfl⟩
/-- What register n holds behind a set. -/
theorem setR_at (n v : Int) (h : 0 < n ∧ n < 32) : (if 0 ≤ n ∧ n < 32 then (setR (List.replicate 32 0) n v).getD n.toNat 0 else 0) = v := by
  rw [if_pos ⟨by omega, h.2⟩]
  unfold setR
  rw [if_pos h, List.getD_eq_getElem?_getD, List.getElem?_set_self (by rw [List.length_replicate]; omega)]
  rfl
theorem setR_off (n v : Int) (h : ¬ (0 < n ∧ n < 32)) : (if 0 ≤ n ∧ n < 32 then (setR (List.replicate 32 0) n v).getD n.toNat 0 else 0) = 0 := by
  unfold setR
  rw [if_neg h]
  split
  · rw [List.getD_eq_getElem?_getD, List.getElem?_replicate]; split <;> rfl
  · rfl
theorem setR_0 (n v : Int) : (if (0 : Int) ≤ 0 ∧ (0 : Int) < 32 then (setR (List.replicate 32 0) n v).getD (0 : Int).toNat 0 else 0) = 0 := by
  rw [if_pos ⟨by omega, by omega⟩]
  unfold setR
  split
  · rw [List.getD_eq_getElem?_getD, List.getElem?_set_ne (by simp; omega)]; rfl
  · rfl
set_option maxHeartbeats 8000000 in
set_option maxRecDepth 100000 in
theorem cpuRegs_walk (n v pc : Int) (hv : 0 ≤ v ∧ v < 4294967296) (hp : 0 ≤ pc ∧ pc < 4294967296) (w : World) : Calls Try.prog 3 #[.int .i64 n, .int .u32 v, .int .u32 pc] w fun e w' => e = .returned (.bool true) ∧ Below w.heap.size w w' := by
  have qP : ∀ (w : World) (a : Addr), (binOp .eql 23 (.pointer (some a)) (.pointer (some a))).run Try.prog w = .ok (.bool true) w := by
    obtain ⟨j, hj⟩ := Option.isSome_iff_exists.1 (show (Try.prog.info? 110).isSome = true by kernel_rfl)
    exact fun w a => run_eql_ptr_same w a Try.underlying23 hj
  have Hm := Lib.hid map_calls
  have Hn := Lib.hid (fun W => new_in 4096 2147483648 256 128 can_map (by omega) (by omega) (by omega) (by omega) (by omega) (by omega) W)
  by_cases h : 0 < n ∧ n < 32
  · have hz := Lib.hid (setR_at n v h)
    obtain ⟨h1, h2⟩ := h
    go_enter Try.func3, Try.ntmps3
    go_wp2_with (first
      | (go_at_call 16; (with_reducible refine (Hm.out _).mono ?_); rintro e wm ⟨rfl, hBm⟩; have zm := hBm.size)
      | (go_at_call 15; (refine (Hn.out _).mono ?_); rintro e wn ⟨mb, K, rfl, hK⟩; have zn := hK.bel.size; have bn := hK.bel)
      | (go_at_call 17; (with_reducible refine (new_calls ⟨mb, 0, none⟩ pc _).mono ?_); rintro e wc ⟨rfl, hM, hB2⟩; have zc := hB2.size; have y1 : Below w.heap.size w wc := (by (exact blZ)); have HM := Lib.hid hM; clear hM)
      | (go_at_call 18; (with_reducible refine (pc_calls HM.out).mono ?_); rintro e w3 ⟨rfl, rfl⟩)
      | (go_at_call 19; (with_reducible refine (Set_calls HM.out n v).mono ?_); rintro e ws ⟨rfl, hMs, hBs⟩; have y2 : Below w.heap.size w ws := below_but y1 y1.size hBs (by intro k hk; rw [List.mem_singleton] at hk; subst hk; omega); have s2 := y2.size; have HMs := Lib.hid hMs; have HR1 := Lib.hid (fun (W : World) (hB : Below ws.heap.size ws W) => (show Calls Try.prog 21 #[.pointer (some ⟨wn.heap.size, 0, none⟩), .int .i64 n] W (fun e w' => e = .returned (.int .u32 (v)) ∧ w' = W) from by have := reg_calls (b := wn.heap.size) ⟨heap_below hB HMs.out.1, HMs.out.2⟩ n; rw [hz.out] at this; exact this)); have HR0 := Lib.hid (fun (W : World) (hB : Below ws.heap.size ws W) => (show Calls Try.prog 21 #[.pointer (some ⟨wn.heap.size, 0, none⟩), .int .i64 0] W (fun e w' => e = .returned (.int .u32 0) ∧ w' = W) from by have := reg_calls (b := wn.heap.size) ⟨heap_below hB HMs.out.1, HMs.out.2⟩ 0; rw [setR_0] at this; exact this)); have HMm := Lib.hid (fun (W : World) (hB : Below ws.heap.size ws W) => mem_calls (b := wn.heap.size) ⟨heap_below hB HMs.out.1, HMs.out.2⟩); clear hMs)
      | (go_at_call 17; (with_reducible refine (new_nil pc _).mono ?_); rintro e wz ⟨rfl, rfl⟩)
      | (go_at_call 19; (with_reducible refine (Set_nil n v _).mono ?_); rintro e wz ⟨rfl, rfl⟩)
      | (go_at_call 20; (with_reducible refine (step_nil _).mono ?_); rintro e wz ⟨rfl, hBz⟩; have zz := hBz.size)
      | (go_at_call 21; (with_reducible refine (HR1.out _ ?_).mono ?_); (focus (exact blZ)); rintro e wq ⟨rfl, rfl⟩)
      | (go_at_call 21; (with_reducible refine (HR0.out _ ?_).mono ?_); (focus (exact blZ)); rintro e wq ⟨rfl, rfl⟩)
      | (go_at_call 22; (with_reducible refine (HMm.out _ ?_).mono ?_); (focus (exact blZ)); rintro e wq ⟨rfl, rfl⟩)
      | (go_at_call 18; (with_reducible refine (pc_nil _).mono ?_); rintro e wq ⟨rfl, rfl⟩)
      | (go_at_call 21; (with_reducible refine (reg_nil n _).mono ?_); rintro e wq ⟨rfl, rfl⟩)
      | (go_at_call 22; (with_reducible refine (mem_nil _).mono ?_); rintro e wq ⟨rfl, rfl⟩)
      | (go_at_call 23; (with_reducible refine (lives_calls _).mono ?_); rintro e wl ⟨rfl, hBl⟩))
    go_returns
    exact ⟨by simp, by (exact blZ)⟩
  · have hz := Lib.hid (setR_off n v h)
    by_cases h1 : 0 < n
    · have h2 : ¬ n < 32 := fun q => h ⟨h1, q⟩
      clear h
      go_enter Try.func3, Try.ntmps3
      go_wp2_with (first
        | (go_at_call 16; (with_reducible refine (Hm.out _).mono ?_); rintro e wm ⟨rfl, hBm⟩; have zm := hBm.size)
        | (go_at_call 15; (refine (Hn.out _).mono ?_); rintro e wn ⟨mb, K, rfl, hK⟩; have zn := hK.bel.size; have bn := hK.bel)
        | (go_at_call 17; (with_reducible refine (new_calls ⟨mb, 0, none⟩ pc _).mono ?_); rintro e wc ⟨rfl, hM, hB2⟩; have zc := hB2.size; have y1 : Below w.heap.size w wc := (by (exact blZ)); have HM := Lib.hid hM; clear hM)
        | (go_at_call 18; (with_reducible refine (pc_calls HM.out).mono ?_); rintro e w3 ⟨rfl, rfl⟩)
        | (go_at_call 19; (with_reducible refine (Set_calls HM.out n v).mono ?_); rintro e ws ⟨rfl, hMs, hBs⟩; have y2 : Below w.heap.size w ws := below_but y1 y1.size hBs (by intro k hk; rw [List.mem_singleton] at hk; subst hk; omega); have s2 := y2.size; have HMs := Lib.hid hMs; have HR1 := Lib.hid (fun (W : World) (hB : Below ws.heap.size ws W) => (show Calls Try.prog 21 #[.pointer (some ⟨wn.heap.size, 0, none⟩), .int .i64 n] W (fun e w' => e = .returned (.int .u32 (0)) ∧ w' = W) from by have := reg_calls (b := wn.heap.size) ⟨heap_below hB HMs.out.1, HMs.out.2⟩ n; rw [hz.out] at this; exact this)); have HR0 := Lib.hid (fun (W : World) (hB : Below ws.heap.size ws W) => (show Calls Try.prog 21 #[.pointer (some ⟨wn.heap.size, 0, none⟩), .int .i64 0] W (fun e w' => e = .returned (.int .u32 0) ∧ w' = W) from by have := reg_calls (b := wn.heap.size) ⟨heap_below hB HMs.out.1, HMs.out.2⟩ 0; rw [setR_0] at this; exact this)); have HMm := Lib.hid (fun (W : World) (hB : Below ws.heap.size ws W) => mem_calls (b := wn.heap.size) ⟨heap_below hB HMs.out.1, HMs.out.2⟩); clear hMs)
        | (go_at_call 17; (with_reducible refine (new_nil pc _).mono ?_); rintro e wz ⟨rfl, rfl⟩)
        | (go_at_call 19; (with_reducible refine (Set_nil n v _).mono ?_); rintro e wz ⟨rfl, rfl⟩)
        | (go_at_call 20; (with_reducible refine (step_nil _).mono ?_); rintro e wz ⟨rfl, hBz⟩; have zz := hBz.size)
        | (go_at_call 21; (with_reducible refine (HR1.out _ ?_).mono ?_); (focus (exact blZ)); rintro e wq ⟨rfl, rfl⟩)
        | (go_at_call 21; (with_reducible refine (HR0.out _ ?_).mono ?_); (focus (exact blZ)); rintro e wq ⟨rfl, rfl⟩)
        | (go_at_call 22; (with_reducible refine (HMm.out _ ?_).mono ?_); (focus (exact blZ)); rintro e wq ⟨rfl, rfl⟩)
        | (go_at_call 18; (with_reducible refine (pc_nil _).mono ?_); rintro e wq ⟨rfl, rfl⟩)
        | (go_at_call 21; (with_reducible refine (reg_nil n _).mono ?_); rintro e wq ⟨rfl, rfl⟩)
        | (go_at_call 22; (with_reducible refine (mem_nil _).mono ?_); rintro e wq ⟨rfl, rfl⟩)
        | (go_at_call 23; (with_reducible refine (lives_calls _).mono ?_); rintro e wl ⟨rfl, hBl⟩))
      go_returns
      exact ⟨by simp, by (exact blZ)⟩
    · clear h
      go_enter Try.func3, Try.ntmps3
      go_wp2_with (first
        | (go_at_call 16; (with_reducible refine (Hm.out _).mono ?_); rintro e wm ⟨rfl, hBm⟩; have zm := hBm.size)
        | (go_at_call 15; (refine (Hn.out _).mono ?_); rintro e wn ⟨mb, K, rfl, hK⟩; have zn := hK.bel.size; have bn := hK.bel)
        | (go_at_call 17; (with_reducible refine (new_calls ⟨mb, 0, none⟩ pc _).mono ?_); rintro e wc ⟨rfl, hM, hB2⟩; have zc := hB2.size; have y1 : Below w.heap.size w wc := (by (exact blZ)); have HM := Lib.hid hM; clear hM)
        | (go_at_call 18; (with_reducible refine (pc_calls HM.out).mono ?_); rintro e w3 ⟨rfl, rfl⟩)
        | (go_at_call 19; (with_reducible refine (Set_calls HM.out n v).mono ?_); rintro e ws ⟨rfl, hMs, hBs⟩; have y2 : Below w.heap.size w ws := below_but y1 y1.size hBs (by intro k hk; rw [List.mem_singleton] at hk; subst hk; omega); have s2 := y2.size; have HMs := Lib.hid hMs; have HR1 := Lib.hid (fun (W : World) (hB : Below ws.heap.size ws W) => (show Calls Try.prog 21 #[.pointer (some ⟨wn.heap.size, 0, none⟩), .int .i64 n] W (fun e w' => e = .returned (.int .u32 (0)) ∧ w' = W) from by have := reg_calls (b := wn.heap.size) ⟨heap_below hB HMs.out.1, HMs.out.2⟩ n; rw [hz.out] at this; exact this)); have HR0 := Lib.hid (fun (W : World) (hB : Below ws.heap.size ws W) => (show Calls Try.prog 21 #[.pointer (some ⟨wn.heap.size, 0, none⟩), .int .i64 0] W (fun e w' => e = .returned (.int .u32 0) ∧ w' = W) from by have := reg_calls (b := wn.heap.size) ⟨heap_below hB HMs.out.1, HMs.out.2⟩ 0; rw [setR_0] at this; exact this)); have HMm := Lib.hid (fun (W : World) (hB : Below ws.heap.size ws W) => mem_calls (b := wn.heap.size) ⟨heap_below hB HMs.out.1, HMs.out.2⟩); clear hMs)
        | (go_at_call 17; (with_reducible refine (new_nil pc _).mono ?_); rintro e wz ⟨rfl, rfl⟩)
        | (go_at_call 19; (with_reducible refine (Set_nil n v _).mono ?_); rintro e wz ⟨rfl, rfl⟩)
        | (go_at_call 20; (with_reducible refine (step_nil _).mono ?_); rintro e wz ⟨rfl, hBz⟩; have zz := hBz.size)
        | (go_at_call 21; (with_reducible refine (HR1.out _ ?_).mono ?_); (focus (exact blZ)); rintro e wq ⟨rfl, rfl⟩)
        | (go_at_call 21; (with_reducible refine (HR0.out _ ?_).mono ?_); (focus (exact blZ)); rintro e wq ⟨rfl, rfl⟩)
        | (go_at_call 22; (with_reducible refine (HMm.out _ ?_).mono ?_); (focus (exact blZ)); rintro e wq ⟨rfl, rfl⟩)
        | (go_at_call 18; (with_reducible refine (pc_nil _).mono ?_); rintro e wq ⟨rfl, rfl⟩)
        | (go_at_call 21; (with_reducible refine (reg_nil n _).mono ?_); rintro e wq ⟨rfl, rfl⟩)
        | (go_at_call 22; (with_reducible refine (mem_nil _).mono ?_); rintro e wq ⟨rfl, rfl⟩)
        | (go_at_call 23; (with_reducible refine (lives_calls _).mono ?_); rintro e wl ⟨rfl, hBl⟩))
      go_returns
      exact ⟨by simp, by (exact blZ)⟩
end Go.Proofs.Ytioopcilcgebeaa.CpuA
