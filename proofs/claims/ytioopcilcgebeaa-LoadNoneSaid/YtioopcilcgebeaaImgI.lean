/- load.Input, load.Output: of no machine; an input of four bytes. -/
import Derived.Test.YtioopcilcgebeaaImgH
set_option linter.unusedVariables false
set_option linter.unusedSimpArgs false
namespace Go.Proofs.Ytioopcilcgebeaa.CpuA
open Go.RowKit Go.Proofs.Ytioopcilcgebeaa.Base Go.Proofs.YtioopcilcgebeaaW.PrintWords

set_option maxHeartbeats 8000000 in
set_option maxRecDepth 100000 in
theorem output_nil (f fn r rn en tx tn sa sn rm fu ia il oa ol : Int) (A0 : Option Addr) (n0 c0 : Nat) (A1 : Option Addr) (n1 c1 : Nat) (w : World) :
    Calls Try.prog 47 #[.pointer none, .agg #[.int .u32 f, .int .u32 fn, .int .u32 r, .int .u32 rn, .int .u32 en, .int .u32 tx, .int .u32 tn, .int .u32 sa, .int .u32 sn, .int .u32 rm, .int .u64 fu, .int .u32 ia, .int .u32 il, .int .u32 oa, .int .u32 ol, .slice A0 n0 c0, .slice A1 n1 c1]] w fun e w' => e = .returned (.tuple #[.slice none 0 0, .int .i64 1]) ∧ Below w.heap.size w w' := by
  have qN : ∀ (w : World), (binOp .eql 30 (.pointer none) (.pointer none)).run Try.prog w = .ok (.bool true) w := fun w => by simp [go_sem]
  go_enter Try.func47, Try.ntmps47
  go_wp2
  go_returns
  exact ⟨by simp, by (repeat' (first | (with_reducible first | exact Below.refl _ _ | refine blQ ?_ _ | refine Below.drew ?_ | refine blO ?_ (by assumption) | refine Below.alloc ?_ ?_ _ | refine Below.setCell ?_ ?_ _ | refine Below.frame ?_ _) | omega | (simp only [zA, zS, zD, zQ]; omega)))⟩
set_option maxHeartbeats 8000000 in
set_option maxRecDepth 100000 in
theorem input_nil (f fn r rn en tx tn sa sn rm fu ia il oa ol : Int) (A0 : Option Addr) (n0 c0 : Nat) (A1 : Option Addr) (n1 c1 : Nat) (A : Option Addr) (n c : Nat) (w : World) :
    Calls Try.prog 45 #[.pointer none, .agg #[.int .u32 f, .int .u32 fn, .int .u32 r, .int .u32 rn, .int .u32 en, .int .u32 tx, .int .u32 tn, .int .u32 sa, .int .u32 sn, .int .u32 rm, .int .u64 fu, .int .u32 ia, .int .u32 il, .int .u32 oa, .int .u32 ol, .slice A0 n0 c0, .slice A1 n1 c1], .slice A n c] w fun e w' => e = .returned (.int .i64 1) ∧ Below w.heap.size w w' := by
  have qN : ∀ (w : World), (binOp .eql 30 (.pointer none) (.pointer none)).run Try.prog w = .ok (.bool true) w := fun w => by simp [go_sem]
  go_enter Try.func45, Try.ntmps45
  go_wp2
  go_returns
  exact ⟨by simp, by (repeat' (first | (with_reducible first | exact Below.refl _ _ | refine blQ ?_ _ | refine Below.drew ?_ | refine blO ?_ (by assumption) | refine Below.alloc ?_ ?_ _ | refine Below.setCell ?_ ?_ _ | refine Below.frame ?_ _) | omega | (simp only [zA, zS, zD, zQ]; omega)))⟩
set_option maxHeartbeats 8000000 in
set_option maxRecDepth 100000 in
theorem put_out {b : Nat} {K : Bk} {F R : List Int} {w : World} (h : Mem b K F R w) (addr : Int) (ha : 0 ≤ addr ∧ addr < 4294967296) (A : Option Addr) (n cap : Nat) (h0 : 0 < n) (h1 : n < 4294967296) (hf : ¬ InB K.f K.fn addr n) (hr : ¬ InB K.r K.rn addr n) :
    Calls Try.prog 59 #[.pointer (some ⟨b, 0, none⟩), .int .u32 addr, .slice A n cap] w fun e w' => e = .returned (.bool false) ∧ Below w.heap.size w w' := by
  have Hp := Lib.hid (mpart_none h.mem h.ok addr (n : Int) ha (by omega) hf hr)
  have e0 : (n == 0) = false := by simpa using (by omega : n ≠ 0)
  have e1 : ((n : Int) == 0) = false := by simpa using (by omega : n ≠ 0)
  have e2 : decide (n = 0) = false := decide_eq_false (by omega)
  have e3 : decide ((n : Int) = 0) = false := decide_eq_false (by omega)
  clear h hf hr
  go_enter Try.func59, Try.ntmps59
  go_wp2_with (first
    | (go_at_call 68; (refine Hp.out.mono ?_); rintro e w1 ⟨rfl, hB1⟩))
  go_returns
  exact ⟨by simp, by (repeat' (first | (with_reducible first | exact Below.refl _ _ | refine blQ ?_ _ | refine Below.drew ?_ | refine blO ?_ (by assumption) | refine Below.alloc ?_ ?_ _ | refine Below.setCell ?_ ?_ _ | refine Below.frame ?_ _) | omega | (simp only [zA, zS, zD, zQ]; omega)))⟩
/-- Whether four bytes lie in the small machine. -/
def inAt (a : Int) : Bool := decide (InB 4096 64 a 4) || decide (InB 8192 64 a 4)
set_option maxHeartbeats 8000000 in
set_option maxRecDepth 100000 in
theorem input_at (at_ : Int) (ha : 0 ≤ at_ ∧ at_ < 4294967296) {b mb fb rb g : Nat} {F : List Int} {s : St} {w : World} (h : Box b mb ⟨4096, 64, 8192, 64, fb, rb⟩ F s w) (hg : w.heap[g]? = some (.cells #[.int .u8 1, .int .u8 2, .int .u8 3, .int .u8 4] 5 (0, 0))) :
    Calls Try.prog 45 #[.pointer (some ⟨b, 0, none⟩), .agg #[.int .u32 0, .int .u32 0, .int .u32 0, .int .u32 0, .int .u32 0, .int .u32 0, .int .u32 0, .int .u32 0, .int .u32 0, .int .u32 0, .int .u64 0, .int .u32 at_, .int .u32 4, .int .u32 0, .int .u32 0, .slice none 0 0, .slice none 0 0], .slice (some ⟨g, 0, none⟩) 4 4] w fun e w' => e = .returned (.int .i64 (if inAt at_ = true then 0 else 6)) ∧ But [fb, rb] w w' := by
  have HP : ∀ X, Below w.heap.size w X → Calls Try.prog 59 #[.pointer (some ⟨mb, 0, none⟩), .int .u32 at_, .slice (some ⟨g, 0, none⟩) 4 4] X fun e w' => e = .returned (.bool (inAt at_)) ∧ But [fb, rb] X w' := by
    intro X hX
    have hM := h.mem.below hX
    have hB : ∀ w1, Below X.heap.size X w1 → ∀ j v, (([1, 2, 3, 4] : List Int).map (Value.int .u8))[j]? = some v → w1.cell? ((⟨g, 0, none⟩ : Addr).add j) = some v := fun w1 hb => World.news_of_block (cs := #[.int .u8 1, .int .u8 2, .int .u8 3, .int .u8 4]) (heap_below hb (heap_below hX hg))
    have hbs : ∀ c ∈ ([1, 2, 3, 4] : List Int), 0 ≤ c ∧ c < 256 := by simp
    by_cases hf : InB 4096 64 at_ 4
    · have e : inAt at_ = true := by unfold inAt; simp [hf]
      rw [e]
      exact (putf_calls hM h.n5 at_ ha ⟨g, 0, none⟩ 4 [1, 2, 3, 4] hB hbs (by simp) hf).mono fun e w' ⟨h1, _, h3⟩ => ⟨h1, h3.mono (by simp +contextual)⟩
    · by_cases hr : InB 8192 64 at_ 4
      · have e : inAt at_ = true := by unfold inAt; simp [hr]
        rw [e]
        exact (putr_calls hM h.n5 at_ ha ⟨g, 0, none⟩ 4 [1, 2, 3, 4] hB hbs (by simp) hr hf).mono fun e w' ⟨h1, _, h3⟩ => ⟨h1, h3.mono (by simp +contextual)⟩
      · have e : inAt at_ = false := by unfold inAt; simp [hf, hr]
        rw [e]
        exact (put_out hM at_ ha (some ⟨g, 0, none⟩) 4 4 (by omega) (by omega) hf hr).mono fun e w' ⟨h1, h2⟩ => ⟨h1, But.of_below h2⟩
  have HPh := Lib.hid HP
  have hMc : ∀ X, Below w.heap.size w X → Calls Try.prog 22 #[.pointer (some ⟨b, 0, none⟩)] X fun e w' => e = .returned (.pointer (some ⟨mb, 0, none⟩)) ∧ Below X.heap.size X w' :=
    fun X hX => (mem_calls (h.below hX).m).mono fun e w' ⟨h1, h2⟩ => ⟨h1, by rw [h2]; exact Below.refl _ _⟩
  have HMc := Lib.hid hMc
  have qP : ∀ (w : World) (a : Addr), (binOp .eql 30 (.pointer (some a)) (.pointer none)).run Try.prog w = .ok (.bool false) w := fun w a => by simp [go_sem]
  generalize inAt at_ = q at *
  clear h hg HP hMc
  go_enter Try.func45, Try.ntmps45
  go_wp2
  refine wp_abs (fun W => W.heap[w.heap.size]? = some (.cells #[.int .u32 0, .int .u32 0, .int .u32 0, .int .u32 0, .int .u32 0, .int .u32 0, .int .u32 0, .int .u32 0, .int .u32 0, .int .u32 0, .int .u64 0, .int .u32 at_, .int .u32 4, .int .u32 0, .int .u32 0, .slice none 0 0, .slice none 0 0] 78 (0, 0)) ∧ Below w.heap.size w W) ⟨by (repeat' (first | (with_reducible first | assumption | exact hpA _ _ _ rfl | refine hpN ?_ | refine hpD ?_) | ((with_reducible first | refine hpP ?_ ?_ | refine hpT ?_ ?_); (focus (first | omega | (simp [zA, zS, zD, zQ] <;> omega)))) | ((with_reducible refine hpA _ _ _ ?_); (focus (first | omega | (simp [zA, zS, zD, zQ] <;> omega)))) | ((with_reducible refine hpB ?_ ?_); (focus assumption)) | (with_reducible apply hpS))), by (repeat' (first | (with_reducible first | exact Below.refl _ _ | refine blQ ?_ _ | refine Below.drew ?_ | refine blO ?_ (by assumption) | refine Below.alloc ?_ ?_ _ | refine Below.setCell ?_ ?_ _ | refine Below.frame ?_ _) | omega | (simp only [zA, zS, zD, zQ]; omega)))⟩ ?_
  intro W hW
  obtain ⟨b0, hB⟩ := hW
  have x11 : ∀ i : Cls W, i.val.cell? ⟨w.heap.size, 11, none⟩ = some (.int .u32 at_) := fun i => (cls_cell b0 11 i).trans rfl
  clear b0
  refine region_tail (fun i : Cls W => i.val) 6 rfl (by kernel_rfl) ⟨⟨W.drew, Below.drew (Below.refl _ _)⟩, rfl⟩ ?_
  simp only [List.take_succ_cons, List.take_zero, List.drop_succ_cons, List.drop_zero]
  repeat (go_big_quiet_step (first | (go_at_call 22; with_reducible exact cls_callB _ (fun X hX => HMc.out X (below_on hB hX)))))
  refine wpQuiet_nil ?_
  intro i
  have hI := i.property
  cases q with
  | true =>
    go_wp2_with (first
      | (go_at_call 59; (refine (HPh.out _ (below_on hB hI)).mono ?_); rintro e w3 ⟨rfl, hB3⟩))
    go_returns
    exact ⟨by simp, (But.of_below (below_on hB hI)).trans hB3⟩
  | false =>
    go_wp2_with (first
      | (go_at_call 59; (refine (HPh.out _ (below_on hB hI)).mono ?_); rintro e w3 ⟨rfl, hB3⟩))
    go_returns
    exact ⟨by simp, (But.of_below (below_on hB hI)).trans hB3⟩
end Go.Proofs.Ytioopcilcgebeaa.CpuA
