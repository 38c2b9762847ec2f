/- Proofs of this claim's family, merged: InstD, InstE, InstM. -/
import Derived.Test.YtioopcilcgebeaaKE
import Derived.Test.YtioopcilcgebeaaKA
import Derived.Test.YtioopcilcgebeaaKP1
import Derived.Test.YtioopcilcgebeaaKP2
set_option linter.unusedVariables false
set_option linter.unusedSimpArgs false
/-! #### InstD -/
namespace Go.Proofs.Ytioopcilcgebeaa.InstA
open Go.RowKit Go.Proofs.Ytioopcilcgebeaa.Base Go.Proofs.Ytioopcilcgebeaa.InstS Go.Proofs.YtioopcilcgebeaaW.PrintWords

theorem part_calls (x : Int) (a b : Nat) (ha : a ≤ 31) (hb : b ≤ 31) (h0 : 0 ≤ x) (h : x < 4294967296) (w : World) : Calls Try.prog 117 #[.int .u32 x, .int .i64 (a : Int), .int .i64 (b : Int)] w fun e w' => e = .returned (.int .i64 (x / 2 ^ a % 2 ^ b)) ∧ ∃ n, w' = w.drewN n := by
  refine (PCpu.inst_part.calls x a b (x / 2 ^ a % 2 ^ b) w ?_).mono fun e w' h => ⟨h.1, h.2.out⟩
  unfold PCpu.inst_part.f
  have hp : (0 : Int) < 2 ^ a := Int.pow_pos (by omega)
  have h1 : 0 ≤ x / 2 ^ a := Int.ediv_nonneg h0 (by omega)
  have h2 : x / 2 ^ a ≤ x := Int.ediv_le_self _ h0
  have hq : (0 : Int) < 2 ^ b := Int.pow_pos (by omega)
  have hr : (2 : Int) ^ b ≤ 2 ^ 31 := by
    have := Nat.pow_le_pow_right (n := 2) (by omega) (show b ≤ 31 by omega)
    have h : ((2 ^ b : Nat) : Int) ≤ ((2 ^ 31 : Nat) : Int) := by omega
    simpa using h
  rw [if_pos (by omega), if_pos (by omega), BitsP.shr32 x a (by omega), BitsP.shl32 1 b (by omega), show (1 * (2 : Int) ^ b % 4294967296 - 1) % 4294967296 = 2 ^ b - 1 by omega, BitsP.and_mask _ b (by omega) h1 (by omega)]
  have h3 : 0 ≤ x / 2 ^ a % 2 ^ b := Int.emod_nonneg _ (by omega)
  have h4 : x / 2 ^ a % 2 ^ b < 2 ^ b := Int.emod_lt_of_pos _ hq
  congr 1
  unfold wrap64; omega
theorem get_calls (form x : Int) (hf : form = 0 ∨ (1 ≤ form ∧ form ≤ 5)) (h0 : 0 ≤ x) (h : x < 4294967296) (w : World) : Calls Try.prog 118 #[.int .i64 form, .int .u32 x] w fun e w' => e = .returned (.int .i32 (ImmP.getS form x)) ∧ Below w.heap.size w w' := by
  rcases hf with rfl | hf
  · refine PCpu.imm_Get.calls 3 0 x _ w ?_
    have e : ImmP.getS 0 x = 0 := rfl
    rw [e]
    unfold PCpu.imm_Get.f PCpu.imm_get.f PCpu.imm_pieces.f
    rw [if_neg (by omega), if_neg (by omega), if_neg (by omega), if_neg (by omega), if_neg (by omega)]
    simp [PCpu.imm_get.l0, PCpu.num_Sext.f, PCpu.num_Signed.f, wrap32]
  · obtain ⟨k, hk⟩ := (ImmP.get_ev form x hf h0 h).rounds
    refine PCpu.imm_Get.calls k form x _ w ?_
    unfold PCpu.imm_Get.f
    rw [hk]; rfl
def madeS (op : Int) (s : Srt) (x : Int) : Ins :=
  ⟨op, if s.d = true then x / 128 % 32 else 0, if s.a = true then x / 32768 % 32 else 0, if s.b = true then x / 1048576 % 32 else 0, if s.shift = true then x / 1048576 % 32 else ImmP.getS s.form x⟩
def Kinds (s : Srt) : Prop := (s.d = true ∧ s.a = true ∧ s.b = true ∧ s.shift = false) ∨ (s.d = true ∧ s.a = true ∧ s.b = false ∧ s.shift = true) ∨ (s.d = true ∧ s.a = true ∧ s.b = false ∧ s.shift = false) ∨
  (s.d = false ∧ s.a = true ∧ s.b = true ∧ s.shift = false) ∨ (s.d = true ∧ s.a = false ∧ s.b = false ∧ s.shift = false) ∨ (s.d = false ∧ s.a = false ∧ s.b = false ∧ s.shift = false)
set_option maxHeartbeats 8000000 in
set_option maxRecDepth 100000 in
theorem made_in (op : Int) (s : Srt) (ok : Bool) (hs : ofS op = s) (hok : ofOk op = ok) (hk : Kinds s) (hf : s.form = 0 ∨ (1 ≤ s.form ∧ s.form ≤ 5)) (x : Int) (h0 : 0 ≤ x) (h : x < 4294967296) (w : World) :
    Calls Try.prog 85 #[.int .i64 op, .int .u32 x] w fun e w' => e = .returned (iv (madeS op s x)) ∧ Below w.heap.size w w' := by
  obtain ⟨low, three, seven, form, d, a, b, shift⟩ := s
  unfold Kinds at hk
  dsimp only at *
  have hof := of_calls op
  rw [hs, hok] at hof
  have Hof := Lib.hid hof
  have Hg := Lib.hid (get_calls form x hf h0 h)
  have H1 := Lib.hid (fun w => show Calls Try.prog 117 #[.int .u32 x, .int .i64 7, .int .i64 5] w (fun e w' => e = .returned (.int .i64 (x / 128 % 32)) ∧ ∃ n, w' = w.drewN n) from part_calls x 7 5 (by omega) (by omega) h0 h w)
  have H2 := Lib.hid (fun w => show Calls Try.prog 117 #[.int .u32 x, .int .i64 15, .int .i64 5] w (fun e w' => e = .returned (.int .i64 (x / 32768 % 32)) ∧ ∃ n, w' = w.drewN n) from part_calls x 15 5 (by omega) (by omega) h0 h w)
  have H3 := Lib.hid (fun w => show Calls Try.prog 117 #[.int .u32 x, .int .i64 20, .int .i64 5] w (fun e w' => e = .returned (.int .i64 (x / 1048576 % 32)) ∧ ∃ n, w' = w.drewN n) from part_calls x 20 5 (by omega) (by omega) h0 h w)
  clear hof hs hok hf
  rcases hk with ⟨rfl, rfl, rfl, rfl⟩ | ⟨rfl, rfl, rfl, rfl⟩ | ⟨rfl, rfl, rfl, rfl⟩ | ⟨rfl, rfl, rfl, rfl⟩ | ⟨rfl, rfl, rfl, rfl⟩ | ⟨rfl, rfl, rfl, rfl⟩
  all_goals
    go_enter Try.func85, Try.ntmps85
    go_wp2_with (first
      | (go_at_call 116; refine (Hof.out _).mono ?_; rintro e w' ⟨rfl, hB⟩; have hz := hB.size; apply kept_block hB (n := w.heap.size); (focus (exact heap_at _ _ _ rfl)); intro cr fr hr hzr; simp at cr; have n0 : ¬ w.heap.size = w'.heap.size := (by omega); have n1 : ¬ w.heap.size = w'.heap.size + 1 := (by omega); unfold sv; dsimp only)
      | (go_at_call 117; first | (with_reducible refine (H1.out _).mono ?_; rintro e w' ⟨rfl, nq, rfl⟩) | (with_reducible refine (H2.out _).mono ?_; rintro e w' ⟨rfl, nq, rfl⟩) | (with_reducible refine (H3.out _).mono ?_; rintro e w' ⟨rfl, nq, rfl⟩))
      | (go_at_call 118; refine (Hg.out _).mono ?_; rintro e w' ⟨rfl, hB2⟩; apply kept_block hB2 (n := w.heap.size); (focus (repeat' (first | (with_reducible first | assumption | exact hpA _ _ _ rfl | refine hpN ?_ | refine hpD ?_) | ((with_reducible first | refine hpP ?_ ?_ | refine hpT ?_ ?_); (focus (first | omega | (simp [zA, zS, zD, zQ] <;> omega)))) | ((with_reducible refine hpA _ _ _ ?_); (focus (first | omega | (simp [zA, zS, zD, zQ] <;> omega)))) | ((with_reducible refine hpB ?_ ?_); (focus assumption)) | (with_reducible apply hpS)))); intro cr2 fr2 hr2 hzr2; simp at cr2;  apply kept_block hB2; (focus (repeat' (first | (with_reducible first | assumption | exact hpA _ _ _ rfl | refine hpN ?_ | refine hpD ?_) | ((with_reducible first | refine hpP ?_ ?_ | refine hpT ?_ ?_); (focus (first | omega | (simp [zA, zS, zD, zQ] <;> omega)))) | ((with_reducible refine hpA _ _ _ ?_); (focus (first | omega | (simp [zA, zS, zD, zQ] <;> omega)))) | ((with_reducible refine hpB ?_ ?_); (focus assumption)) | (with_reducible apply hpS)))); intro cx fx hx hz2; (try simp only [World.size_alloc] at cx fx hz2); simp at cx; clear hx))
    refine post_res (B := fun w' => Below w.heap.size w w') ?_ rfl ?_
    · (repeat' (first | (with_reducible first | exact Below.refl _ _ | refine blQ ?_ _ | refine Below.drew ?_ | refine blO ?_ (by assumption) | refine Below.alloc ?_ ?_ _ | refine Below.setCell ?_ ?_ _ | refine Below.frame ?_ _) | omega | (simp only [zA, zS, zD, zQ]; omega)))
    · apply res_at (n := w.heap.size)
      (focus (repeat' (first | (with_reducible first | assumption | exact hpA _ _ _ rfl | refine hpN ?_ | refine hpD ?_) | ((with_reducible first | refine hpP ?_ ?_ | refine hpT ?_ ?_); (focus (first | omega | (simp [zA, zS, zD, zQ] <;> omega)))) | ((with_reducible refine hpA _ _ _ ?_); (focus (first | omega | (simp [zA, zS, zD, zQ] <;> omega)))) | ((with_reducible refine hpB ?_ ?_); (focus assumption)) | (with_reducible apply hpS))))
      intro W' cw
      simp at cw
      simp [results, Try.results85, go_sem, iv, madeS, cw]
end Go.Proofs.Ytioopcilcgebeaa.InstA
/-! #### InstE -/
namespace Go.Proofs.Ytioopcilcgebeaa.InstA
open Go.RowKit Go.Proofs.Ytioopcilcgebeaa.Base Go.Proofs.Ytioopcilcgebeaa.InstS Go.Proofs.YtioopcilcgebeaaW.PrintWords

def likeS (s : Srt) (x : Int) : Bool := decide (s.form = 4 ∨ s.form = 5 ∨ (x / 4096 % 8 = s.three ∧ (s.form ≠ 0 ∨ x / 33554432 = s.seven)))
set_option maxHeartbeats 4000000 in
set_option maxRecDepth 100000 in
theorem like_in (op : Int) (s : Srt) (ok b : Bool) (hs : ofS op = s) (hok : ofOk op = ok) (x : Int) (h0 : 0 ≤ x) (h : x < 4294967296) (hb : likeS s x = b) (w : World) :
    Calls Try.prog 84 #[.int .i64 op, .int .u32 x] w fun e w' => e = .returned (.bool b) ∧ Below w.heap.size w w' := by
  obtain ⟨low, three, seven, form, d, a, b, shift⟩ := s
  subst hb
  have hof := of_calls op
  rw [hs, hok] at hof
  have Hof := Lib.hid hof
  have ha := BitsP.and_mask (x / 4096) 3 (by omega) (by omega) (by omega)
  simp only [Int.reducePow, Int.reduceSub] at ha
  clear hof hs hok
  go_enter Try.func84, Try.ntmps84
  go_wp2_with (first
      | (go_at_call 116; refine (Hof.out _).mono ?_; rintro e w' ⟨rfl, hB⟩; have hz := hB.size; unfold sv; dsimp only))
  all_goals
    go_returns
    refine ⟨?_, ?_⟩
    · simp_all [likeS] <;> (rw [Bool.eq_iff_iff]; simp)
    · (repeat' (first | (with_reducible first | exact Below.refl _ _ | refine blQ ?_ _ | refine Below.drew ?_ | refine blO ?_ (by assumption) | refine Below.alloc ?_ ?_ _ | refine Below.setCell ?_ ?_ _ | refine Below.frame ?_ _) | omega | (simp only [zA, zS, zD, zQ]; omega)))
end Go.Proofs.Ytioopcilcgebeaa.InstA
/-! #### InstM -/
namespace Go.Proofs.Ytioopcilcgebeaa.InstA
open Go.RowKit Go.Proofs.Ytioopcilcgebeaa.InstS Go.Proofs.Ytioopcilcgebeaa.BitsP Go.Proofs.YtioopcilcgebeaaW.PrintMore Go.Proofs.YtioopcilcgebeaaW.PrintWords

theorem or_assoc3 (x y z : Int) (hx0 : 0 ≤ x) (hx : x < 4294967296) (hy0 : 0 ≤ y) (hy : y < 4294967296) (hz0 : 0 ≤ z) (hz : z < 4294967296) :
    bits .or .u32 (bits .or .u32 x y) z = bits .or .u32 x (bits .or .u32 y z) := by
  obtain ⟨a, rfl⟩ := Int.eq_ofNat_of_zero_le hx0
  obtain ⟨b, rfl⟩ := Int.eq_ofNat_of_zero_le hy0
  obtain ⟨c, rfl⟩ := Int.eq_ofNat_of_zero_le hz0
  have h1 : a ||| b < 2 ^ 32 := Nat.or_lt_two_pow (by omega) (by omega)
  have h2 : b ||| c < 2 ^ 32 := Nat.or_lt_two_pow (by omega) (by omega)
  have e1 := u32_or_nat a b (by omega) (by omega)
  have e2 := u32_or_nat b c (by omega) (by omega)
  have e3 := u32_or_nat (a ||| b) c (by omega) (by omega)
  have e4 := u32_or_nat a (b ||| c) (by omega) (by omega)
  rw [e1, e2, e3, e4, Nat.or_assoc]
/-- The bits of a word that a form's number has. -/
def maskS (form x : Int) : Int := if form = 1 then x / 1048576 * 1048576 else if form = 2 ∨ form = 3 then x / 33554432 * 33554432 + x / 128 % 32 * 128 else x / 4096 * 4096
theorem raw_get (form x : Int) (hf : 1 ≤ form ∧ form ≤ 5) (h0 : 0 ≤ x) (h : x < 4294967296) : ImmP.rawPut form (ImmP.getS form x % 4294967296) = maskS form x := by
  rcases (by omega : form = 1 ∨ form = 2 ∨ form = 3 ∨ form = 4 ∨ form = 5) with rfl | rfl | rfl | rfl | rfl
  · simp only [ImmP.rawPut, ImmP.getS, ImmP.sx, ImmP.rawS, ImmP.wide, maskS, if_true, true_or, true_and, Int.reducePow, Nat.reduceSub, Int.reduceLE, and_self]
    split <;> omega
  · simp only [ImmP.rawPut, ImmP.getS, ImmP.sx, ImmP.rawS, ImmP.wide, maskS, if_true, true_or, or_true, true_and, Int.reducePow, Nat.reduceSub, Int.reduceLE, and_self, Int.reduceEq, if_false]
    split <;> omega
  · simp only [ImmP.rawPut, ImmP.getS, ImmP.sx, ImmP.rawS, ImmP.wide, maskS, if_true, true_or, or_true, true_and, Int.reducePow, Nat.reduceSub, Int.reduceLE, and_self, Int.reduceEq, if_false, or_false, or_self]
    have hx : x = x / 2147483648 * 2147483648 + x / 33554432 % 64 * 33554432 + x % 33554432 := by omega
    have hy : x / 128 % 32 = x / 256 % 16 * 2 + x / 128 % 2 := by omega
    have hz : x / 33554432 = x / 2147483648 * 64 + x / 33554432 % 64 := by omega
    rw [hy, hz]
    have a1 : 0 ≤ x / 2147483648 ∧ x / 2147483648 < 2 := by omega
    have a2 : 0 ≤ x / 33554432 % 64 ∧ x / 33554432 % 64 < 64 := by omega
    have a3 : 0 ≤ x / 256 % 16 ∧ x / 256 % 16 < 16 := by omega
    have a4 : 0 ≤ x / 128 % 2 ∧ x / 128 % 2 < 2 := by omega
    clear hx hy hz h0 h
    generalize x / 2147483648 = A at *
    generalize x / 33554432 % 64 = B at *
    generalize x / 256 % 16 = C at *
    generalize x / 128 % 2 = D at *
    have hu : (if (A * 4096 + D * 2048 + B * 32 + C * 2) % 8192 ≥ 4096 then (A * 4096 + D * 2048 + B * 32 + C * 2) % 8192 - 8192 else (A * 4096 + D * 2048 + B * 32 + C * 2) % 8192) % 4294967296 = A * 4294963200 + D * 2048 + B * 32 + C * 2 := by
      rw [show (A * 4096 + D * 2048 + B * 32 + C * 2) % 8192 = A * 4096 + D * 2048 + B * 32 + C * 2 by omega]
      rcases (by omega : A = 0 ∨ A = 1) with rfl | rfl <;> split <;> omega
    rw [show (A * 64 + B) % 64 = B by omega, hu]
    have u1 : (A * 4294963200 + D * 2048 + B * 32 + C * 2) / 4096 % 2 = A := by omega
    have u2 : (A * 4294963200 + D * 2048 + B * 32 + C * 2) / 2048 % 2 = D := by omega
    have u3 : (A * 4294963200 + D * 2048 + B * 32 + C * 2) / 32 % 64 = B := by omega
    have u4 : (A * 4294963200 + D * 2048 + B * 32 + C * 2) / 2 % 16 = C := by omega
    rw [u1, u2, u3, u4]
    omega
  · simp only [ImmP.rawPut, ImmP.getS, ImmP.sx, ImmP.rawS, ImmP.wide, maskS, if_true, true_or, or_true, true_and, Int.reducePow, Nat.reduceSub, Int.reduceLE, and_self, Int.reduceEq, if_false, or_false, or_self]
    have a1 : 0 ≤ x / 4096 ∧ x / 4096 < 1048576 := by omega
    clear h0 h
    generalize x / 4096 = A at *
    rw [show A * 4096 % 4294967296 = A * 4096 by omega]
    split <;> omega
  · simp only [ImmP.rawPut, ImmP.getS, ImmP.sx, ImmP.rawS, ImmP.wide, maskS, if_true, true_or, or_true, true_and, Int.reducePow, Nat.reduceSub, Int.reduceLE, and_self, Int.reduceEq, if_false, or_false, or_self]
    have hz : x / 4096 = x / 2147483648 * 524288 + x / 2097152 % 1024 * 512 + x / 1048576 % 2 * 256 + x / 4096 % 256 := by omega
    rw [hz]
    have a1 : 0 ≤ x / 2147483648 ∧ x / 2147483648 < 2 := by omega
    have a2 : 0 ≤ x / 2097152 % 1024 ∧ x / 2097152 % 1024 < 1024 := by omega
    have a3 : 0 ≤ x / 1048576 % 2 ∧ x / 1048576 % 2 < 2 := by omega
    have a4 : 0 ≤ x / 4096 % 256 ∧ x / 4096 % 256 < 256 := by omega
    clear hz h0 h
    generalize x / 2147483648 = A at *
    generalize x / 2097152 % 1024 = B at *
    generalize x / 1048576 % 2 = C at *
    generalize x / 4096 % 256 = D at *
    have hu : (if (A * 1048576 + D * 4096 + C * 2048 + B * 2) % 2097152 ≥ 1048576 then (A * 1048576 + D * 4096 + C * 2048 + B * 2) % 2097152 - 2097152 else (A * 1048576 + D * 4096 + C * 2048 + B * 2) % 2097152) % 4294967296 = A * 4293918720 + D * 4096 + C * 2048 + B * 2 := by
      rw [show (A * 1048576 + D * 4096 + C * 2048 + B * 2) % 2097152 = A * 1048576 + D * 4096 + C * 2048 + B * 2 by omega]
      rcases (by omega : A = 0 ∨ A = 1) with rfl | rfl <;> split <;> omega
    rw [show (A * 524288 + B * 512 + C * 256 + D) % 256 = D by omega, hu]
    have u1 : (A * 4293918720 + D * 4096 + C * 2048 + B * 2) / 1048576 % 2 = A := by omega
    have u2 : (A * 4293918720 + D * 4096 + C * 2048 + B * 2) / 4096 % 256 = D := by omega
    have u3 : (A * 4293918720 + D * 4096 + C * 2048 + B * 2) / 2048 % 2 = C := by omega
    have u4 : (A * 4293918720 + D * 4096 + C * 2048 + B * 2) / 2 % 1024 = B := by omega
    rw [u1, u2, u3, u4]
    omega
theorem raw_mask (form x : Int) (hf : 1 ≤ form ∧ form ≤ 5) (_h0 : 0 ≤ x) (_h : x < 4294967296) : ImmP.rawS form (maskS form x) = ImmP.rawS form x := by
  rcases (by omega : form = 1 ∨ form = 2 ∨ form = 3 ∨ form = 4 ∨ form = 5) with rfl | rfl | rfl | rfl | rfl
  all_goals simp only [ImmP.rawS, maskS, if_true, true_or, or_true, Int.reduceEq, if_false, or_false, or_self]
  all_goals omega
theorem put_get (form x : Int) (hf : 1 ≤ form ∧ form ≤ 5) (h0 : 0 ≤ x) (h : x < 4294967296) : ImmP.putS form (ImmP.getS form x) = (maskS form x, true) := by
  unfold ImmP.putS
  rw [raw_get form x hf h0 h]
  have e : ImmP.getS form (maskS form x) = ImmP.getS form x := by unfold ImmP.getS; rw [raw_mask form x hf h0 h]
  rw [if_pos e]

/-! The kinds of operations. -/
def Lim (s : Srt) : Prop := 0 ≤ s.low ∧ s.low < 128 ∧ 0 ≤ s.three ∧ s.three < 8 ∧ 0 ≤ s.seven ∧ s.seven < 128
def K1 (s : Srt) : Prop := s.form = 0 ∧ s.d = true ∧ s.a = true ∧ s.b = true ∧ s.shift = false
def K2 (s : Srt) : Prop := s.form = 0 ∧ s.d = true ∧ s.a = true ∧ s.b = false ∧ s.shift = true
def K3 (s : Srt) : Prop := s.form = 1 ∧ s.d = true ∧ s.a = true ∧ s.b = false ∧ s.shift = false ∧ s.seven = 0
def K4 (s : Srt) : Prop := (s.form = 2 ∨ s.form = 3) ∧ s.d = false ∧ s.a = true ∧ s.b = true ∧ s.shift = false ∧ s.seven = 0
def K5 (s : Srt) : Prop := (s.form = 4 ∨ s.form = 5) ∧ s.d = true ∧ s.a = false ∧ s.b = false ∧ s.shift = false ∧ s.three = 0 ∧ s.seven = 0
def K6 (s : Srt) : Prop := s.form = 1 ∧ s.d = false ∧ s.a = false ∧ s.b = false ∧ s.shift = false ∧ s.three = 0 ∧ s.seven = 0
instance (s : Srt) : Decidable (Lim s) := by unfold Lim; infer_instance
instance (s : Srt) : Decidable (K1 s) := by unfold K1; infer_instance
instance (s : Srt) : Decidable (K2 s) := by unfold K2; infer_instance
instance (s : Srt) : Decidable (K3 s) := by unfold K3; infer_instance
instance (s : Srt) : Decidable (K4 s) := by unfold K4; infer_instance
instance (s : Srt) : Decidable (K5 s) := by unfold K5; infer_instance
instance (s : Srt) : Decidable (K6 s) := by unfold K6; infer_instance
theorem kinds_tab : ∀ n : Fin 46, Lim (tab.getD n.val noS) ∧ ((n.val < 45 ∧ (K1 (tab.getD n.val noS) ∨ K2 (tab.getD n.val noS) ∨ K3 (tab.getD n.val noS) ∨ K4 (tab.getD n.val noS) ∨ K5 (tab.getD n.val noS))) ∨ (n.val = 45 ∧ K6 (tab.getD n.val noS))) := by
  decide +kernel
theorem kinds_of (op : Int) (h : 1 ≤ op ∧ op ≤ 46) : Lim (ofS op) ∧ ((op < 46 ∧ (K1 (ofS op) ∨ K2 (ofS op) ∨ K3 (ofS op) ∨ K4 (ofS op) ∨ K5 (ofS op))) ∨ (op = 46 ∧ K6 (ofS op))) := by
  have e : ofS op = tab.getD (op - 1).toNat noS := by unfold ofS; rw [if_pos h]
  have k := kinds_tab ⟨(op - 1).toNat, by omega⟩
  simp only at k
  rw [← e] at k
  refine ⟨k.1, k.2.imp (fun h => ⟨by omega, h.2⟩) (fun h => ⟨by omega, h.2⟩)⟩
/-- Whether a word is of an operation. -/
def Hit (op x : Int) : Prop := x % 128 = (ofS op).low ∧ likeS (ofS op) x = true ∧ (op = 46 → x / 128 % 32 = 0 ∧ x / 32768 % 32 = 0)
instance (op x : Int) : Decidable (Hit op x) := by unfold Hit; infer_instance
set_option maxHeartbeats 2000000 in
theorem word_made (op x : Int) (h : 1 ≤ op ∧ op ≤ 46) (h0 : 0 ≤ x) (hx : x < 4294967296) (hl : likeS (ofS op) x = true) :
    ∃ v, tailW (ofS op) (base (ofS op) (madeS op (ofS op) x)) (madeS op (ofS op) x).imm = (v, true) ∧ (v = x ↔ Hit op x) := by
  have k := kinds_of op h
  unfold Hit
  generalize ofS op = s at *
  have hl' := hl
  simp only [hl, true_and]
  clear hl
  obtain ⟨low, three, seven, form, d, a, b, shift⟩ := s
  simp only [likeS, decide_eq_true_eq] at hl'
  obtain ⟨lim, k⟩ := k
  simp only [Lim] at lim
  simp only [K1, K2, K3, K4, K5, K6] at k
  rcases k with ⟨ho, k | k | k | k | k⟩ | ⟨ho, k⟩
  · obtain ⟨rfl, rfl, rfl, rfl, rfl⟩ := k
    have e : ImmP.getS 0 x = 0 := rfl
    simp only [tailW, base, madeS, if_true, Bool.false_eq_true, if_false, e]
    refine ⟨_, rfl, ?_⟩
    omega
  · obtain ⟨rfl, rfl, rfl, rfl, rfl⟩ := k
    simp only [tailW, base, madeS, if_true, Bool.false_eq_true, if_false]
    refine ⟨_, Prod.ext rfl (by simp; omega), ?_⟩
    have e := or_mid (seven * 33554432) (low + three * 4096 + x / 128 % 32 * 128 + x / 32768 % 32 * 32768) (x / 1048576 % 32 * 1048576) 25 20 (by omega) (by omega) (by simp only [Int.reducePow]; omega) (by omega) (by simp only [Int.reducePow]; omega) (by omega) (by simp only [Int.reducePow]; omega) (by simp only [Int.reducePow]; omega) (by omega) (by omega)
    rw [show x / 1048576 % 32 % 4294967296 * 1048576 % 4294967296 = x / 1048576 % 32 * 1048576 by omega, show low + three * 4096 + seven * 33554432 + x / 128 % 32 * 128 + x / 32768 % 32 * 32768 + 0 * 1048576 = seven * 33554432 + (low + three * 4096 + x / 128 % 32 * 128 + x / 32768 % 32 * 32768) by omega, e]
    omega
  · obtain ⟨rfl, rfl, rfl, rfl, rfl, rfl⟩ := k
    simp only [tailW, base, madeS, if_true, Bool.false_eq_true, if_false, put_get 1 x (by omega) h0 hx, Int.reduceEq]
    refine ⟨_, rfl, ?_⟩
    have e := or_add' (low + three * 4096 + 0 * 33554432 + x / 128 % 32 * 128 + x / 32768 % 32 * 32768 + 0 * 1048576) (maskS 1 x) 20 (by omega) (by simp only [Int.reducePow]; omega) (by simp only [Int.reducePow, maskS, if_true]; omega) (by simp only [maskS, if_true]; omega) (by simp only [maskS, if_true]; omega) (by omega)
    rw [e]
    simp only [maskS, if_true]
    omega
  · obtain ⟨hf, rfl, rfl, rfl, rfl, rfl⟩ := k
    have hf0 : form ≠ 0 := by omega
    simp only [tailW, base, madeS, if_true, Bool.false_eq_true, if_false, put_get form x (by omega) h0 hx, hf0]
    refine ⟨_, rfl, ?_⟩
    have em : maskS form x = x / 33554432 * 33554432 + x / 128 % 32 * 128 := by unfold maskS; rw [if_neg (by omega), if_pos hf]
    have e1 := or_add (x / 33554432 * 33554432) (x / 128 % 32 * 128) 25 (by omega) (by omega) (by simp only [Int.reducePow]; omega) (by omega) (by simp only [Int.reducePow]; omega) (by omega)
    have e2 := or_comm (x / 33554432 * 33554432) (x / 128 % 32 * 128) (by omega) (by omega) (by omega) (by omega)
    have e3 := or_mid (three * 4096 + x / 32768 % 32 * 32768 + x / 1048576 % 32 * 1048576) low (x / 128 % 32 * 128) 12 7 (by omega) (by omega) (by simp only [Int.reducePow]; omega) (by omega) (by simp only [Int.reducePow]; omega) (by omega) (by simp only [Int.reducePow]; omega) (by simp only [Int.reducePow]; omega) (by omega) (by omega)
    have e4 := or_add' (three * 4096 + x / 32768 % 32 * 32768 + x / 1048576 % 32 * 1048576 + low + x / 128 % 32 * 128) (x / 33554432 * 33554432) 25 (by omega) (by simp only [Int.reducePow]; omega) (by simp only [Int.reducePow]; omega) (by omega) (by omega) (by omega)
    have e5 := or_assoc3 (three * 4096 + x / 32768 % 32 * 32768 + x / 1048576 % 32 * 1048576 + low) (x / 128 % 32 * 128) (x / 33554432 * 33554432) (by omega) (by omega) (by omega) (by omega) (by omega) (by omega)
    rw [em, ← e1, e2, show low + three * 4096 + 0 * 33554432 + 0 * 128 + x / 32768 % 32 * 32768 + x / 1048576 % 32 * 1048576 = three * 4096 + x / 32768 % 32 * 32768 + x / 1048576 % 32 * 1048576 + low by omega, ← e5, e3, e4]
    omega
  · obtain ⟨hf, rfl, rfl, rfl, rfl, rfl, rfl⟩ := k
    have hf0 : form ≠ 0 := by omega
    simp only [tailW, base, madeS, if_true, Bool.false_eq_true, if_false, put_get form x (by omega) h0 hx, hf0]
    refine ⟨_, rfl, ?_⟩
    have em : maskS form x = x / 4096 * 4096 := by unfold maskS; rw [if_neg (by omega), if_neg (by omega)]
    have e := or_add' (low + 0 * 4096 + 0 * 33554432 + x / 128 % 32 * 128 + 0 * 32768 + 0 * 1048576) (maskS form x) 12 (by omega) (by simp only [Int.reducePow]; omega) (by simp only [Int.reducePow, em]; omega) (by simp only [em]; omega) (by simp only [em]; omega) (by omega)
    rw [e, em]
    omega
  · obtain ⟨rfl, rfl, rfl, rfl, rfl, rfl, rfl⟩ := k
    simp only [tailW, base, madeS, if_true, Bool.false_eq_true, if_false, put_get 1 x (by omega) h0 hx, Int.reduceEq]
    refine ⟨_, rfl, ?_⟩
    have e := or_add' (low + 0 * 4096 + 0 * 33554432 + 0 * 128 + 0 * 32768 + 0 * 1048576) (maskS 1 x) 20 (by omega) (by simp only [Int.reducePow]; omega) (by simp only [Int.reducePow, maskS, if_true]; omega) (by simp only [maskS, if_true]; omega) (by simp only [maskS, if_true]; omega) (by omega)
    rw [e]
    simp only [maskS, if_true]
    omega
end Go.Proofs.Ytioopcilcgebeaa.InstA
