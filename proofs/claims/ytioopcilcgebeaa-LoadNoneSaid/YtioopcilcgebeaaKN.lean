/- Proofs of this claim's family, merged: AluP, Spec, LawP. -/
import Derived.Test.YtioopcilcgebeaaKD
import Derived.Test.YtioopcilcgebeaaKP3
import Derived.Test.YtioopcilcgebeaaKP1
import Derived.Test.YtioopcilcgebeaaKP4
import Derived.Test.YtioopcilcgebeaaKM
import Derived.Test.YtioopcilcgebeaaKFn
set_option linter.unusedVariables false
set_option linter.unusedSimpArgs false
/-! #### AluP -/
namespace Go.Proofs.Ytioopcilcgebeaa.AluP
open Go.RowKit Go.Proofs.Ytioopcilcgebeaa.BitsP Go.Proofs.Ytioopcilcgebeaa.PCpu Go.Proofs.YtioopcilcgebeaaW.PrintMore Go.Proofs.YtioopcilcgebeaaW.PrintWords

/-- A word as a number with a sign. -/
def sg (a : Int) : Int := if 2147483648 ≤ a then a - 4294967296 else a
def aluS (op a b : Int) : Int :=
  if op = 1 then (a + b) % 4294967296 else if op = 2 then (a - b) % 4294967296 else if op = 3 then a * 2 ^ (b % 32).toNat % 4294967296
  else if op = 4 then (if sg a < sg b then 1 else 0) else if op = 5 then (if a < b then 1 else 0) else if op = 6 then Go.bits .xor .u32 a b
  else if op = 7 then a / 2 ^ (b % 32).toNat else if op = 8 then (sg a / 2 ^ (b % 32).toNat) % 4294967296 else if op = 9 then Go.bits .or .u32 a b
  else if op = 10 then Go.bits .and .u32 a b else if op = 11 then a * b % 4294967296 else if op = 12 then (sg a * sg b / 4294967296) % 4294967296
  else if op = 13 then (sg a * b / 4294967296) % 4294967296 else if op = 14 then a * b / 4294967296
  else if op = 15 then (if b = 0 then 4294967295 else (sg a).tdiv (sg b) % 4294967296) else if op = 16 then (if b = 0 then 4294967295 else a / b)
  else if op = 17 then (if b = 0 then a else (sg a).tmod (sg b) % 4294967296) else (if b = 0 then a else a % b)
theorem w32 (a : Int) (h0 : 0 ≤ a) (h : a < 4294967296) : wrap32 a = sg a := by unfold wrap32 sg; split <;> omega
theorem w64 (a : Int) (h0 : -9223372036854775808 ≤ a) (h : a < 9223372036854775808) : wrap64 a = a := by unfold wrap64; omega
theorem wu64 (a : Int) (h0 : 0 ≤ a) (h : a < 18446744073709551616) : IntKind.u64.wrap a = a := by rw [IntKind.wrap_u64]; omega
theorem sg_lo (a : Int) (h0 : 0 ≤ a) (h : a < 4294967296) : -2147483648 ≤ sg a ∧ sg a < 2147483648 := by unfold sg; split <;> omega
theorem sg_zero (a : Int) (h0 : 0 ≤ a) (h : a < 4294967296) : sg a = 0 ↔ a = 0 := by unfold sg; split <;> omega
theorem sg_mod (a : Int) : sg a % 4294967296 = a % 4294967296 := by unfold sg; split <;> omega
theorem pow_pos' (n : Nat) : (0 : Int) < 2 ^ n := Int.pow_pos (by omega)
theorem pow_le {n m : Nat} (h : n ≤ m) : (2 : Int) ^ n ≤ 2 ^ m := by
  have h1 : (2 : Nat) ^ n ≤ 2 ^ m := Nat.pow_le_pow_right (by omega) h
  have h2 : ((2 ^ n : Nat) : Int) ≤ ((2 ^ m : Nat) : Int) := Int.ofNat_le.2 h1
  simpa using h2
theorem div_bd (a : Int) (n : Nat) (l u : Int) (hl : l ≤ a) (hl0 : l ≤ 0) (hu : a < u) (hu0 : 0 < u) : l ≤ a / 2 ^ n ∧ a / 2 ^ n < u := by
  have p := pow_pos' n
  have p1 : (1 : Int) ≤ 2 ^ n := p
  refine ⟨(Int.le_ediv_iff_mul_le p).2 (Int.le_trans ?_ hl), (Int.ediv_lt_iff_lt_mul p).2 (Int.lt_of_lt_of_le hu ?_)⟩
  · have := Int.mul_le_mul_of_nonneg_left p1 (show 0 ≤ -l by omega)
    rw [Int.mul_one, Int.neg_mul] at this
    omega
  · have := Int.mul_le_mul_of_nonneg_left p1 (show 0 ≤ u by omega)
    rw [Int.mul_one] at this
    exact this
/-! The program's side. -/
theorem high_hi (a b : Int) (h0 : 0 ≤ a) (h1 : a < 4294967296) (k0 : 0 ≤ b) (k1 : b < 4294967296) : bits_Mul32.f a b = some (a * b / 4294967296, a * b % 4294967296) := by
  have m0 : 0 ≤ a * b := Int.mul_nonneg h0 k0
  have m1 : a * b ≤ 4294967295 * 4294967295 := Int.mul_le_mul (by omega) (by omega) k0 (by omega)
  unfold bits_Mul32.f
  rw [wu64 a h0 (by omega), wu64 b k0 (by omega), wu64 (a * b) m0 (by omega)]
  congr 2
  omega
theorem sg_mul_b (a b : Int) : sg a * b = if 2147483648 ≤ a then a * b - 4294967296 * b else a * b := by
  unfold sg; split
  · rw [Int.sub_mul]
  · rfl
theorem high_eq (k : Nat) (op a b : Int) (hop : op = 12 ∨ op = 13 ∨ op = 14) (h0 : 0 ≤ a) (h1 : a < 4294967296) (k0 : 0 ≤ b) (k1 : b < 4294967296) : num_high.f (k + 1) op a b = some (aluS op a b) := by
  have m0 : 0 ≤ a * b := Int.mul_nonneg h0 k0
  have m1 : a * b ≤ 4294967295 * 4294967295 := Int.mul_le_mul (by omega) (by omega) k0 (by omega)
  have sa : decide (sg a < 0) = decide (2147483648 ≤ a) := by unfold sg; split <;> (congr 1; simp; omega)
  have sb : (sg b < 0) = (2147483648 ≤ b) := by unfold sg; split <;> (simp; omega)
  have e1 : sg a * b = if 2147483648 ≤ a then a * b - 4294967296 * b else a * b := sg_mul_b a b
  have e2 : sg a * sg b = if 2147483648 ≤ a then (if 2147483648 ≤ b then a * b - 4294967296 * b - 4294967296 * (a - 4294967296) else a * b - 4294967296 * b) else (if 2147483648 ≤ b then a * b - 4294967296 * a else a * b) := by
    unfold sg
    split <;> split
    · rw [Int.mul_sub, Int.sub_mul]; omega
    · rw [Int.sub_mul]
    · rw [Int.mul_sub]; omega
    · rfl
  unfold num_high.f
  rw [high_hi a b h0 h1 k0 k1]
  simp only [Option.bind_some, w32 a h0 h1]
  rcases hop with rfl | rfl | rfl
  all_goals generalize hm : a * b = m at *
  · simp only [num_high.j0, aluS, Int.reduceEq, if_false, if_true, sa, w32 b k0 k1, sb, e2]
    split
    · rename_i q
      simp only [decide_eq_true_eq] at q
      simp only [if_pos q]
      split
      · congr 1; omega
      · congr 1; omega
    · rename_i q
      simp only [decide_eq_true_eq] at q
      simp only [if_neg q]
      split
      · congr 1; omega
      · congr 1; omega
  · simp only [num_high.j0, aluS, Int.reduceEq, if_false, if_true, sa, e1]
    split
    · rename_i q
      simp only [decide_eq_true_eq] at q
      simp only [if_pos q]
      congr 1; omega
    · rename_i q
      simp only [decide_eq_true_eq] at q
      simp only [if_neg q]
      congr 1; omega
  · simp only [num_high.j0, aluS, Int.reduceEq, if_false, if_true, Bool.false_eq_true, hm]
theorem tdiv_bd (x y : Int) (hx : -2147483648 ≤ x ∧ x < 2147483648) : -2147483648 ≤ x.tdiv y ∧ x.tdiv y ≤ 2147483648 := by
  have h : (x.tdiv y).natAbs ≤ x.natAbs := by rw [Int.natAbs_tdiv]; exact Nat.div_le_self _ _
  omega
theorem wrap32_mod (x : Int) : wrap32 x % 4294967296 = x % 4294967296 := by unfold wrap32; omega
theorem wrap64_mod (x : Int) : wrap64 x % 4294967296 = x % 4294967296 := by unfold wrap64; omega
theorem Alu_eq (k : Nat) (op a b : Int) (hop : 1 ≤ op ∧ op ≤ 18) (h0 : 0 ≤ a) (h1 : a < 4294967296) (k0 : 0 ≤ b) (k1 : b < 4294967296) : num_Alu.f (k + 3) op a b = some (aluS op a b, true) := by
  have hm : Go.bits .and .u32 b 31 = b % 32 := and_mask b 5 (by omega) k0 k1
  have hn : ((b % 32).toNat : Int) = b % 32 := by omega
  have p32 : 0 ≤ b % 32 := by omega
  have hsh : ∀ x, shl .u32 x (b % 32) = x * 2 ^ (b % 32).toNat % 4294967296 := fun x => by rw [← hn, shl32 x _ (by omega), hn]
  have hsr : shr .u32 a (b % 32) = a / 2 ^ (b % 32).toNat := by rw [← hn, shr32 a _ (by omega), hn]
  have hsi : shr .i32 (sg a) (b % 32) = sg a / 2 ^ (b % 32).toNat := by
    unfold shr
    rw [show min (b % 32).toNat IntKind.i32.bits = (b % 32).toNat from Nat.min_eq_left (by simp [IntKind.bits]; omega)]
  unfold num_Alu.f
  rw [if_neg (by omega), show decide (op > 18) = false from decide_eq_false (by omega)]
  unfold num_Alu.j0
  simp only [Bool.false_eq_true, if_false]
  by_cases q : op < 11
  · rw [if_pos q]
    have : op = 1 ∨ op = 2 ∨ op = 3 ∨ op = 4 ∨ op = 5 ∨ op = 6 ∨ op = 7 ∨ op = 8 ∨ op = 9 ∨ op = 10 := by omega
    clear q hop
    rcases this with rfl | rfl | rfl | rfl | rfl | rfl | rfl | rfl | rfl | rfl <;>
      simp only [num_plain.f, num_bit.f, aluS, Int.reduceEq, if_false, if_true, Option.bind_some, hm, p32, hsh, hsr, w32 a h0 h1, w32 b k0 k1, hsi, decide_eq_true_eq]
    · split <;> simp [Option.bind_some]
    · split <;> simp [Option.bind_some]
  · rw [if_neg q]
    have wa := sg_lo a h0 h1
    have wb := sg_lo b k0 k1
    have z := sg_zero b k0 k1
    have hd : num_divideu.f a b = some (if b = 0 then 4294967295 else a / b, if b = 0 then a else a % b) := by
      unfold num_divideu.f
      split
      · rfl
      · rename_i nz
        have pb : 0 < b := by omega
        rw [Int.tdiv_eq_ediv_of_nonneg h0, Int.tmod_eq_emod_of_nonneg h0]
        have l0 : 0 ≤ a / b := Int.ediv_nonneg h0 k0
        have l1 : a / b ≤ a := Int.ediv_le_self b h0
        rw [Int.emod_eq_of_lt l0 (by omega)]
    have hq : ∃ q r, num_divide.f (sg a) (sg b) = some (q, r) ∧ q % 4294967296 = aluS 15 a b ∧ r % 4294967296 = aluS 17 a b := by
      unfold num_divide.f
      by_cases zb : b = 0
      · rw [if_pos (z.2 zb)]
        refine ⟨_, _, rfl, ?_, ?_⟩
        · simp [aluS, zb]
        · simp [aluS, zb, sg_mod]; omega
      · rw [if_neg (fun h => zb (z.1 h))]
        have g : ∀ q r, some (wrap32 ((sg a).tdiv (sg b)), (sg a).tmod (sg b)) = some (q, r) → q % 4294967296 = aluS 15 a b ∧ r % 4294967296 = aluS 17 a b := by
          intro q r e
          injection e with e
          injection e with e1 e2
          subst e1 e2
          simp only [aluS, Int.reduceEq, if_false, if_true, if_neg zb, wrap32_mod, and_self]
        by_cases c1 : sg a = -2147483648
        · rw [if_pos c1]
          by_cases c2 : sg b = -1
          · rw [if_pos c2]
            refine ⟨_, _, rfl, ?_, ?_⟩
            · simp only [aluS, Int.reduceEq, if_false, if_true, if_neg zb, c1, c2]; decide
            · simp only [aluS, Int.reduceEq, if_false, if_true, if_neg zb, c1, c2]; decide
          · rw [if_neg c2]; exact ⟨_, _, rfl, g _ _ rfl⟩
        · rw [if_neg c1]; exact ⟨_, _, rfl, g _ _ rfl⟩
    obtain ⟨u, r, e1, e2, e3⟩ := hq
    rw [w32 a h0 h1, w32 b k0 k1, e1, hd]
    simp only [Option.bind_some, e2, e3]
    have : op = 11 ∨ op = 15 ∨ op = 16 ∨ op = 17 ∨ op = 18 ∨ (op = 12 ∨ op = 13 ∨ op = 14) := by omega
    rcases this with rfl | rfl | rfl | rfl | rfl | h
    · rfl
    · rfl
    · rfl
    · rfl
    · rfl
    · rw [high_eq _ op a b h h0 h1 k0 k1]
      rw [if_neg (by omega), if_neg (by omega), if_neg (by omega), if_neg (by omega), if_neg (by omega)]
      rfl
/-! The reference's side. -/
theorem bits_loop (A B T : Nat) (n s t : Int) (hA : A < 4294967296) (hB : B < 4294967296) (hT : T < 4294967296)
    (hg : ∀ i : Nat, i < 32 → ((T / 2 ^ i % 2 : Nat) : Int) = (if A / 2 ^ i % 2 + B / 2 ^ i % 2 = 2 then t else if A / 2 ^ i % 2 + B / 2 ^ i % 2 = 1 then s else n)) :
    ∀ (i : Nat) (k : Nat), i ≤ 32 → pintleref01_bits.l0 (i + 1 + k) A B n s t ((T / 2 ^ i : Nat) : Int) ((i : Int) - 1) = some (T : Int)
  | 0, k, _ => by
    rw [show 0 + 1 + k = k + 1 by omega, pintleref01_bits.l0, if_neg (by omega)]
    simp
  | i + 1, k, hi => by
    have ih := bits_loop A B T n s t hA hB hT hg i k (by omega)
    have g := hg i (by omega)
    have hp : 0 < 2 ^ i := Nat.pow_pos (by omega)
    have hs : T / 2 ^ (i + 1) = T / 2 ^ i / 2 := by rw [Nat.pow_succ, Nat.div_div_eq_div_mul]
    have hl : T / 2 ^ i ≤ T := Nat.div_le_self _ _
    have ea : Int.tmod (shr .u32 (A : Int) (IntKind.u64.wrap (((i + 1 : Nat) : Int) - 1))) 2 = ((A / 2 ^ i % 2 : Nat) : Int) := by
      rw [wu64 _ (by omega) (by omega), show ((i + 1 : Nat) : Int) - 1 = (i : Int) by omega, shr32 _ i (by omega), Int.tmod_eq_emod_of_nonneg (Int.ediv_nonneg (by omega) (Int.le_of_lt (pow_pos' i)))]
      simp
    have eb : Int.tmod (shr .u32 (B : Int) (IntKind.u64.wrap (((i + 1 : Nat) : Int) - 1))) 2 = ((B / 2 ^ i % 2 : Nat) : Int) := by
      rw [wu64 _ (by omega) (by omega), show ((i + 1 : Nat) : Int) - 1 = (i : Int) by omega, shr32 _ i (by omega), Int.tmod_eq_emod_of_nonneg (Int.ediv_nonneg (by omega) (Int.le_of_lt (pow_pos' i)))]
      simp
    rw [show i + 1 + 1 + k = (i + 1 + k) + 1 by omega, pintleref01_bits.l0, if_pos (by omega), if_pos (by rw [wu64 _ (by omega) (by omega)]; omega)]
    rw [ea, eb, show wrap64 (((i + 1 : Nat) : Int) - 1 - 1) = (i : Int) - 1 by rw [w64 _ (by omega) (by omega)]; omega]
    have lx : A / 2 ^ i % 2 < 2 := Nat.mod_lt _ (by omega)
    have ly : B / 2 ^ i % 2 < 2 := Nat.mod_lt _ (by omega)
    generalize A / 2 ^ i % 2 = x at *
    generalize B / 2 ^ i % 2 = y at *
    rw [hs]
    generalize hu : T / 2 ^ i = u at *
    have key : ∀ z : Int, ((u % 2 : Nat) : Int) = z → ((((u / 2 : Nat) : Int) * 2) % 4294967296 + z) % 4294967296 = ((u : Nat) : Int) := by intro z hz; omega
    by_cases h2 : x + y = 2
    · rw [if_pos h2] at g
      rw [if_neg (by omega), if_pos (by omega), key _ g]
      exact ih
    · rw [if_neg h2] at g
      by_cases h1 : x + y = 1
      · rw [if_pos h1] at g
        rw [if_pos (by omega), if_neg (by omega), key _ g]
        exact ih
      · rw [if_neg h1] at g
        rw [if_neg (by omega), if_neg (by omega), key _ g]
        exact ih
theorem bit_of (x i : Nat) : x / 2 ^ i % 2 = (x.testBit i).toNat := by
  rw [Nat.testBit_eq_decide_div_mod_eq]
  have : x / 2 ^ i % 2 = 0 ∨ x / 2 ^ i % 2 = 1 := by omega
  rcases this with h | h <;> simp [h]
theorem bits_eq (a b T : Int) (n s t : Int) (h0 : 0 ≤ a) (h1 : a < 4294967296) (k0 : 0 ≤ b) (k1 : b < 4294967296) (t0 : 0 ≤ T) (t1 : T < 4294967296)
    (hg : ∀ i : Nat, i < 32 → ((T.toNat / 2 ^ i % 2 : Nat) : Int) = (if a.toNat / 2 ^ i % 2 + b.toNat / 2 ^ i % 2 = 2 then t else if a.toNat / 2 ^ i % 2 + b.toNat / 2 ^ i % 2 = 1 then s else n)) (k : Nat) :
    pintleref01_bits.f (33 + k) a b n s t = some T := by
  have h := bits_loop a.toNat b.toNat T.toNat n s t (by omega) (by omega) (by omega) hg 32 k (Nat.le_refl _)
  rw [show ((a.toNat : Nat) : Int) = a by omega, show ((b.toNat : Nat) : Int) = b by omega, show ((T.toNat : Nat) : Int) = T by omega, Nat.div_eq_of_lt (by omega)] at h
  exact h
theorem bits_xor (a b : Int) (h0 : 0 ≤ a) (h1 : a < 4294967296) (k0 : 0 ≤ b) (k1 : b < 4294967296) (k : Nat) : pintleref01_bits.f (33 + k) a b 0 1 0 = some (Go.bits .xor .u32 a b) := by
  have e := u32_xor a b h0 h1 k0 k1
  have l : a.toNat ^^^ b.toNat < 2 ^ 32 := Nat.xor_lt_two_pow (by omega) (by omega)
  rw [e]
  refine bits_eq a b _ 0 1 0 h0 h1 k0 k1 (by omega) (by omega) (fun i _ => ?_) k
  rw [Int.toNat_natCast, bit_of, bit_of, bit_of, Nat.testBit_xor]
  cases a.toNat.testBit i <;> cases b.toNat.testBit i <;> rfl
theorem bits_or (a b : Int) (h0 : 0 ≤ a) (h1 : a < 4294967296) (k0 : 0 ≤ b) (k1 : b < 4294967296) (k : Nat) : pintleref01_bits.f (33 + k) a b 0 1 1 = some (Go.bits .or .u32 a b) := by
  have e := u32_or a b h0 h1 k0 k1
  have l : a.toNat ||| b.toNat < 2 ^ 32 := Nat.or_lt_two_pow (by omega) (by omega)
  rw [e]
  refine bits_eq a b _ 0 1 1 h0 h1 k0 k1 (by omega) (by omega) (fun i _ => ?_) k
  rw [Int.toNat_natCast, bit_of, bit_of, bit_of, Nat.testBit_or]
  cases a.toNat.testBit i <;> cases b.toNat.testBit i <;> rfl
theorem bits_and (a b : Int) (h0 : 0 ≤ a) (h1 : a < 4294967296) (k0 : 0 ≤ b) (k1 : b < 4294967296) (k : Nat) : pintleref01_bits.f (33 + k) a b 0 0 1 = some (Go.bits .and .u32 a b) := by
  have e := u32_and a b h0 h1 k0 k1
  have l : a.toNat &&& b.toNat < 2 ^ 32 := Nat.and_lt_two_pow _ (by omega)
  rw [e]
  refine bits_eq a b _ 0 0 1 h0 h1 k0 k1 (by omega) (by omega) (fun i _ => ?_) k
  rw [Int.toNat_natCast, bit_of, bit_of, bit_of, Nat.testBit_and]
  cases a.toNat.testBit i <;> cases b.toNat.testBit i <;> rfl
theorem word_eq (x : Int) : pintleref01_Word.f x = some (x % 4294967296) := by
  unfold pintleref01_Word.f
  congr 1
  rw [IntKind.wrap_u64, Int.tmod_eq_emod_of_nonneg (by omega)]
  omega
theorem signed_eq (a : Int) (h0 : 0 ≤ a) (h1 : a < 4294967296) : pintleref01_Signed.f a = some (sg a) := by
  unfold pintleref01_Signed.f sg
  rw [w64 a (by omega) (by omega)]
  by_cases q : 2147483648 ≤ a
  · rw [if_pos q, if_pos q, w64 _ (by omega) (by omega)]
  · rw [if_neg q, if_neg q]
theorem shl_one (n : Nat) (hn : n ≤ 62) : shl .i64 1 (n : Int) = 2 ^ n := by
  unfold shl
  rw [Int.toNat_natCast, show min n IntKind.i64.bits = n from Nat.min_eq_left (by simp [IntKind.bits]; omega), Int.one_mul, IntKind.wrap_i64]
  have h1 := pow_le hn
  have h0 := pow_pos' n
  simp only [Int.reducePow] at h1
  omega
theorem floor_eq (x : Int) (n : Nat) (hn : n ≤ 62) (h0 : -9223372036854775807 ≤ x) (h1 : x < 9223372036854775808) : pintleref01_floor.f x (n : Int) = some (x / 2 ^ n) := by
  have p := pow_pos' n
  have ⟨b0, b1⟩ := div_bd x n (-9223372036854775807) 9223372036854775808 h0 (by omega) h1 (by omega)
  unfold pintleref01_floor.f
  rw [wu64 _ (by omega) (by omega), shl_one n hn, if_pos (by omega)]
  split
  · rename_i q
    rw [if_neg (by omega)]
    obtain ⟨y, hy⟩ : ∃ y, x = -y := ⟨-x, by omega⟩
    subst hy
    have e1 : Int.tmod (-y) (2 ^ n) = -(y % 2 ^ n) := by rw [Int.neg_tmod, Int.tmod_eq_emod_of_nonneg (by omega)]
    have e2 : Int.tdiv (-y) (2 ^ n) = -(y / 2 ^ n) := by rw [Int.neg_tdiv, Int.tdiv_eq_ediv_of_nonneg (by omega)]
    have d := Int.emod_add_mul_ediv y (2 ^ n)
    have d2 := Int.emod_add_mul_ediv (-y) (2 ^ n)
    have l1 := Int.emod_nonneg y (show (2 : Int) ^ n ≠ 0 by omega)
    have l2 := Int.emod_lt_of_pos y p
    have ⟨c0, c1⟩ := div_bd y n 0 9223372036854775808 (by omega) (by omega) (by omega) (by omega)
    rw [e1, e2]
    by_cases z : y % 2 ^ n = 0
    · rw [if_pos (by omega), w64 _ (by omega) (by omega)]
      congr 1
      have : (-y) / 2 ^ n = -(y / 2 ^ n) := by
        rw [Int.neg_ediv_of_dvd (Int.dvd_of_emod_eq_zero z)]
      omega
    · rw [if_neg (by omega), w64 (-(y / 2 ^ n)) (by omega) (by omega), w64 _ (by omega) (by omega)]
      congr 1
      have : (-y) / 2 ^ n = -(y / 2 ^ n) - 1 := by
        have h := Int.ediv_emod_unique (a := -y) (b := 2 ^ n) (r := 2 ^ n - y % 2 ^ n) (q := -(y / 2 ^ n) - 1) p
        refine (h.2 ⟨?_, by omega, by omega⟩).1
        rw [Int.mul_sub, Int.mul_neg, Int.mul_one]
        omega
      omega
  · rw [if_neg (by omega), Int.tdiv_eq_ediv_of_nonneg (by omega), w64 _ (by omega) (by omega)]
theorem mul_bd (x y : Int) (X Y : Int) (hx : -X ≤ x ∧ x ≤ X) (hy : -Y ≤ y ∧ y ≤ Y) (hX : 0 ≤ X) : -(X * Y) ≤ x * y ∧ x * y ≤ X * Y := by
  have a1 : x.natAbs ≤ X.toNat := by omega
  have a2 : y.natAbs ≤ Y.toNat := by omega
  have h : (x * y).natAbs ≤ X.toNat * Y.toNat := by rw [Int.natAbs_mul]; exact Nat.mul_le_mul a1 a2
  have e : ((X.toNat * Y.toNat : Nat) : Int) = X * Y := by rw [Int.natCast_mul, Int.toNat_of_nonneg hX, Int.toNat_of_nonneg (by omega)]
  omega
theorem more_eq (op a b : Int) (hop : 11 ≤ op ∧ op ≤ 18) (h0 : 0 ≤ a) (h1 : a < 4294967296) (k0 : 0 ≤ b) (k1 : b < 4294967296) : pintleref01_more.f op (sg a) (sg b) a b = some (aluS op a b, true) := by
  have wa := sg_lo a h0 h1
  have wb := sg_lo b k0 k1
  have z := sg_zero b k0 k1
  have m0 : 0 ≤ a * b := Int.mul_nonneg h0 k0
  have m1 : a * b ≤ 4294967295 * 4294967295 := Int.mul_le_mul (by omega) (by omega) k0 (by omega)
  have s1 := mul_bd (sg a) (sg b) 2147483648 2147483648 (by omega) (by omega) (by omega)
  have s2 := mul_bd (sg a) b 2147483648 4294967295 (by omega) (by omega) (by omega)
  have hd : pintleref01_div.f a b = some (if b = 0 then -1 else a / b, if b = 0 then a else a % b) := by
    unfold pintleref01_div.f
    split
    · rfl
    · rename_i nz
      rw [Int.tdiv_eq_ediv_of_nonneg h0, Int.tmod_eq_emod_of_nonneg h0]
      have l0 : 0 ≤ a / b := Int.ediv_nonneg h0 k0
      have l1 : a / b ≤ a := Int.ediv_le_self b h0
      rw [w64 _ (by omega) (by omega)]
  have hs : pintleref01_div.f (sg a) (sg b) = some (if b = 0 then -1 else (sg a).tdiv (sg b), if b = 0 then sg a else (sg a).tmod (sg b)) := by
    unfold pintleref01_div.f
    by_cases zb : b = 0
    · rw [if_pos (z.2 zb), if_pos zb, if_pos zb]
    · rw [if_neg (fun h => zb (z.1 h)), if_neg zb, if_neg zb]
      have := tdiv_bd (sg a) (sg b) wa
      rw [w64 _ (by omega) (by omega)]
  have f1 := floor_eq (sg a * sg b) 32 (by omega) (by omega) (by omega)
  have f2 := floor_eq (sg a * b) 32 (by omega) (by omega) (by omega)
  simp only [Int.reducePow] at f1 f2
  have f1' : pintleref01_floor.f (sg a * sg b) 32 = some (sg a * sg b / 4294967296) := f1
  have f2' : pintleref01_floor.f (sg a * b) 32 = some (sg a * b / 4294967296) := f2
  unfold pintleref01_more.f
  rw [hs, hd, w64 (sg a * sg b) (by omega) (by omega), w64 (sg a * b) (by omega) (by omega), f1', f2', wu64 a (by omega) (by omega), wu64 b (by omega) (by omega), wu64 (a * b) (by omega) (by omega), Int.tdiv_eq_ediv_of_nonneg m0, wu64 (a * b / 4294967296) (by omega) (by omega)]
  have : op = 11 ∨ op = 12 ∨ op = 13 ∨ op = 14 ∨ op = 15 ∨ op = 16 ∨ op = 17 ∨ op = 18 := by omega
  have mm : sg a * sg b % 4294967296 = a * b % 4294967296 := by
    rw [Int.mul_emod, sg_mod, sg_mod, ← Int.mul_emod]
  rcases this with rfl | rfl | rfl | rfl | rfl | rfl | rfl | rfl <;> simp only [Option.bind_some, Int.reduceEq, if_true, if_false, word_eq, aluS, mm]
  · congr 2; omega
  · congr 2; split <;> rfl
  · congr 2
    split
    · rfl
    · have l0 : 0 ≤ a / b := Int.ediv_nonneg h0 k0
      have l1 : a / b ≤ a := Int.ediv_le_self b h0
      omega
  · congr 2; split
    · rw [sg_mod]; omega
    · rfl
  · congr 2
    split
    · omega
    · have l0 := Int.emod_nonneg a (show b ≠ 0 by assumption)
      have l1 := Int.emod_lt_of_pos a (show 0 < b by omega)
      omega
theorem refAlu_eq (k : Nat) (op a b : Int) (hop : 1 ≤ op ∧ op ≤ 18) (h0 : 0 ≤ a) (h1 : a < 4294967296) (k0 : 0 ≤ b) (k1 : b < 4294967296) : pintleref01_Alu.f (33 + k) op a b = some (aluS op a b, true) := by
  have wa := sg_lo a h0 h1
  have p : wrap64 (Int.tmod b 32) = b % 32 := by rw [Int.tmod_eq_emod_of_nonneg k0, w64 _ (by omega) (by omega)]
  have hn : ((b % 32).toNat : Int) = b % 32 := by omega
  have p2 : IntKind.u64.wrap (b % 32) = b % 32 := wu64 _ (by omega) (by omega)
  have p3 : shl .i64 1 (b % 32) = 2 ^ (b % 32).toNat := by rw [← hn, shl_one _ (by omega), hn]
  have pp := pow_pos' (b % 32).toNat
  have pl := pow_le (show (b % 32).toNat ≤ 31 by omega)
  simp only [Int.reducePow] at pl
  have f := floor_eq (sg a) (b % 32).toNat (by omega) (by omega) (by omega)
  rw [hn] at f
  have d := div_bd a (b % 32).toNat 0 4294967296 h0 (by omega) h1 (by omega)
  unfold pintleref01_Alu.f
  rw [signed_eq a h0 h1, signed_eq b k0 k1, p, p2, p3, w64 a (by omega) (by omega), w64 b (by omega) (by omega)]
  simp only [Option.bind_some, f, bits_xor a b h0 h1 k0 k1 k, bits_or a b h0 h1 k0 k1 k, bits_and a b h0 h1 k0 k1 k]
  by_cases q : 11 ≤ op
  · rw [if_neg (by omega), if_neg (by omega), if_neg (by omega), if_neg (by omega), if_neg (by omega), if_neg (by omega), if_neg (by omega), if_neg (by omega), if_neg (by omega), if_neg (by omega), more_eq op a b ⟨q, hop.2⟩ h0 h1 k0 k1]
    rfl
  · have : op = 1 ∨ op = 2 ∨ op = 3 ∨ op = 4 ∨ op = 5 ∨ op = 6 ∨ op = 7 ∨ op = 8 ∨ op = 9 ∨ op = 10 := by omega
    clear q hop
    rcases this with rfl | rfl | rfl | rfl | rfl | rfl | rfl | rfl | rfl | rfl <;>
      simp only [Option.bind_some, Int.reduceEq, if_true, if_false, word_eq, aluS, wrap64_mod, pintleref01_one.f]
    · rw [if_pos (by omega)]
    · split <;> simp_all [word_eq]
    · split <;> simp_all [word_eq]
    · rw [if_pos (by omega), if_neg (by omega), Int.tdiv_eq_ediv_of_nonneg h0]
      congr 2
      omega
theorem aluS_bd (op a b : Int) (hop : 1 ≤ op ∧ op ≤ 18) (h0 : 0 ≤ a) (h1 : a < 4294967296) (k0 : 0 ≤ b) (k1 : b < 4294967296) : 0 ≤ aluS op a b ∧ aluS op a b < 4294967296 := by
  have m0 : 0 ≤ a * b := Int.mul_nonneg h0 k0
  have m1 : a * b ≤ 4294967295 * 4294967295 := Int.mul_le_mul (by omega) (by omega) k0 (by omega)
  have d := div_bd a (b % 32).toNat 0 4294967296 h0 (by omega) h1 (by omega)
  have l1 : a.toNat ^^^ b.toNat < 2 ^ 32 := Nat.xor_lt_two_pow (by omega) (by omega)
  have l2 : a.toNat ||| b.toNat < 2 ^ 32 := Nat.or_lt_two_pow (by omega) (by omega)
  have l3 : a.toNat &&& b.toNat < 2 ^ 32 := Nat.and_lt_two_pow _ (by omega)
  have q0 : b ≠ 0 → 0 ≤ a / b ∧ a / b ≤ a := fun _ => ⟨Int.ediv_nonneg h0 k0, Int.ediv_le_self b h0⟩
  have q1 : b ≠ 0 → 0 ≤ a % b ∧ a % b < b := fun h => ⟨Int.emod_nonneg a h, Int.emod_lt_of_pos a (by omega)⟩
  have : op = 1 ∨ op = 2 ∨ op = 3 ∨ op = 4 ∨ op = 5 ∨ op = 6 ∨ op = 7 ∨ op = 8 ∨ op = 9 ∨ op = 10 ∨ op = 11 ∨ op = 12 ∨ op = 13 ∨ op = 14 ∨ op = 15 ∨ op = 16 ∨ op = 17 ∨ op = 18 := by omega
  rcases this with rfl | rfl | rfl | rfl | rfl | rfl | rfl | rfl | rfl | rfl | rfl | rfl | rfl | rfl | rfl | rfl | rfl | rfl <;>
    simp only [aluS, Int.reduceEq, if_true, if_false, u32_xor a b h0 h1 k0 k1, u32_or a b h0 h1 k0 k1, u32_and a b h0 h1 k0 k1] <;> (try split) <;> (try have q2 := q0 ‹_›) <;> (try have q3 := q1 ‹_›) <;> omega
end Go.Proofs.Ytioopcilcgebeaa.AluP
/-! #### Spec -/
namespace Go.Proofs.Ytioopcilcgebeaa.CpuA
open Go.RowKit Go.Proofs.Ytioopcilcgebeaa.Base Go.Proofs.Ytioopcilcgebeaa.InstS Go.Proofs.Ytioopcilcgebeaa.InstA Go.Proofs.Ytioopcilcgebeaa.AluP

theorem sx_bd (n : Nat) (x : Int) (h : 1 ≤ n) (h2 : n ≤ 32) : -2147483648 ≤ ImmP.sx n x ∧ ImmP.sx n x < 2147483648 := by
  have p := pow_pos' n
  have p1 := pow_pos' (n - 1)
  have e : (2 : Int) ^ n = 2 * 2 ^ (n - 1) := by
    rw [show n = (n - 1) + 1 by omega, Int.pow_succ, show n - 1 + 1 - 1 = n - 1 by omega]; omega
  have l := pow_le (show n - 1 ≤ 31 by omega)
  simp only [Int.reducePow] at l
  have a := Int.emod_nonneg x (show (2 : Int) ^ n ≠ 0 by omega)
  have b := Int.emod_lt_of_pos x p
  unfold ImmP.sx
  split <;> omega
theorem getS_bd (form x : Int) : -2147483648 ≤ ImmP.getS form x ∧ ImmP.getS form x < 2147483648 := by
  unfold ImmP.getS
  split
  · rename_i q
    refine sx_bd _ _ ?_ ?_ <;> (unfold ImmP.wide; split <;> (try split) <;> (try split) <;> (try split) <;> omega)
  · omega
/-- What an instruction that was decoded is. -/
structure InsOk (i : Ins) : Prop where
  op0 : 1 ≤ i.op
  op1 : i.op ≤ 48
  rd0 : 0 ≤ i.rd
  rd1 : i.rd < 32
  a0 : 0 ≤ i.rs1
  a1 : i.rs1 < 32
  b0 : 0 ≤ i.rs2
  b1 : i.rs2 < 32
  n0 : -2147483648 ≤ i.imm
  n1 : i.imm < 2147483648
theorem dec_ok {x : Int} {i : Ins} (h : dec x = some i) : InsOk i := by
  unfold dec at h
  split at h
  · obtain rfl := Option.some.inj h; constructor <;> decide
  · split at h
    · obtain rfl := Option.some.inj h; constructor <;> decide
    · rw [Option.map_eq_some_iff] at h
      obtain ⟨n, hn, rfl⟩ := h
      have hr := List.mem_range.1 (List.mem_of_find?_eq_some hn)
      have g := getS_bd (ofS ((n : Int) + 1)).form x
      unfold madeS
      constructor <;> dsimp only <;> (try split) <;> omega
/-- A machine's state: the pc, registers, RAM. -/
structure St where
  pc : Int
  R : List Int
  M : List Int
/-- What a step does with bytes. -/
structure Did where
  kind : Int
  addr : Int
  size : Int
def no : Did := ⟨0, 0, 0⟩
def St.put (s : St) (n v : Int) : St := ⟨(s.pc + 4) % 4294967296, setR s.R n v, s.M⟩
def St.go (s : St) (dst n : Int) : Int × St := if dst % 4 = 0 then (0, ⟨dst, setR s.R n ((s.pc + 4) % 4294967296), s.M⟩) else (1, s)
def szS (op : Int) : Nat := if op = 28 ∨ op = 31 ∨ op = 33 then 1 else if op = 29 ∨ op = 32 ∨ op = 34 then 2 else 4
theorem szS_in (op : Int) : szS op = 1 ∨ szS op = 2 ∨ szS op = 4 := by unfold szS; split <;> (try split) <;> omega
def plainS (op : Int) : Int :=
  if op = 19 then 1 else if op = 20 then 4 else if op = 21 then 5 else if op = 22 then 6 else if op = 23 then 9 else if op = 24 then 10 else if op = 25 then 3 else if op = 26 then 7 else 8
def takesS (op a b : Int) : Bool :=
  if op = 36 then decide (a = b) else if op = 37 then !decide (a = b) else if op = 38 then decide (sg a < sg b) else if op = 39 then decide (sg b ≤ sg a) else if op = 40 then decide (a < b) else decide (b ≤ a)
/-- A byte's or a half word's sign, drawn out. -/
def sextS (op w : Int) : Int := if op = 28 then (if w % 256 ≥ 128 then w % 256 - 256 else w % 256) % 4294967296 else if op = 29 then (if w % 65536 ≥ 32768 then w % 65536 - 65536 else w % 65536) % 4294967296 else w
def St.reg (s : St) (n : Int) : Int := s.R.getD n.toNat 0
def loadsT (K : Bk) (F : List Int) (i : Ins) (s : St) : Did × Int × St :=
  let at_ := (s.reg i.rs1 + i.imm) % 4294967296
  let r := loadS K F s.M at_ (szS i.op)
  if r.2 = 0 then (⟨1, at_, szS i.op⟩, 0, s.put i.rd (sextS i.op r.1)) else (no, r.2, s)
def storesT (K : Bk) (i : Ins) (s : St) : Did × Int × St :=
  let at_ := (s.reg i.rs1 + i.imm) % 4294967296
  let r := storeS K s.M at_ (s.reg i.rs2) (szS i.op)
  if r.1 = 0 then (⟨2, at_, szS i.op⟩, 0, St.put ⟨s.pc, s.R, r.2⟩ 0 0) else (no, r.1, s)
def doesT (K : Bk) (F : List Int) (i : Ins) (s : St) : Did × Int × St :=
  let a := s.reg i.rs1
  let b := s.reg i.rs2
  let n := i.imm % 4294967296
  if i.op ≤ 18 then (no, 0, s.put i.rd (aluS i.op a b))
  else if i.op ≤ 27 then (no, 0, s.put i.rd (aluS (plainS i.op) a n))
  else if i.op ≤ 32 then loadsT K F i s
  else if i.op ≤ 35 then storesT K i s
  else if i.op ≤ 41 then (if takesS i.op a b = true then (no, s.go ((s.pc + i.imm) % 4294967296) 0) else (no, 0, s.put 0 0))
  else if i.op = 42 then (no, 0, s.put i.rd n)
  else if i.op = 43 then (no, 0, s.put i.rd ((s.pc + i.imm) % 4294967296))
  else if i.op = 44 then (no, s.go ((s.pc + i.imm) % 4294967296) i.rd)
  else if i.op = 45 then (no, s.go (((a + i.imm) % 4294967296) / 2 * 2) i.rd)
  else if i.op = 46 then (no, 0, s.put 0 0)
  else if i.op = 47 then (no, 6, s)
  else (no, 7, s)
/-- An event. -/
structure Evt where
  pc : Int
  word : Int
  did : Did
def stepT (K : Bk) (F : List Int) (s : St) : Evt × Int × St :=
  let r := fetchS K F s.M s.pc
  if r.2 = 0 then (match dec r.1 with
    | some i => let d := doesT K F i s; (⟨s.pc, r.1, d.1⟩, d.2.1, d.2.2)
    | none => (⟨s.pc, r.1, no⟩, 5, s))
  else (⟨s.pc, 0, no⟩, r.2, s)
/-- A state that may be: words of 32 bits. -/
structure StOk (K : Bk) (s : St) : Prop where
  pc0 : 0 ≤ s.pc
  pc1 : s.pc < 4294967296
  rl : s.R.length = 32
  regs : ∀ r ∈ s.R, 0 ≤ r ∧ r < 4294967296
  ml : s.M.length = K.rn
  bytes : ∀ c ∈ s.M, 0 ≤ c ∧ c < 256
theorem StOk.reg {K : Bk} {s : St} (h : StOk K s) (n : Int) : 0 ≤ s.reg n ∧ s.reg n < 4294967296 := by
  unfold St.reg
  rw [List.getD_eq_getElem?_getD]
  cases e : s.R[n.toNat]? with
  | none => simp
  | some r => exact h.regs r (List.mem_of_getElem? e)
theorem setR_regs {R : List Int} (h : ∀ r ∈ R, 0 ≤ r ∧ r < 4294967296) (n v : Int) (hv : 0 ≤ v ∧ v < 4294967296) : ∀ r ∈ setR R n v, 0 ≤ r ∧ r < 4294967296 := by
  unfold setR
  split
  · intro r hr
    rcases List.mem_or_eq_of_mem_set hr with hr | rfl
    · exact h r hr
    · exact hv
  · exact h
theorem StOk.put {K : Bk} {s : St} (h : StOk K s) (n v : Int) (hv : 0 ≤ v ∧ v < 4294967296) : StOk K (s.put n v) :=
  ⟨by unfold St.put; dsimp only; omega, by unfold St.put; dsimp only; omega, by unfold St.put; rw [setR_length]; exact h.rl, setR_regs h.regs n v hv, h.ml, h.bytes⟩
theorem StOk.go {K : Bk} {s : St} (h : StOk K s) (dst n : Int) (hd : 0 ≤ dst ∧ dst < 4294967296) : StOk K (s.go dst n).2 := by
  unfold St.go
  split
  · exact ⟨hd.1, hd.2, by rw [setR_length]; exact h.rl, setR_regs h.regs n _ (by omega), h.ml, h.bytes⟩
  · exact h
theorem StOk.mem {K : Bk} {s : St} (h : StOk K s) (at_ v : Int) (k : Nat) : StOk K ⟨s.pc, s.R, (storeS K s.M at_ v k).2⟩ := by
  refine ⟨h.pc0, h.pc1, h.rl, h.regs, ?_, ?_⟩
  · unfold storeS
    split
    · split
      · rw [putB_length]; exact h.ml
      · exact h.ml
    · exact h.ml
  · unfold storeS
    split
    · split
      · exact putB_bytes _ _ _ _ h.bytes
      · exact h.bytes
    · exact h.bytes
theorem leS_bd : ∀ (l : List Int), (∀ c ∈ l, 0 ≤ c ∧ c < 256) → 0 ≤ leS l ∧ leS l < 256 ^ l.length
  | [], _ => by simp [leS]
  | c :: l, h => by
    have ih := leS_bd l (fun x hx => h x (List.mem_cons_of_mem _ hx))
    have hc := h c (List.mem_cons_self ..)
    have p : (256 : Int) ^ (c :: l).length = 256 * 256 ^ l.length := by rw [List.length_cons, Int.pow_succ]; omega
    rw [p]
    simp only [leS]
    omega
theorem loadS_bd {K : Bk} {F M : List Int} (fl : F.length = K.fn) (rl : M.length = K.rn) (fb : ∀ c ∈ F, 0 ≤ c ∧ c < 256) (rb : ∀ c ∈ M, 0 ≤ c ∧ c < 256) (at_ : Int) (k : Nat) (hk : k = 1 ∨ k = 2 ∨ k = 4) :
    0 ≤ (loadS K F M at_ k).1 ∧ (loadS K F M at_ k).1 < 256 ^ k := by
  have p : (0 : Int) < 256 ^ k := Int.pow_pos (by omega)
  unfold loadS
  split
  · split
    · rename_i l hl
      obtain ⟨h1, h2⟩ := bytesAt_ok hl fl rl fb rb
      have := leS_bd l h2
      rw [h1] at this
      exact this
    · exact ⟨Int.le_refl _, p⟩
  · exact ⟨Int.le_refl _, p⟩
end Go.Proofs.Ytioopcilcgebeaa.CpuA
/-! #### LawP -/
namespace Go.Proofs.Ytioopcilcgebeaa.CpuA
open Go.RowKit Go.Proofs.Ytioopcilcgebeaa.Base Go.Proofs.Ytioopcilcgebeaa.InstS Go.Proofs.Ytioopcilcgebeaa.InstA Go.Proofs.Ytioopcilcgebeaa.AluP

theorem setR_0' (R : List Int) (v : Int) : setR R 0 v = R := by unfold setR; rw [if_neg (by omega)]
theorem stores_all (K : Bk) (i : Ins) (s : St) (P : Did × Int × St → Prop) (h1 : ∀ (at_ v : Int) (k : Nat), InB K.r K.rn at_ k → k ≤ 4 → P (⟨2, at_, k⟩, 0, St.put ⟨s.pc, s.R, putB s.M (at_ - K.r).toNat v k⟩ 0 0)) (h2 : ∀ t, t ≠ 0 → P (no, t, s)) : P (storesT K i s) := by
  have hk : szS i.op ≤ 4 := by rcases szS_in i.op with e | e | e <;> omega
  have e : ∀ (r : Int × List Int), (storeS K s.M ((s.reg i.rs1 + i.imm) % 4294967296) (s.reg i.rs2) (szS i.op)) = r → storesT K i s = if r.1 = 0 then (⟨2, (s.reg i.rs1 + i.imm) % 4294967296, szS i.op⟩, 0, St.put ⟨s.pc, s.R, r.2⟩ 0 0) else (no, r.1, s) := by
    intro r hr; rw [← hr]; rfl
  by_cases q1 : (s.reg i.rs1 + i.imm) % 4294967296 % (szS i.op : Int) = 0
  · by_cases q2 : InB K.r K.rn ((s.reg i.rs1 + i.imm) % 4294967296) (szS i.op)
    · rw [e (0, putB s.M ((s.reg i.rs1 + i.imm) % 4294967296 - K.r).toNat (s.reg i.rs2) (szS i.op)) (by unfold storeS; rw [if_pos q1, if_pos q2]), if_pos rfl]
      exact h1 _ _ _ q2 hk
    · rw [e (4, s.M) (by unfold storeS; rw [if_pos q1, if_neg q2]), if_neg (show ¬ (4 : Int) = 0 by decide)]
      exact h2 4 (by decide)
  · rw [e (1, s.M) (by unfold storeS; rw [if_neg q1]), if_neg (show ¬ (1 : Int) = 0 by decide)]
    exact h2 1 (by decide)
theorem loads_all (K : Bk) (F : List Int) (i : Ins) (s : St) (P : Did × Int × St → Prop) (h1 : ∀ (d : Did) (n v : Int), d.kind = 1 → P (d, 0, s.put n v)) (h2 : ∀ t, t ≠ 0 → P (no, t, s)) : P (loadsT K F i s) := by
  unfold loadsT
  dsimp only
  by_cases q : (loadS K F s.M ((s.reg i.rs1 + i.imm) % 4294967296) (szS i.op)).2 = 0
  · rw [if_pos q]; exact h1 _ _ _ rfl
  · rw [if_neg q]; exact h2 _ q
theorem go_all (s : St) (dst n : Int) (P : Did × Int × St → Prop) (h1 : ∀ v, P (no, 0, ⟨dst, setR s.R n v, s.M⟩)) (h2 : P (no, 1, s)) : P (no, s.go dst n) := by
  unfold St.go
  split
  · exact h1 _
  · exact h2
theorem does_all (K : Bk) (F : List Int) (i : Ins) (s : St) (P : Did × Int × St → Prop) (h1 : ∀ (d : Did) (pc n v : Int), d.kind ≠ 2 → P (d, 0, ⟨pc, setR s.R n v, s.M⟩))
    (h3 : ∀ (at_ v pc : Int) (k : Nat), InB K.r K.rn at_ k → k ≤ 4 → P (⟨2, at_, k⟩, 0, ⟨pc, s.R, putB s.M (at_ - K.r).toNat v k⟩)) (h5 : ∀ t, t ≠ 0 → P (no, t, s)) : P (doesT K F i s) := by
  have hp : ∀ n v, P (no, 0, s.put n v) := fun n v => h1 no _ n v (by decide)
  have hg : ∀ d n, P (no, s.go d n) := fun d n => go_all s d n P (fun v => h1 no _ n v (by decide)) (h5 1 (by decide))
  have hl : P (loadsT K F i s) := loads_all K F i s P (fun d n v hd => h1 d _ n v (by rw [hd]; decide)) h5
  have hs : P (storesT K i s) := stores_all K i s P (fun at_ v k q hk => by have := h3 at_ v ((s.pc + 4) % 4294967296) k q hk; unfold St.put; dsimp only; rw [setR_0']; exact this) h5
  unfold doesT
  dsimp only
  repeat' split
  all_goals first
    | exact hp _ _
    | exact hl
    | exact hs
    | exact hg _ _
    | exact h5 _ (by decide)
theorem step_all (K : Bk) (F : List Int) (s : St) (P : Evt × Int × St → Prop) (h1 : ∀ (p w : Int) (d : Did) (pc n v : Int), d.kind ≠ 2 → P (⟨p, w, d⟩, 0, ⟨pc, setR s.R n v, s.M⟩))
    (h3 : ∀ (p w at_ v pc : Int) (k : Nat), InB K.r K.rn at_ k → k ≤ 4 → P (⟨p, w, ⟨2, at_, k⟩⟩, 0, ⟨pc, s.R, putB s.M (at_ - K.r).toNat v k⟩)) (h5 : ∀ p w t, t ≠ 0 → P (⟨p, w, no⟩, t, s)) : P (stepT K F s) := by
  unfold stepT
  dsimp only
  by_cases q : (fetchS K F s.M s.pc).2 = 0
  · rw [if_pos q]
    cases dec (fetchS K F s.M s.pc).1 with
    | some i => exact does_all K F i s (fun r => P (⟨s.pc, (fetchS K F s.M s.pc).1, r.1⟩, r.2.1, r.2.2)) (fun d pc n v hd => h1 _ _ d pc n v hd) (fun at_ v pc k a b => h3 _ _ at_ v pc k a b) (fun t ht => h5 _ _ t ht)
    | none => exact h5 _ _ 5 (by decide)
  · rw [if_neg q]
    exact h5 _ _ _ q
theorem step_regs (K : Bk) (F : List Int) (s : St) : ∃ m v, (stepT K F s).2.2.R = setR s.R m v :=
  step_all K F s (fun r => ∃ m v, r.2.2.R = setR s.R m v) (fun _ _ _ _ n v _ => ⟨n, v, rfl⟩) (fun _ _ _ _ _ _ _ _ => ⟨0, 0, (setR_0' _ _).symm⟩) (fun _ _ _ _ => ⟨0, 0, (setR_0' _ _).symm⟩)
theorem step_trap (K : Bk) (F : List Int) (s : St) : (stepT K F s).2.1 ≠ 0 → (stepT K F s).2.2 = s ∧ (stepT K F s).1.did = no :=
  step_all K F s (fun r => r.2.1 ≠ 0 → r.2.2 = s ∧ r.1.did = no) (fun _ _ _ _ _ _ _ h => absurd rfl h) (fun _ _ _ _ _ _ _ _ h => absurd rfl h) (fun _ _ _ _ _ => ⟨rfl, rfl⟩)
theorem putB_far : ∀ (k : Nat) (R : List Int) (d : Nat) (v : Int) (j : Nat), ¬ (d ≤ j ∧ j < d + k) → (putB R d v k).getD j 0 = R.getD j 0
  | 0, R, d, v, j, _ => rfl
  | k + 1, R, d, v, j, h => by
    rw [putB, putB_far k _ (d + 1) _ j (by omega)]
    rw [List.getD_eq_getElem?_getD, List.getD_eq_getElem?_getD, List.getElem?_set_ne (by omega)]
theorem step_mem (K : Bk) (F : List Int) (s : St) (j : Nat) : (stepT K F s).2.2.M.getD j 0 ≠ s.M.getD j 0 →
    ∃ (at_ : Int) (k : Nat), (stepT K F s).1.did = ⟨2, at_, k⟩ ∧ InB K.r K.rn at_ k ∧ k ≤ 4 ∧ (at_ - K.r).toNat ≤ j ∧ j < (at_ - K.r).toNat + k :=
  step_all K F s (fun r => r.2.2.M.getD j 0 ≠ s.M.getD j 0 → ∃ (at_ : Int) (k : Nat), r.1.did = ⟨2, at_, k⟩ ∧ InB K.r K.rn at_ k ∧ k ≤ 4 ∧ (at_ - K.r).toNat ≤ j ∧ j < (at_ - K.r).toNat + k)
    (fun _ _ _ _ _ _ _ h => absurd rfl h)
    (fun p w at_ v pc k q hk h => ⟨at_, k, rfl, q, hk, by
      apply Classical.byContradiction
      intro c
      exact h (putB_far k _ _ _ j c)⟩) (fun _ _ _ _ h => absurd rfl h)
/-- How many registers of the first k are not as they were. -/
def diffs (R S : List Int) : Nat → Nat
  | 0 => 0
  | k + 1 => diffs R S k + if S.getD k 0 = R.getD k 0 then 0 else 1
theorem diffs_same (R : List Int) : ∀ k, diffs R R k = 0
  | 0 => rfl
  | k + 1 => by rw [diffs, diffs_same R k, if_pos rfl]
theorem diffs_one (R : List Int) (n v : Int) : ∀ k, diffs R (setR R n v) k ≤ (if n.toNat < k then 1 else 0)
  | 0 => by simp [diffs]
  | k + 1 => by
    have ih := diffs_one R n v k
    rw [diffs]
    by_cases e : n.toNat = k
    · rw [if_neg (by omega)] at ih
      have e3 : n.toNat < k + 1 := by omega
      simp only [if_pos e3]
      split <;> omega
    · have e2 : (setR R n v).getD k 0 = R.getD k 0 := by
        unfold setR
        split
        · rw [List.getD_eq_getElem?_getD, List.getD_eq_getElem?_getD, List.getElem?_set_ne e]
        · rfl
      rw [if_pos e2]
      split at ih <;> split <;> omega
theorem step_diffs (K : Bk) (F : List Int) (s : St) (k : Nat) : diffs s.R (stepT K F s).2.2.R k ≤ 1 := by
  obtain ⟨m, v, e⟩ := step_regs K F s
  rw [e]
  have := diffs_one s.R m v k
  split at this <;> omega
end Go.Proofs.Ytioopcilcgebeaa.CpuA
