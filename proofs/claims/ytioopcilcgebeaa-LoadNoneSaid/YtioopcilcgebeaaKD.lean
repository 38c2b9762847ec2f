/- Proofs of this claim's family, merged: BitsP, ImmP, ImmQ, ImmR. -/
import Derived.Laws.BitsAllLaws
import Derived.Laws.BitsLemmas
import Derived.RowKit
import Derived.Test.YtioopcilcgebeaaKW
import Derived.Test.YtioopcilcgebeaaKP1
import Derived.Test.YtioopcilcgebeaaKP2
set_option linter.unusedVariables false
set_option linter.unusedSimpArgs false
/-! #### BitsP -/
namespace Go.Proofs.Ytioopcilcgebeaa.BitsP
open Go.RowKit Go.Proofs.YtioopcilcgebeaaW.PrintMore Go.Proofs.YtioopcilcgebeaaW.PrintWords

theorem and_mask (x : Int) (k : Nat) (hk : k ≤ 32) (h0 : 0 ≤ x) (h1 : x < 4294967296) : Go.bits .and .u32 x (2 ^ k - 1) = x % 2 ^ k := by
  obtain ⟨n, rfl⟩ := Int.eq_ofNat_of_zero_le h0
  have hp : (2 : Int) ^ k = ((2 ^ k : Nat) : Int) := by simp
  have h2 : 2 ^ k ≤ 2 ^ 32 := Nat.pow_le_pow_right (by omega) hk
  have h3 : 0 < 2 ^ k := Nat.pow_pos (by omega)
  rw [hp, show (((2 ^ k : Nat) : Int) - 1) = ((2 ^ k - 1 : Nat) : Int) by omega, u32_and_nat n _ (by omega) (by omega), Nat.and_two_pow_sub_one_eq_mod]
  rfl
theorem or_add (x y : Int) (i : Nat) (hx0 : 0 ≤ x) (hx : x < 4294967296) (hd : x % 2 ^ i = 0) (hy0 : 0 ≤ y) (hy : y < 2 ^ i) (hi : i ≤ 32) : Go.bits .or .u32 x y = x + y := by
  obtain ⟨a, rfl⟩ := Int.eq_ofNat_of_zero_le hx0
  obtain ⟨b, rfl⟩ := Int.eq_ofNat_of_zero_le hy0
  have h2 : 2 ^ i ≤ 2 ^ 32 := Nat.pow_le_pow_right (by omega) hi
  have hb : b < 2 ^ i := by
    have : ((b : Nat) : Int) < ((2 ^ i : Nat) : Int) := by simpa using hy
    omega
  have hm : a % 2 ^ i = 0 := by
    have : ((a % 2 ^ i : Nat) : Int) = 0 := by rw [Int.natCast_emod]; simpa using hd
    omega
  rw [u32_or_nat a b (by omega) (by omega)]
  obtain ⟨q, rfl⟩ := Nat.dvd_of_mod_eq_zero hm
  rw [← Nat.two_pow_add_eq_or_of_lt hb]
  rfl
theorem or_comm (x y : Int) (hx0 : 0 ≤ x) (hx : x < 4294967296) (hy0 : 0 ≤ y) (hy : y < 4294967296) : Go.bits .or .u32 x y = Go.bits .or .u32 y x := by
  rw [u32_or x y hx0 hx hy0 hy, u32_or y x hy0 hy hx0 hx, Nat.or_comm]
theorem or_add' (x y : Int) (i : Nat) (hx0 : 0 ≤ x) (hx : x < 2 ^ i) (hd : y % 2 ^ i = 0) (hy0 : 0 ≤ y) (hy : y < 4294967296) (hi : i ≤ 32) : Go.bits .or .u32 x y = x + y := by
  have h2 : (2 : Int) ^ i ≤ 2 ^ 32 := by
    have := Nat.pow_le_pow_right (n := 2) (by omega) hi
    have h : ((2 ^ i : Nat) : Int) ≤ ((2 ^ 32 : Nat) : Int) := by omega
    simpa using h
  rw [or_comm x y hx0 (by omega) hy0 hy, or_add y x i hy0 hy hd hx0 hx hi, Int.add_comm]
theorem or_mid (hi lo y : Int) (i j : Nat) (h0 : 0 ≤ hi) (h1 : hi < 4294967296) (hd : hi % 2 ^ i = 0) (l0 : 0 ≤ lo) (l1 : lo < 2 ^ j) (y0 : 0 ≤ y) (y1 : y + lo < 2 ^ i) (yd : y % 2 ^ j = 0) (hi32 : i ≤ 32) (hj : j ≤ i) : Go.bits .or .u32 (hi + lo) y = hi + lo + y := by
  have p1 : (2 : Int) ^ i ≤ 2 ^ 32 := by
    have := Nat.pow_le_pow_right (n := 2) (by omega) hi32
    have h : ((2 ^ i : Nat) : Int) ≤ ((2 ^ 32 : Nat) : Int) := by omega
    simpa using h
  have p2 : (2 : Int) ^ j ≤ 2 ^ i := by
    have := Nat.pow_le_pow_right (n := 2) (by omega) hj
    have h : ((2 ^ j : Nat) : Int) ≤ ((2 ^ i : Nat) : Int) := by omega
    simpa using h
  have e1 := or_add hi lo i h0 h1 hd l0 (by omega) hi32
  have e2 := or_add y lo j y0 (by omega) yd l0 l1 (by omega)
  have e3 := or_add hi (y + lo) i h0 h1 hd (by omega) y1 hi32
  have e4 := or_comm y lo y0 (by omega) l0 (by omega)
  have top : hi + lo < 4294967296 := by
    obtain ⟨q, hq⟩ : ∃ q, hi = 2 ^ i * q := ⟨hi / 2 ^ i, by have := Int.emod_add_mul_ediv hi (2 ^ i); omega⟩
    have hp : (0 : Int) < 2 ^ i := Int.pow_pos (by omega)
    obtain ⟨m, hm⟩ : ∃ m : Int, (4294967296 : Int) = 2 ^ i * m := by
      refine ⟨2 ^ (32 - i), ?_⟩
      rw [← Int.pow_add, show i + (32 - i) = 32 by omega]
      rfl
    have hlt : q < m := by
      rw [hq, hm] at h1
      exact Int.lt_of_mul_lt_mul_left h1 (by omega)
    have : 2 ^ i * (q + 1) ≤ 2 ^ i * m := Int.mul_le_mul_of_nonneg_left (by omega) (by omega)
    rw [Int.mul_add, Int.mul_one, ← hq, ← hm] at this
    omega
  rw [← e1, u32_or _ y (by rw [e1]; omega) (by rw [e1]; exact top) y0 (by omega), u32_or hi lo h0 h1 l0 (by omega), Int.toNat_natCast, Nat.or_assoc]
  rw [u32_or y lo y0 (by omega) l0 (by omega)] at e4 e2
  rw [u32_or lo y l0 (by omega) y0 (by omega)] at e4
  rw [u32_or hi (y + lo) h0 h1 (by omega) (by omega), ← e2, Int.toNat_natCast] at e3
  have e5 : (lo.toNat ||| y.toNat) = (y.toNat ||| lo.toNat) := Nat.or_comm _ _
  rw [u32_or hi lo h0 h1 l0 (by omega)] at e1
  rw [e5, e3]
  omega
theorem shl32 (x : Int) (n : Nat) (hn : n ≤ 32) : shl .u32 x (n : Int) = (x * 2 ^ n) % 4294967296 := by
  unfold shl
  rw [IntKind.wrap_u32, Int.toNat_natCast, show min n IntKind.u32.bits = n from Nat.min_eq_left (by simpa [IntKind.bits] using hn)]
theorem shr32 (x : Int) (n : Nat) (hn : n ≤ 32) : shr .u32 x (n : Int) = x / 2 ^ n := by
  unfold shr
  rw [Int.toNat_natCast, show min n IntKind.u32.bits = n from Nat.min_eq_left (by simpa [IntKind.bits] using hn)]
end Go.Proofs.Ytioopcilcgebeaa.BitsP
/-! #### ImmP -/
namespace Go.Proofs.Ytioopcilcgebeaa.ImmP
open Go.RowKit Go.Proofs.YtioopcilcgebeaaW.PrintWords Go.Proofs.YtioopcilcgebeaaW.PrintLast Go.Proofs.YtioopcilcgebeaaW.PrintMore
open Go.Proofs.Ytioopcilcgebeaa.PCpu Go.Proofs.Ytioopcilcgebeaa.BitsP

/-- The lowest n bits, with their sign. -/
def sx (n : Nat) (x : Int) : Int := if x % 2 ^ n ≥ 2 ^ (n - 1) then x % 2 ^ n - 2 ^ n else x % 2 ^ n
/-- The raw bits that a form's number has. -/
def rawS (form w : Int) : Int :=
  if form = 1 then w / 1048576
  else if form = 2 then w / 33554432 * 32 + w / 128 % 32
  else if form = 3 then w / 2147483648 * 4096 + w / 128 % 2 * 2048 + w / 33554432 % 64 * 32 + w / 256 % 16 * 2
  else if form = 4 then w / 4096 * 4096
  else if form = 5 then w / 2147483648 * 1048576 + w / 4096 % 256 * 4096 + w / 1048576 % 2 * 2048 + w / 2097152 % 1024 * 2
  else 0
def wide (form : Int) : Nat := if form = 1 ∨ form = 2 then 12 else if form = 3 then 13 else if form = 4 then 32 else if form = 5 then 21 else 0
def getS (form w : Int) : Int := if 1 ≤ form ∧ form ≤ 5 then sx (wide form) (rawS form w) else 0
theorem mask_eq (m : Nat) (hm : m < 32) : imm_mask.f (m : Int) = some (2 ^ m - 1) := by
  unfold imm_mask.f
  rw [if_pos (by omega), shl32 1 m (by omega)]
  have h1 : (2 : Int) ^ m ≤ 2 ^ 31 := by
    have := Nat.pow_le_pow_right (n := 2) (by omega) (show m ≤ 31 by omega)
    have h : ((2 ^ m : Nat) : Int) ≤ ((2 ^ 31 : Nat) : Int) := by omega
    simpa using h
  have h0 : (0 : Int) < 2 ^ m := Int.pow_pos (by omega)
  rw [Option.some.injEq]
  omega
theorem mask_ev (m : Int) (h0 : 0 ≤ m) (hm : m < 32) : imm_mask.f m = some (2 ^ m.toNat - 1) := by
  obtain ⟨n, rfl⟩ := Int.eq_ofNat_of_zero_le h0
  exact mask_eq n (by omega)
/-- A piece of a word, moved. -/
theorem piece_eq (w from_ to_ : Int) (m : Nat) (hw0 : 0 ≤ w) (hw : w < 4294967296) (hf0 : 0 ≤ from_) (hf : from_ ≤ 31) (ht0 : 0 ≤ to_) (ht : to_ ≤ 31) (hm : m ≤ 32) :
    shl .u32 (Go.bits .and .u32 (shr .u32 w from_) (2 ^ m - 1)) to_ = (w / 2 ^ from_.toNat % 2 ^ m * 2 ^ to_.toNat) % 4294967296 := by
  obtain ⟨f, rfl⟩ := Int.eq_ofNat_of_zero_le hf0
  obtain ⟨t, rfl⟩ := Int.eq_ofNat_of_zero_le ht0
  have hp : (0 : Int) < 2 ^ f := Int.pow_pos (by omega)
  have h1 : 0 ≤ w / 2 ^ f := Int.ediv_nonneg hw0 (by omega)
  have h2 : w / 2 ^ f ≤ w := Int.ediv_le_self _ hw0
  rw [shr32 w f (by omega), and_mask _ m hm h1 (by omega), shl32 _ t (by omega), Int.toNat_natCast, Int.toNat_natCast]
theorem signed_sext (n : Nat) (x : Int) (h1 : n = 12 ∨ n = 13 ∨ n = 21 ∨ n = 32) (_h0 : 0 ≤ x) (_h : x < 4294967296) : ∃ y, num_Sext.f x (n : Int) = some y ∧ num_Signed.f y = some (sx n x) := by
  unfold num_Sext.f num_Signed.f sx
  rcases h1 with rfl | rfl | rfl | rfl
  · refine ⟨_, by rw [if_neg (by omega), if_neg (by omega), if_pos (by unfold wrap64; omega)], ?_⟩
    rw [show wrap64 (32 - ((12 : Nat) : Int)) = ((20 : Nat) : Int) from by unfold wrap64; omega, shl32 x 20 (by omega)]
    unfold shr wrap32
    simp only [Int.toNat_natCast, IntKind.bits, show min 20 32 = 20 from rfl, show min 19 32 = 19 from rfl, show min 11 32 = 11 from rfl, Int.reducePow, Nat.reduceSub, Option.some.injEq]
    split <;> omega
  · refine ⟨_, by rw [if_neg (by omega), if_neg (by omega), if_pos (by unfold wrap64; omega)], ?_⟩
    rw [show wrap64 (32 - ((13 : Nat) : Int)) = ((19 : Nat) : Int) from by unfold wrap64; omega, shl32 x 19 (by omega)]
    unfold shr wrap32
    simp only [Int.toNat_natCast, IntKind.bits, show min 20 32 = 20 from rfl, show min 19 32 = 19 from rfl, show min 11 32 = 11 from rfl, Int.reducePow, Nat.reduceSub, Option.some.injEq]
    split <;> omega
  · refine ⟨_, by rw [if_neg (by omega), if_neg (by omega), if_pos (by unfold wrap64; omega)], ?_⟩
    rw [show wrap64 (32 - ((21 : Nat) : Int)) = ((11 : Nat) : Int) from by unfold wrap64; omega, shl32 x 11 (by omega)]
    unfold shr wrap32
    simp only [Int.toNat_natCast, IntKind.bits, show min 20 32 = 20 from rfl, show min 19 32 = 19 from rfl, show min 11 32 = 11 from rfl, Int.reducePow, Nat.reduceSub, Option.some.injEq]
    split <;> omega
  · refine ⟨_, by rw [if_neg (by omega), if_pos (by omega)], ?_⟩
    unfold wrap32
    simp only [Int.reducePow, Nat.reduceSub, Option.some.injEq]
    split <;> omega
theorem rdp (l : List S186) (j : Nat) : rd_T186 l (j : Int) = l.getD j z186 := by simp [rd_T186]
/-- One piece of imm.get's loop. -/
theorem get_step (w x : Int) (many : Int) (l : List S186) (j : Nat) (hj : j < l.length) (hn : l.length < 1000) (r : Int) (f t : Int) (m : Nat) (p : l.getD j z186 = ⟨f, (m : Int), t⟩) (hw0 : 0 ≤ w) (hw : w < 4294967296) (hf0 : 0 ≤ f) (hf : f ≤ 31) (ht0 : 0 ≤ t) (ht : t ≤ 31) (hm : m < 32)
    (h : Ev (fun k => imm_get.l0 k w many (Go.bits .or .u32 x ((w / 2 ^ f.toNat % 2 ^ m * 2 ^ t.toNat) % 4294967296)) l (l.length : Int) ((j + 1 : Nat) : Int)) r) :
    Ev (fun k => imm_get.l0 k w many x l (l.length : Int) (j : Int)) r := by
  refine Ev.step (fun k => by rw [imm_get.l0]) ?_
  have hw1 : wrap64 ((j : Int) + 1) = ((j + 1 : Nat) : Int) := by unfold wrap64; omega
  simp only [if_pos (show (j : Int) < (l.length : Int) by omega), if_pos (show (0 : Int) ≤ (j : Int) by omega), rdp, p, if_pos hf0, mask_eq m hm, Option.bind_some, if_pos ht0, piece_eq w f t m hw0 hw hf0 hf ht0 ht (by omega), hw1]
  exact h
theorem get_end (w x : Int) (n : Nat) (l : List S186) (h1 : n = 12 ∨ n = 13 ∨ n = 21 ∨ n = 32) (h0 : 0 ≤ x) (h : x < 4294967296) : Ev (fun k => imm_get.l0 k w (n : Int) x l (l.length : Int) (l.length : Int)) (sx n x) := by
  refine Ev.step (fun k => by rw [imm_get.l0]) ?_
  obtain ⟨y, hy, hz⟩ := signed_sext n x h1 h0 h
  simp only [if_neg (show ¬ (l.length : Int) < (l.length : Int) by omega), hy, hz, Option.bind_some]
  exact Ev.now _
theorem raw_range (form w : Int) (h0 : 0 ≤ w) (h : w < 4294967296) : 0 ≤ rawS form w ∧ rawS form w < 4294967296 := by
  unfold rawS
  repeat' split
  all_goals omega
theorem get_ev (form w : Int) (hf : 1 ≤ form ∧ form ≤ 5) (h0 : 0 ≤ w) (h : w < 4294967296) : Ev (fun k => imm_get.f k form w) (getS form w) := by
  unfold getS
  rw [if_pos hf]
  have hr := raw_range form w h0 h
  unfold imm_get.f imm_pieces.f
  rcases (by omega : form = 1 ∨ form = 2 ∨ form = 3 ∨ form = 4 ∨ form = 5) with rfl | rfl | rfl | rfl | rfl
  · simp only [if_true, Option.bind_some]
    refine get_step w 0 12 [⟨20, 12, 0⟩] 0 (by simp) (by simp) _ 20 0 12 rfl h0 h (by omega) (by omega) (by omega) (by omega) (by omega) ?_
    rw [or_add' 0 _ 0 (by omega) (by omega) (by omega) (by omega) (by omega) (by omega)]
    have e : (0 : Int) + w / 2 ^ (20 : Int).toNat % 2 ^ 12 * 2 ^ (0 : Int).toNat % 4294967296 = rawS 1 w := by
      unfold rawS; simp only [if_true, Int.reduceToNat, Int.reducePow]; omega
    rw [e]
    exact get_end w _ 12 [⟨20, 12, 0⟩] (by simp) hr.1 hr.2
  · have l0 : (([⟨25, 7, 5⟩, ⟨7, 5, 0⟩] : List S186)).length < 1000 := by simp
    simp only [if_true, show ¬ (2 : Int) = 1 by omega, if_false, Option.bind_some]
    refine get_step w (0) 12 [⟨25, 7, 5⟩, ⟨7, 5, 0⟩] 0 (by simp) l0 _ 25 5 7 rfl h0 h (by omega) (by omega) (by omega) (by omega) (by omega) ?_
    rw [show (w / 2 ^ (25 : Int).toNat % 2 ^ 7 * 2 ^ (5 : Int).toNat) % 4294967296 = w / 33554432 % 128 * 32 by simp only [Int.reduceToNat, Int.reducePow]; omega]
    rw [or_add' 0 _ 0 (by omega) (by omega) (by omega) (by omega) (by omega) (by omega), Int.zero_add]
    refine get_step w (w / 33554432 % 128 * 32) 12 [⟨25, 7, 5⟩, ⟨7, 5, 0⟩] 1 (by simp) l0 _ 7 0 5 rfl h0 h (by omega) (by omega) (by omega) (by omega) (by omega) ?_
    rw [show (w / 2 ^ (7 : Int).toNat % 2 ^ 5 * 2 ^ (0 : Int).toNat) % 4294967296 = w / 128 % 32 * 1 by simp only [Int.reduceToNat, Int.reducePow]; omega]
    rw [or_add (w / 33554432 % 128 * 32) (w / 128 % 32 * 1) 5 (by omega) (by omega) (by simp only [Int.reducePow]; omega) (by omega) (by simp only [Int.reducePow]; omega) (by omega)]
    rw [show w / 33554432 % 128 * 32 + w / 128 % 32 * 1 = rawS 2 w by unfold rawS; simp only [if_true, show ¬ (2 : Int) = 1 by omega, if_false]; omega]
    exact get_end w _ 12 [⟨25, 7, 5⟩, ⟨7, 5, 0⟩] (by simp) hr.1 hr.2
  · have l0 : (([⟨31, 1, 12⟩, ⟨7, 1, 11⟩, ⟨25, 6, 5⟩, ⟨8, 4, 1⟩] : List S186)).length < 1000 := by simp
    simp only [if_true, show ¬ (3 : Int) = 1 by omega, show ¬ (3 : Int) = 2 by omega, if_false, Option.bind_some]
    refine get_step w (0) 13 [⟨31, 1, 12⟩, ⟨7, 1, 11⟩, ⟨25, 6, 5⟩, ⟨8, 4, 1⟩] 0 (by simp) l0 _ 31 12 1 rfl h0 h (by omega) (by omega) (by omega) (by omega) (by omega) ?_
    rw [show (w / 2 ^ (31 : Int).toNat % 2 ^ 1 * 2 ^ (12 : Int).toNat) % 4294967296 = w / 2147483648 % 2 * 4096 by simp only [Int.reduceToNat, Int.reducePow]; omega]
    rw [or_add' 0 _ 0 (by omega) (by omega) (by omega) (by omega) (by omega) (by omega), Int.zero_add]
    refine get_step w (w / 2147483648 % 2 * 4096) 13 [⟨31, 1, 12⟩, ⟨7, 1, 11⟩, ⟨25, 6, 5⟩, ⟨8, 4, 1⟩] 1 (by simp) l0 _ 7 11 1 rfl h0 h (by omega) (by omega) (by omega) (by omega) (by omega) ?_
    rw [show (w / 2 ^ (7 : Int).toNat % 2 ^ 1 * 2 ^ (11 : Int).toNat) % 4294967296 = w / 128 % 2 * 2048 by simp only [Int.reduceToNat, Int.reducePow]; omega]
    rw [or_add (w / 2147483648 % 2 * 4096) (w / 128 % 2 * 2048) 12 (by omega) (by omega) (by simp only [Int.reducePow]; omega) (by omega) (by simp only [Int.reducePow]; omega) (by omega)]
    refine get_step w (w / 2147483648 % 2 * 4096 + w / 128 % 2 * 2048) 13 [⟨31, 1, 12⟩, ⟨7, 1, 11⟩, ⟨25, 6, 5⟩, ⟨8, 4, 1⟩] 2 (by simp) l0 _ 25 5 6 rfl h0 h (by omega) (by omega) (by omega) (by omega) (by omega) ?_
    rw [show (w / 2 ^ (25 : Int).toNat % 2 ^ 6 * 2 ^ (5 : Int).toNat) % 4294967296 = w / 33554432 % 64 * 32 by simp only [Int.reduceToNat, Int.reducePow]; omega]
    rw [or_add (w / 2147483648 % 2 * 4096 + w / 128 % 2 * 2048) (w / 33554432 % 64 * 32) 11 (by omega) (by omega) (by simp only [Int.reducePow]; omega) (by omega) (by simp only [Int.reducePow]; omega) (by omega)]
    refine get_step w (w / 2147483648 % 2 * 4096 + w / 128 % 2 * 2048 + w / 33554432 % 64 * 32) 13 [⟨31, 1, 12⟩, ⟨7, 1, 11⟩, ⟨25, 6, 5⟩, ⟨8, 4, 1⟩] 3 (by simp) l0 _ 8 1 4 rfl h0 h (by omega) (by omega) (by omega) (by omega) (by omega) ?_
    rw [show (w / 2 ^ (8 : Int).toNat % 2 ^ 4 * 2 ^ (1 : Int).toNat) % 4294967296 = w / 256 % 16 * 2 by simp only [Int.reduceToNat, Int.reducePow]; omega]
    rw [or_add (w / 2147483648 % 2 * 4096 + w / 128 % 2 * 2048 + w / 33554432 % 64 * 32) (w / 256 % 16 * 2) 5 (by omega) (by omega) (by simp only [Int.reducePow]; omega) (by omega) (by simp only [Int.reducePow]; omega) (by omega)]
    rw [show w / 2147483648 % 2 * 4096 + w / 128 % 2 * 2048 + w / 33554432 % 64 * 32 + w / 256 % 16 * 2 = rawS 3 w by unfold rawS; simp only [if_true, show ¬ (3 : Int) = 1 by omega, show ¬ (3 : Int) = 2 by omega, if_false]; omega]
    exact get_end w _ 13 [⟨31, 1, 12⟩, ⟨7, 1, 11⟩, ⟨25, 6, 5⟩, ⟨8, 4, 1⟩] (by simp) hr.1 hr.2
  · have l0 : (([⟨12, 20, 12⟩] : List S186)).length < 1000 := by simp
    simp only [if_true, show ¬ (4 : Int) = 1 by omega, show ¬ (4 : Int) = 2 by omega, show ¬ (4 : Int) = 3 by omega, if_false, Option.bind_some]
    refine get_step w (0) 32 [⟨12, 20, 12⟩] 0 (by simp) l0 _ 12 12 20 rfl h0 h (by omega) (by omega) (by omega) (by omega) (by omega) ?_
    rw [show (w / 2 ^ (12 : Int).toNat % 2 ^ 20 * 2 ^ (12 : Int).toNat) % 4294967296 = w / 4096 % 1048576 * 4096 by simp only [Int.reduceToNat, Int.reducePow]; omega]
    rw [or_add' 0 _ 0 (by omega) (by omega) (by omega) (by omega) (by omega) (by omega), Int.zero_add]
    rw [show w / 4096 % 1048576 * 4096 = rawS 4 w by unfold rawS; simp only [if_true, show ¬ (4 : Int) = 1 by omega, show ¬ (4 : Int) = 2 by omega, show ¬ (4 : Int) = 3 by omega, if_false]; omega]
    exact get_end w _ 32 [⟨12, 20, 12⟩] (by simp) hr.1 hr.2
  · have l0 : (([⟨31, 1, 20⟩, ⟨12, 8, 12⟩, ⟨20, 1, 11⟩, ⟨21, 10, 1⟩] : List S186)).length < 1000 := by simp
    simp only [if_true, show ¬ (5 : Int) = 1 by omega, show ¬ (5 : Int) = 2 by omega, show ¬ (5 : Int) = 3 by omega, show ¬ (5 : Int) = 4 by omega, if_false, Option.bind_some]
    refine get_step w (0) 21 [⟨31, 1, 20⟩, ⟨12, 8, 12⟩, ⟨20, 1, 11⟩, ⟨21, 10, 1⟩] 0 (by simp) l0 _ 31 20 1 rfl h0 h (by omega) (by omega) (by omega) (by omega) (by omega) ?_
    rw [show (w / 2 ^ (31 : Int).toNat % 2 ^ 1 * 2 ^ (20 : Int).toNat) % 4294967296 = w / 2147483648 % 2 * 1048576 by simp only [Int.reduceToNat, Int.reducePow]; omega]
    rw [or_add' 0 _ 0 (by omega) (by omega) (by omega) (by omega) (by omega) (by omega), Int.zero_add]
    refine get_step w (w / 2147483648 % 2 * 1048576) 21 [⟨31, 1, 20⟩, ⟨12, 8, 12⟩, ⟨20, 1, 11⟩, ⟨21, 10, 1⟩] 1 (by simp) l0 _ 12 12 8 rfl h0 h (by omega) (by omega) (by omega) (by omega) (by omega) ?_
    rw [show (w / 2 ^ (12 : Int).toNat % 2 ^ 8 * 2 ^ (12 : Int).toNat) % 4294967296 = w / 4096 % 256 * 4096 by simp only [Int.reduceToNat, Int.reducePow]; omega]
    rw [or_add (w / 2147483648 % 2 * 1048576) (w / 4096 % 256 * 4096) 20 (by omega) (by omega) (by simp only [Int.reducePow]; omega) (by omega) (by simp only [Int.reducePow]; omega) (by omega)]
    refine get_step w (w / 2147483648 % 2 * 1048576 + w / 4096 % 256 * 4096) 21 [⟨31, 1, 20⟩, ⟨12, 8, 12⟩, ⟨20, 1, 11⟩, ⟨21, 10, 1⟩] 2 (by simp) l0 _ 20 11 1 rfl h0 h (by omega) (by omega) (by omega) (by omega) (by omega) ?_
    rw [show (w / 2 ^ (20 : Int).toNat % 2 ^ 1 * 2 ^ (11 : Int).toNat) % 4294967296 = w / 1048576 % 2 * 2048 by simp only [Int.reduceToNat, Int.reducePow]; omega]
    rw [or_add (w / 2147483648 % 2 * 1048576 + w / 4096 % 256 * 4096) (w / 1048576 % 2 * 2048) 12 (by omega) (by omega) (by simp only [Int.reducePow]; omega) (by omega) (by simp only [Int.reducePow]; omega) (by omega)]
    refine get_step w (w / 2147483648 % 2 * 1048576 + w / 4096 % 256 * 4096 + w / 1048576 % 2 * 2048) 21 [⟨31, 1, 20⟩, ⟨12, 8, 12⟩, ⟨20, 1, 11⟩, ⟨21, 10, 1⟩] 3 (by simp) l0 _ 21 1 10 rfl h0 h (by omega) (by omega) (by omega) (by omega) (by omega) ?_
    rw [show (w / 2 ^ (21 : Int).toNat % 2 ^ 10 * 2 ^ (1 : Int).toNat) % 4294967296 = w / 2097152 % 1024 * 2 by simp only [Int.reduceToNat, Int.reducePow]; omega]
    rw [or_add (w / 2147483648 % 2 * 1048576 + w / 4096 % 256 * 4096 + w / 1048576 % 2 * 2048) (w / 2097152 % 1024 * 2) 11 (by omega) (by omega) (by simp only [Int.reducePow]; omega) (by omega) (by simp only [Int.reducePow]; omega) (by omega)]
    rw [show w / 2147483648 % 2 * 1048576 + w / 4096 % 256 * 4096 + w / 1048576 % 2 * 2048 + w / 2097152 % 1024 * 2 = rawS 5 w by unfold rawS; simp only [if_true, show ¬ (5 : Int) = 1 by omega, show ¬ (5 : Int) = 2 by omega, show ¬ (5 : Int) = 3 by omega, show ¬ (5 : Int) = 4 by omega, if_false]; omega]
    exact get_end w _ 21 [⟨31, 1, 20⟩, ⟨12, 8, 12⟩, ⟨20, 1, 11⟩, ⟨21, 10, 1⟩] (by simp) hr.1 hr.2
end Go.Proofs.Ytioopcilcgebeaa.ImmP
/-! #### ImmQ -/
namespace Go.Proofs.Ytioopcilcgebeaa.ImmP
open Go.RowKit Go.Proofs.YtioopcilcgebeaaW.PrintWords Go.Proofs.YtioopcilcgebeaaW.PrintLast Go.Proofs.YtioopcilcgebeaaW.PrintMore
open Go.Proofs.Ytioopcilcgebeaa.PCpu Go.Proofs.Ytioopcilcgebeaa.BitsP

/-- The bits of a word that a number of a form lays. -/
def rawPut (form u : Int) : Int :=
  if form = 1 then u % 4096 * 1048576
  else if form = 2 then u / 32 % 128 * 33554432 + u % 32 * 128
  else if form = 3 then u / 4096 % 2 * 2147483648 + u / 2048 % 2 * 128 + u / 32 % 64 * 33554432 + u / 2 % 16 * 256
  else if form = 4 then u / 4096 % 1048576 * 4096
  else if form = 5 then u / 1048576 % 2 * 2147483648 + u / 4096 % 256 * 4096 + u / 2048 % 2 * 1048576 + u / 2 % 1024 * 2097152
  else 0
def putS (form n : Int) : Int × Bool := if getS form (rawPut form (n % 4294967296)) = n then (rawPut form (n % 4294967296), true) else (0, false)
theorem rawPut_range (form u : Int) : 0 ≤ rawPut form u ∧ rawPut form u < 4294967296 := by
  unfold rawPut
  repeat' split
  all_goals omega
theorem put_step (form n x : Int) (many : Int) (l : List S186) (j : Nat) (hj : j < l.length) (hn : l.length < 1000) (r : Int × Bool) (f t : Int) (m : Nat) (p : l.getD j z186 = ⟨f, (m : Int), t⟩) (hf0 : 0 ≤ f) (hf : f ≤ 31) (ht0 : 0 ≤ t) (ht : t ≤ 31) (hm : m < 32)
    (h : Ev (fun k => imm_Put.l0 k form n many (Go.bits .or .u32 x ((n % 4294967296 / 2 ^ t.toNat % 2 ^ m * 2 ^ f.toNat) % 4294967296)) l (l.length : Int) ((j + 1 : Nat) : Int)) r) :
    Ev (fun k => imm_Put.l0 k form n many x l (l.length : Int) (j : Int)) r := by
  refine Ev.step (fun k => by rw [imm_Put.l0]) ?_
  have hw1 : wrap64 ((j : Int) + 1) = ((j + 1 : Nat) : Int) := by unfold wrap64; omega
  simp only [if_pos (show (j : Int) < (l.length : Int) by omega), if_pos (show (0 : Int) ≤ (j : Int) by omega), rdp, p, if_pos hf0, mask_eq m hm, Option.bind_some, if_pos ht0, piece_eq (n % 4294967296) t f m (by omega) (by omega) ht0 ht hf0 hf (by omega), hw1]
  exact h
theorem put_end (form n : Int) (hf : 1 ≤ form ∧ form ≤ 5) (many : Int) (hm : many ≠ 0) (l : List S186) : Ev (fun k => imm_Put.l0 k form n many (rawPut form (n % 4294967296)) l (l.length : Int) (l.length : Int)) (putS form n) := by
  refine Ev.step (fun k => by rw [imm_Put.l0]) ?_
  have hr := rawPut_range form (n % 4294967296)
  simp only [if_neg (show ¬ (l.length : Int) < (l.length : Int) by omega), if_neg hm]
  refine Ev.bind (get_ev form _ hf hr.1 hr.2) ?_
  unfold putS
  by_cases h : getS form (rawPut form (n % 4294967296)) = n
  · simp only [if_pos h]; exact Ev.now _
  · simp only [if_neg h]; exact Ev.now _
theorem put_ev (form n : Int) (hf : 1 ≤ form ∧ form ≤ 5) : Ev (fun k => imm_Put.f k form n) (putS form n) := by
  have h0 : 0 ≤ n % 4294967296 := by omega
  have h1 : n % 4294967296 < 4294967296 := by omega
  unfold imm_Put.f imm_pieces.f
  rcases (by omega : form = 1 ∨ form = 2 ∨ form = 3 ∨ form = 4 ∨ form = 5) with rfl | rfl | rfl | rfl | rfl
  · have l0 : (([⟨20, 12, 0⟩] : List S186)).length < 1000 := by simp
    simp only [if_true, Option.bind_some]
    have pe := put_end 1 n (by omega) 12 (by omega) [⟨20, 12, 0⟩]
    obtain ⟨u, hu⟩ : ∃ u, u = n % 4294967296 := ⟨_, rfl⟩
    rw [← hu] at h0 h1
    refine put_step 1 n (0) 12 [⟨20, 12, 0⟩] 0 (by simp) l0 _ 20 0 12 rfl (by omega) (by omega) (by omega) (by omega) (by omega) ?_
    rw [← hu, show (u / 2 ^ (0 : Int).toNat % 2 ^ 12 * 2 ^ (20 : Int).toNat) % 4294967296 = u % 4096 * 1048576 by simp only [Int.reduceToNat, Int.reducePow]; omega]
    rw [or_add' 0 _ 0 (by omega) (by omega) (by omega) (by omega) (by omega) (by omega), Int.zero_add]
    rw [show u % 4096 * 1048576 = rawPut 1 (n % 4294967296) by rw [← hu]; unfold rawPut; simp only [if_true]]
    exact pe
  · have l0 : (([⟨25, 7, 5⟩, ⟨7, 5, 0⟩] : List S186)).length < 1000 := by simp
    simp only [if_true, if_false, show ¬ (2 : Int) = 1 by omega, Option.bind_some]
    have pe := put_end 2 n (by omega) 12 (by omega) [⟨25, 7, 5⟩, ⟨7, 5, 0⟩]
    obtain ⟨u, hu⟩ : ∃ u, u = n % 4294967296 := ⟨_, rfl⟩
    rw [← hu] at h0 h1
    refine put_step 2 n (0) 12 [⟨25, 7, 5⟩, ⟨7, 5, 0⟩] 0 (by simp) l0 _ 25 5 7 rfl (by omega) (by omega) (by omega) (by omega) (by omega) ?_
    rw [← hu, show (u / 2 ^ (5 : Int).toNat % 2 ^ 7 * 2 ^ (25 : Int).toNat) % 4294967296 = u / 32 % 128 * 33554432 by simp only [Int.reduceToNat, Int.reducePow]; omega]
    rw [or_add' 0 _ 0 (by omega) (by omega) (by omega) (by omega) (by omega) (by omega), Int.zero_add]
    refine put_step 2 n (u / 32 % 128 * 33554432) 12 [⟨25, 7, 5⟩, ⟨7, 5, 0⟩] 1 (by simp) l0 _ 7 0 5 rfl (by omega) (by omega) (by omega) (by omega) (by omega) ?_
    rw [← hu, show (u / 2 ^ (0 : Int).toNat % 2 ^ 5 * 2 ^ (7 : Int).toNat) % 4294967296 = u % 32 * 128 by simp only [Int.reduceToNat, Int.reducePow]; omega]
    rw [or_add (u / 32 % 128 * 33554432) (u % 32 * 128) 12 (by omega) (by omega) (by simp only [Int.reducePow]; omega) (by omega) (by simp only [Int.reducePow]; omega) (by omega)]
    rw [show u / 32 % 128 * 33554432 + u % 32 * 128 = rawPut 2 (n % 4294967296) by rw [← hu]; unfold rawPut; simp only [if_true, if_false, show ¬ (2 : Int) = 1 by omega]]
    exact pe
  · have l0 : (([⟨31, 1, 12⟩, ⟨7, 1, 11⟩, ⟨25, 6, 5⟩, ⟨8, 4, 1⟩] : List S186)).length < 1000 := by simp
    simp only [if_true, if_false, show ¬ (3 : Int) = 1 by omega, show ¬ (3 : Int) = 2 by omega, Option.bind_some]
    have pe := put_end 3 n (by omega) 13 (by omega) [⟨31, 1, 12⟩, ⟨7, 1, 11⟩, ⟨25, 6, 5⟩, ⟨8, 4, 1⟩]
    obtain ⟨u, hu⟩ : ∃ u, u = n % 4294967296 := ⟨_, rfl⟩
    rw [← hu] at h0 h1
    refine put_step 3 n (0) 13 [⟨31, 1, 12⟩, ⟨7, 1, 11⟩, ⟨25, 6, 5⟩, ⟨8, 4, 1⟩] 0 (by simp) l0 _ 31 12 1 rfl (by omega) (by omega) (by omega) (by omega) (by omega) ?_
    rw [← hu, show (u / 2 ^ (12 : Int).toNat % 2 ^ 1 * 2 ^ (31 : Int).toNat) % 4294967296 = u / 4096 % 2 * 2147483648 by simp only [Int.reduceToNat, Int.reducePow]; omega]
    rw [or_add' 0 _ 0 (by omega) (by omega) (by omega) (by omega) (by omega) (by omega), Int.zero_add]
    refine put_step 3 n (u / 4096 % 2 * 2147483648) 13 [⟨31, 1, 12⟩, ⟨7, 1, 11⟩, ⟨25, 6, 5⟩, ⟨8, 4, 1⟩] 1 (by simp) l0 _ 7 11 1 rfl (by omega) (by omega) (by omega) (by omega) (by omega) ?_
    rw [← hu, show (u / 2 ^ (11 : Int).toNat % 2 ^ 1 * 2 ^ (7 : Int).toNat) % 4294967296 = u / 2048 % 2 * 128 by simp only [Int.reduceToNat, Int.reducePow]; omega]
    rw [or_add (u / 4096 % 2 * 2147483648) (u / 2048 % 2 * 128) 8 (by omega) (by omega) (by simp only [Int.reducePow]; omega) (by omega) (by simp only [Int.reducePow]; omega) (by omega)]
    refine put_step 3 n (u / 4096 % 2 * 2147483648 + u / 2048 % 2 * 128) 13 [⟨31, 1, 12⟩, ⟨7, 1, 11⟩, ⟨25, 6, 5⟩, ⟨8, 4, 1⟩] 2 (by simp) l0 _ 25 5 6 rfl (by omega) (by omega) (by omega) (by omega) (by omega) ?_
    rw [← hu, show (u / 2 ^ (5 : Int).toNat % 2 ^ 6 * 2 ^ (25 : Int).toNat) % 4294967296 = u / 32 % 64 * 33554432 by simp only [Int.reduceToNat, Int.reducePow]; omega]
    have em := or_mid (u / 4096 % 2 * 2147483648) (u / 2048 % 2 * 128) (u / 32 % 64 * 33554432) 31 25 (by omega) (by omega) (by simp only [Int.reducePow]; omega) (by omega) (by simp only [Int.reducePow]; omega) (by omega) (by simp only [Int.reducePow]; omega) (by simp only [Int.reducePow]; omega) (by omega) (by omega)
    rw [show (u / 4096 % 2 * 2147483648) + (u / 2048 % 2 * 128) = u / 4096 % 2 * 2147483648 + u / 2048 % 2 * 128 by omega] at em
    rw [em]
    clear em
    refine put_step 3 n (u / 4096 % 2 * 2147483648 + u / 2048 % 2 * 128 + u / 32 % 64 * 33554432) 13 [⟨31, 1, 12⟩, ⟨7, 1, 11⟩, ⟨25, 6, 5⟩, ⟨8, 4, 1⟩] 3 (by simp) l0 _ 8 1 4 rfl (by omega) (by omega) (by omega) (by omega) (by omega) ?_
    rw [← hu, show (u / 2 ^ (1 : Int).toNat % 2 ^ 4 * 2 ^ (8 : Int).toNat) % 4294967296 = u / 2 % 16 * 256 by simp only [Int.reduceToNat, Int.reducePow]; omega]
    have em := or_mid (u / 4096 % 2 * 2147483648 + u / 32 % 64 * 33554432) (u / 2048 % 2 * 128) (u / 2 % 16 * 256) 12 8 (by omega) (by omega) (by simp only [Int.reducePow]; omega) (by omega) (by simp only [Int.reducePow]; omega) (by omega) (by simp only [Int.reducePow]; omega) (by simp only [Int.reducePow]; omega) (by omega) (by omega)
    rw [show (u / 4096 % 2 * 2147483648 + u / 32 % 64 * 33554432) + (u / 2048 % 2 * 128) = u / 4096 % 2 * 2147483648 + u / 2048 % 2 * 128 + u / 32 % 64 * 33554432 by omega] at em
    rw [em]
    clear em
    rw [show u / 4096 % 2 * 2147483648 + u / 2048 % 2 * 128 + u / 32 % 64 * 33554432 + u / 2 % 16 * 256 = rawPut 3 (n % 4294967296) by rw [← hu]; unfold rawPut; simp only [if_true, if_false, show ¬ (3 : Int) = 1 by omega, show ¬ (3 : Int) = 2 by omega]]
    exact pe
  · have l0 : (([⟨12, 20, 12⟩] : List S186)).length < 1000 := by simp
    simp only [if_true, if_false, show ¬ (4 : Int) = 1 by omega, show ¬ (4 : Int) = 2 by omega, show ¬ (4 : Int) = 3 by omega, Option.bind_some]
    have pe := put_end 4 n (by omega) 32 (by omega) [⟨12, 20, 12⟩]
    obtain ⟨u, hu⟩ : ∃ u, u = n % 4294967296 := ⟨_, rfl⟩
    rw [← hu] at h0 h1
    refine put_step 4 n (0) 32 [⟨12, 20, 12⟩] 0 (by simp) l0 _ 12 12 20 rfl (by omega) (by omega) (by omega) (by omega) (by omega) ?_
    rw [← hu, show (u / 2 ^ (12 : Int).toNat % 2 ^ 20 * 2 ^ (12 : Int).toNat) % 4294967296 = u / 4096 % 1048576 * 4096 by simp only [Int.reduceToNat, Int.reducePow]; omega]
    rw [or_add' 0 _ 0 (by omega) (by omega) (by omega) (by omega) (by omega) (by omega), Int.zero_add]
    rw [show u / 4096 % 1048576 * 4096 = rawPut 4 (n % 4294967296) by rw [← hu]; unfold rawPut; simp only [if_true, if_false, show ¬ (4 : Int) = 1 by omega, show ¬ (4 : Int) = 2 by omega, show ¬ (4 : Int) = 3 by omega]]
    exact pe
  · have l0 : (([⟨31, 1, 20⟩, ⟨12, 8, 12⟩, ⟨20, 1, 11⟩, ⟨21, 10, 1⟩] : List S186)).length < 1000 := by simp
    simp only [if_true, if_false, show ¬ (5 : Int) = 1 by omega, show ¬ (5 : Int) = 2 by omega, show ¬ (5 : Int) = 3 by omega, show ¬ (5 : Int) = 4 by omega, Option.bind_some]
    have pe := put_end 5 n (by omega) 21 (by omega) [⟨31, 1, 20⟩, ⟨12, 8, 12⟩, ⟨20, 1, 11⟩, ⟨21, 10, 1⟩]
    obtain ⟨u, hu⟩ : ∃ u, u = n % 4294967296 := ⟨_, rfl⟩
    rw [← hu] at h0 h1
    refine put_step 5 n (0) 21 [⟨31, 1, 20⟩, ⟨12, 8, 12⟩, ⟨20, 1, 11⟩, ⟨21, 10, 1⟩] 0 (by simp) l0 _ 31 20 1 rfl (by omega) (by omega) (by omega) (by omega) (by omega) ?_
    rw [← hu, show (u / 2 ^ (20 : Int).toNat % 2 ^ 1 * 2 ^ (31 : Int).toNat) % 4294967296 = u / 1048576 % 2 * 2147483648 by simp only [Int.reduceToNat, Int.reducePow]; omega]
    rw [or_add' 0 _ 0 (by omega) (by omega) (by omega) (by omega) (by omega) (by omega), Int.zero_add]
    refine put_step 5 n (u / 1048576 % 2 * 2147483648) 21 [⟨31, 1, 20⟩, ⟨12, 8, 12⟩, ⟨20, 1, 11⟩, ⟨21, 10, 1⟩] 1 (by simp) l0 _ 12 12 8 rfl (by omega) (by omega) (by omega) (by omega) (by omega) ?_
    rw [← hu, show (u / 2 ^ (12 : Int).toNat % 2 ^ 8 * 2 ^ (12 : Int).toNat) % 4294967296 = u / 4096 % 256 * 4096 by simp only [Int.reduceToNat, Int.reducePow]; omega]
    rw [or_add (u / 1048576 % 2 * 2147483648) (u / 4096 % 256 * 4096) 20 (by omega) (by omega) (by simp only [Int.reducePow]; omega) (by omega) (by simp only [Int.reducePow]; omega) (by omega)]
    refine put_step 5 n (u / 1048576 % 2 * 2147483648 + u / 4096 % 256 * 4096) 21 [⟨31, 1, 20⟩, ⟨12, 8, 12⟩, ⟨20, 1, 11⟩, ⟨21, 10, 1⟩] 2 (by simp) l0 _ 20 11 1 rfl (by omega) (by omega) (by omega) (by omega) (by omega) ?_
    rw [← hu, show (u / 2 ^ (11 : Int).toNat % 2 ^ 1 * 2 ^ (20 : Int).toNat) % 4294967296 = u / 2048 % 2 * 1048576 by simp only [Int.reduceToNat, Int.reducePow]; omega]
    have em := or_mid (u / 1048576 % 2 * 2147483648) (u / 4096 % 256 * 4096) (u / 2048 % 2 * 1048576) 21 20 (by omega) (by omega) (by simp only [Int.reducePow]; omega) (by omega) (by simp only [Int.reducePow]; omega) (by omega) (by simp only [Int.reducePow]; omega) (by simp only [Int.reducePow]; omega) (by omega) (by omega)
    rw [show (u / 1048576 % 2 * 2147483648) + (u / 4096 % 256 * 4096) = u / 1048576 % 2 * 2147483648 + u / 4096 % 256 * 4096 by omega] at em
    rw [em]
    clear em
    refine put_step 5 n (u / 1048576 % 2 * 2147483648 + u / 4096 % 256 * 4096 + u / 2048 % 2 * 1048576) 21 [⟨31, 1, 20⟩, ⟨12, 8, 12⟩, ⟨20, 1, 11⟩, ⟨21, 10, 1⟩] 3 (by simp) l0 _ 21 1 10 rfl (by omega) (by omega) (by omega) (by omega) (by omega) ?_
    rw [← hu, show (u / 2 ^ (1 : Int).toNat % 2 ^ 10 * 2 ^ (21 : Int).toNat) % 4294967296 = u / 2 % 1024 * 2097152 by simp only [Int.reduceToNat, Int.reducePow]; omega]
    have em := or_mid (u / 1048576 % 2 * 2147483648) (u / 4096 % 256 * 4096 + u / 2048 % 2 * 1048576) (u / 2 % 1024 * 2097152) 31 21 (by omega) (by omega) (by simp only [Int.reducePow]; omega) (by omega) (by simp only [Int.reducePow]; omega) (by omega) (by simp only [Int.reducePow]; omega) (by simp only [Int.reducePow]; omega) (by omega) (by omega)
    rw [show (u / 1048576 % 2 * 2147483648) + (u / 4096 % 256 * 4096 + u / 2048 % 2 * 1048576) = u / 1048576 % 2 * 2147483648 + u / 4096 % 256 * 4096 + u / 2048 % 2 * 1048576 by omega] at em
    rw [em]
    clear em
    rw [show u / 1048576 % 2 * 2147483648 + u / 4096 % 256 * 4096 + u / 2048 % 2 * 1048576 + u / 2 % 1024 * 2097152 = rawPut 5 (n % 4294967296) by rw [← hu]; unfold rawPut; simp only [if_true, if_false, show ¬ (5 : Int) = 1 by omega, show ¬ (5 : Int) = 2 by omega, show ¬ (5 : Int) = 3 by omega, show ¬ (5 : Int) = 4 by omega]]
    exact pe
end Go.Proofs.Ytioopcilcgebeaa.ImmP
/-! #### ImmR -/
namespace Go.Proofs.Ytioopcilcgebeaa.ImmP
open Go.RowKit Go.Proofs.YtioopcilcgebeaaW.PrintWords Go.Proofs.YtioopcilcgebeaaW.PrintLast Go.Proofs.YtioopcilcgebeaaW.PrintMore
open Go.Proofs.Ytioopcilcgebeaa.PCpu Go.Proofs.Ytioopcilcgebeaa.BitsP

def bitv (w b : Int) : Int := if 0 ≤ b then w / 2 ^ b.toNat % 2 else 0
def hor (w : Int) : List Int → Int → Int
  | [], n => n
  | b :: l, n => hor w l (2 * n + bitv w b)
theorem bit_of (w b : Int) (hw : 0 ≤ w) (hb0 : 0 ≤ b) (hb : b ≤ 31) : IntKind.u64.wrap b = b ∧ wrap64 (Int.tmod (shr .u32 w b) 2) = w / 2 ^ b.toNat % 2 := by
  have e : IntKind.u64.wrap b = b := by rw [IntKind.wrap_u64]; omega
  refine ⟨e, ?_⟩
  obtain ⟨n, rfl⟩ := Int.eq_ofNat_of_zero_le hb0
  rw [shr32 w n (by omega), Int.toNat_natCast]
  have hp : (0 : Int) < 2 ^ n := Int.pow_pos (by omega)
  have h1 : 0 ≤ w / 2 ^ n := Int.ediv_nonneg hw (by omega)
  rw [Int.tmod_eq_emod_of_nonneg h1]
  unfold wrap64
  omega
theorem bitv_range (w b : Int) : 0 ≤ bitv w b ∧ bitv w b ≤ 1 := by
  unfold bitv
  split
  · omega
  · omega
set_option linter.unusedVariables false in
theorem rget_loop (w : Int) (hw : 0 ≤ w) (l : List Int) (hl : l.length ≤ 32) (hb : ∀ b ∈ l, b ≤ 31) : ∀ (m j : Nat) (n : Int), j + m = l.length → 1 ≤ j → -(2 ^ j) ≤ n → n ≤ 2 ^ j - 1 →
    Ev (fun k => pintleref02_Get.l0 k w l n (j : Int)) (wrap32 (hor w (l.drop j) n))
  | 0, j, n, hj, h1, hn0, hn1 => by
    refine Ev.step (fun k => by rw [pintleref02_Get.l0]) ?_
    rw [List.drop_of_length_le (by omega)]
    simp only [if_neg (show ¬ (j : Int) < (l.length : Int) by omega)]
    exact Ev.now _
  | m + 1, j, n, hj, h1, hn0, hn1 => by
    have hp : (2 : Int) ^ j ≤ 2 ^ 31 := by
      have := Nat.pow_le_pow_right (n := 2) (by omega) (show j ≤ 31 by omega)
      have h : ((2 ^ j : Nat) : Int) ≤ ((2 ^ 31 : Nat) : Int) := by omega
      simpa using h
    have hp2 : (2 : Int) ^ (j + 1) = 2 * 2 ^ j := by rw [Int.pow_succ, Int.mul_comm]
    have hj2 : j < l.length := by omega
    have hg : rd l (j : Int) = l[j] := by unfold rd; rw [Int.toNat_natCast, List.getD_eq_getElem?_getD, List.getElem?_eq_getElem hj2]; rfl
    have hd : l.drop j = l[j] :: l.drop (j + 1) := List.drop_eq_getElem_cons hj2
    have hr := bitv_range w l[j]
    have hw1 : wrap64 ((j : Int) + 1) = ((j + 1 : Nat) : Int) := by unfold wrap64; omega
    have hn2 : wrap64 (2 * n) = 2 * n := by unfold wrap64; omega
    have hn3 : wrap64 (2 * n + bitv w l[j]) = 2 * n + bitv w l[j] := by unfold wrap64; omega
    have ih := rget_loop w hw l hl hb m (j + 1) (2 * n + bitv w l[j]) (by omega) (by omega) (by omega) (by omega)
    rw [hd, show hor w (l[j] :: l.drop (j + 1)) n = hor w (l.drop (j + 1)) (2 * n + bitv w l[j]) from rfl]
    refine Ev.step (fun k => by rw [pintleref02_Get.l0]) ?_
    simp only [if_pos (show (j : Int) < (l.length : Int) by omega), if_pos (show (0 : Int) ≤ (j : Int) by omega), hg, if_neg (show ¬ (j : Int) = 0 by omega), hw1, hn2]
    by_cases h0 : 0 ≤ l[j]
    · obtain ⟨e1, e2⟩ := bit_of w l[j] hw h0 (hb _ (List.getElem_mem _))
      have e3 : bitv w l[j] = w / 2 ^ (l[j]).toNat % 2 := by unfold bitv; rw [if_pos h0]
      simp only [if_pos (show l[j] ≥ 0 from h0), e1, if_pos h0, e2, ← e3, hn3]
      exact ih
    · have e3 : bitv w l[j] = 0 := by unfold bitv; rw [if_neg h0]
      rw [e3] at hn3
      simp only [if_neg (show ¬ l[j] ≥ 0 from h0), hn3]
      rw [e3] at ih ⊢
      exact ih
theorem rget_first (w : Int) (hw : 0 ≤ w) (l : List Int) (hl : l.length + 1 ≤ 32) (hb : ∀ b ∈ l, b ≤ 31) :
    Ev (fun k => pintleref02_Get.l0 k w (31 :: l) 0 0) (wrap32 (hor w l (-(w / 2147483648 % 2)))) := by
  obtain ⟨e1, e2⟩ := bit_of w 31 hw (by omega) (by omega)
  have hb' : ∀ b ∈ (31 : Int) :: l, b ≤ 31 := fun b h => by
    rcases List.mem_cons.1 h with rfl | h
    · omega
    · exact hb b h
  have ih := rget_loop w hw (31 :: l) (by rw [List.length_cons]; omega) hb' l.length 1 (-(w / 2147483648 % 2)) (by rw [List.length_cons]; omega) (by omega) (by simp only [Int.reducePow]; omega) (by simp only [Int.reducePow]; omega)
  refine Ev.step (fun k => by rw [pintleref02_Get.l0]) ?_
  simp only [if_pos (show (0 : Int) < (((31 : Int) :: l).length : Int) by rw [List.length_cons]; omega), show rd ((31 : Int) :: l) 0 = 31 from rfl, e1, e2, if_pos (show (0 : Int) ≤ 0 by omega), if_pos (show (31 : Int) ≥ 0 by omega), if_pos (show (0 : Int) ≤ 31 by omega), if_true,
    Int.zero_add, show wrap64 (1 : Int) = ((1 : Nat) : Int) by unfold wrap64; omega, show wrap64 (2 * 0) = 0 by unfold wrap64; omega]
  simp only [Int.reduceToNat, Int.reducePow]
  rw [show wrap64 (wrap64 (-(w / 2147483648 % 2))) = -(w / 2147483648 % 2) by unfold wrap64; omega]
  exact ih
/-- Bits in line, the highest first: len of them from lo on. -/
def run (lo : Nat) : Nat → List Int
  | 0 => []
  | len + 1 => ((lo + len : Nat) : Int) :: run lo len
theorem hor_append (w : Int) : ∀ (l l' : List Int) (n : Int), hor w (l ++ l') n = hor w l' (hor w l n)
  | [], _, _ => rfl
  | _ :: l, l', _ => hor_append w l l' _
theorem hor_run_nat (a lo : Nat) : ∀ (len : Nat) (n : Int), hor (a : Int) (run lo len) n = n * 2 ^ len + ((a / 2 ^ lo % 2 ^ len : Nat) : Int)
  | 0, n => by simp [run, hor, Nat.mod_one]
  | len + 1, n => by
    have e : bitv (a : Int) ((lo + len : Nat) : Int) = ((a / 2 ^ (lo + len) % 2 : Nat) : Int) := by
      unfold bitv
      rw [if_pos (by omega), Int.toNat_natCast]
      simp
    have hm : a / 2 ^ lo % 2 ^ (len + 1) = a / 2 ^ lo % 2 ^ len + 2 ^ len * (a / 2 ^ (lo + len) % 2) := by
      rw [Nat.pow_succ, Nat.mod_mul, Nat.div_div_eq_div_mul, ← Nat.pow_add]
    show hor (a : Int) (run lo len) (2 * n + bitv (a : Int) ((lo + len : Nat) : Int)) = _
    rw [hor_run_nat a lo len, e, hm, Int.natCast_add, Int.natCast_mul, Int.pow_succ]
    have hp : (((2 ^ len : Nat) : Nat) : Int) = 2 ^ len := by simp
    rw [hp]
    generalize (2 : Int) ^ len = P
    generalize ((a / 2 ^ (lo + len) % 2 : Nat) : Int) = b
    generalize ((a / 2 ^ lo % 2 ^ len : Nat) : Int) = c
    have q1 : (2 * n + b) * P = n * (P * 2) + P * b := by
      rw [Int.add_mul, Int.mul_comm b P, Int.mul_comm 2 n, Int.mul_assoc, Int.mul_comm 2 P]
    rw [q1, Int.add_assoc, Int.add_comm (P * b)]
theorem hor_run (a lo len : Nat) (n : Int) : hor (a : Int) (run lo len) n = n * 2 ^ len + (a : Int) / 2 ^ lo % 2 ^ len := by
  rw [hor_run_nat]
  simp
theorem hor_none (w : Int) : ∀ (k : Nat) (n : Int), hor w (List.replicate k (-1)) n = n * 2 ^ k
  | 0, n => by simp [hor]
  | k + 1, n => by
    rw [List.replicate_succ]
    show hor w (List.replicate k (-1)) (2 * n + bitv w (-1)) = _
    rw [hor_none w k, show bitv w (-1) = 0 from rfl, Int.pow_succ, Int.add_zero, Int.mul_comm 2 n, Int.mul_assoc, Int.mul_comm 2]
theorem rget_ev (form w : Int) (hf : 1 ≤ form ∧ form ≤ 5) (h0 : 0 ≤ w) (h : w < 4294967296) : Ev (fun k => pintleref02_Get.f k form w) (getS form w) := by
  obtain ⟨a, rfl⟩ := Int.eq_ofNat_of_zero_le h0
  unfold pintleref02_Get.f pintleref02_Bits.f getS
  rw [if_pos hf]
  rcases (by omega : form = 1 ∨ form = 2 ∨ form = 3 ∨ form = 4 ∨ form = 5) with rfl | rfl | rfl | rfl | rfl
  all_goals
    simp only [if_true, Option.bind_some, if_false, show ¬ (2 : Int) = 1 by omega, show ¬ (3 : Int) = 1 by omega, show ¬ (3 : Int) = 2 by omega, show ¬ (4 : Int) = 1 by omega, show ¬ (4 : Int) = 2 by omega, show ¬ (4 : Int) = 3 by omega, show ¬ (5 : Int) = 1 by omega, show ¬ (5 : Int) = 2 by omega, show ¬ (5 : Int) = 3 by omega, show ¬ (5 : Int) = 4 by omega]
  · have hx := rget_first (a : Int) h0 (run 20 11) (by decide) (by decide)
    rw [hor_run] at hx
    refine (show _ = sx (wide 1) (rawS 1 (a : Int)) from ?_) ▸ hx
    unfold sx rawS wide wrap32
    simp only [Int.reducePow, Nat.reducePow, if_true, true_or, Nat.reduceSub]
    have h31 : (a : Int) / 2147483648 = 0 ∨ (a : Int) / 2147483648 = 1 := by omega
    rw [show (a : Int) / 1048576 = 2048 * ((a : Int) / 2147483648) + (a : Int) / 1048576 % 2048 by omega]
    have b0 : 0 ≤ (a : Int) / 1048576 % 2048 ∧ (a : Int) / 1048576 % 2048 < 2048 := by omega
    generalize (a : Int) / 1048576 % 2048 = A0 at *
    rcases h31 with h31 | h31 <;> rw [h31] <;> clear h31 h0 h hx <;> split <;> omega
  · have hx := rget_first (a : Int) h0 (run 25 6 ++ run 7 5) (by decide) (by decide)
    rw [hor_append, hor_run, hor_run] at hx
    refine (show _ = sx (wide 2) (rawS 2 (a : Int)) from ?_) ▸ hx
    unfold sx rawS wide wrap32
    simp only [Int.reducePow, Nat.reducePow, if_true, or_true, Nat.reduceSub, if_false, show ¬ (2 : Int) = 1 by omega]
    have h31 : (a : Int) / 2147483648 = 0 ∨ (a : Int) / 2147483648 = 1 := by omega
    rw [show (a : Int) / 33554432 * 32 = (64 * ((a : Int) / 2147483648) + (a : Int) / 33554432 % 64) * 32 by omega]
    have b0 : 0 ≤ (a : Int) / 33554432 % 64 ∧ (a : Int) / 33554432 % 64 < 64 := by omega
    generalize (a : Int) / 33554432 % 64 = A0 at *
    have b1 : 0 ≤ (a : Int) / 128 % 32 ∧ (a : Int) / 128 % 32 < 32 := by omega
    generalize (a : Int) / 128 % 32 = A1 at *
    rcases h31 with h31 | h31 <;> rw [h31] <;> clear h31 h0 h hx <;> split <;> omega
  · have hx := rget_first (a : Int) h0 (run 7 1 ++ (run 25 6 ++ (run 8 4 ++ List.replicate 1 (-1)))) (by decide) (by decide)
    rw [hor_append, hor_append, hor_append, hor_none, hor_run, hor_run, hor_run] at hx
    refine (show _ = sx (wide 3) (rawS 3 (a : Int)) from ?_) ▸ hx
    unfold sx rawS wide wrap32
    simp only [Int.reducePow, Nat.reducePow, if_true, Nat.reduceSub, if_false, show ¬ (3 : Int) = 1 by omega, show ¬ (3 : Int) = 2 by omega, or_self]
    have h31 : (a : Int) / 2147483648 = 0 ∨ (a : Int) / 2147483648 = 1 := by omega
    have b0 : 0 ≤ (a : Int) / 128 % 2 ∧ (a : Int) / 128 % 2 < 2 := by omega
    generalize (a : Int) / 128 % 2 = A0 at *
    have b1 : 0 ≤ (a : Int) / 33554432 % 64 ∧ (a : Int) / 33554432 % 64 < 64 := by omega
    generalize (a : Int) / 33554432 % 64 = A1 at *
    have b2 : 0 ≤ (a : Int) / 256 % 16 ∧ (a : Int) / 256 % 16 < 16 := by omega
    generalize (a : Int) / 256 % 16 = A2 at *
    rcases h31 with h31 | h31 <;> rw [h31] <;> clear h31 h0 h hx <;> split <;> omega
  · have hx := rget_first (a : Int) h0 (run 12 19 ++ List.replicate 12 (-1)) (by decide) (by decide)
    rw [hor_append, hor_none, hor_run] at hx
    refine (show _ = sx (wide 4) (rawS 4 (a : Int)) from ?_) ▸ hx
    unfold sx rawS wide wrap32
    simp only [Int.reducePow, Nat.reducePow, if_true, Nat.reduceSub, if_false, show ¬ (4 : Int) = 1 by omega, show ¬ (4 : Int) = 2 by omega, show ¬ (4 : Int) = 3 by omega, or_self]
    have h31 : (a : Int) / 2147483648 = 0 ∨ (a : Int) / 2147483648 = 1 := by omega
    rw [show (a : Int) / 4096 * 4096 = (524288 * ((a : Int) / 2147483648) + (a : Int) / 4096 % 524288) * 4096 by omega]
    have b0 : 0 ≤ (a : Int) / 4096 % 524288 ∧ (a : Int) / 4096 % 524288 < 524288 := by omega
    generalize (a : Int) / 4096 % 524288 = A0 at *
    rcases h31 with h31 | h31 <;> rw [h31] <;> clear h31 h0 h hx <;> split <;> omega
  · have hx := rget_first (a : Int) h0 (run 12 8 ++ (run 20 1 ++ (run 21 10 ++ List.replicate 1 (-1)))) (by decide) (by decide)
    rw [hor_append, hor_append, hor_append, hor_none, hor_run, hor_run, hor_run] at hx
    refine (show _ = sx (wide 5) (rawS 5 (a : Int)) from ?_) ▸ hx
    unfold sx rawS wide wrap32
    simp only [Int.reducePow, Nat.reducePow, if_true, Nat.reduceSub, if_false, show ¬ (5 : Int) = 1 by omega, show ¬ (5 : Int) = 2 by omega, show ¬ (5 : Int) = 3 by omega, show ¬ (5 : Int) = 4 by omega, or_self]
    have h31 : (a : Int) / 2147483648 = 0 ∨ (a : Int) / 2147483648 = 1 := by omega
    have b0 : 0 ≤ (a : Int) / 4096 % 256 ∧ (a : Int) / 4096 % 256 < 256 := by omega
    generalize (a : Int) / 4096 % 256 = A0 at *
    have b1 : 0 ≤ (a : Int) / 1048576 % 2 ∧ (a : Int) / 1048576 % 2 < 2 := by omega
    generalize (a : Int) / 1048576 % 2 = A1 at *
    have b2 : 0 ≤ (a : Int) / 2097152 % 1024 ∧ (a : Int) / 2097152 % 1024 < 1024 := by omega
    generalize (a : Int) / 2097152 % 1024 = A2 at *
    rcases h31 with h31 | h31 <;> rw [h31] <;> clear h31 h0 h hx <;> split <;> omega
end Go.Proofs.Ytioopcilcgebeaa.ImmP
