/- Proofs of this claim's family, merged: RefP, RefQ. -/
import Derived.Test.YtioopcilcgebeaaKD
import Derived.Test.YtioopcilcgebeaaKA
import Derived.Test.YtioopcilcgebeaaKP2
set_option linter.unusedVariables false
set_option linter.unusedSimpArgs false
/-! #### RefP -/
namespace Go.Proofs.Ytioopcilcgebeaa.ImmP
open Go.RowKit Go.Proofs.YtioopcilcgebeaaW.PrintWords Go.Proofs.YtioopcilcgebeaaW.PrintLast Go.Proofs.YtioopcilcgebeaaW.PrintMore
open Go.Proofs.Ytioopcilcgebeaa.PCpu Go.Proofs.Ytioopcilcgebeaa.BitsP

def por (u : Int) : List Int → Int → Int
  | [], w => w
  | b :: l, w => por u l (if 0 ≤ b ∧ u / 2 ^ l.length % 2 = 1 then (w + 2 ^ b.toNat) % 4294967296 else w)
def porS (u : Int) : List Int → Int
  | [] => 0
  | b :: l => (if 0 ≤ b ∧ u / 2 ^ l.length % 2 = 1 then 2 ^ b.toNat else 0) + porS u l
theorem por_eq (u : Int) : ∀ (l : List Int) (w : Int), 0 ≤ w → w < 4294967296 → por u l w = (w + porS u l) % 4294967296
  | [], w, h0, h => by unfold por porS; omega
  | b :: l, w, h0, h => by
    unfold por porS
    split
    · rw [por_eq u l _ (by omega) (by omega)]; omega
    · rw [por_eq u l _ h0 h]; omega
theorem porS_run (a lo : Nat) (l' : List Int) : ∀ (len : Nat), porS (a : Int) (run lo len ++ l') = (a : Int) / 2 ^ l'.length % 2 ^ len * 2 ^ lo + porS (a : Int) l'
  | 0 => by simp [run, Int.emod_one]
  | len + 1 => by
    have hl : (run lo len ++ l').length = len + l'.length := by
      have : ∀ n, (run lo n).length = n := fun n => by induction n with
        | zero => rfl
        | succ n ih => simp [run, ih]
      simp [this]
    have ih := porS_run a lo l' len
    show (if 0 ≤ ((lo + len : Nat) : Int) ∧ (a : Int) / 2 ^ (run lo len ++ l').length % 2 = 1 then (2 : Int) ^ (((lo + len : Nat) : Int)).toNat else 0) + porS (a : Int) (run lo len ++ l') = _
    rw [ih, hl, Int.toNat_natCast]
    have hm : a / 2 ^ l'.length % 2 ^ (len + 1) = a / 2 ^ l'.length % 2 ^ len + 2 ^ len * (a / 2 ^ (len + l'.length) % 2) := by
      rw [Nat.pow_succ, Nat.mod_mul, Nat.div_div_eq_div_mul, ← Nat.pow_add, Nat.add_comm l'.length len]
    have hmz : (a : Int) / 2 ^ l'.length % 2 ^ (len + 1) = (a : Int) / 2 ^ l'.length % 2 ^ len + 2 ^ len * ((a : Int) / 2 ^ (len + l'.length) % 2) := by
      have := congrArg (fun n : Nat => (n : Int)) hm
      simpa using this
    rw [hmz]
    have hp : (2 : Int) ^ (lo + len) = 2 ^ len * 2 ^ lo := by rw [Int.pow_add, Int.mul_comm]
    have hb : (a : Int) / 2 ^ (len + l'.length) % 2 = 0 ∨ (a : Int) / 2 ^ (len + l'.length) % 2 = 1 := by omega
    rw [Int.add_mul, hp]
    rcases hb with hb | hb
    · rw [hb, if_neg (by omega)]; simp
    · rw [hb, if_pos ⟨by omega, rfl⟩]; simp; omega
theorem porS_none (u : Int) : ∀ k, porS u (List.replicate k (-1)) = 0
  | 0 => rfl
  | k + 1 => by
    rw [List.replicate_succ]
    unfold porS
    rw [if_neg (by omega), porS_none u k]
    rfl
theorem por_raw (form u : Int) (hf : 1 ≤ form ∧ form ≤ 5) (h0 : 0 ≤ u) (_h : u < 4294967296) : ∃ l, pintleref02_Bits.f form = some l ∧ l.length ≤ 32 ∧ l ≠ [] ∧ (∀ b ∈ l, -1 ≤ b ∧ b ≤ 31) ∧ por u l 0 = rawPut form u := by
  obtain ⟨a, rfl⟩ := Int.eq_ofNat_of_zero_le h0
  rcases (by omega : form = 1 ∨ form = 2 ∨ form = 3 ∨ form = 4 ∨ form = 5) with rfl | rfl | rfl | rfl | rfl
  · refine ⟨run 20 12 ++ [], rfl, by decide, by decide, by decide, ?_⟩
    rw [por_eq _ _ _ (by omega) (by omega), porS_run]
    simp only [porS, rawPut, if_true, List.length_nil, Int.reducePow, Int.pow_zero]
    omega
  · refine ⟨run 25 7 ++ (run 7 5 ++ []), rfl, by decide, by decide, by decide, ?_⟩
    rw [por_eq _ _ _ (by omega) (by omega), porS_run, porS_run]
    simp only [porS, rawPut, if_true, show (run 7 5 ++ []).length = 5 from rfl, List.length_nil, Int.reducePow, Int.pow_zero, Int.reduceEq, if_false]
    omega
  · refine ⟨run 31 1 ++ (run 7 1 ++ (run 25 6 ++ (run 8 4 ++ List.replicate 1 (-1)))), rfl, by decide, by decide, by decide, ?_⟩
    rw [por_eq _ _ _ (by omega) (by omega), porS_run, porS_run, porS_run, porS_run, porS_none]
    simp only [rawPut, if_true, show (run 7 1 ++ (run 25 6 ++ (run 8 4 ++ List.replicate 1 (-1)))).length = 12 from rfl, show (run 25 6 ++ (run 8 4 ++ List.replicate 1 (-1))).length = 11 from rfl, show (run 8 4 ++ List.replicate 1 (-1)).length = 5 from rfl, show (List.replicate 1 (-1 : Int)).length = 1 from rfl, Int.reducePow, Int.reduceEq, if_false]
    omega
  · refine ⟨run 12 20 ++ List.replicate 12 (-1), rfl, by decide, by decide, by decide, ?_⟩
    rw [por_eq _ _ _ (by omega) (by omega), porS_run, porS_none]
    simp only [rawPut, if_true, show (List.replicate 12 (-1 : Int)).length = 12 from rfl, Int.reducePow, Int.reduceEq, if_false]
    omega
  · refine ⟨run 31 1 ++ (run 12 8 ++ (run 20 1 ++ (run 21 10 ++ List.replicate 1 (-1)))), rfl, by decide, by decide, by decide, ?_⟩
    rw [por_eq _ _ _ (by omega) (by omega), porS_run, porS_run, porS_run, porS_run, porS_none]
    simp only [rawPut, if_true, show (run 12 8 ++ (run 20 1 ++ (run 21 10 ++ List.replicate 1 (-1)))).length = 20 from rfl, show (run 20 1 ++ (run 21 10 ++ List.replicate 1 (-1))).length = 12 from rfl, show (run 21 10 ++ List.replicate 1 (-1)).length = 11 from rfl, show (List.replicate 1 (-1 : Int)).length = 1 from rfl, Int.reducePow, Int.reduceEq, if_false]
    omega
end Go.Proofs.Ytioopcilcgebeaa.ImmP
/-! #### RefQ -/
namespace Go.Proofs.Ytioopcilcgebeaa.RefA
open Go.RowKit Go.Proofs.Ytioopcilcgebeaa.Base Go.Proofs.YtioopcilcgebeaaW.PrintWords Go.Proofs.YtioopcilcgebeaaW.PrintLast Go.Proofs.YtioopcilcgebeaaW.PrintMore
open Go.Proofs.Ytioopcilcgebeaa.PCpu Go.Proofs.Ytioopcilcgebeaa.ImmP

theorem rget_calls (form x : Int) (hf : 1 ≤ form ∧ form ≤ 5) (h0 : 0 ≤ x) (h : x < 4294967296) (w : World) : Calls Try.prog 94 #[.int .i64 form, .int .u32 x] w fun e w' => e = .returned (.int .i32 (getS form x)) ∧ Below w.heap.size w w' := by
  obtain ⟨k, hk⟩ := (rget_ev form x hf h0 h).rounds
  exact pintleref02_Get.calls k form x _ w hk
theorem pow_small (k : Nat) (h : k ≤ 31) : (2 : Int) ^ k < 4294967296 := by
  have h1 : (2 : Nat) ^ k ≤ 2 ^ 31 := Nat.pow_le_pow_right (by omega) h
  have h2 : ((2 ^ k : Nat) : Int) ≤ ((2 ^ 31 : Nat) : Int) := Int.ofNat_le.2 h1
  rw [Int.natCast_pow] at h2
  have h3 : ((2 ^ 31 : Nat) : Int) = 2147483648 := rfl
  rw [h3] at h2
  exact Int.lt_of_le_of_lt h2 (by omega)
theorem shr_pos (x : Int) (k : Nat) (h : 0 ≤ x) : 0 ≤ x / 2 ^ k := Int.ediv_nonneg h (Int.le_of_lt (Int.pow_pos (by omega)))
theorem por_drop (u : Int) (l : List Int) (t : Nat) (x b : Int) (ht : t < l.length) (hb : rd l (t : Int) = b) :
    por u (l.drop t) x = por u (l.drop (t + 1)) (if 0 ≤ b ∧ u / 2 ^ (l.length - 1 - t) % 2 = 1 then (x + 2 ^ b.toNat) % 4294967296 else x) := by
  have e : rd l (t : Int) = l[t] := by unfold rd; rw [Int.toNat_natCast, List.getD_eq_getElem?_getD, List.getElem?_eq_getElem ht]; rfl
  rw [List.drop_eq_getElem_cons ht, ← e, hb]
  show por u (l.drop (t + 1)) (if 0 ≤ b ∧ u / 2 ^ (l.drop (t + 1)).length % 2 = 1 then _ else _) = _
  rw [List.length_drop, show l.length - (t + 1) = l.length - 1 - t by omega]
set_option maxHeartbeats 4000000 in
set_option maxRecDepth 100000 in
theorem put_calls (form n : Int) (hf : 1 ≤ form ∧ form ≤ 5) (w : World) : Calls Try.prog 67 #[.int .i64 form, .int .i32 n] w fun e w' => e = .returned (.tuple #[.int .u32 (putS form n).1, .bool (putS form n).2]) ∧ Below w.heap.size w w' := by
  obtain ⟨l, hl, h32, hne, hb, hp⟩ := por_raw form (n % 4294967296) hf (by omega) (by omega)
  have Hl := Lib.hid hl
  have Hb := Lib.hid hb
  have Hp := Lib.hid hp
  clear hl hb hp
  go_enter Try.func67, Try.ntmps67
  go_wp2_with (first
    | (go_at_call 100; refine (pintleref02_Bits.calls _ _ _ Hl.out).mono ?_; rintro e w' ⟨vl, rfl, hR, hB⟩))
  obtain ⟨A, c, rfl⟩ := Kd.R_slice hR
  have HR := Lib.hid hR
  clear hR
  go_loopw [7, 8] (fun v i wr => ∃ (x : Int) (t : Nat), t ≤ l.length ∧ 0 ≤ x ∧ x < 4294967296 ∧ v = .int .u32 x ∧ i = .int .i64 (t : Int) ∧ por (n % 4294967296) (l.drop t) x = por (n % 4294967296) l 0 ∧ wr = w') (fun _ i _ => l.length - (intOf i).toNat)
  case atStart => exact ⟨0, 0, by omega, by omega, by omega, rfl, rfl, rfl, rfl⟩
  case round =>
    obtain ⟨x, t, ht, hx0, hx, rfl, rfl, hpor, rfl⟩ := hrel
    have Hpor := Lib.hid hpor
    clear hpor
    by_cases hlt : t < l.length
    · have d1 : decide ((t : Int) < (l.length : Int)) = true := decide_eq_true (by omega)
      have d2 : decide (0 ≤ (t : Int)) = true := decide_eq_true (by omega)
      obtain ⟨ad, e, hc⟩ := Kd.at_int (Kd.R_reads' HR.out).2.2 (t : Int) (by omega) (by omega)
      cases e
      obtain ⟨b, hbt⟩ : ∃ b, rd l (t : Int) = b := ⟨_, rfl⟩
      rw [hbt] at hc
      simp only [Int.toNat_natCast] at hc
      have hbr := Hb.out b (by rw [← hbt]; unfold rd; rw [Int.toNat_natCast, List.getD_eq_getElem?_getD, List.getElem?_eq_getElem hlt]; exact List.getElem_mem _)
      by_cases hb0 : 0 ≤ b
      · have d3 : decide (0 ≤ b) = true := decide_eq_true hb0
        have w1 : IntKind.u64.wrap ((l.length : Int) - 1 - (t : Int)) = ((l.length - 1 - t : Nat) : Int) := by rw [IntKind.wrap_u64]; omega
        have w2 : IntKind.u64.wrap b = b := by rw [IntKind.wrap_u64]; omega
        go_wp2
        · have hbit : n % 4294967296 / 2 ^ (l.length - 1 - t) % 2 = 1 := by
            have h : ((n % 4294967296 / 2 ^ (l.length - 1 - t)).tmod 2 == 1) = true := by assumption
            rw [Int.tmod_eq_emod_of_nonneg (shr_pos _ _ (by omega))] at h
            simpa using h
          have e := por_drop (n % 4294967296) l t x b hlt hbt
          rw [Hpor.out, if_pos ⟨hb0, hbit⟩] at e
          have q2 := pow_small b.toNat (by omega)
          have q3 : (0 : Int) < 2 ^ b.toNat := Int.pow_pos (by omega)
          refine ⟨⟨(x + 2 ^ b.toNat) % 4294967296, t + 1, by omega, by omega, by omega, ?_, by simp, e.symm, trivial⟩, ?_⟩
          · rw [Int.emod_eq_of_lt (Int.le_of_lt q3) q2]
          · simp [intOf]; omega
        · have hbit : ¬ (n % 4294967296 / 2 ^ (l.length - 1 - t) % 2 = 1) := by
            have h : ((n % 4294967296 / 2 ^ (l.length - 1 - t)).tmod 2 == 1) = false := by assumption
            rw [Int.tmod_eq_emod_of_nonneg (shr_pos _ _ (by omega))] at h
            simpa using h
          have e := por_drop (n % 4294967296) l t x b hlt hbt
          rw [Hpor.out, if_neg (fun h => hbit h.2)] at e
          refine ⟨⟨x, t + 1, by omega, hx0, hx, rfl, by simp, e.symm, trivial⟩, ?_⟩
          simp [intOf]; omega
      · have d3 : decide (0 ≤ b) = false := decide_eq_false hb0
        go_wp2
        have e := por_drop (n % 4294967296) l t x b hlt hbt
        rw [Hpor.out, if_neg (fun h => hb0 h.1)] at e
        refine ⟨⟨x, t + 1, by omega, hx0, hx, rfl, by simp, e.symm, trivial⟩, ?_⟩
        simp [intOf]; omega
    · have d1 : decide ((t : Int) < (l.length : Int)) = false := decide_eq_false (by omega)
      have d4 : ((l.length : Int) == 0) = false := by
        rw [beq_eq_false_iff_ne]
        have : l.length ≠ 0 := fun h => hne (List.length_eq_zero_iff.1 h)
        omega
      have hx' : x = rawPut form (n % 4294967296) := by
        rw [← Hp.out, ← Hpor.out, List.drop_of_length_le (by omega)]
        rfl
      have Hg := Lib.hid (rget_calls form x hf hx0 hx)
      have Hx := Lib.hid hx'
      clear hx'
      by_cases hg : getS form x = n
      · have d5 : (getS form x != n) = false := by simpa using hg
        have Hgn := Lib.hid hg
        clear hg
        go_wp2_with (first
          | (go_at_call 94; refine (Hg.out _).mono ?_; rintro e w' ⟨rfl, hB2⟩))
        go_ret2
        refine ⟨?_, ?_⟩
        · unfold putS
          rw [← Hx.out, if_pos Hgn.out]
          rfl
        · exact hB.trans ⟨hB2.os, hB2.tape, hB2.output, hB2.size, fun k hk => hB2.block k (Nat.lt_of_lt_of_le hk hB.size)⟩
      · have d5 : (getS form x != n) = true := by simpa using hg
        have Hgn := Lib.hid hg
        clear hg
        go_wp2_with (first
          | (go_at_call 94; refine (Hg.out _).mono ?_; rintro e w' ⟨rfl, hB2⟩))
        go_ret2
        refine ⟨?_, ?_⟩
        · unfold putS
          rw [← Hx.out, if_neg Hgn.out]
          rfl
        · exact hB.trans ⟨hB2.os, hB2.tape, hB2.output, hB2.size, fun k hk => hB2.block k (Nat.lt_of_lt_of_le hk hB.size)⟩
/-- At a form that is none. -/
theorem put_none (form n : Int) (hf : form = 0 ∨ form = 6) (w : World) : Calls Try.prog 67 #[.int .i64 form, .int .i32 n] w fun e w' => e = .returned (.tuple #[.int .u32 0, .bool false]) ∧ Below w.heap.size w w' := by
  have hl : pintleref02_Bits.f form = some [] := by
    unfold pintleref02_Bits.f
    rw [if_neg (by omega), if_neg (by omega), if_neg (by omega), if_neg (by omega), if_neg (by omega)]
  have Hl := Lib.hid hl
  clear hl
  go_enter Try.func67, Try.ntmps67
  go_wp2_with (first
    | (go_at_call 100; refine (pintleref02_Bits.calls _ _ _ Hl.out).mono ?_; rintro e w' ⟨vl, rfl, hR, hB⟩))
  obtain ⟨A, c, rfl⟩ := Kd.R_slice hR
  clear hR
  refine wp_loop_rounds 1 ?_
  rw [rounds_succ]
  go_wp2
  go_ret2
  exact ⟨rfl, hB⟩
end Go.Proofs.Ytioopcilcgebeaa.RefA
