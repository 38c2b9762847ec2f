/- Proofs of this claim's family, merged: InstB, InstC. -/
import Derived.Test.YtioopcilcgebeaaKB
import Derived.Test.YtioopcilcgebeaaKC
import Derived.Test.YtioopcilcgebeaaKD
import Derived.Test.YtioopcilcgebeaaKP1
import Derived.BigQuiet
set_option linter.unusedVariables false
set_option linter.unusedSimpArgs false
/-! #### InstB -/
namespace Go.Proofs.Ytioopcilcgebeaa.InstA
open Go.RowKit Go.Proofs.Ytioopcilcgebeaa.Base Go.Proofs.Ytioopcilcgebeaa.InstS
set_option maxHeartbeats 4000000 in
set_option maxRecDepth 100000 in
theorem of_calls (op : Int) (w : World) : Calls Try.prog 116 #[.int .i64 op] w fun e w' => e = .returned (.tuple #[sv (ofS op), .bool (ofOk op)]) ∧ Below w.heap.size w w' := by
  by_cases h : 1 ≤ op ∧ op ≤ 46
  · obtain ⟨n, hn⟩ : ∃ n : Nat, op = (n : Int) + 1 := ⟨(op - 1).toNat, by omega⟩
    subst hn
    have hl : n < 46 := by omega
    have e : ofOk ((n : Int) + 1) = true := decide_eq_true h
    rw [e, ofS_at n hl]
    rcases (by omega : n < 12 ∨ (12 ≤ n ∧ n < 24) ∨ (24 ≤ n ∧ n < 36) ∨ (36 ≤ n ∧ n < 46)) with h | h | h | h
    · exact of_0 n (by omega) w
    · exact of_1 n (by omega) w
    · exact of_2 n (by omega) w
    · exact of_3 n (by omega) w
  · have e : ofOk op = false := decide_eq_false h
    have e2 : ofS op = noS := by unfold ofS; rw [if_neg h]
    rw [e, e2]
    rcases (by omega : op < 1 ∨ 46 < op) with h1 | h1
    · go_enter Try.func116, Try.ntmps116
      go_wp2
      refine bodyPost_ret (v := .tuple #[sv _, .bool false]) ?_ rfl ⟨rfl, ?_⟩
      · simp [results, Try.results116, go_sem, sv, noS]
      · go_grown
    · have h2 : decide (op < 1) = false := decide_eq_false (by omega)
      go_enter Try.func116, Try.ntmps116
      go_wp2
      refine bodyPost_ret (v := .tuple #[sv _, .bool false]) ?_ rfl ⟨rfl, ?_⟩
      · simp [results, Try.results116, go_sem, sv, noS]
      · go_grown
end Go.Proofs.Ytioopcilcgebeaa.InstA
/-! #### InstC -/
namespace Go.Proofs.Ytioopcilcgebeaa.InstA
open Go.RowKit Go.Proofs.Ytioopcilcgebeaa.Base Go.Proofs.Ytioopcilcgebeaa.InstS Go.Proofs.YtioopcilcgebeaaW.PrintWords

def fitsB (n : Int) (has : Bool) : Bool := n == 0 || (has && decide (0 < n) && decide (n < 32))
theorem fits_calls (n : Int) (has b : Bool) (h : fitsB n has = b) (w : World) : Calls Try.prog 119 #[.int .i64 n, .bool has] w fun e w' => e = .returned (.bool b) ∧ w' = w := by
  subst h
  by_cases h0 : n = 0
  · subst h0
    go_enter Try.func119, Try.ntmps119
    go_wp2
    go_ret
    exact ⟨by simp [fitsB], rfl⟩
  · have h1 : (n == 0) = false := by simpa using h0
    cases has
    · go_enter Try.func119, Try.ntmps119
      go_wp2
      go_ret
      exact ⟨by simp [fitsB, h0], rfl⟩
    · by_cases h2 : 0 < n
      · go_enter Try.func119, Try.ntmps119
        go_wp2
        go_ret
        exact ⟨by simp [fitsB, h0, h2], rfl⟩
      · have h3 : decide (0 < n) = false := by simpa using h2
        go_enter Try.func119, Try.ntmps119
        go_wp2
        go_ret
        exact ⟨by simp [fitsB, h0]; omega, rfl⟩
def iv (i : Ins) : Value := .agg #[.int .i64 i.op, .int .i64 i.rd, .int .i64 i.rs1, .int .i64 i.rs2, .int .i32 i.imm]
/-- An instruction's word but for its number. -/
def base (s : Srt) (i : Ins) : Int := s.low + s.three * 4096 + s.seven * 33554432 + i.rd * 128 + i.rs1 * 32768 + i.rs2 * 1048576
theorem base_or (low three seven rd rs1 rs2 : Int) (hb : 0 ≤ low ∧ low < 128 ∧ 0 ≤ three ∧ three < 8 ∧ 0 ≤ seven ∧ seven < 128 ∧ 0 ≤ rd ∧ rd < 32 ∧ 0 ≤ rs1 ∧ rs1 < 32 ∧ 0 ≤ rs2 ∧ rs2 < 32) :
    bits .or .u32 (bits .or .u32 (bits .or .u32 (bits .or .u32 (bits .or .u32 low (three * 4096)) (seven * 33554432)) (rd * 128)) (rs1 * 32768)) (rs2 * 1048576) = low + three * 4096 + seven * 33554432 + rd * 128 + rs1 * 32768 + rs2 * 1048576 := by
  rw [BitsP.or_add' low (three * 4096) 12 (by omega) (by simp only [Int.reducePow]; omega) (by simp only [Int.reducePow]; omega) (by omega) (by omega) (by omega)]
  rw [BitsP.or_add' (low + three * 4096) (seven * 33554432) 25 (by omega) (by simp only [Int.reducePow]; omega) (by simp only [Int.reducePow]; omega) (by omega) (by omega) (by omega)]
  have e1 := BitsP.or_mid (seven * 33554432 + three * 4096) low (rd * 128) 12 7 (by omega) (by omega) (by simp only [Int.reducePow]; omega) (by omega) (by simp only [Int.reducePow]; omega) (by omega) (by simp only [Int.reducePow]; omega) (by simp only [Int.reducePow]; omega) (by omega) (by omega)
  rw [show seven * 33554432 + three * 4096 + low = low + three * 4096 + seven * 33554432 by omega] at e1
  rw [e1]
  have e2 := BitsP.or_mid (seven * 33554432) (low + three * 4096 + rd * 128) (rs1 * 32768) 25 15 (by omega) (by omega) (by simp only [Int.reducePow]; omega) (by omega) (by simp only [Int.reducePow]; omega) (by omega) (by simp only [Int.reducePow]; omega) (by simp only [Int.reducePow]; omega) (by omega) (by omega)
  rw [show seven * 33554432 + (low + three * 4096 + rd * 128) = low + three * 4096 + seven * 33554432 + rd * 128 by omega] at e2
  rw [e2]
  have e3 := BitsP.or_mid (seven * 33554432) (low + three * 4096 + rd * 128 + rs1 * 32768) (rs2 * 1048576) 25 20 (by omega) (by omega) (by simp only [Int.reducePow]; omega) (by omega) (by simp only [Int.reducePow]; omega) (by omega) (by simp only [Int.reducePow]; omega) (by simp only [Int.reducePow]; omega) (by omega) (by omega)
  rw [show seven * 33554432 + (low + three * 4096 + rd * 128 + rs1 * 32768) = low + three * 4096 + seven * 33554432 + rd * 128 + rs1 * 32768 by omega] at e3
  exact e3
/-- Behind the tests: a shift, no number, a number. -/
def tailW (s : Srt) (b imm : Int) : Int × Bool :=
  if s.shift = true then (bits .or .u32 b (imm % 4294967296 * 1048576 % 4294967296), decide (0 ≤ imm) && decide (imm < 32))
  else if s.form = 0 then (b, imm == 0)
  else (bits .or .u32 b (ImmP.putS s.form imm).1, (ImmP.putS s.form imm).2)
def Bounds (s : Srt) (i : Ins) : Prop := 0 ≤ s.low ∧ s.low < 128 ∧ 0 ≤ s.three ∧ s.three < 8 ∧ 0 ≤ s.seven ∧ s.seven < 128 ∧ 0 ≤ i.rd ∧ i.rd < 32 ∧ 0 ≤ i.rs1 ∧ i.rs1 < 32 ∧ 0 ≤ i.rs2 ∧ i.rs2 < 32
set_option maxHeartbeats 8000000 in
set_option maxRecDepth 100000 in
theorem word_in (i : Ins) (s : Srt) (hs : ofS i.op = s) (hok : ofOk i.op = true) (h1 : fitsB i.rd s.d = true) (h2 : fitsB i.rs1 s.a = true) (h3 : fitsB i.rs2 s.b = true) (hf : s.form = 0 ∨ (1 ≤ s.form ∧ s.form ≤ 5)) (hsh : s.shift = true → 0 ≤ i.imm ∧ i.imm < 32) (w : World) (hb : Bounds s i) :
    Calls Try.prog 86 #[iv i] w fun e w' => e = .returned (.tuple #[.int .u32 (tailW s (base s i) i.imm).1, .bool (tailW s (base s i) i.imm).2]) ∧ Below w.heap.size w w' := by
  obtain ⟨op, rd, rs1, rs2, imm⟩ := i
  obtain ⟨low, three, seven, form, d, a, b, shift⟩ := s
  unfold Bounds at hb
  dsimp only at *
  have hof := of_calls op
  rw [hs, hok] at hof
  have ho := of_decide_eq_true hok
  have o47 : (op == 47) = false := by rw [beq_eq_false_iff_ne]; omega
  have o48 : (op == 48) = false := by rw [beq_eq_false_iff_ne]; omega
  have Hof := Lib.hid hof
  have Hb := Lib.hid (base_or low three seven rd rs1 rs2 hb)
  clear hof hs hok
  unfold iv
  dsimp only
  cases shift
  · rcases hf with h0 | hf
    · have hform : (form == 0) = true := by rw [h0]; rfl
      have Hf := Lib.hid h0
      clear h0
      go_enter Try.func86, Try.ntmps86
      go_wp2_with (first
        | (go_at_call 116; refine (Hof.out _).mono ?_; rintro e w' ⟨rfl, hB⟩; have hx := heap_below hB (heap_at _ _ _ rfl); have hz := lt_of_heap hx; have cx := cell_of_heap hx; clear hx; unfold sv; dsimp only)
        | (go_at_call 119; refine (fits_calls _ _ _ (by assumption) _).mono ?_; rintro e w' ⟨rfl, rfl⟩))
      go_quiet (fail)
      go_wp2
      go_ret2
      refine ⟨?_, ?_⟩
      · rw [Hb.out]; simp [tailW, base, Hf.out]
      · (repeat' (first | (with_reducible first | exact Below.refl _ _ | refine blQ ?_ _ | refine Below.drew ?_ | refine blO ?_ (by assumption) | refine Below.alloc ?_ ?_ _ | refine Below.setCell ?_ ?_ _ | refine Below.frame ?_ _) | omega | (simp only [zA, zS, zD, zQ]; omega)))
    · have hform : (form == 0) = false := by rw [beq_eq_false_iff_ne]; omega
      obtain ⟨k, hk⟩ := (ImmP.put_ev form imm hf).rounds
      have hp1 : (ImmP.putS form imm).1 = (ImmP.putS form imm).1 := rfl
      generalize hpr : ImmP.putS form imm = pr at hk
      obtain ⟨pn, pok⟩ := pr
      have Hp := Lib.hid hk
      have Hpr := Lib.hid hpr
      clear hk hpr hp1
      go_enter Try.func86, Try.ntmps86
      go_wp2_with (first
        | (go_at_call 116; refine (Hof.out _).mono ?_; rintro e w' ⟨rfl, hB⟩; have hx := heap_below hB (heap_at _ _ _ rfl); have hz := lt_of_heap hx; have cx := cell_of_heap hx; clear hx; unfold sv; dsimp only)
        | (go_at_call 119; refine (fits_calls _ _ _ (by assumption) _).mono ?_; rintro e w' ⟨rfl, rfl⟩)
        | (go_at_call 120; refine (PCpu.imm_Put.calls k _ _ _ _ _ Hp.out).mono ?_; rintro e w' ⟨rfl, hB2⟩))
      go_ret2
      refine ⟨?_, ?_⟩
      · rw [Hb.out]
        have hne : form ≠ 0 := by omega
        simp [tailW, base, hne, Hpr.out]
      · (repeat' (first | (with_reducible first | exact Below.refl _ _ | refine blQ ?_ _ | refine Below.drew ?_ | refine blO ?_ (by assumption) | refine Below.alloc ?_ ?_ _ | refine Below.setCell ?_ ?_ _ | refine Below.frame ?_ _) | omega | (simp only [zA, zS, zD, zQ]; omega)))
  · have hi : 0 ≤ imm ∧ imm < 32 := hsh rfl
    have hd : decide (0 ≤ imm) = true := decide_eq_true hi.1
    have hd2 : decide (imm < 32) = true := decide_eq_true hi.2
    have Hi := Lib.hid hi
    clear hi hsh hf
    go_enter Try.func86, Try.ntmps86
    go_wp2_with (first
      | (go_at_call 116; refine (Hof.out _).mono ?_; rintro e w' ⟨rfl, hB⟩; have hx := heap_below hB (heap_at _ _ _ rfl); have hz := lt_of_heap hx; have cx := cell_of_heap hx; clear hx; unfold sv; dsimp only)
      | (go_at_call 119; refine (fits_calls _ _ _ (by assumption) _).mono ?_; rintro e w' ⟨rfl, rfl⟩))
    go_quiet (fail)
    go_wp2
    go_ret2
    refine ⟨?_, ?_⟩
    · rw [Hb.out]; simp [tailW, base, Hi.out.1, Hi.out.2]
    · (repeat' (first | (with_reducible first | exact Below.refl _ _ | refine blQ ?_ _ | refine Below.drew ?_ | refine blO ?_ (by assumption) | refine Below.alloc ?_ ?_ _ | refine Below.setCell ?_ ?_ _ | refine Below.frame ?_ _) | omega | (simp only [zA, zS, zD, zQ]; omega)))
end Go.Proofs.Ytioopcilcgebeaa.InstA
