/- Proofs of this claim's family, merged: RefF, LawQ. -/
import Derived.Test.YtioopcilcgebeaaKK
import Derived.Test.YtioopcilcgebeaaKFn
set_option linter.unusedVariables false
set_option linter.unusedSimpArgs false
/-! #### RefF -/
namespace Go.Proofs.Ytioopcilcgebeaa.RefA
open Go.RowKit Go.Proofs.Ytioopcilcgebeaa.Base Go.Proofs.Ytioopcilcgebeaa.InstS Go.Proofs.YtioopcilcgebeaaW.PrintWords
open Go.Proofs.Ytioopcilcgebeaa.InstA (iv base Bounds K1 K2 K3 K4 K5 K6 Lim madeS kinds_of Hit likeS maskS put_get)

set_option maxHeartbeats 4000000 in
theorem renc (k x : Int) (hk : 1 ≤ k ∧ k ≤ 46) (h0 : 0 ≤ x) (h : x < 4294967296) : ∃ v, endR (base (ofS k) (madeS k (ofS k) x)) (numR (ofS k) (madeS k (ofS k) x).imm) = (v, true) ∧ (v = x ↔ Hit k x) := by
  have kk := kinds_of k hk
  unfold Hit
  generalize ofS k = s at *
  obtain ⟨low, three, seven, form, d, a, b, shift⟩ := s
  simp only [likeS, decide_eq_true_eq]
  obtain ⟨lim, kk⟩ := kk
  simp only [Lim] at lim
  simp only [K1, K2, K3, K4, K5, K6] at kk
  rcases kk with ⟨ho, kk | kk | kk | kk | kk⟩ | ⟨ho, kk⟩
  · obtain ⟨rfl, rfl, rfl, rfl, rfl⟩ := kk
    have e : ImmP.getS 0 x = 0 := rfl
    simp only [endR, numR, base, madeS, if_true, Bool.false_eq_true, if_false, e, decide_true]
    refine ⟨_, rfl, ?_⟩
    omega
  · obtain ⟨rfl, rfl, rfl, rfl, rfl⟩ := kk
    have q : decide (0 ≤ x / 1048576 % 32 ∧ x / 1048576 % 32 < 32) = true := decide_eq_true (by omega)
    simp only [endR, numR, base, madeS, if_true, Bool.false_eq_true, if_false, q]
    refine ⟨_, rfl, ?_⟩
    omega
  · obtain ⟨rfl, rfl, rfl, rfl, rfl, rfl⟩ := kk
    simp only [endR, numR, base, madeS, if_true, Bool.false_eq_true, if_false, put_get 1 x (by omega) h0 h, Int.reduceEq]
    refine ⟨_, rfl, ?_⟩
    simp only [maskS, if_true, ne_eq, not_false_eq_true, false_or, true_or, and_true]
    rw [Int.emod_eq_of_lt (by omega) (by omega)]
    omega
  · obtain ⟨hf, rfl, rfl, rfl, rfl, rfl⟩ := kk
    have hf0 : form ≠ 0 := by omega
    simp only [endR, numR, base, madeS, if_true, Bool.false_eq_true, if_false, put_get form x (by omega) h0 h, hf0]
    refine ⟨_, rfl, ?_⟩
    have em : maskS form x = x / 33554432 * 33554432 + x / 128 % 32 * 128 := by unfold maskS; rw [if_neg (by omega), if_pos hf]
    rw [em]
    omega
  · obtain ⟨hf, rfl, rfl, rfl, rfl, rfl, rfl⟩ := kk
    have hf0 : form ≠ 0 := by omega
    simp only [endR, numR, base, madeS, if_true, Bool.false_eq_true, if_false, put_get form x (by omega) h0 h, hf0]
    refine ⟨_, rfl, ?_⟩
    have em : maskS form x = x / 4096 * 4096 := by unfold maskS; rw [if_neg (by omega), if_neg (by omega)]
    rw [em]
    omega
  · obtain ⟨rfl, rfl, rfl, rfl, rfl, rfl, rfl⟩ := kk
    simp only [endR, numR, base, madeS, if_true, Bool.false_eq_true, if_false, put_get 1 x (by omega) h0 h, Int.reduceEq]
    refine ⟨_, rfl, ?_⟩
    simp only [maskS, if_true, ne_eq, not_false_eq_true, false_or, true_or, and_true]
    rw [Int.emod_eq_of_lt (by omega) (by omega)]
    omega
set_option maxHeartbeats 4000000 in
set_option maxRecDepth 100000 in
theorem enc_sys (op : Int) (h : op = 47 ∨ op = 48) (w : World) : Calls Try.prog 32 #[iv ⟨op, 0, 0, 0, 0⟩] w fun e w' => e = .returned (.tuple #[.int .u32 (115 + (op - 47) * 1048576), .bool true]) ∧ Below w.heap.size w w' := by
  unfold iv
  rcases h with rfl | rfl
  all_goals
    go_enter Try.func32, Try.ntmps32
    go_wp2
    go_ret2
    refine ⟨rfl, ?_⟩
    (repeat' (first | (with_reducible first | exact Below.refl _ _ | refine blQ ?_ _ | refine Below.drew ?_ | refine blO ?_ (by assumption) | refine Below.alloc ?_ ?_ _ | refine Below.setCell ?_ ?_ _ | refine Below.frame ?_ _) | omega | (simp only [zA, zS, zD, zQ]; omega)))
end Go.Proofs.Ytioopcilcgebeaa.RefA
/-! #### LawQ -/
namespace Go.Proofs.Ytioopcilcgebeaa.RefA
open Go.RowKit Go.Proofs.Ytioopcilcgebeaa.Base Go.Proofs.Ytioopcilcgebeaa.InstS Go.Proofs.YtioopcilcgebeaaW.PrintWords
open Go.Proofs.Ytioopcilcgebeaa.InstA (iv base Bounds K1 K2 K3 K4 K5 K6 Lim madeS kinds_of)

def EncPost (i : Ins) (w : World) (e : Ending) (w' : World) : Prop := ∃ x ok, e = .returned (.tuple #[.int .u32 x, .bool ok]) ∧ (0 ≤ x ∧ x < 4294967296) ∧ (ok = true → 0 ≤ i.rs1 ∧ i.rs1 < 32 ∧ 0 ≤ i.rs2 ∧ i.rs2 < 32) ∧ Below w.heap.size w w'
set_option maxHeartbeats 8000000 in
set_option maxRecDepth 100000 in
theorem enc_sys0 (op rd rs1 rs2 imm : Int) (h : op = 47 ∨ op = 48) (z : ¬ (rd = 0 ∧ rs1 = 0 ∧ rs2 = 0 ∧ imm = 0)) (w : World) : Calls Try.prog 32 #[iv ⟨op, rd, rs1, rs2, imm⟩] w (EncPost ⟨op, rd, rs1, rs2, imm⟩ w) := by
  unfold iv
  by_cases a : rd = 0
  · subst a
    by_cases b : rs1 = 0
    · subst b
      by_cases c : rs2 = 0
      · subst c
        have d : (imm != 0) = true := by rw [bne_iff_ne]; exact fun e => z ⟨rfl, rfl, rfl, e⟩
        clear z
        rcases h with rfl | rfl
        all_goals
          go_enter Try.func32, Try.ntmps32
          go_wp2
          go_returns
          exact ⟨0, false, by simp, by omega, by simp, by (repeat' (first | (with_reducible first | exact Below.refl _ _ | refine blQ ?_ _ | refine Below.drew ?_ | refine blO ?_ (by assumption) | refine Below.alloc ?_ ?_ _ | refine Below.setCell ?_ ?_ _ | refine Below.frame ?_ _) | omega | (simp only [zA, zS, zD, zQ]; omega)))⟩
      · have d : (rs2 != 0) = true := by rw [bne_iff_ne]; exact c
        clear z c
        rcases h with rfl | rfl
        all_goals
          go_enter Try.func32, Try.ntmps32
          go_wp2
          go_returns
          exact ⟨0, false, by simp, by omega, by simp, by (repeat' (first | (with_reducible first | exact Below.refl _ _ | refine blQ ?_ _ | refine Below.drew ?_ | refine blO ?_ (by assumption) | refine Below.alloc ?_ ?_ _ | refine Below.setCell ?_ ?_ _ | refine Below.frame ?_ _) | omega | (simp only [zA, zS, zD, zQ]; omega)))⟩
    · have d : (rs1 != 0) = true := by rw [bne_iff_ne]; exact b
      clear z b
      rcases h with rfl | rfl
      all_goals
        go_enter Try.func32, Try.ntmps32
        go_wp2
        go_returns
        exact ⟨0, false, by simp, by omega, by simp, by (repeat' (first | (with_reducible first | exact Below.refl _ _ | refine blQ ?_ _ | refine Below.drew ?_ | refine blO ?_ (by assumption) | refine Below.alloc ?_ ?_ _ | refine Below.setCell ?_ ?_ _ | refine Below.frame ?_ _) | omega | (simp only [zA, zS, zD, zQ]; omega)))⟩
  · have d : (rd != 0) = true := by rw [bne_iff_ne]; exact a
    clear z a
    rcases h with rfl | rfl
    all_goals
      go_enter Try.func32, Try.ntmps32
      go_wp2
      go_returns
      exact ⟨0, false, by simp, by omega, by simp, by (repeat' (first | (with_reducible first | exact Below.refl _ _ | refine blQ ?_ _ | refine Below.drew ?_ | refine blO ?_ (by assumption) | refine Below.alloc ?_ ?_ _ | refine Below.setCell ?_ ?_ _ | refine Below.frame ?_ _) | omega | (simp only [zA, zS, zD, zQ]; omega)))⟩
set_option maxHeartbeats 8000000 in
set_option maxRecDepth 100000 in
theorem enc_off (op rd rs1 rs2 imm : Int) (o47 : (op == 47) = false) (o48 : (op == 48) = false) (h : ofOk op = false ∨ regS rd (ofS op).d = false ∨ regS rs1 (ofS op).a = false ∨ regS rs2 (ofS op).b = false) (w : World) :
    Calls Try.prog 32 #[iv ⟨op, rd, rs1, rs2, imm⟩] w (EncPost ⟨op, rd, rs1, rs2, imm⟩ w) := by
  have hof := of_calls op
  obtain ⟨k, hk⟩ : ∃ k, ofOk op = k := ⟨_, rfl⟩
  rw [hk] at hof h
  generalize ofS op = s at *
  obtain ⟨low, three, seven, form, d, a, b, shift⟩ := s
  dsimp only at h
  have Hof := Lib.hid hof
  obtain ⟨k1, h1⟩ : ∃ k, regS rd d = k := ⟨_, rfl⟩
  obtain ⟨k2, h2⟩ : ∃ k, regS rs1 a = k := ⟨_, rfl⟩
  obtain ⟨k3, h3⟩ : ∃ k, regS rs2 b = k := ⟨_, rfl⟩
  rw [h1, h2, h3] at h
  have H1 := Lib.hid (reg_calls rd d k1 h1)
  have H2 := Lib.hid (reg_calls rs1 a k2 h2)
  have H3 := Lib.hid (reg_calls rs2 b k3 h3)
  clear hof hk h1 h2 h3
  unfold iv
  cases k
  · clear h
    go_enter Try.func32, Try.ntmps32
    go_wp2_with (first
      | (go_at_call 65; (with_reducible refine (Hof.out _).mono ?_); rintro e w' ⟨rfl, hB⟩; apply kept_block hB (n := w.heap.size); (focus (repeat' (first | (with_reducible first | assumption | exact hpA _ _ _ rfl | refine hpN ?_ | refine hpD ?_) | ((with_reducible first | refine hpP ?_ ?_ | refine hpT ?_ ?_); (focus (first | omega | (simp [zA, zS, zD, zQ] <;> omega)))) | ((with_reducible refine hpA _ _ _ ?_); (focus (first | omega | (simp [zA, zS, zD, zQ] <;> omega)))) | ((with_reducible refine hpB ?_ ?_); (focus assumption)) | (with_reducible apply hpS)))); intro cr fr hr hz; simp at cr; unfold rv; dsimp only))
    all_goals
      go_returns
      exact ⟨0, false, by simp, by omega, by simp, by (repeat' (first | (with_reducible first | exact Below.refl _ _ | refine blQ ?_ _ | refine Below.drew ?_ | refine blO ?_ (by assumption) | refine Below.alloc ?_ ?_ _ | refine Below.setCell ?_ ?_ _ | refine Below.frame ?_ _) | omega | (simp only [zA, zS, zD, zQ]; omega)))⟩
  · cases k1
    · clear h
      go_enter Try.func32, Try.ntmps32
      go_wp2_with (first
        | (go_at_call 65; (with_reducible refine (Hof.out _).mono ?_); rintro e w' ⟨rfl, hB⟩; apply kept_block hB (n := w.heap.size); (focus (repeat' (first | (with_reducible first | assumption | exact hpA _ _ _ rfl | refine hpN ?_ | refine hpD ?_) | ((with_reducible first | refine hpP ?_ ?_ | refine hpT ?_ ?_); (focus (first | omega | (simp [zA, zS, zD, zQ] <;> omega)))) | ((with_reducible refine hpA _ _ _ ?_); (focus (first | omega | (simp [zA, zS, zD, zQ] <;> omega)))) | ((with_reducible refine hpB ?_ ?_); (focus assumption)) | (with_reducible apply hpS)))); intro cr fr hr hz; simp at cr; unfold rv; dsimp only)
        | (go_at_call 66; (with_reducible refine (H1.out _).mono ?_); rintro e w' ⟨rfl, rfl⟩))
      all_goals
        go_returns
        exact ⟨0, false, by simp, by omega, by simp, by (repeat' (first | (with_reducible first | exact Below.refl _ _ | refine blQ ?_ _ | refine Below.drew ?_ | refine blO ?_ (by assumption) | refine Below.alloc ?_ ?_ _ | refine Below.setCell ?_ ?_ _ | refine Below.frame ?_ _) | omega | (simp only [zA, zS, zD, zQ]; omega)))⟩
    · cases k2
      · clear h
        go_enter Try.func32, Try.ntmps32
        go_wp2_with (first
          | (go_at_call 65; (with_reducible refine (Hof.out _).mono ?_); rintro e w' ⟨rfl, hB⟩; apply kept_block hB (n := w.heap.size); (focus (repeat' (first | (with_reducible first | assumption | exact hpA _ _ _ rfl | refine hpN ?_ | refine hpD ?_) | ((with_reducible first | refine hpP ?_ ?_ | refine hpT ?_ ?_); (focus (first | omega | (simp [zA, zS, zD, zQ] <;> omega)))) | ((with_reducible refine hpA _ _ _ ?_); (focus (first | omega | (simp [zA, zS, zD, zQ] <;> omega)))) | ((with_reducible refine hpB ?_ ?_); (focus assumption)) | (with_reducible apply hpS)))); intro cr fr hr hz; simp at cr; unfold rv; dsimp only)
          | (go_at_call 66; (with_reducible refine (H1.out _).mono ?_); rintro e w' ⟨rfl, rfl⟩)
          | (go_at_call 66; (with_reducible refine (H2.out _).mono ?_); rintro e w' ⟨rfl, rfl⟩))
        all_goals
          go_returns
          exact ⟨0, false, by simp, by omega, by simp, by (repeat' (first | (with_reducible first | exact Below.refl _ _ | refine blQ ?_ _ | refine Below.drew ?_ | refine blO ?_ (by assumption) | refine Below.alloc ?_ ?_ _ | refine Below.setCell ?_ ?_ _ | refine Below.frame ?_ _) | omega | (simp only [zA, zS, zD, zQ]; omega)))⟩
      · cases k3
        · clear h
          go_enter Try.func32, Try.ntmps32
          go_wp2_with (first
            | (go_at_call 65; (with_reducible refine (Hof.out _).mono ?_); rintro e w' ⟨rfl, hB⟩; apply kept_block hB (n := w.heap.size); (focus (repeat' (first | (with_reducible first | assumption | exact hpA _ _ _ rfl | refine hpN ?_ | refine hpD ?_) | ((with_reducible first | refine hpP ?_ ?_ | refine hpT ?_ ?_); (focus (first | omega | (simp [zA, zS, zD, zQ] <;> omega)))) | ((with_reducible refine hpA _ _ _ ?_); (focus (first | omega | (simp [zA, zS, zD, zQ] <;> omega)))) | ((with_reducible refine hpB ?_ ?_); (focus assumption)) | (with_reducible apply hpS)))); intro cr fr hr hz; simp at cr; unfold rv; dsimp only)
            | (go_at_call 66; (with_reducible refine (H1.out _).mono ?_); rintro e w' ⟨rfl, rfl⟩)
            | (go_at_call 66; (with_reducible refine (H2.out _).mono ?_); rintro e w' ⟨rfl, rfl⟩)
            | (go_at_call 66; (with_reducible refine (H3.out _).mono ?_); rintro e w' ⟨rfl, rfl⟩))
          all_goals
            go_returns
            exact ⟨0, false, by simp, by omega, by simp, by (repeat' (first | (with_reducible first | exact Below.refl _ _ | refine blQ ?_ _ | refine Below.drew ?_ | refine blO ?_ (by assumption) | refine Below.alloc ?_ ?_ _ | refine Below.setCell ?_ ?_ _ | refine Below.frame ?_ _) | omega | (simp only [zA, zS, zD, zQ]; omega)))⟩
        · simp at h
theorem endR_bd (b : Int) (p : Int × Bool) : 0 ≤ (endR b p).1 ∧ (endR b p).1 < 4294967296 := by
  unfold endR
  split
  · dsimp only; omega
  · dsimp only; omega
/-- Encode of any instruction: a word of 32 bits; where it is one the registers that are read are below 32. -/
theorem renc_all (i : Ins) (w : World) : Calls Try.prog 32 #[iv i] w (EncPost i w) := by
  obtain ⟨op, rd, rs1, rs2, imm⟩ := i
  by_cases hsys : op = 47 ∨ op = 48
  · by_cases z : rd = 0 ∧ rs1 = 0 ∧ rs2 = 0 ∧ imm = 0
    · obtain ⟨rfl, rfl, rfl, rfl⟩ := z
      exact (enc_sys op hsys w).mono fun e w' h => ⟨_, _, h.1, by omega, fun _ => by dsimp only; omega, h.2⟩
    · exact enc_sys0 op rd rs1 rs2 imm hsys z w
  · have o47 : (op == 47) = false := by rw [beq_eq_false_iff_ne]; omega
    have o48 : (op == 48) = false := by rw [beq_eq_false_iff_ne]; omega
    by_cases h : ofOk op = false ∨ regS rd (ofS op).d = false ∨ regS rs1 (ofS op).a = false ∨ regS rs2 (ofS op).b = false
    · exact enc_off op rd rs1 rs2 imm o47 o48 h w
    · simp only [not_or, Bool.not_eq_false] at h
      obtain ⟨h0, h1, h2, h3⟩ := h
      have kk := kinds_of op (of_decide_eq_true h0)
      have hf : ((ofS op).shift = false ∧ 1 ≤ (ofS op).form ∧ (ofS op).form ≤ 5) ∨ (ofS op).form = 0 := by
        generalize ofS op = s at *
        simp only [K1, K2, K3, K4, K5, K6] at kk
        rcases kk.2 with ⟨_, k | k | k | k | k⟩ | ⟨_, k⟩
        · exact .inr k.1
        · exact .inr k.1
        · exact .inl ⟨k.2.2.2.2.1, by omega, by omega⟩
        · exact .inl ⟨k.2.2.2.2.1, by omega, by omega⟩
        · exact .inl ⟨k.2.2.2.2.1, by omega, by omega⟩
        · exact .inl ⟨k.2.2.2.2.1, by omega, by omega⟩
      refine (enc_in ⟨op, rd, rs1, rs2, imm⟩ (ofS op) rfl h0 h1 h2 h3 kk.1 hf w).mono fun e w' hh => ⟨_, _, hh.1, endR_bd _ _, fun _ => ?_, hh.2⟩
      have b2 := of_decide_eq_true h2
      have b3 := of_decide_eq_true h3
      exact ⟨b2.1, b2.2.1, b3.1, b3.2.1⟩
end Go.Proofs.Ytioopcilcgebeaa.RefA
