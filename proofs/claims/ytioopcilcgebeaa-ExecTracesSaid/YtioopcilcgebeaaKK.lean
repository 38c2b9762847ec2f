/- Proofs of this claim's family, merged: RefB, RefE. -/
import Derived.Test.YtioopcilcgebeaaKG
import Derived.Test.YtioopcilcgebeaaKH
import Derived.Test.YtioopcilcgebeaaKI
import Derived.Test.YtioopcilcgebeaaKJ
import Derived.Test.YtioopcilcgebeaaKF
import Derived.Test.YtioopcilcgebeaaKP2
set_option linter.unusedVariables false
set_option linter.unusedSimpArgs false
/-! #### RefB -/
namespace Go.Proofs.Ytioopcilcgebeaa.RefA
open Go.RowKit Go.Proofs.Ytioopcilcgebeaa.Base Go.Proofs.Ytioopcilcgebeaa.InstS
set_option maxHeartbeats 4000000 in
set_option maxRecDepth 100000 in
theorem of_calls (op : Int) (w : World) : Calls Try.prog 65 #[.int .i64 op] w fun e w' => e = .returned (.tuple #[rv (ofS op), .bool (ofOk op)]) ∧ Below w.heap.size w w' := by
  by_cases h : 1 ≤ op ∧ op ≤ 46
  · obtain ⟨n, hn⟩ : ∃ n : Nat, op = (n : Int) + 1 := ⟨(op - 1).toNat, by omega⟩
    subst hn
    have hl : n < 46 := by omega
    have e : ofOk ((n : Int) + 1) = true := decide_eq_true h
    have e2 : ofS ((n : Int) + 1) = tab.getD n noS := by
      unfold ofS
      rw [if_pos (by omega)]
      congr 1
      omega
    rw [e, e2]
    rcases (by omega : n < 8 ∨ (8 ≤ n ∧ n < 16) ∨ (16 ≤ n ∧ n < 24) ∨ (24 ≤ n ∧ n < 32) ∨ (32 ≤ n ∧ n < 40) ∨ (40 ≤ n ∧ n < 46)) with h | h | h | h | h | h
    · exact of_0 n (by omega) w
    · exact of_1 n (by omega) w
    · exact of_2 n (by omega) w
    · exact of_3 n (by omega) w
    · exact of_4 n (by omega) w
    · exact of_5 n (by omega) w
  · have e : ofOk op = false := decide_eq_false h
    have e2 : ofS op = noS := by unfold ofS; rw [if_neg h]
    rw [e, e2]
    rcases (by omega : op < 1 ∨ 46 < op) with h1 | h1
    all_goals
      go_enter Try.func65, Try.ntmps65
      go_wp2
      all_goals
        refine post_res (B := fun w' => Below w.heap.size w w') ?_ rfl ?_
        · (repeat' (first | (with_reducible first | exact Below.refl _ _ | refine blQ ?_ _ | refine Below.drew ?_ | refine blO ?_ (by assumption) | refine Below.alloc ?_ ?_ _ | refine Below.setCell ?_ ?_ _ | refine Below.frame ?_ _) | omega | (simp only [zA, zS, zD, zQ]; omega)))
        · apply res_at (n := w.heap.size)
          (focus (repeat' (first | (with_reducible first | assumption | exact hpA _ _ _ rfl | refine hpN ?_ | refine hpD ?_) | ((with_reducible first | refine hpP ?_ ?_ | refine hpT ?_ ?_); (focus (first | omega | (simp [zA, zS, zD, zQ] <;> omega)))) | ((with_reducible refine hpA _ _ _ ?_); (focus (first | omega | (simp [zA, zS, zD, zQ] <;> omega)))) | ((with_reducible refine hpB ?_ ?_); (focus assumption)) | (with_reducible apply hpS))))
          intro W' cw
          simp at cw
          simp [results, Try.results65, go_sem, rv, noS, cw]
end Go.Proofs.Ytioopcilcgebeaa.RefA
/-! #### RefE -/
namespace Go.Proofs.Ytioopcilcgebeaa.RefA
open Go.RowKit Go.Proofs.Ytioopcilcgebeaa.Base Go.Proofs.Ytioopcilcgebeaa.InstS Go.Proofs.YtioopcilcgebeaaW.PrintWords
open Go.Proofs.Ytioopcilcgebeaa.InstA (iv base Bounds K1 K2 K3 K4 K5 K6 Lim)

def regS (n : Int) (has : Bool) : Bool := decide (0 ≤ n ∧ n < 32 ∧ (has = true ∨ n = 0))
theorem reg_calls (n : Int) (has b : Bool) (h : regS n has = b) (w : World) : Calls Try.prog 66 #[.int .i64 n, .bool has] w fun e w' => e = .returned (.bool b) ∧ w' = w := by
  subst h
  by_cases h1 : 0 ≤ n
  · by_cases h2 : n < 32
    · have d1 : decide (0 ≤ n) = true := decide_eq_true h1
      have d2 : decide (n < 32) = true := decide_eq_true h2
      cases has
      · go_enter Try.func66, Try.ntmps66
        go_wp2
        go_ret
        exact ⟨by simp [regS, h1, h2]; rfl, rfl⟩
      · go_enter Try.func66, Try.ntmps66
        go_wp2
        go_ret
        exact ⟨by simp [regS, h1, h2], rfl⟩
    · have d1 : decide (0 ≤ n) = true := decide_eq_true h1
      have d2 : decide (n < 32) = false := decide_eq_false h2
      go_enter Try.func66, Try.ntmps66
      go_wp2
      go_ret
      exact ⟨by rw [show regS n has = false from decide_eq_false (by omega)]; rfl, rfl⟩
  · have d1 : decide (0 ≤ n) = false := decide_eq_false h1
    go_enter Try.func66, Try.ntmps66
    go_wp2
    go_ret
    exact ⟨by rw [show regS n has = false from decide_eq_false (by omega)]; rfl, rfl⟩
/-- The number's part of a word, and whether it has one. -/
def numR (s : Srt) (imm : Int) : Int × Bool :=
  if s.shift = true then (imm % 4294967296 * 1048576 % 4294967296, decide (0 ≤ imm ∧ imm < 32))
  else if s.form = 0 then (0, decide (imm = 0)) else ImmP.putS s.form imm
def endR (b : Int) (p : Int × Bool) : Int × Bool := if p.2 = true then ((b + p.1) % 4294967296, true) else (0, false)
set_option maxHeartbeats 8000000 in
set_option maxRecDepth 100000 in
theorem enc_in (i : Ins) (s : Srt) (hs : ofS i.op = s) (hok : ofOk i.op = true) (h1 : regS i.rd s.d = true) (h2 : regS i.rs1 s.a = true) (h3 : regS i.rs2 s.b = true) (lim : Lim s) (hf : (s.shift = false ∧ 1 ≤ s.form ∧ s.form ≤ 5) ∨ s.form = 0) (w : World) :
    Calls Try.prog 32 #[iv i] w fun e w' => e = .returned (.tuple #[.int .u32 (endR (base s i) (numR s i.imm)).1, .bool (endR (base s i) (numR s i.imm)).2]) ∧ Below w.heap.size w w' := by
  obtain ⟨op, rd, rs1, rs2, imm⟩ := i
  obtain ⟨low, three, seven, form, d, a, b, shift⟩ := s
  dsimp only at *
  have hof := of_calls op
  rw [hs, hok] at hof
  have ho := of_decide_eq_true hok
  have o47 : (op == 47) = false := by rw [beq_eq_false_iff_ne]; omega
  have o48 : (op == 48) = false := by rw [beq_eq_false_iff_ne]; omega
  have Hof := Lib.hid hof
  have b1 := of_decide_eq_true h1
  have b2 := of_decide_eq_true h2
  have b3 := of_decide_eq_true h3
  simp only [Lim] at lim
  clear hof hs hok
  unfold iv
  dsimp only
  rcases hf with ⟨rfl, hf⟩ | rfl
  · have f0 : (form == 0) = false := by rw [beq_eq_false_iff_ne]; omega
    have f6 : (form == 6) = false := by rw [beq_eq_false_iff_ne]; omega
    have hp := put_calls form imm hf
    generalize hpr : ImmP.putS form imm = pr at hp
    obtain ⟨pn, pok⟩ := pr
    have Hp := Lib.hid hp
    have Hpr := Lib.hid hpr
    clear hpr hp
    go_enter Try.func32, Try.ntmps32
    go_wp2_with (first
      | (go_at_call 65; refine (Hof.out _).mono ?_; rintro e w' ⟨rfl, hB⟩; apply kept_block hB (n := w.heap.size); (focus (repeat' (first | (with_reducible first | assumption | exact hpA _ _ _ rfl | refine hpN ?_ | refine hpD ?_) | ((with_reducible first | refine hpP ?_ ?_ | refine hpT ?_ ?_); (focus (first | omega | (simp [zA, zS, zD, zQ] <;> omega)))) | ((with_reducible refine hpA _ _ _ ?_); (focus (first | omega | (simp [zA, zS, zD, zQ] <;> omega)))) | ((with_reducible refine hpB ?_ ?_); (focus assumption)) | (with_reducible apply hpS)))); intro cr fr hr hz; simp at cr; unfold rv; dsimp only)
      | (go_at_call 66; refine (reg_calls _ _ _ (by assumption) _).mono ?_; rintro e w' ⟨rfl, rfl⟩)
      | (go_at_call 67; refine (Hp.out _).mono ?_; rintro e w' ⟨rfl, hB2⟩; apply kept_block hB2 (n := w.heap.size); (focus (repeat' (first | (with_reducible first | assumption | exact hpA _ _ _ rfl | refine hpN ?_ | refine hpD ?_) | ((with_reducible first | refine hpP ?_ ?_ | refine hpT ?_ ?_); (focus (first | omega | (simp [zA, zS, zD, zQ] <;> omega)))) | ((with_reducible refine hpA _ _ _ ?_); (focus (first | omega | (simp [zA, zS, zD, zQ] <;> omega)))) | ((with_reducible refine hpB ?_ ?_); (focus assumption)) | (with_reducible apply hpS)))); intro cr2 fr2 hr2 hz2; simp at cr2; apply kept_block hB2; (focus (repeat' (first | (with_reducible first | assumption | exact hpA _ _ _ rfl | refine hpN ?_ | refine hpD ?_) | ((with_reducible first | refine hpP ?_ ?_ | refine hpT ?_ ?_); (focus (first | omega | (simp [zA, zS, zD, zQ] <;> omega)))) | ((with_reducible refine hpA _ _ _ ?_); (focus (first | omega | (simp [zA, zS, zD, zQ] <;> omega)))) | ((with_reducible refine hpB ?_ ?_); (focus assumption)) | (with_reducible apply hpS)))); intro cx fx hx hzx; simp at cx))
    · go_ret2
      refine ⟨?_, ?_⟩
      · have hne : form ≠ 0 := by omega
        simp_all [numR, endR, base, Hpr.out]
      · (repeat' (first | (with_reducible first | exact Below.refl _ _ | refine blQ ?_ _ | refine Below.drew ?_ | refine blO ?_ (by assumption) | refine Below.alloc ?_ ?_ _ | refine Below.setCell ?_ ?_ _ | refine Below.frame ?_ _) | omega | (simp only [zA, zS, zD, zQ]; omega)))
    · go_ret2
      refine ⟨?_, ?_⟩
      · have hne : form ≠ 0 := by omega
        simp_all [numR, endR, base, Hpr.out]
      · (repeat' (first | (with_reducible first | exact Below.refl _ _ | refine blQ ?_ _ | refine Below.drew ?_ | refine blO ?_ (by assumption) | refine Below.alloc ?_ ?_ _ | refine Below.setCell ?_ ?_ _ | refine Below.frame ?_ _) | omega | (simp only [zA, zS, zD, zQ]; omega)))
  · have hp0 := put_none 0 imm (.inl rfl)
    have hp6 := put_none 6 imm (.inr rfl)
    have Hp0 := Lib.hid hp0
    have Hp6 := Lib.hid hp6
    clear hp0 hp6
    cases shift
    · go_enter Try.func32, Try.ntmps32
      go_wp2_with (first
        | (go_at_call 65; refine (Hof.out _).mono ?_; rintro e w' ⟨rfl, hB⟩; apply kept_block hB (n := w.heap.size); (focus (repeat' (first | (with_reducible first | assumption | exact hpA _ _ _ rfl | refine hpN ?_ | refine hpD ?_) | ((with_reducible first | refine hpP ?_ ?_ | refine hpT ?_ ?_); (focus (first | omega | (simp [zA, zS, zD, zQ] <;> omega)))) | ((with_reducible refine hpA _ _ _ ?_); (focus (first | omega | (simp [zA, zS, zD, zQ] <;> omega)))) | ((with_reducible refine hpB ?_ ?_); (focus assumption)) | (with_reducible apply hpS)))); intro cr fr hr hz; simp at cr; unfold rv; dsimp only)
        | (go_at_call 66; refine (reg_calls _ _ _ (by assumption) _).mono ?_; rintro e w' ⟨rfl, rfl⟩)
        | (go_at_call 67; refine (Hp0.out _).mono ?_; rintro e w' ⟨rfl, hB2⟩; apply kept_block hB2 (n := w.heap.size); (focus (repeat' (first | (with_reducible first | assumption | exact hpA _ _ _ rfl | refine hpN ?_ | refine hpD ?_) | ((with_reducible first | refine hpP ?_ ?_ | refine hpT ?_ ?_); (focus (first | omega | (simp [zA, zS, zD, zQ] <;> omega)))) | ((with_reducible refine hpA _ _ _ ?_); (focus (first | omega | (simp [zA, zS, zD, zQ] <;> omega)))) | ((with_reducible refine hpB ?_ ?_); (focus assumption)) | (with_reducible apply hpS)))); intro cr2 fr2 hr2 hz2; simp at cr2; apply kept_block hB2; (focus (repeat' (first | (with_reducible first | assumption | exact hpA _ _ _ rfl | refine hpN ?_ | refine hpD ?_) | ((with_reducible first | refine hpP ?_ ?_ | refine hpT ?_ ?_); (focus (first | omega | (simp [zA, zS, zD, zQ] <;> omega)))) | ((with_reducible refine hpA _ _ _ ?_); (focus (first | omega | (simp [zA, zS, zD, zQ] <;> omega)))) | ((with_reducible refine hpB ?_ ?_); (focus assumption)) | (with_reducible apply hpS)))); intro cx fx hx hzx; simp at cx))
      go_quiet (fail)
      go_wp2
      all_goals
        go_ret2
        refine ⟨?_, ?_⟩
        · simp_all [numR, endR, base] <;> omega
        · (repeat' (first | (with_reducible first | exact Below.refl _ _ | refine blQ ?_ _ | refine Below.drew ?_ | refine blO ?_ (by assumption) | refine Below.alloc ?_ ?_ _ | refine Below.setCell ?_ ?_ _ | refine Below.frame ?_ _) | omega | (simp only [zA, zS, zD, zQ]; omega)))
    · by_cases q1 : 0 ≤ imm
      · have d1 : decide (0 ≤ imm) = true := decide_eq_true q1
        by_cases q2 : imm < 32
        · have d2 : decide (imm < 32) = true := decide_eq_true q2
          go_enter Try.func32, Try.ntmps32
          go_wp2_with (first
            | (go_at_call 65; refine (Hof.out _).mono ?_; rintro e w' ⟨rfl, hB⟩; apply kept_block hB (n := w.heap.size); (focus (repeat' (first | (with_reducible first | assumption | exact hpA _ _ _ rfl | refine hpN ?_ | refine hpD ?_) | ((with_reducible first | refine hpP ?_ ?_ | refine hpT ?_ ?_); (focus (first | omega | (simp [zA, zS, zD, zQ] <;> omega)))) | ((with_reducible refine hpA _ _ _ ?_); (focus (first | omega | (simp [zA, zS, zD, zQ] <;> omega)))) | ((with_reducible refine hpB ?_ ?_); (focus assumption)) | (with_reducible apply hpS)))); intro cr fr hr hz; simp at cr; unfold rv; dsimp only [if_true])
            | (go_at_call 66; refine (reg_calls _ _ _ (by assumption) _).mono ?_; rintro e w' ⟨rfl, rfl⟩)
            | (go_at_call 67; refine (Hp6.out _).mono ?_; rintro e w' ⟨rfl, hB2⟩; apply kept_block hB2 (n := w.heap.size); (focus (repeat' (first | (with_reducible first | assumption | exact hpA _ _ _ rfl | refine hpN ?_ | refine hpD ?_) | ((with_reducible first | refine hpP ?_ ?_ | refine hpT ?_ ?_); (focus (first | omega | (simp [zA, zS, zD, zQ] <;> omega)))) | ((with_reducible refine hpA _ _ _ ?_); (focus (first | omega | (simp [zA, zS, zD, zQ] <;> omega)))) | ((with_reducible refine hpB ?_ ?_); (focus assumption)) | (with_reducible apply hpS)))); intro cr2 fr2 hr2 hz2; simp at cr2; apply kept_block hB2; (focus (repeat' (first | (with_reducible first | assumption | exact hpA _ _ _ rfl | refine hpN ?_ | refine hpD ?_) | ((with_reducible first | refine hpP ?_ ?_ | refine hpT ?_ ?_); (focus (first | omega | (simp [zA, zS, zD, zQ] <;> omega)))) | ((with_reducible refine hpA _ _ _ ?_); (focus (first | omega | (simp [zA, zS, zD, zQ] <;> omega)))) | ((with_reducible refine hpB ?_ ?_); (focus assumption)) | (with_reducible apply hpS)))); intro cx fx hx hzx; simp at cx))
          go_quiet (fail)
          go_wp2
          all_goals
            go_ret2
            refine ⟨?_, ?_⟩
            · simp_all [numR, endR, base] <;> omega
            · (repeat' (first | (with_reducible first | exact Below.refl _ _ | refine blQ ?_ _ | refine Below.drew ?_ | refine blO ?_ (by assumption) | refine Below.alloc ?_ ?_ _ | refine Below.setCell ?_ ?_ _ | refine Below.frame ?_ _) | omega | (simp only [zA, zS, zD, zQ]; omega)))
        · have d2 : decide (imm < 32) = false := decide_eq_false q2
          go_enter Try.func32, Try.ntmps32
          go_wp2_with (first
            | (go_at_call 65; refine (Hof.out _).mono ?_; rintro e w' ⟨rfl, hB⟩; apply kept_block hB (n := w.heap.size); (focus (repeat' (first | (with_reducible first | assumption | exact hpA _ _ _ rfl | refine hpN ?_ | refine hpD ?_) | ((with_reducible first | refine hpP ?_ ?_ | refine hpT ?_ ?_); (focus (first | omega | (simp [zA, zS, zD, zQ] <;> omega)))) | ((with_reducible refine hpA _ _ _ ?_); (focus (first | omega | (simp [zA, zS, zD, zQ] <;> omega)))) | ((with_reducible refine hpB ?_ ?_); (focus assumption)) | (with_reducible apply hpS)))); intro cr fr hr hz; simp at cr; unfold rv; dsimp only [if_true])
            | (go_at_call 66; refine (reg_calls _ _ _ (by assumption) _).mono ?_; rintro e w' ⟨rfl, rfl⟩)
            | (go_at_call 67; refine (Hp6.out _).mono ?_; rintro e w' ⟨rfl, hB2⟩; apply kept_block hB2 (n := w.heap.size); (focus (repeat' (first | (with_reducible first | assumption | exact hpA _ _ _ rfl | refine hpN ?_ | refine hpD ?_) | ((with_reducible first | refine hpP ?_ ?_ | refine hpT ?_ ?_); (focus (first | omega | (simp [zA, zS, zD, zQ] <;> omega)))) | ((with_reducible refine hpA _ _ _ ?_); (focus (first | omega | (simp [zA, zS, zD, zQ] <;> omega)))) | ((with_reducible refine hpB ?_ ?_); (focus assumption)) | (with_reducible apply hpS)))); intro cr2 fr2 hr2 hz2; simp at cr2; apply kept_block hB2; (focus (repeat' (first | (with_reducible first | assumption | exact hpA _ _ _ rfl | refine hpN ?_ | refine hpD ?_) | ((with_reducible first | refine hpP ?_ ?_ | refine hpT ?_ ?_); (focus (first | omega | (simp [zA, zS, zD, zQ] <;> omega)))) | ((with_reducible refine hpA _ _ _ ?_); (focus (first | omega | (simp [zA, zS, zD, zQ] <;> omega)))) | ((with_reducible refine hpB ?_ ?_); (focus assumption)) | (with_reducible apply hpS)))); intro cx fx hx hzx; simp at cx))
          go_quiet (fail)
          go_wp2
          all_goals
            go_ret2
            refine ⟨?_, ?_⟩
            · have q3 : decide (0 ≤ imm ∧ imm < 32) = false := decide_eq_false (by omega)
              rw [show ∀ B, endR B (numR ⟨low, three, seven, 0, d, a, b, true⟩ imm) = (0, false) from fun B => by unfold endR numR; rw [if_pos rfl, q3]; rfl]
              rfl
            · (repeat' (first | (with_reducible first | exact Below.refl _ _ | refine blQ ?_ _ | refine Below.drew ?_ | refine blO ?_ (by assumption) | refine Below.alloc ?_ ?_ _ | refine Below.setCell ?_ ?_ _ | refine Below.frame ?_ _) | omega | (simp only [zA, zS, zD, zQ]; omega)))
      · have d1 : decide (0 ≤ imm) = false := decide_eq_false q1
        go_enter Try.func32, Try.ntmps32
        go_wp2_with (first
          | (go_at_call 65; refine (Hof.out _).mono ?_; rintro e w' ⟨rfl, hB⟩; apply kept_block hB (n := w.heap.size); (focus (repeat' (first | (with_reducible first | assumption | exact hpA _ _ _ rfl | refine hpN ?_ | refine hpD ?_) | ((with_reducible first | refine hpP ?_ ?_ | refine hpT ?_ ?_); (focus (first | omega | (simp [zA, zS, zD, zQ] <;> omega)))) | ((with_reducible refine hpA _ _ _ ?_); (focus (first | omega | (simp [zA, zS, zD, zQ] <;> omega)))) | ((with_reducible refine hpB ?_ ?_); (focus assumption)) | (with_reducible apply hpS)))); intro cr fr hr hz; simp at cr; unfold rv; dsimp only [if_true])
          | (go_at_call 66; refine (reg_calls _ _ _ (by assumption) _).mono ?_; rintro e w' ⟨rfl, rfl⟩)
          | (go_at_call 67; refine (Hp6.out _).mono ?_; rintro e w' ⟨rfl, hB2⟩; apply kept_block hB2 (n := w.heap.size); (focus (repeat' (first | (with_reducible first | assumption | exact hpA _ _ _ rfl | refine hpN ?_ | refine hpD ?_) | ((with_reducible first | refine hpP ?_ ?_ | refine hpT ?_ ?_); (focus (first | omega | (simp [zA, zS, zD, zQ] <;> omega)))) | ((with_reducible refine hpA _ _ _ ?_); (focus (first | omega | (simp [zA, zS, zD, zQ] <;> omega)))) | ((with_reducible refine hpB ?_ ?_); (focus assumption)) | (with_reducible apply hpS)))); intro cr2 fr2 hr2 hz2; simp at cr2; apply kept_block hB2; (focus (repeat' (first | (with_reducible first | assumption | exact hpA _ _ _ rfl | refine hpN ?_ | refine hpD ?_) | ((with_reducible first | refine hpP ?_ ?_ | refine hpT ?_ ?_); (focus (first | omega | (simp [zA, zS, zD, zQ] <;> omega)))) | ((with_reducible refine hpA _ _ _ ?_); (focus (first | omega | (simp [zA, zS, zD, zQ] <;> omega)))) | ((with_reducible refine hpB ?_ ?_); (focus assumption)) | (with_reducible apply hpS)))); intro cx fx hx hzx; simp at cx))
        go_quiet (fail)
        go_wp2
        all_goals
          go_ret2
          refine ⟨?_, ?_⟩
          · have q3 : decide (0 ≤ imm ∧ imm < 32) = false := decide_eq_false (by omega)
            rw [show ∀ B, endR B (numR ⟨low, three, seven, 0, d, a, b, true⟩ imm) = (0, false) from fun B => by unfold endR numR; rw [if_pos rfl, q3]; rfl]
            rfl
          · (repeat' (first | (with_reducible first | exact Below.refl _ _ | refine blQ ?_ _ | refine Below.drew ?_ | refine blO ?_ (by assumption) | refine Below.alloc ?_ ?_ _ | refine Below.setCell ?_ ?_ _ | refine Below.frame ?_ _) | omega | (simp only [zA, zS, zD, zQ]; omega)))
end Go.Proofs.Ytioopcilcgebeaa.RefA
