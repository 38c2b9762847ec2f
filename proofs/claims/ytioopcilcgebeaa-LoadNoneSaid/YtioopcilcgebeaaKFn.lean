/- Proofs of this claim's family, merged: InstN, InstF. -/
import Derived.Test.YtioopcilcgebeaaKF
import Derived.Test.YtioopcilcgebeaaKP2
set_option linter.unusedVariables false
set_option linter.unusedSimpArgs false
/-! #### InstN -/
namespace Go.Proofs.Ytioopcilcgebeaa.InstA
open Go.RowKit Go.Proofs.Ytioopcilcgebeaa.InstS Go.Proofs.Ytioopcilcgebeaa.BitsP Go.Proofs.YtioopcilcgebeaaW.PrintMore Go.Proofs.YtioopcilcgebeaaW.PrintWords

def dec (x : Int) : Option Ins :=
  if x = 115 then some ⟨47, 0, 0, 0, 0⟩ else if x = 1048691 then some ⟨48, 0, 0, 0, 0⟩
  else ((List.range 46).find? (fun (n : Nat) => decide (Hit ((n : Int) + 1) x))).map fun (n : Nat) => madeS ((n : Int) + 1) (ofS ((n : Int) + 1)) x
def decV : Option Ins → Value
  | some i => .tuple #[iv i, .bool true]
  | none => .tuple #[iv ⟨0, 0, 0, 0, 0⟩, .bool false]
theorem dec_at (op x : Int) (h : 1 ≤ op ∧ op ≤ 46) (h1 : x ≠ 115) (h2 : x ≠ 1048691) (hh : Hit op x) (hn : ∀ o, 1 ≤ o → o < op → ¬ Hit o x) : dec x = some (madeS op (ofS op) x) := by
  unfold dec
  rw [if_neg h1, if_neg h2]
  have e : (List.range 46).find? (fun (n : Nat) => decide (Hit ((n : Int) + 1) x)) = some (op - 1).toNat := by
    rw [List.find?_range_eq_some]
    refine ⟨?_, ?_, ?_⟩
    · simp only [decide_eq_true_eq]
      rw [show (((op - 1).toNat : Nat) : Int) + 1 = op by omega]
      exact hh
    · simp only [List.mem_range]; omega
    · intro j hj
      have := hn ((j : Int) + 1) (by omega) (by omega)
      simp [this]
  rw [e]
  simp only [Option.map_some, Option.some.injEq]
  rw [show (((op - 1).toNat : Nat) : Int) + 1 = op by omega]
theorem dec_none (x : Int) (h1 : x ≠ 115) (h2 : x ≠ 1048691) (hn : ∀ o, 1 ≤ o → o ≤ 46 → ¬ Hit o x) : dec x = none := by
  unfold dec
  rw [if_neg h1, if_neg h2]
  have e : (List.range 46).find? (fun (n : Nat) => decide (Hit ((n : Int) + 1) x)) = none := by
    rw [List.find?_eq_none]
    intro n hm
    have hl := List.mem_range.1 hm
    have := hn ((n : Int) + 1) (by omega) (by omega)
    simp [this]
  rw [e]
  rfl
theorem low_range (L : Int) (a b : Nat) (hd : ∀ n : Fin 46, (tab.getD n.val noS).low = L → a ≤ n.val + 1 ∧ n.val + 1 ≤ b) (op : Int) (h : 1 ≤ op ∧ op ≤ 46) (hl : (ofS op).low = L) : (a : Int) ≤ op ∧ op ≤ b := by
  have e : ofS op = tab.getD (op - 1).toNat noS := by unfold ofS; rw [if_pos h]
  have k := hd ⟨(op - 1).toNat, by omega⟩ (by rw [← e]; exact hl)
  simp only at k
  omega
theorem low_none (op : Int) (h : 1 ≤ op ∧ op ≤ 46) : (ofS op).low = 51 ∨ (ofS op).low = 19 ∨ (ofS op).low = 3 ∨ (ofS op).low = 35 ∨ (ofS op).low = 99 ∨ (ofS op).low = 55 ∨ (ofS op).low = 23 ∨ (ofS op).low = 111 ∨ (ofS op).low = 103 ∨ (ofS op).low = 15 := by
  have e : ofS op = tab.getD (op - 1).toNat noS := by unfold ofS; rw [if_pos h]
  have k : ∀ n : Fin 46, (tab.getD n.val noS).low = 51 ∨ (tab.getD n.val noS).low = 19 ∨ (tab.getD n.val noS).low = 3 ∨ (tab.getD n.val noS).low = 35 ∨ (tab.getD n.val noS).low = 99 ∨ (tab.getD n.val noS).low = 55 ∨ (tab.getD n.val noS).low = 23 ∨ (tab.getD n.val noS).low = 111 ∨ (tab.getD n.val noS).low = 103 ∨ (tab.getD n.val noS).low = 15 := by decide +kernel
  rw [e]
  exact k ⟨(op - 1).toNat, by omega⟩
theorem among_spec (x : Int) (h0 : 0 ≤ x) (h : x < 4294967296) : ∃ r1 r2, PCpu.inst_among.f x = some (r1, r2) ∧ ((r1 = 0 ∧ r2 = 0) ∨ (1 ≤ r1 ∧ r1 ≤ r2 ∧ r2 ≤ 46)) ∧ ∀ op, 1 ≤ op → op ≤ 46 → (ofS op).low = x % 128 → r1 ≤ op ∧ op ≤ r2 ∧ 1 ≤ r1 := by
  have e := and_mask x 7 (by omega) h0 h
  simp only [Int.reducePow, Int.reduceSub] at e
  unfold PCpu.inst_among.f
  rw [e]
  have K : ∀ (L : Int) (a b : Nat), (∀ n : Fin 46, (tab.getD n.val noS).low = L → a ≤ n.val + 1 ∧ n.val + 1 ≤ b) → 1 ≤ a → a ≤ b → b ≤ 46 → x % 128 = L →
      ∃ r1 r2, (some ((a : Int), (b : Int)) : Option (Int × Int)) = some (r1, r2) ∧ ((r1 = 0 ∧ r2 = 0) ∨ (1 ≤ r1 ∧ r1 ≤ r2 ∧ r2 ≤ 46)) ∧ ∀ op, 1 ≤ op → op ≤ 46 → (ofS op).low = x % 128 → r1 ≤ op ∧ op ≤ r2 ∧ 1 ≤ r1 := by
    intro L a b hd h1 h2 h3 hL
    refine ⟨_, _, rfl, .inr (by omega), fun op k1 k2 hl => ?_⟩
    have := low_range L a b hd op ⟨k1, k2⟩ (by rw [hl, hL])
    omega
  split
  · exact K 51 1 18 (by decide +kernel) (by omega) (by omega) (by omega) (by assumption)
  split
  · exact K 19 19 27 (by decide +kernel) (by omega) (by omega) (by omega) (by assumption)
  split
  · exact K 3 28 32 (by decide +kernel) (by omega) (by omega) (by omega) (by assumption)
  split
  · exact K 35 33 35 (by decide +kernel) (by omega) (by omega) (by omega) (by assumption)
  split
  · exact K 99 36 41 (by decide +kernel) (by omega) (by omega) (by omega) (by assumption)
  split
  · exact K 55 42 42 (by decide +kernel) (by omega) (by omega) (by omega) (by assumption)
  split
  · exact K 23 43 43 (by decide +kernel) (by omega) (by omega) (by omega) (by assumption)
  split
  · exact K 111 44 44 (by decide +kernel) (by omega) (by omega) (by omega) (by assumption)
  split
  · exact K 103 45 45 (by decide +kernel) (by omega) (by omega) (by omega) (by assumption)
  split
  · exact K 15 46 46 (by decide +kernel) (by omega) (by omega) (by omega) (by assumption)
  · refine ⟨0, 0, rfl, .inl ⟨rfl, rfl⟩, fun op k1 k2 hl => ?_⟩
    have := low_none op ⟨k1, k2⟩
    omega
end Go.Proofs.Ytioopcilcgebeaa.InstA
/-! #### InstF -/
namespace Go.Proofs.Ytioopcilcgebeaa.InstA
open Go.RowKit Go.Proofs.Ytioopcilcgebeaa.Base Go.Proofs.Ytioopcilcgebeaa.InstS Go.Proofs.YtioopcilcgebeaaW.PrintWords

theorem round_facts (k x : Int) (hk : 1 ≤ k ∧ k ≤ 46) (h0 : 0 ≤ x) (h : x < 4294967296) : ∃ o rd rs1 rs2 imm, madeS k (ofS k) x = ⟨o, rd, rs1, rs2, imm⟩ ∧
    (∀ w, Calls Try.prog 84 #[.int .i64 k, .int .u32 x] w fun e w' => e = .returned (.bool (likeS (ofS k) x)) ∧ Below w.heap.size w w') ∧
    (∀ w, Calls Try.prog 85 #[.int .i64 k, .int .u32 x] w fun e w' => e = .returned (.agg #[.int .i64 o, .int .i64 rd, .int .i64 rs1, .int .i64 rs2, .int .i32 imm]) ∧ Below w.heap.size w w') ∧
    (likeS (ofS k) x = true → ∃ v, (v = x ↔ Hit k x) ∧ ∀ w, Calls Try.prog 86 #[.agg #[.int .i64 o, .int .i64 rd, .int .i64 rs1, .int .i64 rs2, .int .i32 imm]] w fun e w' => e = .returned (.tuple #[.int .u32 v, .bool true]) ∧ Below w.heap.size w w') := by
  have hs := kinds_of k hk
  have hok : ofOk k = true := decide_eq_true hk
  obtain ⟨lim, hs⟩ := hs
  have hkind : Kinds (ofS k) ∧ ((ofS k).form = 0 ∨ (1 ≤ (ofS k).form ∧ (ofS k).form ≤ 5)) := by
    unfold Kinds
    simp only [K1, K2, K3, K4, K5, K6] at hs
    rcases hs with ⟨_, h | h | h | h | h⟩ | ⟨_, h⟩ <;> (refine ⟨?_, by omega⟩; simp [h])
  refine ⟨_, _, _, _, _, rfl, fun w => like_in k _ _ _ rfl rfl x h0 h rfl w, fun w => made_in k _ _ rfl rfl hkind.1 hkind.2 x h0 h w, fun hl => ?_⟩
  obtain ⟨v, hv, hi⟩ := word_made k x hk h0 h hl
  refine ⟨v, hi, fun w => ?_⟩
  have hb : Bounds (ofS k) (madeS k (ofS k) x) := by
    simp only [Lim] at lim
    simp only [Bounds, madeS]
    refine ⟨lim.1, lim.2.1, lim.2.2.1, lim.2.2.2.1, lim.2.2.2.2.1, lim.2.2.2.2.2, ?_, ?_, ?_, ?_, ?_, ?_⟩ <;> split <;> omega
  have fits : ∀ (b : Bool) (n : Int), 0 ≤ n → n < 32 → fitsB (if b = true then n else 0) b = true := by
    intro b n hn hn2
    cases b
    · rfl
    · simp [fitsB]; omega
  have := word_in (madeS k (ofS k) x) (ofS k) rfl hok (fits _ _ (by omega) (by omega)) (fits _ _ (by omega) (by omega)) (fits _ _ (by omega) (by omega)) hkind.2 (fun hsh => by simp only [madeS, hsh, if_true]; omega) w hb
  rw [hv] at this
  exact this
set_option maxHeartbeats 4000000 in
set_option maxRecDepth 100000 in
theorem decode_calls (x : Int) (h0 : 0 ≤ x) (h : x < 4294967296) (w : World) :
    Calls Try.prog 57 #[.int .u32 x] w fun e w' => e = .returned (decV (dec x)) ∧ Below w.heap.size w w' := by
  obtain ⟨r1, r2, hr, hrr, hlow⟩ := among_spec x h0 h
  have Hr := Lib.hid hr
  have Hlow := Lib.hid hlow
  have Hf := Lib.hid (fun k hk => round_facts k x hk h0 h)
  clear hr hlow
  go_enter Try.func57, Try.ntmps57
  go_wp2_with (first
      | (go_at_call 83; refine (PCpu.inst_among.calls _ _ _ _ Hr.out).mono ?_; rintro e w' ⟨rfl, hB⟩; obtain ⟨nq, rfl⟩ := hB.out))
  · have hx : x = 115 := by simpa using (by assumption : (x == 115) = true)
    rw [show dec x = some ⟨47, 0, 0, 0, 0⟩ by rw [hx]; rfl]
    refine post_res (B := fun w' => Below w.heap.size w w') ?_ rfl ?_
    · (repeat' (first | (with_reducible first | exact Below.refl _ _ | refine blQ ?_ _ | refine Below.drew ?_ | refine blO ?_ (by assumption) | refine Below.alloc ?_ ?_ _ | refine Below.setCell ?_ ?_ _ | refine Below.frame ?_ _) | omega | (simp only [zA, zS, zD, zQ]; omega)))
    · apply res_at (n := w.heap.size)
      (focus (repeat' (first | (with_reducible first | assumption | exact hpA _ _ _ rfl | refine hpN ?_ | refine hpD ?_) | ((with_reducible first | refine hpP ?_ ?_ | refine hpT ?_ ?_); (focus (first | omega | (simp [zA, zS, zD, zQ] <;> omega)))) | ((with_reducible refine hpA _ _ _ ?_); (focus (first | omega | (simp [zA, zS, zD, zQ] <;> omega)))) | ((with_reducible refine hpB ?_ ?_); (focus assumption)) | (with_reducible apply hpS))))
      intro W' cw
      simp at cw
      simp [results, Try.results57, go_sem, iv, decV, cw]
  · have hx : x = 1048691 := by simpa using (by assumption : (x == 1048691) = true)
    rw [show dec x = some ⟨48, 0, 0, 0, 0⟩ by rw [hx]; rfl]
    refine post_res (B := fun w' => Below w.heap.size w w') ?_ rfl ?_
    · (repeat' (first | (with_reducible first | exact Below.refl _ _ | refine blQ ?_ _ | refine Below.drew ?_ | refine blO ?_ (by assumption) | refine Below.alloc ?_ ?_ _ | refine Below.setCell ?_ ?_ _ | refine Below.frame ?_ _) | omega | (simp only [zA, zS, zD, zQ]; omega)))
    · apply res_at (n := w.heap.size)
      (focus (repeat' (first | (with_reducible first | assumption | exact hpA _ _ _ rfl | refine hpN ?_ | refine hpD ?_) | ((with_reducible first | refine hpP ?_ ?_ | refine hpT ?_ ?_); (focus (first | omega | (simp [zA, zS, zD, zQ] <;> omega)))) | ((with_reducible refine hpA _ _ _ ?_); (focus (first | omega | (simp [zA, zS, zD, zQ] <;> omega)))) | ((with_reducible refine hpB ?_ ?_); (focus assumption)) | (with_reducible apply hpS))))
      intro W' cw
      simp at cw
      simp [results, Try.results57, go_sem, iv, decV, cw]
  · go_loopw [6] (fun j wr => ∃ k : Int, r1 ≤ k ∧ k ≤ r2 + 1 ∧ j = .int .i64 k ∧ Below w.heap.size w wr ∧ wr.heap[w.heap.size]? = some (.cells #[.int .i64 0, .int .i64 0, .int .i64 0, .int .i64 0, .int .i32 0] 58 (0, 0)) ∧ (∀ o, r1 ≤ o → o < k → ¬ Hit o x)) (fun j _ => (r2 + 1 - intOf j).toNat)
    case atStart =>
      refine ⟨r1, by omega, by omega, rfl, by (repeat' (first | (with_reducible first | exact Below.refl _ _ | refine blQ ?_ _ | refine Below.drew ?_ | refine blO ?_ (by assumption) | refine Below.alloc ?_ ?_ _ | refine Below.setCell ?_ ?_ _ | refine Below.frame ?_ _) | omega | (simp only [zA, zS, zD, zQ]; omega))), ?_, fun o h1 h2 => by omega⟩
      (repeat' (first | (with_reducible first | assumption | exact hpA _ _ _ rfl | refine hpN ?_ | refine hpD ?_) | ((with_reducible first | refine hpP ?_ ?_ | refine hpT ?_ ?_); (focus (first | omega | (simp [zA, zS, zD, zQ] <;> omega)))) | ((with_reducible refine hpA _ _ _ ?_); (focus (first | omega | (simp [zA, zS, zD, zQ] <;> omega)))) | ((with_reducible refine hpB ?_ ?_); (focus assumption)) | (with_reducible apply hpS)))
    case round =>
      obtain ⟨k, hk1, hk2, rfl, hB, hx, hno⟩ := hrel
      have Hno := Lib.hid hno
      have cx := cell_of_heap hx
      have fx := frozen_of_heap hx
      have hz := lt_of_heap hx
      simp at cx
      clear hno
      have x115 : x ≠ 115 := by
        have : (x == 115) = false := by assumption
        simpa using this
      have x48 : x ≠ 1048691 := by
        have : (x == 1048691) = false := by assumption
        simpa using this
      by_cases hk : 0 < k ∧ k ≤ r2
      · have hd1 : decide (0 < k) = true := decide_eq_true hk.1
        have hd2 : decide (k ≤ r2) = true := decide_eq_true hk.2
        obtain ⟨o, rd, rs1, rs2, imm, hM, H84, H85, H86⟩ := Hf.out k (by omega)
        replace H84 := Lib.hid H84
        replace H85 := Lib.hid H85
        have HM := Lib.hid hM
        clear hM
        by_cases hl : likeS (ofS k) x = true
        · rw [hl] at H84
          obtain ⟨v, hv, H86⟩ := H86 hl
          replace H86 := Lib.hid H86
          have Hv := Lib.hid hv
          clear hv
          by_cases hvx : v = x
          · have hvb : (v == x) = true := by simpa using hvx
            have Hvx := Lib.hid hvx
            clear hvx
            go_wp2_with (first
              | (go_at_call 84; refine (H84.out _).mono ?_; rintro e w' ⟨rfl, hB1⟩; apply kept_block hB1 (n := w.heap.size); (focus (repeat' (first | (with_reducible first | assumption | exact hpA _ _ _ rfl | refine hpN ?_ | refine hpD ?_) | ((with_reducible first | refine hpP ?_ ?_ | refine hpT ?_ ?_); (focus (first | omega | (simp [zA, zS, zD, zQ] <;> omega)))) | ((with_reducible refine hpA _ _ _ ?_); (focus (first | omega | (simp [zA, zS, zD, zQ] <;> omega)))) | ((with_reducible refine hpB ?_ ?_); (focus assumption)) | (with_reducible apply hpS)))); intro cr1 fr1 hr1 hz1; simp at cr1)
              | (go_at_call 85; refine (H85.out _).mono ?_; rintro e w' ⟨rfl, hB2⟩; apply kept_block hB2 (n := w.heap.size); (focus (repeat' (first | (with_reducible first | assumption | exact hpA _ _ _ rfl | refine hpN ?_ | refine hpD ?_) | ((with_reducible first | refine hpP ?_ ?_ | refine hpT ?_ ?_); (focus (first | omega | (simp [zA, zS, zD, zQ] <;> omega)))) | ((with_reducible refine hpA _ _ _ ?_); (focus (first | omega | (simp [zA, zS, zD, zQ] <;> omega)))) | ((with_reducible refine hpB ?_ ?_); (focus assumption)) | (with_reducible apply hpS)))); intro cr2 fr2 hr2 hz2; simp at cr2)
              | (go_at_call 86; refine (H86.out _).mono ?_; rintro e w' ⟨rfl, hB3⟩; apply kept_block hB3 (n := w.heap.size); (focus (repeat' (first | (with_reducible first | assumption | exact hpA _ _ _ rfl | refine hpN ?_ | refine hpD ?_) | ((with_reducible first | refine hpP ?_ ?_ | refine hpT ?_ ?_); (focus (first | omega | (simp [zA, zS, zD, zQ] <;> omega)))) | ((with_reducible refine hpA _ _ _ ?_); (focus (first | omega | (simp [zA, zS, zD, zQ] <;> omega)))) | ((with_reducible refine hpB ?_ ?_); (focus assumption)) | (with_reducible apply hpS)))); intro cr3 fr3 hr3 hz3; simp at cr3; apply kept_block hB3; (focus (repeat' (first | (with_reducible first | assumption | exact hpA _ _ _ rfl | refine hpN ?_ | refine hpD ?_) | ((with_reducible first | refine hpP ?_ ?_ | refine hpT ?_ ?_); (focus (first | omega | (simp [zA, zS, zD, zQ] <;> omega)))) | ((with_reducible refine hpA _ _ _ ?_); (focus (first | omega | (simp [zA, zS, zD, zQ] <;> omega)))) | ((with_reducible refine hpB ?_ ?_); (focus assumption)) | (with_reducible apply hpS)))); intro cr4 fr4 hr4 hz4; simp at cr4))
            refine post_res (B := fun w' => Below w.heap.size w w') ?_ rfl ?_
            · (repeat' (first | (with_reducible first | exact Below.refl _ _ | refine blQ ?_ _ | refine Below.drew ?_ | refine blO ?_ (by assumption) | refine Below.alloc ?_ ?_ _ | refine Below.setCell ?_ ?_ _ | refine Below.frame ?_ _) | omega | (simp only [zA, zS, zD, zQ]; omega)))
            · rw [dec_at k x (by omega) x115 x48 (Hv.out.1 Hvx.out) (fun o' g1 g2 hh => by
                by_cases g : r1 ≤ o'
                · exact Hno.out o' g g2 hh
                · have := Hlow.out o' g1 (by omega) hh.1.symm; omega), HM.out]
              apply res_at (n := w.heap.size)
              (focus (repeat' (first | (with_reducible first | assumption | exact hpA _ _ _ rfl | refine hpN ?_ | refine hpD ?_) | ((with_reducible first | refine hpP ?_ ?_ | refine hpT ?_ ?_); (focus (first | omega | (simp [zA, zS, zD, zQ] <;> omega)))) | ((with_reducible refine hpA _ _ _ ?_); (focus (first | omega | (simp [zA, zS, zD, zQ] <;> omega)))) | ((with_reducible refine hpB ?_ ?_); (focus assumption)) | (with_reducible apply hpS))))
              intro W' cw
              simp at cw
              simp [results, Try.results57, go_sem, iv, decV, cw]
          · have hvb : (v == x) = false := by simpa using hvx
            have Hvx := Lib.hid hvx
            clear hvx
            go_wp2_with (first
              | (go_at_call 84; refine (H84.out _).mono ?_; rintro e w' ⟨rfl, hB1⟩; apply kept_block hB1 (n := w.heap.size); (focus (repeat' (first | (with_reducible first | assumption | exact hpA _ _ _ rfl | refine hpN ?_ | refine hpD ?_) | ((with_reducible first | refine hpP ?_ ?_ | refine hpT ?_ ?_); (focus (first | omega | (simp [zA, zS, zD, zQ] <;> omega)))) | ((with_reducible refine hpA _ _ _ ?_); (focus (first | omega | (simp [zA, zS, zD, zQ] <;> omega)))) | ((with_reducible refine hpB ?_ ?_); (focus assumption)) | (with_reducible apply hpS)))); intro cr1 fr1 hr1 hz1; simp at cr1)
              | (go_at_call 85; refine (H85.out _).mono ?_; rintro e w' ⟨rfl, hB2⟩; apply kept_block hB2 (n := w.heap.size); (focus (repeat' (first | (with_reducible first | assumption | exact hpA _ _ _ rfl | refine hpN ?_ | refine hpD ?_) | ((with_reducible first | refine hpP ?_ ?_ | refine hpT ?_ ?_); (focus (first | omega | (simp [zA, zS, zD, zQ] <;> omega)))) | ((with_reducible refine hpA _ _ _ ?_); (focus (first | omega | (simp [zA, zS, zD, zQ] <;> omega)))) | ((with_reducible refine hpB ?_ ?_); (focus assumption)) | (with_reducible apply hpS)))); intro cr2 fr2 hr2 hz2; simp at cr2)
              | (go_at_call 86; refine (H86.out _).mono ?_; rintro e w' ⟨rfl, hB3⟩; apply kept_block hB3 (n := w.heap.size); (focus (repeat' (first | (with_reducible first | assumption | exact hpA _ _ _ rfl | refine hpN ?_ | refine hpD ?_) | ((with_reducible first | refine hpP ?_ ?_ | refine hpT ?_ ?_); (focus (first | omega | (simp [zA, zS, zD, zQ] <;> omega)))) | ((with_reducible refine hpA _ _ _ ?_); (focus (first | omega | (simp [zA, zS, zD, zQ] <;> omega)))) | ((with_reducible refine hpB ?_ ?_); (focus assumption)) | (with_reducible apply hpS)))); intro cr3 fr3 hr3 hz3; simp at cr3; apply kept_block hB3; (focus (repeat' (first | (with_reducible first | assumption | exact hpA _ _ _ rfl | refine hpN ?_ | refine hpD ?_) | ((with_reducible first | refine hpP ?_ ?_ | refine hpT ?_ ?_); (focus (first | omega | (simp [zA, zS, zD, zQ] <;> omega)))) | ((with_reducible refine hpA _ _ _ ?_); (focus (first | omega | (simp [zA, zS, zD, zQ] <;> omega)))) | ((with_reducible refine hpB ?_ ?_); (focus assumption)) | (with_reducible apply hpS)))); intro cr4 fr4 hr4 hz4; simp at cr4))
            go_roundw
            case rel =>
              refine ⟨k + 1, by omega, by omega, by go_num, by (repeat' (first | (with_reducible first | exact Below.refl _ _ | refine blQ ?_ _ | refine Below.drew ?_ | refine blO ?_ (by assumption) | refine Below.alloc ?_ ?_ _ | refine Below.setCell ?_ ?_ _ | refine Below.frame ?_ _) | omega | (simp only [zA, zS, zD, zQ]; omega))), ?_, fun o' g1 g2 hh => ?_⟩
              · (repeat' (first | (with_reducible first | assumption | exact hpA _ _ _ rfl | refine hpN ?_ | refine hpD ?_) | ((with_reducible first | refine hpP ?_ ?_ | refine hpT ?_ ?_); (focus (first | omega | (simp [zA, zS, zD, zQ] <;> omega)))) | ((with_reducible refine hpA _ _ _ ?_); (focus (first | omega | (simp [zA, zS, zD, zQ] <;> omega)))) | ((with_reducible refine hpB ?_ ?_); (focus assumption)) | (with_reducible apply hpS)))
              · by_cases g : o' = k
                · subst g; exact Hvx.out (Hv.out.2 hh)
                · exact Hno.out o' g1 (by omega) hh
            case measure => simp [intOf]; omega
        · have hlb : likeS (ofS k) x = false := by simpa using hl
          rw [hlb] at H84
          have Hl := Lib.hid hl
          clear hl hlb H86
          go_wp2_with (first
              | (go_at_call 84; refine (H84.out _).mono ?_; rintro e w' ⟨rfl, hB1⟩; apply kept_block hB1 (n := w.heap.size); (focus (repeat' (first | (with_reducible first | assumption | exact hpA _ _ _ rfl | refine hpN ?_ | refine hpD ?_) | ((with_reducible first | refine hpP ?_ ?_ | refine hpT ?_ ?_); (focus (first | omega | (simp [zA, zS, zD, zQ] <;> omega)))) | ((with_reducible refine hpA _ _ _ ?_); (focus (first | omega | (simp [zA, zS, zD, zQ] <;> omega)))) | ((with_reducible refine hpB ?_ ?_); (focus assumption)) | (with_reducible apply hpS)))); intro cr1 fr1 hr1 hz1; simp at cr1)
              | (go_at_call 85; refine (H85.out _).mono ?_; rintro e w' ⟨rfl, hB2⟩; apply kept_block hB2 (n := w.heap.size); (focus (repeat' (first | (with_reducible first | assumption | exact hpA _ _ _ rfl | refine hpN ?_ | refine hpD ?_) | ((with_reducible first | refine hpP ?_ ?_ | refine hpT ?_ ?_); (focus (first | omega | (simp [zA, zS, zD, zQ] <;> omega)))) | ((with_reducible refine hpA _ _ _ ?_); (focus (first | omega | (simp [zA, zS, zD, zQ] <;> omega)))) | ((with_reducible refine hpB ?_ ?_); (focus assumption)) | (with_reducible apply hpS)))); intro cr2 fr2 hr2 hz2; simp at cr2)
              | (go_at_call 86; refine (H86.out _).mono ?_; rintro e w' ⟨rfl, hB3⟩; apply kept_block hB3 (n := w.heap.size); (focus (repeat' (first | (with_reducible first | assumption | exact hpA _ _ _ rfl | refine hpN ?_ | refine hpD ?_) | ((with_reducible first | refine hpP ?_ ?_ | refine hpT ?_ ?_); (focus (first | omega | (simp [zA, zS, zD, zQ] <;> omega)))) | ((with_reducible refine hpA _ _ _ ?_); (focus (first | omega | (simp [zA, zS, zD, zQ] <;> omega)))) | ((with_reducible refine hpB ?_ ?_); (focus assumption)) | (with_reducible apply hpS)))); intro cr3 fr3 hr3 hz3; simp at cr3; apply kept_block hB3; (focus (repeat' (first | (with_reducible first | assumption | exact hpA _ _ _ rfl | refine hpN ?_ | refine hpD ?_) | ((with_reducible first | refine hpP ?_ ?_ | refine hpT ?_ ?_); (focus (first | omega | (simp [zA, zS, zD, zQ] <;> omega)))) | ((with_reducible refine hpA _ _ _ ?_); (focus (first | omega | (simp [zA, zS, zD, zQ] <;> omega)))) | ((with_reducible refine hpB ?_ ?_); (focus assumption)) | (with_reducible apply hpS)))); intro cr4 fr4 hr4 hz4; simp at cr4))
          go_roundw
          case rel =>
            refine ⟨k + 1, by omega, by omega, by go_num, by (repeat' (first | (with_reducible first | exact Below.refl _ _ | refine blQ ?_ _ | refine Below.drew ?_ | refine blO ?_ (by assumption) | refine Below.alloc ?_ ?_ _ | refine Below.setCell ?_ ?_ _ | refine Below.frame ?_ _) | omega | (simp only [zA, zS, zD, zQ]; omega))), ?_, fun o' g1 g2 hh => ?_⟩
            · (repeat' (first | (with_reducible first | assumption | exact hpA _ _ _ rfl | refine hpN ?_ | refine hpD ?_) | ((with_reducible first | refine hpP ?_ ?_ | refine hpT ?_ ?_); (focus (first | omega | (simp [zA, zS, zD, zQ] <;> omega)))) | ((with_reducible refine hpA _ _ _ ?_); (focus (first | omega | (simp [zA, zS, zD, zQ] <;> omega)))) | ((with_reducible refine hpB ?_ ?_); (focus assumption)) | (with_reducible apply hpS)))
            · by_cases g : o' = k
              · subst g; exact Hl.out hh.2.1
              · exact Hno.out o' g1 (by omega) hh
          case measure => simp [intOf]; omega
      · have hd : dec x = none := dec_none x x115 x48 (fun o' g1 g2 hh => by
          have := Hlow.out o' g1 g2 hh.1.symm
          exact Hno.out o' this.1 (by omega) hh)
        have Hd := Lib.hid hd
        clear hd
        by_cases h3 : 0 < k
        · have hd1 : decide (0 < k) = true := decide_eq_true h3
          have hd2 : decide (k ≤ r2) = false := decide_eq_false (by omega)
          go_wp2
          refine post_res (B := fun w' => Below w.heap.size w w') ?_ rfl ?_
          · (repeat' (first | (with_reducible first | exact Below.refl _ _ | refine blQ ?_ _ | refine Below.drew ?_ | refine blO ?_ (by assumption) | refine Below.alloc ?_ ?_ _ | refine Below.setCell ?_ ?_ _ | refine Below.frame ?_ _) | omega | (simp only [zA, zS, zD, zQ]; omega)))
          · rw [Hd.out]
            apply res_at (n := w.heap.size)
            (focus (repeat' (first | (with_reducible first | assumption | exact hpA _ _ _ rfl | refine hpN ?_ | refine hpD ?_) | ((with_reducible first | refine hpP ?_ ?_ | refine hpT ?_ ?_); (focus (first | omega | (simp [zA, zS, zD, zQ] <;> omega)))) | ((with_reducible refine hpA _ _ _ ?_); (focus (first | omega | (simp [zA, zS, zD, zQ] <;> omega)))) | ((with_reducible refine hpB ?_ ?_); (focus assumption)) | (with_reducible apply hpS))))
            intro W' cw
            simp at cw
            simp [results, Try.results57, go_sem, iv, decV, cw]
        · have hd1 : decide (0 < k) = false := decide_eq_false h3
          go_wp2
          refine post_res (B := fun w' => Below w.heap.size w w') ?_ rfl ?_
          · (repeat' (first | (with_reducible first | exact Below.refl _ _ | refine blQ ?_ _ | refine Below.drew ?_ | refine blO ?_ (by assumption) | refine Below.alloc ?_ ?_ _ | refine Below.setCell ?_ ?_ _ | refine Below.frame ?_ _) | omega | (simp only [zA, zS, zD, zQ]; omega)))
          · rw [Hd.out]
            apply res_at (n := w.heap.size)
            (focus (repeat' (first | (with_reducible first | assumption | exact hpA _ _ _ rfl | refine hpN ?_ | refine hpD ?_) | ((with_reducible first | refine hpP ?_ ?_ | refine hpT ?_ ?_); (focus (first | omega | (simp [zA, zS, zD, zQ] <;> omega)))) | ((with_reducible refine hpA _ _ _ ?_); (focus (first | omega | (simp [zA, zS, zD, zQ] <;> omega)))) | ((with_reducible refine hpB ?_ ?_); (focus assumption)) | (with_reducible apply hpS))))
            intro W' cw
            simp at cw
            simp [results, Try.results57, go_sem, iv, decV, cw]
end Go.Proofs.Ytioopcilcgebeaa.InstA
