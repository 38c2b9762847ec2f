/- Proofs of this claim's family, merged: RefG. -/
import Derived.Test.YtioopcilcgebeaaKKf
set_option linter.unusedVariables false
set_option linter.unusedSimpArgs false
/-! #### RefG -/
namespace Go.Proofs.Ytioopcilcgebeaa.RefA
open Go.RowKit Go.Proofs.Ytioopcilcgebeaa.Base Go.Proofs.Ytioopcilcgebeaa.InstS Go.Proofs.YtioopcilcgebeaaW.PrintWords
open Go.Proofs.Ytioopcilcgebeaa.InstA (iv base Bounds K1 K2 K3 K4 K5 K6 Lim madeS kinds_of Hit likeS maskS put_get dec decV dec_at dec_none low_none)

theorem enc_made (k x : Int) (hk : 1 ≤ k ∧ k ≤ 46) (h0 : 0 ≤ x) (h : x < 4294967296) : ∃ v, (v = x ↔ Hit k x) ∧ ∀ w, Calls Try.prog 32 #[iv (madeS k (ofS k) x)] w fun e w' => e = .returned (.tuple #[.int .u32 v, .bool true]) ∧ Below w.heap.size w w' := by
  obtain ⟨v, hv, hh⟩ := renc k x hk h0 h
  refine ⟨v, hh, fun w => ?_⟩
  obtain ⟨lim, kk⟩ := kinds_of k hk
  simp only [K1, K2, K3, K4, K5, K6] at kk
  have hf : ((ofS k).shift = false ∧ 1 ≤ (ofS k).form ∧ (ofS k).form ≤ 5) ∨ (ofS k).form = 0 := by
    rcases kk with ⟨_, h | h | h | h | h⟩ | ⟨_, h⟩
    · exact .inr h.1
    · exact .inr h.1
    · exact .inl ⟨h.2.2.2.2.1, by omega, by omega⟩
    · exact .inl ⟨h.2.2.2.2.1, by omega, by omega⟩
    · exact .inl ⟨h.2.2.2.2.1, by omega, by omega⟩
    · exact .inl ⟨h.2.2.2.2.1, by omega, by omega⟩
  have fits : ∀ (b : Bool) (n : Int), 0 ≤ n → n < 32 → regS (if b = true then n else 0) b = true := by
    intro b n hn hn2
    unfold regS
    cases b
    · exact decide_eq_true (by simp)
    · exact decide_eq_true ⟨by simpa using hn, by simpa using hn2, .inl rfl⟩
  have := enc_in (madeS k (ofS k) x) (ofS k) rfl (decide_eq_true hk) (fits _ _ (by omega) (by omega)) (fits _ _ (by omega) (by omega)) (fits _ _ (by omega) (by omega)) lim hf w
  rw [hv] at this
  exact this
set_option maxHeartbeats 8000000 in
set_option maxRecDepth 100000 in
theorem decode_calls (x : Int) (h0 : 0 ≤ x) (h : x < 4294967296) (w : World) :
    Calls Try.prog 62 #[.int .u32 x] w fun e w' => e = .returned (decV (dec x)) ∧ Below w.heap.size w w' := by
  go_enter Try.func62, Try.ntmps62
  go_wp2_with fail
  have t1 : x.tmod 128 = x % 128 := Int.tmod_eq_emod_of_nonneg h0
  have t2 : x.tdiv 128 = x / 128 := Int.tdiv_eq_ediv_of_nonneg h0
  have t3 : x.tdiv 32768 = x / 32768 := Int.tdiv_eq_ediv_of_nonneg h0
  have t4 : x.tdiv 1048576 = x / 1048576 := Int.tdiv_eq_ediv_of_nonneg h0
  have t5 : (x / 128).tmod 32 = x / 128 % 32 := Int.tmod_eq_emod_of_nonneg (by omega)
  have t6 : (x / 32768).tmod 32 = x / 32768 % 32 := Int.tmod_eq_emod_of_nonneg (by omega)
  have t7 : (x / 1048576).tmod 32 = x / 1048576 % 32 := Int.tmod_eq_emod_of_nonneg (by omega)
  go_loopw [4] (fun j wr => ∃ k : Int, 1 ≤ k ∧ k ≤ 49 ∧ j = .int .i64 k ∧ Below w.heap.size w wr ∧ wr.heap[w.heap.size]? = some (.cells #[.int .i64 0, .int .i64 0, .int .i64 0, .int .i64 0, .int .i32 0] 58 (0, 0)) ∧ (∀ o, 1 ≤ o → o ≤ 46 → o < k → ¬ Hit o x) ∧ (47 < k → x ≠ 115) ∧ (48 < k → x ≠ 1048691)) (fun j _ => (49 - intOf j).toNat)
  case atStart =>
    refine ⟨1, by omega, by omega, rfl, by (repeat' (first | (with_reducible first | exact Below.refl _ _ | refine blQ ?_ _ | refine Below.drew ?_ | refine blO ?_ (by assumption) | refine Below.alloc ?_ ?_ _ | refine Below.setCell ?_ ?_ _ | refine Below.frame ?_ _) | omega | (simp only [zA, zS, zD, zQ]; omega))), ?_, fun o h1 h2 h3 => by omega, fun h => by omega, fun h => by omega⟩
    (repeat' (first | (with_reducible first | assumption | exact hpA _ _ _ rfl | refine hpN ?_ | refine hpD ?_) | ((with_reducible first | refine hpP ?_ ?_ | refine hpT ?_ ?_); (focus (first | omega | (simp only [zA, zS, zD, zQ] <;> omega)))) | ((with_reducible refine hpA _ _ _ ?_); (focus (first | omega | (simp only [zA, zS, zD, zQ] <;> omega)))) | ((with_reducible refine hpB ?_ ?_); (focus assumption)) | (with_reducible apply hpS)))
  case round =>
    obtain ⟨k, hk1, hk2, rfl, hB, hx, hno, hn1, hn2⟩ := hrel
    have Hno := Lib.hid hno
    have Hn1 := Lib.hid hn1
    have Hn2 := Lib.hid hn2
    have cx := cell_of_heap hx
    have fx := frozen_of_heap hx
    have hz := lt_of_heap hx
    simp at cx
    clear hno hn1 hn2
    by_cases hk : k ≤ 46
    · have hd1 : decide (k ≤ 48) = true := decide_eq_true (by omega)
      obtain ⟨v, hv, He⟩ := enc_made k x ⟨hk1, hk⟩ h0 h
      have Hv := Lib.hid hv
      have hof := of_calls k
      rw [show ofOk k = true from decide_eq_true ⟨hk1, hk⟩] at hof
      obtain ⟨lim, kk⟩ := kinds_of k ⟨hk1, hk⟩
      have hit : Hit k x → x % 128 = (ofS k).low := fun h => h.1
      have hdec : Hit k x → dec x = some (madeS k (ofS k) x) := fun q => by
        have l := low_none k ⟨hk1, hk⟩
        have l2 := hit q
        exact dec_at k x ⟨hk1, hk⟩ (by omega) (by omega) q (fun o g1 g2 => Hno.out o g1 (by omega) g2)
      clear hv
      have kk' : K1 (ofS k) ∨ K2 (ofS k) ∨ K3 (ofS k) ∨ K4 (ofS k) ∨ K5 (ofS k) ∨ K6 (ofS k) := by
        rcases kk with ⟨_, h | h | h | h | h⟩ | ⟨_, h⟩ <;> simp [h]
      clear kk
      generalize ofS k = s at *
      obtain ⟨low, three, seven, form, d, a, b, shift⟩ := s
      simp only [K1, K2, K3, K4, K5, K6, Lim] at kk' lim hit
      rcases kk' with ⟨rfl, rfl, rfl, rfl, rfl⟩ | ⟨rfl, rfl, rfl, rfl, rfl⟩ | ⟨rfl, rfl, rfl, rfl, rfl, rfl⟩ | ⟨rfl | rfl, rfl, rfl, rfl, rfl, rfl⟩ | ⟨rfl | rfl, rfl, rfl, rfl, rfl, rfl, rfl⟩ | ⟨rfl, rfl, rfl, rfl, rfl, rfl, rfl⟩
      · have Hg := Lib.hid (rget_calls 1 x (by omega) h0 h)
        simp only [madeS, iv, if_true, Bool.false_eq_true, if_false, show ImmP.getS 0 x = 0 from rfl] at He hdec
        have Hof := Lib.hid hof
        have HE := Lib.hid He
        have Hdec := Lib.hid hdec
        have Hit_ := Lib.hid hit
        clear hof He hdec hit
        by_cases hlow : x % 128 = low
        · have dl : (x % 128 != low) = false := by simpa using hlow
          go_wp2_with (first
            | (go_at_call 65; refine (Hof.out _).mono ?_; rintro e wo ⟨rfl, hB1⟩; apply kept_block hB1 (n := w.heap.size); (focus (repeat' (first | (with_reducible first | assumption | exact hpA _ _ _ rfl | refine hpN ?_ | refine hpD ?_) | ((with_reducible first | refine hpP ?_ ?_ | refine hpT ?_ ?_); (focus (first | omega | (simp only [zA, zS, zD, zQ] <;> omega)))) | ((with_reducible refine hpA _ _ _ ?_); (focus (first | omega | (simp only [zA, zS, zD, zQ] <;> omega)))) | ((with_reducible refine hpB ?_ ?_); (focus assumption)) | (with_reducible apply hpS)))); intro cr1 fr1 hr1 hz1; simp at cr1; unfold rv; dsimp only)
            | (go_at_call 94; refine (Hg.out _).mono ?_; rintro e wg ⟨rfl, hB2⟩; apply kept_block hB2 (n := w.heap.size); (focus (repeat' (first | (with_reducible first | assumption | exact hpA _ _ _ rfl | refine hpN ?_ | refine hpD ?_) | ((with_reducible first | refine hpP ?_ ?_ | refine hpT ?_ ?_); (focus (first | omega | (simp only [zA, zS, zD, zQ] <;> omega)))) | ((with_reducible refine hpA _ _ _ ?_); (focus (first | omega | (simp only [zA, zS, zD, zQ] <;> omega)))) | ((with_reducible refine hpB ?_ ?_); (focus assumption)) | (with_reducible apply hpS)))); intro cr2 fr2 hr2 hz2; simp at cr2; apply kept_block hB2 (n := wo.heap.size); (focus (repeat' (first | (with_reducible first | assumption | exact hpA _ _ _ rfl | refine hpN ?_ | refine hpD ?_) | ((with_reducible first | refine hpP ?_ ?_ | refine hpT ?_ ?_); (focus (first | omega | (simp only [zA, zS, zD, zQ] <;> omega)))) | ((with_reducible refine hpA _ _ _ ?_); (focus (first | omega | (simp only [zA, zS, zD, zQ] <;> omega)))) | ((with_reducible refine hpB ?_ ?_); (focus assumption)) | (with_reducible apply hpS)))); intro cs2 fs2 hs2 hzs2; simp at cs2; apply kept_block hB2 (n := wo.heap.size + 1); (focus (repeat' (first | (with_reducible first | assumption | exact hpA _ _ _ rfl | refine hpN ?_ | refine hpD ?_) | ((with_reducible first | refine hpP ?_ ?_ | refine hpT ?_ ?_); (focus (first | omega | (simp only [zA, zS, zD, zQ] <;> omega)))) | ((with_reducible refine hpA _ _ _ ?_); (focus (first | omega | (simp only [zA, zS, zD, zQ] <;> omega)))) | ((with_reducible refine hpB ?_ ?_); (focus assumption)) | (with_reducible apply hpS)))); intro ci2 fi2 hi2 hzi2; simp at ci2)
            | (go_at_call 32; refine (HE.out _).mono ?_; rintro e we ⟨rfl, hB3⟩; apply kept_block hB3 (n := w.heap.size); (focus (repeat' (first | (with_reducible first | assumption | exact hpA _ _ _ rfl | refine hpN ?_ | refine hpD ?_) | ((with_reducible first | refine hpP ?_ ?_ | refine hpT ?_ ?_); (focus (first | omega | (simp only [zA, zS, zD, zQ] <;> omega)))) | ((with_reducible refine hpA _ _ _ ?_); (focus (first | omega | (simp only [zA, zS, zD, zQ] <;> omega)))) | ((with_reducible refine hpB ?_ ?_); (focus assumption)) | (with_reducible apply hpS)))); intro cr3 fr3 hr3 hz3; simp at cr3; apply kept_block hB3 (n := wo.heap.size + 1); (focus (repeat' (first | (with_reducible first | assumption | exact hpA _ _ _ rfl | refine hpN ?_ | refine hpD ?_) | ((with_reducible first | refine hpP ?_ ?_ | refine hpT ?_ ?_); (focus (first | omega | (simp only [zA, zS, zD, zQ] <;> omega)))) | ((with_reducible refine hpA _ _ _ ?_); (focus (first | omega | (simp only [zA, zS, zD, zQ] <;> omega)))) | ((with_reducible refine hpB ?_ ?_); (focus assumption)) | (with_reducible apply hpS)))); intro ci3 fi3 hi3 hzi3; simp at ci3))
          · have hvx : v = x := by
              have : (v == x) = true := by assumption
              simpa using this
            refine post_res (B := fun w' => Below w.heap.size w w') ?_ rfl ?_
            · (repeat' (first | (with_reducible first | exact Below.refl _ _ | refine blQ ?_ _ | refine Below.drew ?_ | refine blO ?_ (by assumption) | refine Below.alloc ?_ ?_ _ | refine Below.setCell ?_ ?_ _ | refine Below.frame ?_ _) | omega | (simp only [zA, zS, zD, zQ]; omega)))
            · rw [Hdec.out (Hv.out.1 hvx)]
              apply res_at (n := w.heap.size)
              (focus (repeat' (first | (with_reducible first | assumption | exact hpA _ _ _ rfl | refine hpN ?_ | refine hpD ?_) | ((with_reducible first | refine hpP ?_ ?_ | refine hpT ?_ ?_); (focus (first | omega | (simp only [zA, zS, zD, zQ] <;> omega)))) | ((with_reducible refine hpA _ _ _ ?_); (focus (first | omega | (simp only [zA, zS, zD, zQ] <;> omega)))) | ((with_reducible refine hpB ?_ ?_); (focus assumption)) | (with_reducible apply hpS))))
              intro W' cw
              simp at cw
              simp [results, Try.results62, go_sem, iv, decV, cw]
          · have hvx : v ≠ x := by
              have : (v == x) = false := by assumption
              simpa using this
            go_roundw
            case rel =>
              refine ⟨k + 1, by omega, by omega, by go_num, by (repeat' (first | (with_reducible first | exact Below.refl _ _ | refine blQ ?_ _ | refine Below.drew ?_ | refine blO ?_ (by assumption) | refine Below.alloc ?_ ?_ _ | refine Below.setCell ?_ ?_ _ | refine Below.frame ?_ _) | omega | (simp only [zA, zS, zD, zQ]; omega))), ?_, fun o' g1 g2 g3 hh => ?_, fun g => by omega, fun g => by omega⟩
              · (repeat' (first | (with_reducible first | assumption | exact hpA _ _ _ rfl | refine hpN ?_ | refine hpD ?_) | ((with_reducible first | refine hpP ?_ ?_ | refine hpT ?_ ?_); (focus (first | omega | (simp only [zA, zS, zD, zQ] <;> omega)))) | ((with_reducible refine hpA _ _ _ ?_); (focus (first | omega | (simp only [zA, zS, zD, zQ] <;> omega)))) | ((with_reducible refine hpB ?_ ?_); (focus assumption)) | (with_reducible apply hpS)))
              · by_cases g : o' = k
                · subst g; exact hvx (Hv.out.2 hh)
                · exact Hno.out o' g1 g2 (by omega) hh
            case measure => simp [intOf]; omega
        · have dl : (x % 128 != low) = true := by simpa using hlow
          have Hlow := Lib.hid hlow
          clear hlow
          go_wp2_with (first
            | (go_at_call 65; refine (Hof.out _).mono ?_; rintro e wo ⟨rfl, hB1⟩; apply kept_block hB1 (n := w.heap.size); (focus (repeat' (first | (with_reducible first | assumption | exact hpA _ _ _ rfl | refine hpN ?_ | refine hpD ?_) | ((with_reducible first | refine hpP ?_ ?_ | refine hpT ?_ ?_); (focus (first | omega | (simp only [zA, zS, zD, zQ] <;> omega)))) | ((with_reducible refine hpA _ _ _ ?_); (focus (first | omega | (simp only [zA, zS, zD, zQ] <;> omega)))) | ((with_reducible refine hpB ?_ ?_); (focus assumption)) | (with_reducible apply hpS)))); intro cr1 fr1 hr1 hz1; simp at cr1; unfold rv; dsimp only)
            | (go_at_call 94; refine (Hg.out _).mono ?_; rintro e wg ⟨rfl, hB2⟩; apply kept_block hB2 (n := w.heap.size); (focus (repeat' (first | (with_reducible first | assumption | exact hpA _ _ _ rfl | refine hpN ?_ | refine hpD ?_) | ((with_reducible first | refine hpP ?_ ?_ | refine hpT ?_ ?_); (focus (first | omega | (simp only [zA, zS, zD, zQ] <;> omega)))) | ((with_reducible refine hpA _ _ _ ?_); (focus (first | omega | (simp only [zA, zS, zD, zQ] <;> omega)))) | ((with_reducible refine hpB ?_ ?_); (focus assumption)) | (with_reducible apply hpS)))); intro cr2 fr2 hr2 hz2; simp at cr2; apply kept_block hB2 (n := wo.heap.size); (focus (repeat' (first | (with_reducible first | assumption | exact hpA _ _ _ rfl | refine hpN ?_ | refine hpD ?_) | ((with_reducible first | refine hpP ?_ ?_ | refine hpT ?_ ?_); (focus (first | omega | (simp only [zA, zS, zD, zQ] <;> omega)))) | ((with_reducible refine hpA _ _ _ ?_); (focus (first | omega | (simp only [zA, zS, zD, zQ] <;> omega)))) | ((with_reducible refine hpB ?_ ?_); (focus assumption)) | (with_reducible apply hpS)))); intro cs2 fs2 hs2 hzs2; simp at cs2; apply kept_block hB2 (n := wo.heap.size + 1); (focus (repeat' (first | (with_reducible first | assumption | exact hpA _ _ _ rfl | refine hpN ?_ | refine hpD ?_) | ((with_reducible first | refine hpP ?_ ?_ | refine hpT ?_ ?_); (focus (first | omega | (simp only [zA, zS, zD, zQ] <;> omega)))) | ((with_reducible refine hpA _ _ _ ?_); (focus (first | omega | (simp only [zA, zS, zD, zQ] <;> omega)))) | ((with_reducible refine hpB ?_ ?_); (focus assumption)) | (with_reducible apply hpS)))); intro ci2 fi2 hi2 hzi2; simp at ci2)
            | (go_at_call 32; refine (HE.out _).mono ?_; rintro e we ⟨rfl, hB3⟩; apply kept_block hB3 (n := w.heap.size); (focus (repeat' (first | (with_reducible first | assumption | exact hpA _ _ _ rfl | refine hpN ?_ | refine hpD ?_) | ((with_reducible first | refine hpP ?_ ?_ | refine hpT ?_ ?_); (focus (first | omega | (simp only [zA, zS, zD, zQ] <;> omega)))) | ((with_reducible refine hpA _ _ _ ?_); (focus (first | omega | (simp only [zA, zS, zD, zQ] <;> omega)))) | ((with_reducible refine hpB ?_ ?_); (focus assumption)) | (with_reducible apply hpS)))); intro cr3 fr3 hr3 hz3; simp at cr3; apply kept_block hB3 (n := wo.heap.size + 1); (focus (repeat' (first | (with_reducible first | assumption | exact hpA _ _ _ rfl | refine hpN ?_ | refine hpD ?_) | ((with_reducible first | refine hpP ?_ ?_ | refine hpT ?_ ?_); (focus (first | omega | (simp only [zA, zS, zD, zQ] <;> omega)))) | ((with_reducible refine hpA _ _ _ ?_); (focus (first | omega | (simp only [zA, zS, zD, zQ] <;> omega)))) | ((with_reducible refine hpB ?_ ?_); (focus assumption)) | (with_reducible apply hpS)))); intro ci3 fi3 hi3 hzi3; simp at ci3))
          go_roundw
          case rel =>
            refine ⟨k + 1, by omega, by omega, by go_num, by (repeat' (first | (with_reducible first | exact Below.refl _ _ | refine blQ ?_ _ | refine Below.drew ?_ | refine blO ?_ (by assumption) | refine Below.alloc ?_ ?_ _ | refine Below.setCell ?_ ?_ _ | refine Below.frame ?_ _) | omega | (simp only [zA, zS, zD, zQ]; omega))), ?_, fun o' g1 g2 g3 hh => ?_, fun g => by omega, fun g => by omega⟩
            · (repeat' (first | (with_reducible first | assumption | exact hpA _ _ _ rfl | refine hpN ?_ | refine hpD ?_) | ((with_reducible first | refine hpP ?_ ?_ | refine hpT ?_ ?_); (focus (first | omega | (simp only [zA, zS, zD, zQ] <;> omega)))) | ((with_reducible refine hpA _ _ _ ?_); (focus (first | omega | (simp only [zA, zS, zD, zQ] <;> omega)))) | ((with_reducible refine hpB ?_ ?_); (focus assumption)) | (with_reducible apply hpS)))
            · by_cases g : o' = k
              · subst g; exact Hlow.out (Hit_.out hh)
              · exact Hno.out o' g1 g2 (by omega) hh
          case measure => simp [intOf]; omega
      · have Hg := Lib.hid (rget_calls 1 x (by omega) h0 h)
        simp only [madeS, iv, if_true, Bool.false_eq_true, if_false, show ImmP.getS 0 x = 0 from rfl] at He hdec
        have Hof := Lib.hid hof
        have HE := Lib.hid He
        have Hdec := Lib.hid hdec
        have Hit_ := Lib.hid hit
        clear hof He hdec hit
        by_cases hlow : x % 128 = low
        · have dl : (x % 128 != low) = false := by simpa using hlow
          go_wp2_with (first
            | (go_at_call 65; refine (Hof.out _).mono ?_; rintro e wo ⟨rfl, hB1⟩; apply kept_block hB1 (n := w.heap.size); (focus (repeat' (first | (with_reducible first | assumption | exact hpA _ _ _ rfl | refine hpN ?_ | refine hpD ?_) | ((with_reducible first | refine hpP ?_ ?_ | refine hpT ?_ ?_); (focus (first | omega | (simp only [zA, zS, zD, zQ] <;> omega)))) | ((with_reducible refine hpA _ _ _ ?_); (focus (first | omega | (simp only [zA, zS, zD, zQ] <;> omega)))) | ((with_reducible refine hpB ?_ ?_); (focus assumption)) | (with_reducible apply hpS)))); intro cr1 fr1 hr1 hz1; simp at cr1; unfold rv; dsimp only)
            | (go_at_call 94; refine (Hg.out _).mono ?_; rintro e wg ⟨rfl, hB2⟩; apply kept_block hB2 (n := w.heap.size); (focus (repeat' (first | (with_reducible first | assumption | exact hpA _ _ _ rfl | refine hpN ?_ | refine hpD ?_) | ((with_reducible first | refine hpP ?_ ?_ | refine hpT ?_ ?_); (focus (first | omega | (simp only [zA, zS, zD, zQ] <;> omega)))) | ((with_reducible refine hpA _ _ _ ?_); (focus (first | omega | (simp only [zA, zS, zD, zQ] <;> omega)))) | ((with_reducible refine hpB ?_ ?_); (focus assumption)) | (with_reducible apply hpS)))); intro cr2 fr2 hr2 hz2; simp at cr2; apply kept_block hB2 (n := wo.heap.size); (focus (repeat' (first | (with_reducible first | assumption | exact hpA _ _ _ rfl | refine hpN ?_ | refine hpD ?_) | ((with_reducible first | refine hpP ?_ ?_ | refine hpT ?_ ?_); (focus (first | omega | (simp only [zA, zS, zD, zQ] <;> omega)))) | ((with_reducible refine hpA _ _ _ ?_); (focus (first | omega | (simp only [zA, zS, zD, zQ] <;> omega)))) | ((with_reducible refine hpB ?_ ?_); (focus assumption)) | (with_reducible apply hpS)))); intro cs2 fs2 hs2 hzs2; simp at cs2; apply kept_block hB2 (n := wo.heap.size + 1); (focus (repeat' (first | (with_reducible first | assumption | exact hpA _ _ _ rfl | refine hpN ?_ | refine hpD ?_) | ((with_reducible first | refine hpP ?_ ?_ | refine hpT ?_ ?_); (focus (first | omega | (simp only [zA, zS, zD, zQ] <;> omega)))) | ((with_reducible refine hpA _ _ _ ?_); (focus (first | omega | (simp only [zA, zS, zD, zQ] <;> omega)))) | ((with_reducible refine hpB ?_ ?_); (focus assumption)) | (with_reducible apply hpS)))); intro ci2 fi2 hi2 hzi2; simp at ci2)
            | (go_at_call 32; refine (HE.out _).mono ?_; rintro e we ⟨rfl, hB3⟩; apply kept_block hB3 (n := w.heap.size); (focus (repeat' (first | (with_reducible first | assumption | exact hpA _ _ _ rfl | refine hpN ?_ | refine hpD ?_) | ((with_reducible first | refine hpP ?_ ?_ | refine hpT ?_ ?_); (focus (first | omega | (simp only [zA, zS, zD, zQ] <;> omega)))) | ((with_reducible refine hpA _ _ _ ?_); (focus (first | omega | (simp only [zA, zS, zD, zQ] <;> omega)))) | ((with_reducible refine hpB ?_ ?_); (focus assumption)) | (with_reducible apply hpS)))); intro cr3 fr3 hr3 hz3; simp at cr3; apply kept_block hB3 (n := wo.heap.size + 1); (focus (repeat' (first | (with_reducible first | assumption | exact hpA _ _ _ rfl | refine hpN ?_ | refine hpD ?_) | ((with_reducible first | refine hpP ?_ ?_ | refine hpT ?_ ?_); (focus (first | omega | (simp only [zA, zS, zD, zQ] <;> omega)))) | ((with_reducible refine hpA _ _ _ ?_); (focus (first | omega | (simp only [zA, zS, zD, zQ] <;> omega)))) | ((with_reducible refine hpB ?_ ?_); (focus assumption)) | (with_reducible apply hpS)))); intro ci3 fi3 hi3 hzi3; simp at ci3))
          · have hvx : v = x := by
              have : (v == x) = true := by assumption
              simpa using this
            refine post_res (B := fun w' => Below w.heap.size w w') ?_ rfl ?_
            · (repeat' (first | (with_reducible first | exact Below.refl _ _ | refine blQ ?_ _ | refine Below.drew ?_ | refine blO ?_ (by assumption) | refine Below.alloc ?_ ?_ _ | refine Below.setCell ?_ ?_ _ | refine Below.frame ?_ _) | omega | (simp only [zA, zS, zD, zQ]; omega)))
            · rw [Hdec.out (Hv.out.1 hvx)]
              apply res_at (n := w.heap.size)
              (focus (repeat' (first | (with_reducible first | assumption | exact hpA _ _ _ rfl | refine hpN ?_ | refine hpD ?_) | ((with_reducible first | refine hpP ?_ ?_ | refine hpT ?_ ?_); (focus (first | omega | (simp only [zA, zS, zD, zQ] <;> omega)))) | ((with_reducible refine hpA _ _ _ ?_); (focus (first | omega | (simp only [zA, zS, zD, zQ] <;> omega)))) | ((with_reducible refine hpB ?_ ?_); (focus assumption)) | (with_reducible apply hpS))))
              intro W' cw
              simp at cw
              simp [results, Try.results62, go_sem, iv, decV, cw]
          · have hvx : v ≠ x := by
              have : (v == x) = false := by assumption
              simpa using this
            go_roundw
            case rel =>
              refine ⟨k + 1, by omega, by omega, by go_num, by (repeat' (first | (with_reducible first | exact Below.refl _ _ | refine blQ ?_ _ | refine Below.drew ?_ | refine blO ?_ (by assumption) | refine Below.alloc ?_ ?_ _ | refine Below.setCell ?_ ?_ _ | refine Below.frame ?_ _) | omega | (simp only [zA, zS, zD, zQ]; omega))), ?_, fun o' g1 g2 g3 hh => ?_, fun g => by omega, fun g => by omega⟩
              · (repeat' (first | (with_reducible first | assumption | exact hpA _ _ _ rfl | refine hpN ?_ | refine hpD ?_) | ((with_reducible first | refine hpP ?_ ?_ | refine hpT ?_ ?_); (focus (first | omega | (simp only [zA, zS, zD, zQ] <;> omega)))) | ((with_reducible refine hpA _ _ _ ?_); (focus (first | omega | (simp only [zA, zS, zD, zQ] <;> omega)))) | ((with_reducible refine hpB ?_ ?_); (focus assumption)) | (with_reducible apply hpS)))
              · by_cases g : o' = k
                · subst g; exact hvx (Hv.out.2 hh)
                · exact Hno.out o' g1 g2 (by omega) hh
            case measure => simp [intOf]; omega
        · have dl : (x % 128 != low) = true := by simpa using hlow
          have Hlow := Lib.hid hlow
          clear hlow
          go_wp2_with (first
            | (go_at_call 65; refine (Hof.out _).mono ?_; rintro e wo ⟨rfl, hB1⟩; apply kept_block hB1 (n := w.heap.size); (focus (repeat' (first | (with_reducible first | assumption | exact hpA _ _ _ rfl | refine hpN ?_ | refine hpD ?_) | ((with_reducible first | refine hpP ?_ ?_ | refine hpT ?_ ?_); (focus (first | omega | (simp only [zA, zS, zD, zQ] <;> omega)))) | ((with_reducible refine hpA _ _ _ ?_); (focus (first | omega | (simp only [zA, zS, zD, zQ] <;> omega)))) | ((with_reducible refine hpB ?_ ?_); (focus assumption)) | (with_reducible apply hpS)))); intro cr1 fr1 hr1 hz1; simp at cr1; unfold rv; dsimp only)
            | (go_at_call 94; refine (Hg.out _).mono ?_; rintro e wg ⟨rfl, hB2⟩; apply kept_block hB2 (n := w.heap.size); (focus (repeat' (first | (with_reducible first | assumption | exact hpA _ _ _ rfl | refine hpN ?_ | refine hpD ?_) | ((with_reducible first | refine hpP ?_ ?_ | refine hpT ?_ ?_); (focus (first | omega | (simp only [zA, zS, zD, zQ] <;> omega)))) | ((with_reducible refine hpA _ _ _ ?_); (focus (first | omega | (simp only [zA, zS, zD, zQ] <;> omega)))) | ((with_reducible refine hpB ?_ ?_); (focus assumption)) | (with_reducible apply hpS)))); intro cr2 fr2 hr2 hz2; simp at cr2; apply kept_block hB2 (n := wo.heap.size); (focus (repeat' (first | (with_reducible first | assumption | exact hpA _ _ _ rfl | refine hpN ?_ | refine hpD ?_) | ((with_reducible first | refine hpP ?_ ?_ | refine hpT ?_ ?_); (focus (first | omega | (simp only [zA, zS, zD, zQ] <;> omega)))) | ((with_reducible refine hpA _ _ _ ?_); (focus (first | omega | (simp only [zA, zS, zD, zQ] <;> omega)))) | ((with_reducible refine hpB ?_ ?_); (focus assumption)) | (with_reducible apply hpS)))); intro cs2 fs2 hs2 hzs2; simp at cs2; apply kept_block hB2 (n := wo.heap.size + 1); (focus (repeat' (first | (with_reducible first | assumption | exact hpA _ _ _ rfl | refine hpN ?_ | refine hpD ?_) | ((with_reducible first | refine hpP ?_ ?_ | refine hpT ?_ ?_); (focus (first | omega | (simp only [zA, zS, zD, zQ] <;> omega)))) | ((with_reducible refine hpA _ _ _ ?_); (focus (first | omega | (simp only [zA, zS, zD, zQ] <;> omega)))) | ((with_reducible refine hpB ?_ ?_); (focus assumption)) | (with_reducible apply hpS)))); intro ci2 fi2 hi2 hzi2; simp at ci2)
            | (go_at_call 32; refine (HE.out _).mono ?_; rintro e we ⟨rfl, hB3⟩; apply kept_block hB3 (n := w.heap.size); (focus (repeat' (first | (with_reducible first | assumption | exact hpA _ _ _ rfl | refine hpN ?_ | refine hpD ?_) | ((with_reducible first | refine hpP ?_ ?_ | refine hpT ?_ ?_); (focus (first | omega | (simp only [zA, zS, zD, zQ] <;> omega)))) | ((with_reducible refine hpA _ _ _ ?_); (focus (first | omega | (simp only [zA, zS, zD, zQ] <;> omega)))) | ((with_reducible refine hpB ?_ ?_); (focus assumption)) | (with_reducible apply hpS)))); intro cr3 fr3 hr3 hz3; simp at cr3; apply kept_block hB3 (n := wo.heap.size + 1); (focus (repeat' (first | (with_reducible first | assumption | exact hpA _ _ _ rfl | refine hpN ?_ | refine hpD ?_) | ((with_reducible first | refine hpP ?_ ?_ | refine hpT ?_ ?_); (focus (first | omega | (simp only [zA, zS, zD, zQ] <;> omega)))) | ((with_reducible refine hpA _ _ _ ?_); (focus (first | omega | (simp only [zA, zS, zD, zQ] <;> omega)))) | ((with_reducible refine hpB ?_ ?_); (focus assumption)) | (with_reducible apply hpS)))); intro ci3 fi3 hi3 hzi3; simp at ci3))
          go_roundw
          case rel =>
            refine ⟨k + 1, by omega, by omega, by go_num, by (repeat' (first | (with_reducible first | exact Below.refl _ _ | refine blQ ?_ _ | refine Below.drew ?_ | refine blO ?_ (by assumption) | refine Below.alloc ?_ ?_ _ | refine Below.setCell ?_ ?_ _ | refine Below.frame ?_ _) | omega | (simp only [zA, zS, zD, zQ]; omega))), ?_, fun o' g1 g2 g3 hh => ?_, fun g => by omega, fun g => by omega⟩
            · (repeat' (first | (with_reducible first | assumption | exact hpA _ _ _ rfl | refine hpN ?_ | refine hpD ?_) | ((with_reducible first | refine hpP ?_ ?_ | refine hpT ?_ ?_); (focus (first | omega | (simp only [zA, zS, zD, zQ] <;> omega)))) | ((with_reducible refine hpA _ _ _ ?_); (focus (first | omega | (simp only [zA, zS, zD, zQ] <;> omega)))) | ((with_reducible refine hpB ?_ ?_); (focus assumption)) | (with_reducible apply hpS)))
            · by_cases g : o' = k
              · subst g; exact Hlow.out (Hit_.out hh)
              · exact Hno.out o' g1 g2 (by omega) hh
          case measure => simp [intOf]; omega
      · have Hg := Lib.hid (rget_calls 1 x (by omega) h0 h)
        simp only [madeS, iv, if_true, Bool.false_eq_true, if_false, show ImmP.getS 0 x = 0 from rfl] at He hdec
        have Hof := Lib.hid hof
        have HE := Lib.hid He
        have Hdec := Lib.hid hdec
        have Hit_ := Lib.hid hit
        clear hof He hdec hit
        by_cases hlow : x % 128 = low
        · have dl : (x % 128 != low) = false := by simpa using hlow
          go_wp2_with (first
            | (go_at_call 65; refine (Hof.out _).mono ?_; rintro e wo ⟨rfl, hB1⟩; apply kept_block hB1 (n := w.heap.size); (focus (repeat' (first | (with_reducible first | assumption | exact hpA _ _ _ rfl | refine hpN ?_ | refine hpD ?_) | ((with_reducible first | refine hpP ?_ ?_ | refine hpT ?_ ?_); (focus (first | omega | (simp only [zA, zS, zD, zQ] <;> omega)))) | ((with_reducible refine hpA _ _ _ ?_); (focus (first | omega | (simp only [zA, zS, zD, zQ] <;> omega)))) | ((with_reducible refine hpB ?_ ?_); (focus assumption)) | (with_reducible apply hpS)))); intro cr1 fr1 hr1 hz1; simp at cr1; unfold rv; dsimp only)
            | (go_at_call 94; refine (Hg.out _).mono ?_; rintro e wg ⟨rfl, hB2⟩; apply kept_block hB2 (n := w.heap.size); (focus (repeat' (first | (with_reducible first | assumption | exact hpA _ _ _ rfl | refine hpN ?_ | refine hpD ?_) | ((with_reducible first | refine hpP ?_ ?_ | refine hpT ?_ ?_); (focus (first | omega | (simp only [zA, zS, zD, zQ] <;> omega)))) | ((with_reducible refine hpA _ _ _ ?_); (focus (first | omega | (simp only [zA, zS, zD, zQ] <;> omega)))) | ((with_reducible refine hpB ?_ ?_); (focus assumption)) | (with_reducible apply hpS)))); intro cr2 fr2 hr2 hz2; simp at cr2; apply kept_block hB2 (n := wo.heap.size); (focus (repeat' (first | (with_reducible first | assumption | exact hpA _ _ _ rfl | refine hpN ?_ | refine hpD ?_) | ((with_reducible first | refine hpP ?_ ?_ | refine hpT ?_ ?_); (focus (first | omega | (simp only [zA, zS, zD, zQ] <;> omega)))) | ((with_reducible refine hpA _ _ _ ?_); (focus (first | omega | (simp only [zA, zS, zD, zQ] <;> omega)))) | ((with_reducible refine hpB ?_ ?_); (focus assumption)) | (with_reducible apply hpS)))); intro cs2 fs2 hs2 hzs2; simp at cs2; apply kept_block hB2 (n := wo.heap.size + 1); (focus (repeat' (first | (with_reducible first | assumption | exact hpA _ _ _ rfl | refine hpN ?_ | refine hpD ?_) | ((with_reducible first | refine hpP ?_ ?_ | refine hpT ?_ ?_); (focus (first | omega | (simp only [zA, zS, zD, zQ] <;> omega)))) | ((with_reducible refine hpA _ _ _ ?_); (focus (first | omega | (simp only [zA, zS, zD, zQ] <;> omega)))) | ((with_reducible refine hpB ?_ ?_); (focus assumption)) | (with_reducible apply hpS)))); intro ci2 fi2 hi2 hzi2; simp at ci2)
            | (go_at_call 32; refine (HE.out _).mono ?_; rintro e we ⟨rfl, hB3⟩; apply kept_block hB3 (n := w.heap.size); (focus (repeat' (first | (with_reducible first | assumption | exact hpA _ _ _ rfl | refine hpN ?_ | refine hpD ?_) | ((with_reducible first | refine hpP ?_ ?_ | refine hpT ?_ ?_); (focus (first | omega | (simp only [zA, zS, zD, zQ] <;> omega)))) | ((with_reducible refine hpA _ _ _ ?_); (focus (first | omega | (simp only [zA, zS, zD, zQ] <;> omega)))) | ((with_reducible refine hpB ?_ ?_); (focus assumption)) | (with_reducible apply hpS)))); intro cr3 fr3 hr3 hz3; simp at cr3; apply kept_block hB3 (n := wo.heap.size + 1); (focus (repeat' (first | (with_reducible first | assumption | exact hpA _ _ _ rfl | refine hpN ?_ | refine hpD ?_) | ((with_reducible first | refine hpP ?_ ?_ | refine hpT ?_ ?_); (focus (first | omega | (simp only [zA, zS, zD, zQ] <;> omega)))) | ((with_reducible refine hpA _ _ _ ?_); (focus (first | omega | (simp only [zA, zS, zD, zQ] <;> omega)))) | ((with_reducible refine hpB ?_ ?_); (focus assumption)) | (with_reducible apply hpS)))); intro ci3 fi3 hi3 hzi3; simp at ci3))
          · have hvx : v = x := by
              have : (v == x) = true := by assumption
              simpa using this
            refine post_res (B := fun w' => Below w.heap.size w w') ?_ rfl ?_
            · (repeat' (first | (with_reducible first | exact Below.refl _ _ | refine blQ ?_ _ | refine Below.drew ?_ | refine blO ?_ (by assumption) | refine Below.alloc ?_ ?_ _ | refine Below.setCell ?_ ?_ _ | refine Below.frame ?_ _) | omega | (simp only [zA, zS, zD, zQ]; omega)))
            · rw [Hdec.out (Hv.out.1 hvx)]
              apply res_at (n := w.heap.size)
              (focus (repeat' (first | (with_reducible first | assumption | exact hpA _ _ _ rfl | refine hpN ?_ | refine hpD ?_) | ((with_reducible first | refine hpP ?_ ?_ | refine hpT ?_ ?_); (focus (first | omega | (simp only [zA, zS, zD, zQ] <;> omega)))) | ((with_reducible refine hpA _ _ _ ?_); (focus (first | omega | (simp only [zA, zS, zD, zQ] <;> omega)))) | ((with_reducible refine hpB ?_ ?_); (focus assumption)) | (with_reducible apply hpS))))
              intro W' cw
              simp at cw
              simp [results, Try.results62, go_sem, iv, decV, cw]
          · have hvx : v ≠ x := by
              have : (v == x) = false := by assumption
              simpa using this
            go_roundw
            case rel =>
              refine ⟨k + 1, by omega, by omega, by go_num, by (repeat' (first | (with_reducible first | exact Below.refl _ _ | refine blQ ?_ _ | refine Below.drew ?_ | refine blO ?_ (by assumption) | refine Below.alloc ?_ ?_ _ | refine Below.setCell ?_ ?_ _ | refine Below.frame ?_ _) | omega | (simp only [zA, zS, zD, zQ]; omega))), ?_, fun o' g1 g2 g3 hh => ?_, fun g => by omega, fun g => by omega⟩
              · (repeat' (first | (with_reducible first | assumption | exact hpA _ _ _ rfl | refine hpN ?_ | refine hpD ?_) | ((with_reducible first | refine hpP ?_ ?_ | refine hpT ?_ ?_); (focus (first | omega | (simp only [zA, zS, zD, zQ] <;> omega)))) | ((with_reducible refine hpA _ _ _ ?_); (focus (first | omega | (simp only [zA, zS, zD, zQ] <;> omega)))) | ((with_reducible refine hpB ?_ ?_); (focus assumption)) | (with_reducible apply hpS)))
              · by_cases g : o' = k
                · subst g; exact hvx (Hv.out.2 hh)
                · exact Hno.out o' g1 g2 (by omega) hh
            case measure => simp [intOf]; omega
        · have dl : (x % 128 != low) = true := by simpa using hlow
          have Hlow := Lib.hid hlow
          clear hlow
          go_wp2_with (first
            | (go_at_call 65; refine (Hof.out _).mono ?_; rintro e wo ⟨rfl, hB1⟩; apply kept_block hB1 (n := w.heap.size); (focus (repeat' (first | (with_reducible first | assumption | exact hpA _ _ _ rfl | refine hpN ?_ | refine hpD ?_) | ((with_reducible first | refine hpP ?_ ?_ | refine hpT ?_ ?_); (focus (first | omega | (simp only [zA, zS, zD, zQ] <;> omega)))) | ((with_reducible refine hpA _ _ _ ?_); (focus (first | omega | (simp only [zA, zS, zD, zQ] <;> omega)))) | ((with_reducible refine hpB ?_ ?_); (focus assumption)) | (with_reducible apply hpS)))); intro cr1 fr1 hr1 hz1; simp at cr1; unfold rv; dsimp only)
            | (go_at_call 94; refine (Hg.out _).mono ?_; rintro e wg ⟨rfl, hB2⟩; apply kept_block hB2 (n := w.heap.size); (focus (repeat' (first | (with_reducible first | assumption | exact hpA _ _ _ rfl | refine hpN ?_ | refine hpD ?_) | ((with_reducible first | refine hpP ?_ ?_ | refine hpT ?_ ?_); (focus (first | omega | (simp only [zA, zS, zD, zQ] <;> omega)))) | ((with_reducible refine hpA _ _ _ ?_); (focus (first | omega | (simp only [zA, zS, zD, zQ] <;> omega)))) | ((with_reducible refine hpB ?_ ?_); (focus assumption)) | (with_reducible apply hpS)))); intro cr2 fr2 hr2 hz2; simp at cr2; apply kept_block hB2 (n := wo.heap.size); (focus (repeat' (first | (with_reducible first | assumption | exact hpA _ _ _ rfl | refine hpN ?_ | refine hpD ?_) | ((with_reducible first | refine hpP ?_ ?_ | refine hpT ?_ ?_); (focus (first | omega | (simp only [zA, zS, zD, zQ] <;> omega)))) | ((with_reducible refine hpA _ _ _ ?_); (focus (first | omega | (simp only [zA, zS, zD, zQ] <;> omega)))) | ((with_reducible refine hpB ?_ ?_); (focus assumption)) | (with_reducible apply hpS)))); intro cs2 fs2 hs2 hzs2; simp at cs2; apply kept_block hB2 (n := wo.heap.size + 1); (focus (repeat' (first | (with_reducible first | assumption | exact hpA _ _ _ rfl | refine hpN ?_ | refine hpD ?_) | ((with_reducible first | refine hpP ?_ ?_ | refine hpT ?_ ?_); (focus (first | omega | (simp only [zA, zS, zD, zQ] <;> omega)))) | ((with_reducible refine hpA _ _ _ ?_); (focus (first | omega | (simp only [zA, zS, zD, zQ] <;> omega)))) | ((with_reducible refine hpB ?_ ?_); (focus assumption)) | (with_reducible apply hpS)))); intro ci2 fi2 hi2 hzi2; simp at ci2)
            | (go_at_call 32; refine (HE.out _).mono ?_; rintro e we ⟨rfl, hB3⟩; apply kept_block hB3 (n := w.heap.size); (focus (repeat' (first | (with_reducible first | assumption | exact hpA _ _ _ rfl | refine hpN ?_ | refine hpD ?_) | ((with_reducible first | refine hpP ?_ ?_ | refine hpT ?_ ?_); (focus (first | omega | (simp only [zA, zS, zD, zQ] <;> omega)))) | ((with_reducible refine hpA _ _ _ ?_); (focus (first | omega | (simp only [zA, zS, zD, zQ] <;> omega)))) | ((with_reducible refine hpB ?_ ?_); (focus assumption)) | (with_reducible apply hpS)))); intro cr3 fr3 hr3 hz3; simp at cr3; apply kept_block hB3 (n := wo.heap.size + 1); (focus (repeat' (first | (with_reducible first | assumption | exact hpA _ _ _ rfl | refine hpN ?_ | refine hpD ?_) | ((with_reducible first | refine hpP ?_ ?_ | refine hpT ?_ ?_); (focus (first | omega | (simp only [zA, zS, zD, zQ] <;> omega)))) | ((with_reducible refine hpA _ _ _ ?_); (focus (first | omega | (simp only [zA, zS, zD, zQ] <;> omega)))) | ((with_reducible refine hpB ?_ ?_); (focus assumption)) | (with_reducible apply hpS)))); intro ci3 fi3 hi3 hzi3; simp at ci3))
          go_roundw
          case rel =>
            refine ⟨k + 1, by omega, by omega, by go_num, by (repeat' (first | (with_reducible first | exact Below.refl _ _ | refine blQ ?_ _ | refine Below.drew ?_ | refine blO ?_ (by assumption) | refine Below.alloc ?_ ?_ _ | refine Below.setCell ?_ ?_ _ | refine Below.frame ?_ _) | omega | (simp only [zA, zS, zD, zQ]; omega))), ?_, fun o' g1 g2 g3 hh => ?_, fun g => by omega, fun g => by omega⟩
            · (repeat' (first | (with_reducible first | assumption | exact hpA _ _ _ rfl | refine hpN ?_ | refine hpD ?_) | ((with_reducible first | refine hpP ?_ ?_ | refine hpT ?_ ?_); (focus (first | omega | (simp only [zA, zS, zD, zQ] <;> omega)))) | ((with_reducible refine hpA _ _ _ ?_); (focus (first | omega | (simp only [zA, zS, zD, zQ] <;> omega)))) | ((with_reducible refine hpB ?_ ?_); (focus assumption)) | (with_reducible apply hpS)))
            · by_cases g : o' = k
              · subst g; exact Hlow.out (Hit_.out hh)
              · exact Hno.out o' g1 g2 (by omega) hh
          case measure => simp [intOf]; omega
      · have Hg := Lib.hid (rget_calls 2 x (by omega) h0 h)
        simp only [madeS, iv, if_true, Bool.false_eq_true, if_false, show ImmP.getS 0 x = 0 from rfl] at He hdec
        have Hof := Lib.hid hof
        have HE := Lib.hid He
        have Hdec := Lib.hid hdec
        have Hit_ := Lib.hid hit
        clear hof He hdec hit
        by_cases hlow : x % 128 = low
        · have dl : (x % 128 != low) = false := by simpa using hlow
          go_wp2_with (first
            | (go_at_call 65; refine (Hof.out _).mono ?_; rintro e wo ⟨rfl, hB1⟩; apply kept_block hB1 (n := w.heap.size); (focus (repeat' (first | (with_reducible first | assumption | exact hpA _ _ _ rfl | refine hpN ?_ | refine hpD ?_) | ((with_reducible first | refine hpP ?_ ?_ | refine hpT ?_ ?_); (focus (first | omega | (simp only [zA, zS, zD, zQ] <;> omega)))) | ((with_reducible refine hpA _ _ _ ?_); (focus (first | omega | (simp only [zA, zS, zD, zQ] <;> omega)))) | ((with_reducible refine hpB ?_ ?_); (focus assumption)) | (with_reducible apply hpS)))); intro cr1 fr1 hr1 hz1; simp at cr1; unfold rv; dsimp only)
            | (go_at_call 94; refine (Hg.out _).mono ?_; rintro e wg ⟨rfl, hB2⟩; apply kept_block hB2 (n := w.heap.size); (focus (repeat' (first | (with_reducible first | assumption | exact hpA _ _ _ rfl | refine hpN ?_ | refine hpD ?_) | ((with_reducible first | refine hpP ?_ ?_ | refine hpT ?_ ?_); (focus (first | omega | (simp only [zA, zS, zD, zQ] <;> omega)))) | ((with_reducible refine hpA _ _ _ ?_); (focus (first | omega | (simp only [zA, zS, zD, zQ] <;> omega)))) | ((with_reducible refine hpB ?_ ?_); (focus assumption)) | (with_reducible apply hpS)))); intro cr2 fr2 hr2 hz2; simp at cr2; apply kept_block hB2 (n := wo.heap.size); (focus (repeat' (first | (with_reducible first | assumption | exact hpA _ _ _ rfl | refine hpN ?_ | refine hpD ?_) | ((with_reducible first | refine hpP ?_ ?_ | refine hpT ?_ ?_); (focus (first | omega | (simp only [zA, zS, zD, zQ] <;> omega)))) | ((with_reducible refine hpA _ _ _ ?_); (focus (first | omega | (simp only [zA, zS, zD, zQ] <;> omega)))) | ((with_reducible refine hpB ?_ ?_); (focus assumption)) | (with_reducible apply hpS)))); intro cs2 fs2 hs2 hzs2; simp at cs2; apply kept_block hB2 (n := wo.heap.size + 1); (focus (repeat' (first | (with_reducible first | assumption | exact hpA _ _ _ rfl | refine hpN ?_ | refine hpD ?_) | ((with_reducible first | refine hpP ?_ ?_ | refine hpT ?_ ?_); (focus (first | omega | (simp only [zA, zS, zD, zQ] <;> omega)))) | ((with_reducible refine hpA _ _ _ ?_); (focus (first | omega | (simp only [zA, zS, zD, zQ] <;> omega)))) | ((with_reducible refine hpB ?_ ?_); (focus assumption)) | (with_reducible apply hpS)))); intro ci2 fi2 hi2 hzi2; simp at ci2)
            | (go_at_call 32; refine (HE.out _).mono ?_; rintro e we ⟨rfl, hB3⟩; apply kept_block hB3 (n := w.heap.size); (focus (repeat' (first | (with_reducible first | assumption | exact hpA _ _ _ rfl | refine hpN ?_ | refine hpD ?_) | ((with_reducible first | refine hpP ?_ ?_ | refine hpT ?_ ?_); (focus (first | omega | (simp only [zA, zS, zD, zQ] <;> omega)))) | ((with_reducible refine hpA _ _ _ ?_); (focus (first | omega | (simp only [zA, zS, zD, zQ] <;> omega)))) | ((with_reducible refine hpB ?_ ?_); (focus assumption)) | (with_reducible apply hpS)))); intro cr3 fr3 hr3 hz3; simp at cr3; apply kept_block hB3 (n := wo.heap.size + 1); (focus (repeat' (first | (with_reducible first | assumption | exact hpA _ _ _ rfl | refine hpN ?_ | refine hpD ?_) | ((with_reducible first | refine hpP ?_ ?_ | refine hpT ?_ ?_); (focus (first | omega | (simp only [zA, zS, zD, zQ] <;> omega)))) | ((with_reducible refine hpA _ _ _ ?_); (focus (first | omega | (simp only [zA, zS, zD, zQ] <;> omega)))) | ((with_reducible refine hpB ?_ ?_); (focus assumption)) | (with_reducible apply hpS)))); intro ci3 fi3 hi3 hzi3; simp at ci3))
          · have hvx : v = x := by
              have : (v == x) = true := by assumption
              simpa using this
            refine post_res (B := fun w' => Below w.heap.size w w') ?_ rfl ?_
            · (repeat' (first | (with_reducible first | exact Below.refl _ _ | refine blQ ?_ _ | refine Below.drew ?_ | refine blO ?_ (by assumption) | refine Below.alloc ?_ ?_ _ | refine Below.setCell ?_ ?_ _ | refine Below.frame ?_ _) | omega | (simp only [zA, zS, zD, zQ]; omega)))
            · rw [Hdec.out (Hv.out.1 hvx)]
              apply res_at (n := w.heap.size)
              (focus (repeat' (first | (with_reducible first | assumption | exact hpA _ _ _ rfl | refine hpN ?_ | refine hpD ?_) | ((with_reducible first | refine hpP ?_ ?_ | refine hpT ?_ ?_); (focus (first | omega | (simp only [zA, zS, zD, zQ] <;> omega)))) | ((with_reducible refine hpA _ _ _ ?_); (focus (first | omega | (simp only [zA, zS, zD, zQ] <;> omega)))) | ((with_reducible refine hpB ?_ ?_); (focus assumption)) | (with_reducible apply hpS))))
              intro W' cw
              simp at cw
              simp [results, Try.results62, go_sem, iv, decV, cw]
          · have hvx : v ≠ x := by
              have : (v == x) = false := by assumption
              simpa using this
            go_roundw
            case rel =>
              refine ⟨k + 1, by omega, by omega, by go_num, by (repeat' (first | (with_reducible first | exact Below.refl _ _ | refine blQ ?_ _ | refine Below.drew ?_ | refine blO ?_ (by assumption) | refine Below.alloc ?_ ?_ _ | refine Below.setCell ?_ ?_ _ | refine Below.frame ?_ _) | omega | (simp only [zA, zS, zD, zQ]; omega))), ?_, fun o' g1 g2 g3 hh => ?_, fun g => by omega, fun g => by omega⟩
              · (repeat' (first | (with_reducible first | assumption | exact hpA _ _ _ rfl | refine hpN ?_ | refine hpD ?_) | ((with_reducible first | refine hpP ?_ ?_ | refine hpT ?_ ?_); (focus (first | omega | (simp only [zA, zS, zD, zQ] <;> omega)))) | ((with_reducible refine hpA _ _ _ ?_); (focus (first | omega | (simp only [zA, zS, zD, zQ] <;> omega)))) | ((with_reducible refine hpB ?_ ?_); (focus assumption)) | (with_reducible apply hpS)))
              · by_cases g : o' = k
                · subst g; exact hvx (Hv.out.2 hh)
                · exact Hno.out o' g1 g2 (by omega) hh
            case measure => simp [intOf]; omega
        · have dl : (x % 128 != low) = true := by simpa using hlow
          have Hlow := Lib.hid hlow
          clear hlow
          go_wp2_with (first
            | (go_at_call 65; refine (Hof.out _).mono ?_; rintro e wo ⟨rfl, hB1⟩; apply kept_block hB1 (n := w.heap.size); (focus (repeat' (first | (with_reducible first | assumption | exact hpA _ _ _ rfl | refine hpN ?_ | refine hpD ?_) | ((with_reducible first | refine hpP ?_ ?_ | refine hpT ?_ ?_); (focus (first | omega | (simp only [zA, zS, zD, zQ] <;> omega)))) | ((with_reducible refine hpA _ _ _ ?_); (focus (first | omega | (simp only [zA, zS, zD, zQ] <;> omega)))) | ((with_reducible refine hpB ?_ ?_); (focus assumption)) | (with_reducible apply hpS)))); intro cr1 fr1 hr1 hz1; simp at cr1; unfold rv; dsimp only)
            | (go_at_call 94; refine (Hg.out _).mono ?_; rintro e wg ⟨rfl, hB2⟩; apply kept_block hB2 (n := w.heap.size); (focus (repeat' (first | (with_reducible first | assumption | exact hpA _ _ _ rfl | refine hpN ?_ | refine hpD ?_) | ((with_reducible first | refine hpP ?_ ?_ | refine hpT ?_ ?_); (focus (first | omega | (simp only [zA, zS, zD, zQ] <;> omega)))) | ((with_reducible refine hpA _ _ _ ?_); (focus (first | omega | (simp only [zA, zS, zD, zQ] <;> omega)))) | ((with_reducible refine hpB ?_ ?_); (focus assumption)) | (with_reducible apply hpS)))); intro cr2 fr2 hr2 hz2; simp at cr2; apply kept_block hB2 (n := wo.heap.size); (focus (repeat' (first | (with_reducible first | assumption | exact hpA _ _ _ rfl | refine hpN ?_ | refine hpD ?_) | ((with_reducible first | refine hpP ?_ ?_ | refine hpT ?_ ?_); (focus (first | omega | (simp only [zA, zS, zD, zQ] <;> omega)))) | ((with_reducible refine hpA _ _ _ ?_); (focus (first | omega | (simp only [zA, zS, zD, zQ] <;> omega)))) | ((with_reducible refine hpB ?_ ?_); (focus assumption)) | (with_reducible apply hpS)))); intro cs2 fs2 hs2 hzs2; simp at cs2; apply kept_block hB2 (n := wo.heap.size + 1); (focus (repeat' (first | (with_reducible first | assumption | exact hpA _ _ _ rfl | refine hpN ?_ | refine hpD ?_) | ((with_reducible first | refine hpP ?_ ?_ | refine hpT ?_ ?_); (focus (first | omega | (simp only [zA, zS, zD, zQ] <;> omega)))) | ((with_reducible refine hpA _ _ _ ?_); (focus (first | omega | (simp only [zA, zS, zD, zQ] <;> omega)))) | ((with_reducible refine hpB ?_ ?_); (focus assumption)) | (with_reducible apply hpS)))); intro ci2 fi2 hi2 hzi2; simp at ci2)
            | (go_at_call 32; refine (HE.out _).mono ?_; rintro e we ⟨rfl, hB3⟩; apply kept_block hB3 (n := w.heap.size); (focus (repeat' (first | (with_reducible first | assumption | exact hpA _ _ _ rfl | refine hpN ?_ | refine hpD ?_) | ((with_reducible first | refine hpP ?_ ?_ | refine hpT ?_ ?_); (focus (first | omega | (simp only [zA, zS, zD, zQ] <;> omega)))) | ((with_reducible refine hpA _ _ _ ?_); (focus (first | omega | (simp only [zA, zS, zD, zQ] <;> omega)))) | ((with_reducible refine hpB ?_ ?_); (focus assumption)) | (with_reducible apply hpS)))); intro cr3 fr3 hr3 hz3; simp at cr3; apply kept_block hB3 (n := wo.heap.size + 1); (focus (repeat' (first | (with_reducible first | assumption | exact hpA _ _ _ rfl | refine hpN ?_ | refine hpD ?_) | ((with_reducible first | refine hpP ?_ ?_ | refine hpT ?_ ?_); (focus (first | omega | (simp only [zA, zS, zD, zQ] <;> omega)))) | ((with_reducible refine hpA _ _ _ ?_); (focus (first | omega | (simp only [zA, zS, zD, zQ] <;> omega)))) | ((with_reducible refine hpB ?_ ?_); (focus assumption)) | (with_reducible apply hpS)))); intro ci3 fi3 hi3 hzi3; simp at ci3))
          go_roundw
          case rel =>
            refine ⟨k + 1, by omega, by omega, by go_num, by (repeat' (first | (with_reducible first | exact Below.refl _ _ | refine blQ ?_ _ | refine Below.drew ?_ | refine blO ?_ (by assumption) | refine Below.alloc ?_ ?_ _ | refine Below.setCell ?_ ?_ _ | refine Below.frame ?_ _) | omega | (simp only [zA, zS, zD, zQ]; omega))), ?_, fun o' g1 g2 g3 hh => ?_, fun g => by omega, fun g => by omega⟩
            · (repeat' (first | (with_reducible first | assumption | exact hpA _ _ _ rfl | refine hpN ?_ | refine hpD ?_) | ((with_reducible first | refine hpP ?_ ?_ | refine hpT ?_ ?_); (focus (first | omega | (simp only [zA, zS, zD, zQ] <;> omega)))) | ((with_reducible refine hpA _ _ _ ?_); (focus (first | omega | (simp only [zA, zS, zD, zQ] <;> omega)))) | ((with_reducible refine hpB ?_ ?_); (focus assumption)) | (with_reducible apply hpS)))
            · by_cases g : o' = k
              · subst g; exact Hlow.out (Hit_.out hh)
              · exact Hno.out o' g1 g2 (by omega) hh
          case measure => simp [intOf]; omega
      · have Hg := Lib.hid (rget_calls 3 x (by omega) h0 h)
        simp only [madeS, iv, if_true, Bool.false_eq_true, if_false, show ImmP.getS 0 x = 0 from rfl] at He hdec
        have Hof := Lib.hid hof
        have HE := Lib.hid He
        have Hdec := Lib.hid hdec
        have Hit_ := Lib.hid hit
        clear hof He hdec hit
        by_cases hlow : x % 128 = low
        · have dl : (x % 128 != low) = false := by simpa using hlow
          go_wp2_with (first
            | (go_at_call 65; refine (Hof.out _).mono ?_; rintro e wo ⟨rfl, hB1⟩; apply kept_block hB1 (n := w.heap.size); (focus (repeat' (first | (with_reducible first | assumption | exact hpA _ _ _ rfl | refine hpN ?_ | refine hpD ?_) | ((with_reducible first | refine hpP ?_ ?_ | refine hpT ?_ ?_); (focus (first | omega | (simp only [zA, zS, zD, zQ] <;> omega)))) | ((with_reducible refine hpA _ _ _ ?_); (focus (first | omega | (simp only [zA, zS, zD, zQ] <;> omega)))) | ((with_reducible refine hpB ?_ ?_); (focus assumption)) | (with_reducible apply hpS)))); intro cr1 fr1 hr1 hz1; simp at cr1; unfold rv; dsimp only)
            | (go_at_call 94; refine (Hg.out _).mono ?_; rintro e wg ⟨rfl, hB2⟩; apply kept_block hB2 (n := w.heap.size); (focus (repeat' (first | (with_reducible first | assumption | exact hpA _ _ _ rfl | refine hpN ?_ | refine hpD ?_) | ((with_reducible first | refine hpP ?_ ?_ | refine hpT ?_ ?_); (focus (first | omega | (simp only [zA, zS, zD, zQ] <;> omega)))) | ((with_reducible refine hpA _ _ _ ?_); (focus (first | omega | (simp only [zA, zS, zD, zQ] <;> omega)))) | ((with_reducible refine hpB ?_ ?_); (focus assumption)) | (with_reducible apply hpS)))); intro cr2 fr2 hr2 hz2; simp at cr2; apply kept_block hB2 (n := wo.heap.size); (focus (repeat' (first | (with_reducible first | assumption | exact hpA _ _ _ rfl | refine hpN ?_ | refine hpD ?_) | ((with_reducible first | refine hpP ?_ ?_ | refine hpT ?_ ?_); (focus (first | omega | (simp only [zA, zS, zD, zQ] <;> omega)))) | ((with_reducible refine hpA _ _ _ ?_); (focus (first | omega | (simp only [zA, zS, zD, zQ] <;> omega)))) | ((with_reducible refine hpB ?_ ?_); (focus assumption)) | (with_reducible apply hpS)))); intro cs2 fs2 hs2 hzs2; simp at cs2; apply kept_block hB2 (n := wo.heap.size + 1); (focus (repeat' (first | (with_reducible first | assumption | exact hpA _ _ _ rfl | refine hpN ?_ | refine hpD ?_) | ((with_reducible first | refine hpP ?_ ?_ | refine hpT ?_ ?_); (focus (first | omega | (simp only [zA, zS, zD, zQ] <;> omega)))) | ((with_reducible refine hpA _ _ _ ?_); (focus (first | omega | (simp only [zA, zS, zD, zQ] <;> omega)))) | ((with_reducible refine hpB ?_ ?_); (focus assumption)) | (with_reducible apply hpS)))); intro ci2 fi2 hi2 hzi2; simp at ci2)
            | (go_at_call 32; refine (HE.out _).mono ?_; rintro e we ⟨rfl, hB3⟩; apply kept_block hB3 (n := w.heap.size); (focus (repeat' (first | (with_reducible first | assumption | exact hpA _ _ _ rfl | refine hpN ?_ | refine hpD ?_) | ((with_reducible first | refine hpP ?_ ?_ | refine hpT ?_ ?_); (focus (first | omega | (simp only [zA, zS, zD, zQ] <;> omega)))) | ((with_reducible refine hpA _ _ _ ?_); (focus (first | omega | (simp only [zA, zS, zD, zQ] <;> omega)))) | ((with_reducible refine hpB ?_ ?_); (focus assumption)) | (with_reducible apply hpS)))); intro cr3 fr3 hr3 hz3; simp at cr3; apply kept_block hB3 (n := wo.heap.size + 1); (focus (repeat' (first | (with_reducible first | assumption | exact hpA _ _ _ rfl | refine hpN ?_ | refine hpD ?_) | ((with_reducible first | refine hpP ?_ ?_ | refine hpT ?_ ?_); (focus (first | omega | (simp only [zA, zS, zD, zQ] <;> omega)))) | ((with_reducible refine hpA _ _ _ ?_); (focus (first | omega | (simp only [zA, zS, zD, zQ] <;> omega)))) | ((with_reducible refine hpB ?_ ?_); (focus assumption)) | (with_reducible apply hpS)))); intro ci3 fi3 hi3 hzi3; simp at ci3))
          · have hvx : v = x := by
              have : (v == x) = true := by assumption
              simpa using this
            refine post_res (B := fun w' => Below w.heap.size w w') ?_ rfl ?_
            · (repeat' (first | (with_reducible first | exact Below.refl _ _ | refine blQ ?_ _ | refine Below.drew ?_ | refine blO ?_ (by assumption) | refine Below.alloc ?_ ?_ _ | refine Below.setCell ?_ ?_ _ | refine Below.frame ?_ _) | omega | (simp only [zA, zS, zD, zQ]; omega)))
            · rw [Hdec.out (Hv.out.1 hvx)]
              apply res_at (n := w.heap.size)
              (focus (repeat' (first | (with_reducible first | assumption | exact hpA _ _ _ rfl | refine hpN ?_ | refine hpD ?_) | ((with_reducible first | refine hpP ?_ ?_ | refine hpT ?_ ?_); (focus (first | omega | (simp only [zA, zS, zD, zQ] <;> omega)))) | ((with_reducible refine hpA _ _ _ ?_); (focus (first | omega | (simp only [zA, zS, zD, zQ] <;> omega)))) | ((with_reducible refine hpB ?_ ?_); (focus assumption)) | (with_reducible apply hpS))))
              intro W' cw
              simp at cw
              simp [results, Try.results62, go_sem, iv, decV, cw]
          · have hvx : v ≠ x := by
              have : (v == x) = false := by assumption
              simpa using this
            go_roundw
            case rel =>
              refine ⟨k + 1, by omega, by omega, by go_num, by (repeat' (first | (with_reducible first | exact Below.refl _ _ | refine blQ ?_ _ | refine Below.drew ?_ | refine blO ?_ (by assumption) | refine Below.alloc ?_ ?_ _ | refine Below.setCell ?_ ?_ _ | refine Below.frame ?_ _) | omega | (simp only [zA, zS, zD, zQ]; omega))), ?_, fun o' g1 g2 g3 hh => ?_, fun g => by omega, fun g => by omega⟩
              · (repeat' (first | (with_reducible first | assumption | exact hpA _ _ _ rfl | refine hpN ?_ | refine hpD ?_) | ((with_reducible first | refine hpP ?_ ?_ | refine hpT ?_ ?_); (focus (first | omega | (simp only [zA, zS, zD, zQ] <;> omega)))) | ((with_reducible refine hpA _ _ _ ?_); (focus (first | omega | (simp only [zA, zS, zD, zQ] <;> omega)))) | ((with_reducible refine hpB ?_ ?_); (focus assumption)) | (with_reducible apply hpS)))
              · by_cases g : o' = k
                · subst g; exact hvx (Hv.out.2 hh)
                · exact Hno.out o' g1 g2 (by omega) hh
            case measure => simp [intOf]; omega
        · have dl : (x % 128 != low) = true := by simpa using hlow
          have Hlow := Lib.hid hlow
          clear hlow
          go_wp2_with (first
            | (go_at_call 65; refine (Hof.out _).mono ?_; rintro e wo ⟨rfl, hB1⟩; apply kept_block hB1 (n := w.heap.size); (focus (repeat' (first | (with_reducible first | assumption | exact hpA _ _ _ rfl | refine hpN ?_ | refine hpD ?_) | ((with_reducible first | refine hpP ?_ ?_ | refine hpT ?_ ?_); (focus (first | omega | (simp only [zA, zS, zD, zQ] <;> omega)))) | ((with_reducible refine hpA _ _ _ ?_); (focus (first | omega | (simp only [zA, zS, zD, zQ] <;> omega)))) | ((with_reducible refine hpB ?_ ?_); (focus assumption)) | (with_reducible apply hpS)))); intro cr1 fr1 hr1 hz1; simp at cr1; unfold rv; dsimp only)
            | (go_at_call 94; refine (Hg.out _).mono ?_; rintro e wg ⟨rfl, hB2⟩; apply kept_block hB2 (n := w.heap.size); (focus (repeat' (first | (with_reducible first | assumption | exact hpA _ _ _ rfl | refine hpN ?_ | refine hpD ?_) | ((with_reducible first | refine hpP ?_ ?_ | refine hpT ?_ ?_); (focus (first | omega | (simp only [zA, zS, zD, zQ] <;> omega)))) | ((with_reducible refine hpA _ _ _ ?_); (focus (first | omega | (simp only [zA, zS, zD, zQ] <;> omega)))) | ((with_reducible refine hpB ?_ ?_); (focus assumption)) | (with_reducible apply hpS)))); intro cr2 fr2 hr2 hz2; simp at cr2; apply kept_block hB2 (n := wo.heap.size); (focus (repeat' (first | (with_reducible first | assumption | exact hpA _ _ _ rfl | refine hpN ?_ | refine hpD ?_) | ((with_reducible first | refine hpP ?_ ?_ | refine hpT ?_ ?_); (focus (first | omega | (simp only [zA, zS, zD, zQ] <;> omega)))) | ((with_reducible refine hpA _ _ _ ?_); (focus (first | omega | (simp only [zA, zS, zD, zQ] <;> omega)))) | ((with_reducible refine hpB ?_ ?_); (focus assumption)) | (with_reducible apply hpS)))); intro cs2 fs2 hs2 hzs2; simp at cs2; apply kept_block hB2 (n := wo.heap.size + 1); (focus (repeat' (first | (with_reducible first | assumption | exact hpA _ _ _ rfl | refine hpN ?_ | refine hpD ?_) | ((with_reducible first | refine hpP ?_ ?_ | refine hpT ?_ ?_); (focus (first | omega | (simp only [zA, zS, zD, zQ] <;> omega)))) | ((with_reducible refine hpA _ _ _ ?_); (focus (first | omega | (simp only [zA, zS, zD, zQ] <;> omega)))) | ((with_reducible refine hpB ?_ ?_); (focus assumption)) | (with_reducible apply hpS)))); intro ci2 fi2 hi2 hzi2; simp at ci2)
            | (go_at_call 32; refine (HE.out _).mono ?_; rintro e we ⟨rfl, hB3⟩; apply kept_block hB3 (n := w.heap.size); (focus (repeat' (first | (with_reducible first | assumption | exact hpA _ _ _ rfl | refine hpN ?_ | refine hpD ?_) | ((with_reducible first | refine hpP ?_ ?_ | refine hpT ?_ ?_); (focus (first | omega | (simp only [zA, zS, zD, zQ] <;> omega)))) | ((with_reducible refine hpA _ _ _ ?_); (focus (first | omega | (simp only [zA, zS, zD, zQ] <;> omega)))) | ((with_reducible refine hpB ?_ ?_); (focus assumption)) | (with_reducible apply hpS)))); intro cr3 fr3 hr3 hz3; simp at cr3; apply kept_block hB3 (n := wo.heap.size + 1); (focus (repeat' (first | (with_reducible first | assumption | exact hpA _ _ _ rfl | refine hpN ?_ | refine hpD ?_) | ((with_reducible first | refine hpP ?_ ?_ | refine hpT ?_ ?_); (focus (first | omega | (simp only [zA, zS, zD, zQ] <;> omega)))) | ((with_reducible refine hpA _ _ _ ?_); (focus (first | omega | (simp only [zA, zS, zD, zQ] <;> omega)))) | ((with_reducible refine hpB ?_ ?_); (focus assumption)) | (with_reducible apply hpS)))); intro ci3 fi3 hi3 hzi3; simp at ci3))
          go_roundw
          case rel =>
            refine ⟨k + 1, by omega, by omega, by go_num, by (repeat' (first | (with_reducible first | exact Below.refl _ _ | refine blQ ?_ _ | refine Below.drew ?_ | refine blO ?_ (by assumption) | refine Below.alloc ?_ ?_ _ | refine Below.setCell ?_ ?_ _ | refine Below.frame ?_ _) | omega | (simp only [zA, zS, zD, zQ]; omega))), ?_, fun o' g1 g2 g3 hh => ?_, fun g => by omega, fun g => by omega⟩
            · (repeat' (first | (with_reducible first | assumption | exact hpA _ _ _ rfl | refine hpN ?_ | refine hpD ?_) | ((with_reducible first | refine hpP ?_ ?_ | refine hpT ?_ ?_); (focus (first | omega | (simp only [zA, zS, zD, zQ] <;> omega)))) | ((with_reducible refine hpA _ _ _ ?_); (focus (first | omega | (simp only [zA, zS, zD, zQ] <;> omega)))) | ((with_reducible refine hpB ?_ ?_); (focus assumption)) | (with_reducible apply hpS)))
            · by_cases g : o' = k
              · subst g; exact Hlow.out (Hit_.out hh)
              · exact Hno.out o' g1 g2 (by omega) hh
          case measure => simp [intOf]; omega
      · have Hg := Lib.hid (rget_calls 4 x (by omega) h0 h)
        simp only [madeS, iv, if_true, Bool.false_eq_true, if_false, show ImmP.getS 0 x = 0 from rfl] at He hdec
        have Hof := Lib.hid hof
        have HE := Lib.hid He
        have Hdec := Lib.hid hdec
        have Hit_ := Lib.hid hit
        clear hof He hdec hit
        by_cases hlow : x % 128 = low
        · have dl : (x % 128 != low) = false := by simpa using hlow
          go_wp2_with (first
            | (go_at_call 65; refine (Hof.out _).mono ?_; rintro e wo ⟨rfl, hB1⟩; apply kept_block hB1 (n := w.heap.size); (focus (repeat' (first | (with_reducible first | assumption | exact hpA _ _ _ rfl | refine hpN ?_ | refine hpD ?_) | ((with_reducible first | refine hpP ?_ ?_ | refine hpT ?_ ?_); (focus (first | omega | (simp only [zA, zS, zD, zQ] <;> omega)))) | ((with_reducible refine hpA _ _ _ ?_); (focus (first | omega | (simp only [zA, zS, zD, zQ] <;> omega)))) | ((with_reducible refine hpB ?_ ?_); (focus assumption)) | (with_reducible apply hpS)))); intro cr1 fr1 hr1 hz1; simp at cr1; unfold rv; dsimp only)
            | (go_at_call 94; refine (Hg.out _).mono ?_; rintro e wg ⟨rfl, hB2⟩; apply kept_block hB2 (n := w.heap.size); (focus (repeat' (first | (with_reducible first | assumption | exact hpA _ _ _ rfl | refine hpN ?_ | refine hpD ?_) | ((with_reducible first | refine hpP ?_ ?_ | refine hpT ?_ ?_); (focus (first | omega | (simp only [zA, zS, zD, zQ] <;> omega)))) | ((with_reducible refine hpA _ _ _ ?_); (focus (first | omega | (simp only [zA, zS, zD, zQ] <;> omega)))) | ((with_reducible refine hpB ?_ ?_); (focus assumption)) | (with_reducible apply hpS)))); intro cr2 fr2 hr2 hz2; simp at cr2; apply kept_block hB2 (n := wo.heap.size); (focus (repeat' (first | (with_reducible first | assumption | exact hpA _ _ _ rfl | refine hpN ?_ | refine hpD ?_) | ((with_reducible first | refine hpP ?_ ?_ | refine hpT ?_ ?_); (focus (first | omega | (simp only [zA, zS, zD, zQ] <;> omega)))) | ((with_reducible refine hpA _ _ _ ?_); (focus (first | omega | (simp only [zA, zS, zD, zQ] <;> omega)))) | ((with_reducible refine hpB ?_ ?_); (focus assumption)) | (with_reducible apply hpS)))); intro cs2 fs2 hs2 hzs2; simp at cs2; apply kept_block hB2 (n := wo.heap.size + 1); (focus (repeat' (first | (with_reducible first | assumption | exact hpA _ _ _ rfl | refine hpN ?_ | refine hpD ?_) | ((with_reducible first | refine hpP ?_ ?_ | refine hpT ?_ ?_); (focus (first | omega | (simp only [zA, zS, zD, zQ] <;> omega)))) | ((with_reducible refine hpA _ _ _ ?_); (focus (first | omega | (simp only [zA, zS, zD, zQ] <;> omega)))) | ((with_reducible refine hpB ?_ ?_); (focus assumption)) | (with_reducible apply hpS)))); intro ci2 fi2 hi2 hzi2; simp at ci2)
            | (go_at_call 32; refine (HE.out _).mono ?_; rintro e we ⟨rfl, hB3⟩; apply kept_block hB3 (n := w.heap.size); (focus (repeat' (first | (with_reducible first | assumption | exact hpA _ _ _ rfl | refine hpN ?_ | refine hpD ?_) | ((with_reducible first | refine hpP ?_ ?_ | refine hpT ?_ ?_); (focus (first | omega | (simp only [zA, zS, zD, zQ] <;> omega)))) | ((with_reducible refine hpA _ _ _ ?_); (focus (first | omega | (simp only [zA, zS, zD, zQ] <;> omega)))) | ((with_reducible refine hpB ?_ ?_); (focus assumption)) | (with_reducible apply hpS)))); intro cr3 fr3 hr3 hz3; simp at cr3; apply kept_block hB3 (n := wo.heap.size + 1); (focus (repeat' (first | (with_reducible first | assumption | exact hpA _ _ _ rfl | refine hpN ?_ | refine hpD ?_) | ((with_reducible first | refine hpP ?_ ?_ | refine hpT ?_ ?_); (focus (first | omega | (simp only [zA, zS, zD, zQ] <;> omega)))) | ((with_reducible refine hpA _ _ _ ?_); (focus (first | omega | (simp only [zA, zS, zD, zQ] <;> omega)))) | ((with_reducible refine hpB ?_ ?_); (focus assumption)) | (with_reducible apply hpS)))); intro ci3 fi3 hi3 hzi3; simp at ci3))
          · have hvx : v = x := by
              have : (v == x) = true := by assumption
              simpa using this
            refine post_res (B := fun w' => Below w.heap.size w w') ?_ rfl ?_
            · (repeat' (first | (with_reducible first | exact Below.refl _ _ | refine blQ ?_ _ | refine Below.drew ?_ | refine blO ?_ (by assumption) | refine Below.alloc ?_ ?_ _ | refine Below.setCell ?_ ?_ _ | refine Below.frame ?_ _) | omega | (simp only [zA, zS, zD, zQ]; omega)))
            · rw [Hdec.out (Hv.out.1 hvx)]
              apply res_at (n := w.heap.size)
              (focus (repeat' (first | (with_reducible first | assumption | exact hpA _ _ _ rfl | refine hpN ?_ | refine hpD ?_) | ((with_reducible first | refine hpP ?_ ?_ | refine hpT ?_ ?_); (focus (first | omega | (simp only [zA, zS, zD, zQ] <;> omega)))) | ((with_reducible refine hpA _ _ _ ?_); (focus (first | omega | (simp only [zA, zS, zD, zQ] <;> omega)))) | ((with_reducible refine hpB ?_ ?_); (focus assumption)) | (with_reducible apply hpS))))
              intro W' cw
              simp at cw
              simp [results, Try.results62, go_sem, iv, decV, cw]
          · have hvx : v ≠ x := by
              have : (v == x) = false := by assumption
              simpa using this
            go_roundw
            case rel =>
              refine ⟨k + 1, by omega, by omega, by go_num, by (repeat' (first | (with_reducible first | exact Below.refl _ _ | refine blQ ?_ _ | refine Below.drew ?_ | refine blO ?_ (by assumption) | refine Below.alloc ?_ ?_ _ | refine Below.setCell ?_ ?_ _ | refine Below.frame ?_ _) | omega | (simp only [zA, zS, zD, zQ]; omega))), ?_, fun o' g1 g2 g3 hh => ?_, fun g => by omega, fun g => by omega⟩
              · (repeat' (first | (with_reducible first | assumption | exact hpA _ _ _ rfl | refine hpN ?_ | refine hpD ?_) | ((with_reducible first | refine hpP ?_ ?_ | refine hpT ?_ ?_); (focus (first | omega | (simp only [zA, zS, zD, zQ] <;> omega)))) | ((with_reducible refine hpA _ _ _ ?_); (focus (first | omega | (simp only [zA, zS, zD, zQ] <;> omega)))) | ((with_reducible refine hpB ?_ ?_); (focus assumption)) | (with_reducible apply hpS)))
              · by_cases g : o' = k
                · subst g; exact hvx (Hv.out.2 hh)
                · exact Hno.out o' g1 g2 (by omega) hh
            case measure => simp [intOf]; omega
        · have dl : (x % 128 != low) = true := by simpa using hlow
          have Hlow := Lib.hid hlow
          clear hlow
          go_wp2_with (first
            | (go_at_call 65; refine (Hof.out _).mono ?_; rintro e wo ⟨rfl, hB1⟩; apply kept_block hB1 (n := w.heap.size); (focus (repeat' (first | (with_reducible first | assumption | exact hpA _ _ _ rfl | refine hpN ?_ | refine hpD ?_) | ((with_reducible first | refine hpP ?_ ?_ | refine hpT ?_ ?_); (focus (first | omega | (simp only [zA, zS, zD, zQ] <;> omega)))) | ((with_reducible refine hpA _ _ _ ?_); (focus (first | omega | (simp only [zA, zS, zD, zQ] <;> omega)))) | ((with_reducible refine hpB ?_ ?_); (focus assumption)) | (with_reducible apply hpS)))); intro cr1 fr1 hr1 hz1; simp at cr1; unfold rv; dsimp only)
            | (go_at_call 94; refine (Hg.out _).mono ?_; rintro e wg ⟨rfl, hB2⟩; apply kept_block hB2 (n := w.heap.size); (focus (repeat' (first | (with_reducible first | assumption | exact hpA _ _ _ rfl | refine hpN ?_ | refine hpD ?_) | ((with_reducible first | refine hpP ?_ ?_ | refine hpT ?_ ?_); (focus (first | omega | (simp only [zA, zS, zD, zQ] <;> omega)))) | ((with_reducible refine hpA _ _ _ ?_); (focus (first | omega | (simp only [zA, zS, zD, zQ] <;> omega)))) | ((with_reducible refine hpB ?_ ?_); (focus assumption)) | (with_reducible apply hpS)))); intro cr2 fr2 hr2 hz2; simp at cr2; apply kept_block hB2 (n := wo.heap.size); (focus (repeat' (first | (with_reducible first | assumption | exact hpA _ _ _ rfl | refine hpN ?_ | refine hpD ?_) | ((with_reducible first | refine hpP ?_ ?_ | refine hpT ?_ ?_); (focus (first | omega | (simp only [zA, zS, zD, zQ] <;> omega)))) | ((with_reducible refine hpA _ _ _ ?_); (focus (first | omega | (simp only [zA, zS, zD, zQ] <;> omega)))) | ((with_reducible refine hpB ?_ ?_); (focus assumption)) | (with_reducible apply hpS)))); intro cs2 fs2 hs2 hzs2; simp at cs2; apply kept_block hB2 (n := wo.heap.size + 1); (focus (repeat' (first | (with_reducible first | assumption | exact hpA _ _ _ rfl | refine hpN ?_ | refine hpD ?_) | ((with_reducible first | refine hpP ?_ ?_ | refine hpT ?_ ?_); (focus (first | omega | (simp only [zA, zS, zD, zQ] <;> omega)))) | ((with_reducible refine hpA _ _ _ ?_); (focus (first | omega | (simp only [zA, zS, zD, zQ] <;> omega)))) | ((with_reducible refine hpB ?_ ?_); (focus assumption)) | (with_reducible apply hpS)))); intro ci2 fi2 hi2 hzi2; simp at ci2)
            | (go_at_call 32; refine (HE.out _).mono ?_; rintro e we ⟨rfl, hB3⟩; apply kept_block hB3 (n := w.heap.size); (focus (repeat' (first | (with_reducible first | assumption | exact hpA _ _ _ rfl | refine hpN ?_ | refine hpD ?_) | ((with_reducible first | refine hpP ?_ ?_ | refine hpT ?_ ?_); (focus (first | omega | (simp only [zA, zS, zD, zQ] <;> omega)))) | ((with_reducible refine hpA _ _ _ ?_); (focus (first | omega | (simp only [zA, zS, zD, zQ] <;> omega)))) | ((with_reducible refine hpB ?_ ?_); (focus assumption)) | (with_reducible apply hpS)))); intro cr3 fr3 hr3 hz3; simp at cr3; apply kept_block hB3 (n := wo.heap.size + 1); (focus (repeat' (first | (with_reducible first | assumption | exact hpA _ _ _ rfl | refine hpN ?_ | refine hpD ?_) | ((with_reducible first | refine hpP ?_ ?_ | refine hpT ?_ ?_); (focus (first | omega | (simp only [zA, zS, zD, zQ] <;> omega)))) | ((with_reducible refine hpA _ _ _ ?_); (focus (first | omega | (simp only [zA, zS, zD, zQ] <;> omega)))) | ((with_reducible refine hpB ?_ ?_); (focus assumption)) | (with_reducible apply hpS)))); intro ci3 fi3 hi3 hzi3; simp at ci3))
          go_roundw
          case rel =>
            refine ⟨k + 1, by omega, by omega, by go_num, by (repeat' (first | (with_reducible first | exact Below.refl _ _ | refine blQ ?_ _ | refine Below.drew ?_ | refine blO ?_ (by assumption) | refine Below.alloc ?_ ?_ _ | refine Below.setCell ?_ ?_ _ | refine Below.frame ?_ _) | omega | (simp only [zA, zS, zD, zQ]; omega))), ?_, fun o' g1 g2 g3 hh => ?_, fun g => by omega, fun g => by omega⟩
            · (repeat' (first | (with_reducible first | assumption | exact hpA _ _ _ rfl | refine hpN ?_ | refine hpD ?_) | ((with_reducible first | refine hpP ?_ ?_ | refine hpT ?_ ?_); (focus (first | omega | (simp only [zA, zS, zD, zQ] <;> omega)))) | ((with_reducible refine hpA _ _ _ ?_); (focus (first | omega | (simp only [zA, zS, zD, zQ] <;> omega)))) | ((with_reducible refine hpB ?_ ?_); (focus assumption)) | (with_reducible apply hpS)))
            · by_cases g : o' = k
              · subst g; exact Hlow.out (Hit_.out hh)
              · exact Hno.out o' g1 g2 (by omega) hh
          case measure => simp [intOf]; omega
      · have Hg := Lib.hid (rget_calls 5 x (by omega) h0 h)
        simp only [madeS, iv, if_true, Bool.false_eq_true, if_false, show ImmP.getS 0 x = 0 from rfl] at He hdec
        have Hof := Lib.hid hof
        have HE := Lib.hid He
        have Hdec := Lib.hid hdec
        have Hit_ := Lib.hid hit
        clear hof He hdec hit
        by_cases hlow : x % 128 = low
        · have dl : (x % 128 != low) = false := by simpa using hlow
          go_wp2_with (first
            | (go_at_call 65; refine (Hof.out _).mono ?_; rintro e wo ⟨rfl, hB1⟩; apply kept_block hB1 (n := w.heap.size); (focus (repeat' (first | (with_reducible first | assumption | exact hpA _ _ _ rfl | refine hpN ?_ | refine hpD ?_) | ((with_reducible first | refine hpP ?_ ?_ | refine hpT ?_ ?_); (focus (first | omega | (simp only [zA, zS, zD, zQ] <;> omega)))) | ((with_reducible refine hpA _ _ _ ?_); (focus (first | omega | (simp only [zA, zS, zD, zQ] <;> omega)))) | ((with_reducible refine hpB ?_ ?_); (focus assumption)) | (with_reducible apply hpS)))); intro cr1 fr1 hr1 hz1; simp at cr1; unfold rv; dsimp only)
            | (go_at_call 94; refine (Hg.out _).mono ?_; rintro e wg ⟨rfl, hB2⟩; apply kept_block hB2 (n := w.heap.size); (focus (repeat' (first | (with_reducible first | assumption | exact hpA _ _ _ rfl | refine hpN ?_ | refine hpD ?_) | ((with_reducible first | refine hpP ?_ ?_ | refine hpT ?_ ?_); (focus (first | omega | (simp only [zA, zS, zD, zQ] <;> omega)))) | ((with_reducible refine hpA _ _ _ ?_); (focus (first | omega | (simp only [zA, zS, zD, zQ] <;> omega)))) | ((with_reducible refine hpB ?_ ?_); (focus assumption)) | (with_reducible apply hpS)))); intro cr2 fr2 hr2 hz2; simp at cr2; apply kept_block hB2 (n := wo.heap.size); (focus (repeat' (first | (with_reducible first | assumption | exact hpA _ _ _ rfl | refine hpN ?_ | refine hpD ?_) | ((with_reducible first | refine hpP ?_ ?_ | refine hpT ?_ ?_); (focus (first | omega | (simp only [zA, zS, zD, zQ] <;> omega)))) | ((with_reducible refine hpA _ _ _ ?_); (focus (first | omega | (simp only [zA, zS, zD, zQ] <;> omega)))) | ((with_reducible refine hpB ?_ ?_); (focus assumption)) | (with_reducible apply hpS)))); intro cs2 fs2 hs2 hzs2; simp at cs2; apply kept_block hB2 (n := wo.heap.size + 1); (focus (repeat' (first | (with_reducible first | assumption | exact hpA _ _ _ rfl | refine hpN ?_ | refine hpD ?_) | ((with_reducible first | refine hpP ?_ ?_ | refine hpT ?_ ?_); (focus (first | omega | (simp only [zA, zS, zD, zQ] <;> omega)))) | ((with_reducible refine hpA _ _ _ ?_); (focus (first | omega | (simp only [zA, zS, zD, zQ] <;> omega)))) | ((with_reducible refine hpB ?_ ?_); (focus assumption)) | (with_reducible apply hpS)))); intro ci2 fi2 hi2 hzi2; simp at ci2)
            | (go_at_call 32; refine (HE.out _).mono ?_; rintro e we ⟨rfl, hB3⟩; apply kept_block hB3 (n := w.heap.size); (focus (repeat' (first | (with_reducible first | assumption | exact hpA _ _ _ rfl | refine hpN ?_ | refine hpD ?_) | ((with_reducible first | refine hpP ?_ ?_ | refine hpT ?_ ?_); (focus (first | omega | (simp only [zA, zS, zD, zQ] <;> omega)))) | ((with_reducible refine hpA _ _ _ ?_); (focus (first | omega | (simp only [zA, zS, zD, zQ] <;> omega)))) | ((with_reducible refine hpB ?_ ?_); (focus assumption)) | (with_reducible apply hpS)))); intro cr3 fr3 hr3 hz3; simp at cr3; apply kept_block hB3 (n := wo.heap.size + 1); (focus (repeat' (first | (with_reducible first | assumption | exact hpA _ _ _ rfl | refine hpN ?_ | refine hpD ?_) | ((with_reducible first | refine hpP ?_ ?_ | refine hpT ?_ ?_); (focus (first | omega | (simp only [zA, zS, zD, zQ] <;> omega)))) | ((with_reducible refine hpA _ _ _ ?_); (focus (first | omega | (simp only [zA, zS, zD, zQ] <;> omega)))) | ((with_reducible refine hpB ?_ ?_); (focus assumption)) | (with_reducible apply hpS)))); intro ci3 fi3 hi3 hzi3; simp at ci3))
          · have hvx : v = x := by
              have : (v == x) = true := by assumption
              simpa using this
            refine post_res (B := fun w' => Below w.heap.size w w') ?_ rfl ?_
            · (repeat' (first | (with_reducible first | exact Below.refl _ _ | refine blQ ?_ _ | refine Below.drew ?_ | refine blO ?_ (by assumption) | refine Below.alloc ?_ ?_ _ | refine Below.setCell ?_ ?_ _ | refine Below.frame ?_ _) | omega | (simp only [zA, zS, zD, zQ]; omega)))
            · rw [Hdec.out (Hv.out.1 hvx)]
              apply res_at (n := w.heap.size)
              (focus (repeat' (first | (with_reducible first | assumption | exact hpA _ _ _ rfl | refine hpN ?_ | refine hpD ?_) | ((with_reducible first | refine hpP ?_ ?_ | refine hpT ?_ ?_); (focus (first | omega | (simp only [zA, zS, zD, zQ] <;> omega)))) | ((with_reducible refine hpA _ _ _ ?_); (focus (first | omega | (simp only [zA, zS, zD, zQ] <;> omega)))) | ((with_reducible refine hpB ?_ ?_); (focus assumption)) | (with_reducible apply hpS))))
              intro W' cw
              simp at cw
              simp [results, Try.results62, go_sem, iv, decV, cw]
          · have hvx : v ≠ x := by
              have : (v == x) = false := by assumption
              simpa using this
            go_roundw
            case rel =>
              refine ⟨k + 1, by omega, by omega, by go_num, by (repeat' (first | (with_reducible first | exact Below.refl _ _ | refine blQ ?_ _ | refine Below.drew ?_ | refine blO ?_ (by assumption) | refine Below.alloc ?_ ?_ _ | refine Below.setCell ?_ ?_ _ | refine Below.frame ?_ _) | omega | (simp only [zA, zS, zD, zQ]; omega))), ?_, fun o' g1 g2 g3 hh => ?_, fun g => by omega, fun g => by omega⟩
              · (repeat' (first | (with_reducible first | assumption | exact hpA _ _ _ rfl | refine hpN ?_ | refine hpD ?_) | ((with_reducible first | refine hpP ?_ ?_ | refine hpT ?_ ?_); (focus (first | omega | (simp only [zA, zS, zD, zQ] <;> omega)))) | ((with_reducible refine hpA _ _ _ ?_); (focus (first | omega | (simp only [zA, zS, zD, zQ] <;> omega)))) | ((with_reducible refine hpB ?_ ?_); (focus assumption)) | (with_reducible apply hpS)))
              · by_cases g : o' = k
                · subst g; exact hvx (Hv.out.2 hh)
                · exact Hno.out o' g1 g2 (by omega) hh
            case measure => simp [intOf]; omega
        · have dl : (x % 128 != low) = true := by simpa using hlow
          have Hlow := Lib.hid hlow
          clear hlow
          go_wp2_with (first
            | (go_at_call 65; refine (Hof.out _).mono ?_; rintro e wo ⟨rfl, hB1⟩; apply kept_block hB1 (n := w.heap.size); (focus (repeat' (first | (with_reducible first | assumption | exact hpA _ _ _ rfl | refine hpN ?_ | refine hpD ?_) | ((with_reducible first | refine hpP ?_ ?_ | refine hpT ?_ ?_); (focus (first | omega | (simp only [zA, zS, zD, zQ] <;> omega)))) | ((with_reducible refine hpA _ _ _ ?_); (focus (first | omega | (simp only [zA, zS, zD, zQ] <;> omega)))) | ((with_reducible refine hpB ?_ ?_); (focus assumption)) | (with_reducible apply hpS)))); intro cr1 fr1 hr1 hz1; simp at cr1; unfold rv; dsimp only)
            | (go_at_call 94; refine (Hg.out _).mono ?_; rintro e wg ⟨rfl, hB2⟩; apply kept_block hB2 (n := w.heap.size); (focus (repeat' (first | (with_reducible first | assumption | exact hpA _ _ _ rfl | refine hpN ?_ | refine hpD ?_) | ((with_reducible first | refine hpP ?_ ?_ | refine hpT ?_ ?_); (focus (first | omega | (simp only [zA, zS, zD, zQ] <;> omega)))) | ((with_reducible refine hpA _ _ _ ?_); (focus (first | omega | (simp only [zA, zS, zD, zQ] <;> omega)))) | ((with_reducible refine hpB ?_ ?_); (focus assumption)) | (with_reducible apply hpS)))); intro cr2 fr2 hr2 hz2; simp at cr2; apply kept_block hB2 (n := wo.heap.size); (focus (repeat' (first | (with_reducible first | assumption | exact hpA _ _ _ rfl | refine hpN ?_ | refine hpD ?_) | ((with_reducible first | refine hpP ?_ ?_ | refine hpT ?_ ?_); (focus (first | omega | (simp only [zA, zS, zD, zQ] <;> omega)))) | ((with_reducible refine hpA _ _ _ ?_); (focus (first | omega | (simp only [zA, zS, zD, zQ] <;> omega)))) | ((with_reducible refine hpB ?_ ?_); (focus assumption)) | (with_reducible apply hpS)))); intro cs2 fs2 hs2 hzs2; simp at cs2; apply kept_block hB2 (n := wo.heap.size + 1); (focus (repeat' (first | (with_reducible first | assumption | exact hpA _ _ _ rfl | refine hpN ?_ | refine hpD ?_) | ((with_reducible first | refine hpP ?_ ?_ | refine hpT ?_ ?_); (focus (first | omega | (simp only [zA, zS, zD, zQ] <;> omega)))) | ((with_reducible refine hpA _ _ _ ?_); (focus (first | omega | (simp only [zA, zS, zD, zQ] <;> omega)))) | ((with_reducible refine hpB ?_ ?_); (focus assumption)) | (with_reducible apply hpS)))); intro ci2 fi2 hi2 hzi2; simp at ci2)
            | (go_at_call 32; refine (HE.out _).mono ?_; rintro e we ⟨rfl, hB3⟩; apply kept_block hB3 (n := w.heap.size); (focus (repeat' (first | (with_reducible first | assumption | exact hpA _ _ _ rfl | refine hpN ?_ | refine hpD ?_) | ((with_reducible first | refine hpP ?_ ?_ | refine hpT ?_ ?_); (focus (first | omega | (simp only [zA, zS, zD, zQ] <;> omega)))) | ((with_reducible refine hpA _ _ _ ?_); (focus (first | omega | (simp only [zA, zS, zD, zQ] <;> omega)))) | ((with_reducible refine hpB ?_ ?_); (focus assumption)) | (with_reducible apply hpS)))); intro cr3 fr3 hr3 hz3; simp at cr3; apply kept_block hB3 (n := wo.heap.size + 1); (focus (repeat' (first | (with_reducible first | assumption | exact hpA _ _ _ rfl | refine hpN ?_ | refine hpD ?_) | ((with_reducible first | refine hpP ?_ ?_ | refine hpT ?_ ?_); (focus (first | omega | (simp only [zA, zS, zD, zQ] <;> omega)))) | ((with_reducible refine hpA _ _ _ ?_); (focus (first | omega | (simp only [zA, zS, zD, zQ] <;> omega)))) | ((with_reducible refine hpB ?_ ?_); (focus assumption)) | (with_reducible apply hpS)))); intro ci3 fi3 hi3 hzi3; simp at ci3))
          go_roundw
          case rel =>
            refine ⟨k + 1, by omega, by omega, by go_num, by (repeat' (first | (with_reducible first | exact Below.refl _ _ | refine blQ ?_ _ | refine Below.drew ?_ | refine blO ?_ (by assumption) | refine Below.alloc ?_ ?_ _ | refine Below.setCell ?_ ?_ _ | refine Below.frame ?_ _) | omega | (simp only [zA, zS, zD, zQ]; omega))), ?_, fun o' g1 g2 g3 hh => ?_, fun g => by omega, fun g => by omega⟩
            · (repeat' (first | (with_reducible first | assumption | exact hpA _ _ _ rfl | refine hpN ?_ | refine hpD ?_) | ((with_reducible first | refine hpP ?_ ?_ | refine hpT ?_ ?_); (focus (first | omega | (simp only [zA, zS, zD, zQ] <;> omega)))) | ((with_reducible refine hpA _ _ _ ?_); (focus (first | omega | (simp only [zA, zS, zD, zQ] <;> omega)))) | ((with_reducible refine hpB ?_ ?_); (focus assumption)) | (with_reducible apply hpS)))
            · by_cases g : o' = k
              · subst g; exact Hlow.out (Hit_.out hh)
              · exact Hno.out o' g1 g2 (by omega) hh
          case measure => simp [intOf]; omega
      · have Hg := Lib.hid (rget_calls 1 x (by omega) h0 h)
        simp only [madeS, iv, if_true, Bool.false_eq_true, if_false, show ImmP.getS 0 x = 0 from rfl] at He hdec
        have Hof := Lib.hid hof
        have HE := Lib.hid He
        have Hdec := Lib.hid hdec
        have Hit_ := Lib.hid hit
        clear hof He hdec hit
        by_cases hlow : x % 128 = low
        · have dl : (x % 128 != low) = false := by simpa using hlow
          go_wp2_with (first
            | (go_at_call 65; refine (Hof.out _).mono ?_; rintro e wo ⟨rfl, hB1⟩; apply kept_block hB1 (n := w.heap.size); (focus (repeat' (first | (with_reducible first | assumption | exact hpA _ _ _ rfl | refine hpN ?_ | refine hpD ?_) | ((with_reducible first | refine hpP ?_ ?_ | refine hpT ?_ ?_); (focus (first | omega | (simp only [zA, zS, zD, zQ] <;> omega)))) | ((with_reducible refine hpA _ _ _ ?_); (focus (first | omega | (simp only [zA, zS, zD, zQ] <;> omega)))) | ((with_reducible refine hpB ?_ ?_); (focus assumption)) | (with_reducible apply hpS)))); intro cr1 fr1 hr1 hz1; simp at cr1; unfold rv; dsimp only)
            | (go_at_call 94; refine (Hg.out _).mono ?_; rintro e wg ⟨rfl, hB2⟩; apply kept_block hB2 (n := w.heap.size); (focus (repeat' (first | (with_reducible first | assumption | exact hpA _ _ _ rfl | refine hpN ?_ | refine hpD ?_) | ((with_reducible first | refine hpP ?_ ?_ | refine hpT ?_ ?_); (focus (first | omega | (simp only [zA, zS, zD, zQ] <;> omega)))) | ((with_reducible refine hpA _ _ _ ?_); (focus (first | omega | (simp only [zA, zS, zD, zQ] <;> omega)))) | ((with_reducible refine hpB ?_ ?_); (focus assumption)) | (with_reducible apply hpS)))); intro cr2 fr2 hr2 hz2; simp at cr2; apply kept_block hB2 (n := wo.heap.size); (focus (repeat' (first | (with_reducible first | assumption | exact hpA _ _ _ rfl | refine hpN ?_ | refine hpD ?_) | ((with_reducible first | refine hpP ?_ ?_ | refine hpT ?_ ?_); (focus (first | omega | (simp only [zA, zS, zD, zQ] <;> omega)))) | ((with_reducible refine hpA _ _ _ ?_); (focus (first | omega | (simp only [zA, zS, zD, zQ] <;> omega)))) | ((with_reducible refine hpB ?_ ?_); (focus assumption)) | (with_reducible apply hpS)))); intro cs2 fs2 hs2 hzs2; simp at cs2; apply kept_block hB2 (n := wo.heap.size + 1); (focus (repeat' (first | (with_reducible first | assumption | exact hpA _ _ _ rfl | refine hpN ?_ | refine hpD ?_) | ((with_reducible first | refine hpP ?_ ?_ | refine hpT ?_ ?_); (focus (first | omega | (simp only [zA, zS, zD, zQ] <;> omega)))) | ((with_reducible refine hpA _ _ _ ?_); (focus (first | omega | (simp only [zA, zS, zD, zQ] <;> omega)))) | ((with_reducible refine hpB ?_ ?_); (focus assumption)) | (with_reducible apply hpS)))); intro ci2 fi2 hi2 hzi2; simp at ci2)
            | (go_at_call 32; refine (HE.out _).mono ?_; rintro e we ⟨rfl, hB3⟩; apply kept_block hB3 (n := w.heap.size); (focus (repeat' (first | (with_reducible first | assumption | exact hpA _ _ _ rfl | refine hpN ?_ | refine hpD ?_) | ((with_reducible first | refine hpP ?_ ?_ | refine hpT ?_ ?_); (focus (first | omega | (simp only [zA, zS, zD, zQ] <;> omega)))) | ((with_reducible refine hpA _ _ _ ?_); (focus (first | omega | (simp only [zA, zS, zD, zQ] <;> omega)))) | ((with_reducible refine hpB ?_ ?_); (focus assumption)) | (with_reducible apply hpS)))); intro cr3 fr3 hr3 hz3; simp at cr3; apply kept_block hB3 (n := wo.heap.size + 1); (focus (repeat' (first | (with_reducible first | assumption | exact hpA _ _ _ rfl | refine hpN ?_ | refine hpD ?_) | ((with_reducible first | refine hpP ?_ ?_ | refine hpT ?_ ?_); (focus (first | omega | (simp only [zA, zS, zD, zQ] <;> omega)))) | ((with_reducible refine hpA _ _ _ ?_); (focus (first | omega | (simp only [zA, zS, zD, zQ] <;> omega)))) | ((with_reducible refine hpB ?_ ?_); (focus assumption)) | (with_reducible apply hpS)))); intro ci3 fi3 hi3 hzi3; simp at ci3))
          · have hvx : v = x := by
              have : (v == x) = true := by assumption
              simpa using this
            refine post_res (B := fun w' => Below w.heap.size w w') ?_ rfl ?_
            · (repeat' (first | (with_reducible first | exact Below.refl _ _ | refine blQ ?_ _ | refine Below.drew ?_ | refine blO ?_ (by assumption) | refine Below.alloc ?_ ?_ _ | refine Below.setCell ?_ ?_ _ | refine Below.frame ?_ _) | omega | (simp only [zA, zS, zD, zQ]; omega)))
            · rw [Hdec.out (Hv.out.1 hvx)]
              apply res_at (n := w.heap.size)
              (focus (repeat' (first | (with_reducible first | assumption | exact hpA _ _ _ rfl | refine hpN ?_ | refine hpD ?_) | ((with_reducible first | refine hpP ?_ ?_ | refine hpT ?_ ?_); (focus (first | omega | (simp only [zA, zS, zD, zQ] <;> omega)))) | ((with_reducible refine hpA _ _ _ ?_); (focus (first | omega | (simp only [zA, zS, zD, zQ] <;> omega)))) | ((with_reducible refine hpB ?_ ?_); (focus assumption)) | (with_reducible apply hpS))))
              intro W' cw
              simp at cw
              simp [results, Try.results62, go_sem, iv, decV, cw]
          · have hvx : v ≠ x := by
              have : (v == x) = false := by assumption
              simpa using this
            go_roundw
            case rel =>
              refine ⟨k + 1, by omega, by omega, by go_num, by (repeat' (first | (with_reducible first | exact Below.refl _ _ | refine blQ ?_ _ | refine Below.drew ?_ | refine blO ?_ (by assumption) | refine Below.alloc ?_ ?_ _ | refine Below.setCell ?_ ?_ _ | refine Below.frame ?_ _) | omega | (simp only [zA, zS, zD, zQ]; omega))), ?_, fun o' g1 g2 g3 hh => ?_, fun g => by omega, fun g => by omega⟩
              · (repeat' (first | (with_reducible first | assumption | exact hpA _ _ _ rfl | refine hpN ?_ | refine hpD ?_) | ((with_reducible first | refine hpP ?_ ?_ | refine hpT ?_ ?_); (focus (first | omega | (simp only [zA, zS, zD, zQ] <;> omega)))) | ((with_reducible refine hpA _ _ _ ?_); (focus (first | omega | (simp only [zA, zS, zD, zQ] <;> omega)))) | ((with_reducible refine hpB ?_ ?_); (focus assumption)) | (with_reducible apply hpS)))
              · by_cases g : o' = k
                · subst g; exact hvx (Hv.out.2 hh)
                · exact Hno.out o' g1 g2 (by omega) hh
            case measure => simp [intOf]; omega
        · have dl : (x % 128 != low) = true := by simpa using hlow
          have Hlow := Lib.hid hlow
          clear hlow
          go_wp2_with (first
            | (go_at_call 65; refine (Hof.out _).mono ?_; rintro e wo ⟨rfl, hB1⟩; apply kept_block hB1 (n := w.heap.size); (focus (repeat' (first | (with_reducible first | assumption | exact hpA _ _ _ rfl | refine hpN ?_ | refine hpD ?_) | ((with_reducible first | refine hpP ?_ ?_ | refine hpT ?_ ?_); (focus (first | omega | (simp only [zA, zS, zD, zQ] <;> omega)))) | ((with_reducible refine hpA _ _ _ ?_); (focus (first | omega | (simp only [zA, zS, zD, zQ] <;> omega)))) | ((with_reducible refine hpB ?_ ?_); (focus assumption)) | (with_reducible apply hpS)))); intro cr1 fr1 hr1 hz1; simp at cr1; unfold rv; dsimp only)
            | (go_at_call 94; refine (Hg.out _).mono ?_; rintro e wg ⟨rfl, hB2⟩; apply kept_block hB2 (n := w.heap.size); (focus (repeat' (first | (with_reducible first | assumption | exact hpA _ _ _ rfl | refine hpN ?_ | refine hpD ?_) | ((with_reducible first | refine hpP ?_ ?_ | refine hpT ?_ ?_); (focus (first | omega | (simp only [zA, zS, zD, zQ] <;> omega)))) | ((with_reducible refine hpA _ _ _ ?_); (focus (first | omega | (simp only [zA, zS, zD, zQ] <;> omega)))) | ((with_reducible refine hpB ?_ ?_); (focus assumption)) | (with_reducible apply hpS)))); intro cr2 fr2 hr2 hz2; simp at cr2; apply kept_block hB2 (n := wo.heap.size); (focus (repeat' (first | (with_reducible first | assumption | exact hpA _ _ _ rfl | refine hpN ?_ | refine hpD ?_) | ((with_reducible first | refine hpP ?_ ?_ | refine hpT ?_ ?_); (focus (first | omega | (simp only [zA, zS, zD, zQ] <;> omega)))) | ((with_reducible refine hpA _ _ _ ?_); (focus (first | omega | (simp only [zA, zS, zD, zQ] <;> omega)))) | ((with_reducible refine hpB ?_ ?_); (focus assumption)) | (with_reducible apply hpS)))); intro cs2 fs2 hs2 hzs2; simp at cs2; apply kept_block hB2 (n := wo.heap.size + 1); (focus (repeat' (first | (with_reducible first | assumption | exact hpA _ _ _ rfl | refine hpN ?_ | refine hpD ?_) | ((with_reducible first | refine hpP ?_ ?_ | refine hpT ?_ ?_); (focus (first | omega | (simp only [zA, zS, zD, zQ] <;> omega)))) | ((with_reducible refine hpA _ _ _ ?_); (focus (first | omega | (simp only [zA, zS, zD, zQ] <;> omega)))) | ((with_reducible refine hpB ?_ ?_); (focus assumption)) | (with_reducible apply hpS)))); intro ci2 fi2 hi2 hzi2; simp at ci2)
            | (go_at_call 32; refine (HE.out _).mono ?_; rintro e we ⟨rfl, hB3⟩; apply kept_block hB3 (n := w.heap.size); (focus (repeat' (first | (with_reducible first | assumption | exact hpA _ _ _ rfl | refine hpN ?_ | refine hpD ?_) | ((with_reducible first | refine hpP ?_ ?_ | refine hpT ?_ ?_); (focus (first | omega | (simp only [zA, zS, zD, zQ] <;> omega)))) | ((with_reducible refine hpA _ _ _ ?_); (focus (first | omega | (simp only [zA, zS, zD, zQ] <;> omega)))) | ((with_reducible refine hpB ?_ ?_); (focus assumption)) | (with_reducible apply hpS)))); intro cr3 fr3 hr3 hz3; simp at cr3; apply kept_block hB3 (n := wo.heap.size + 1); (focus (repeat' (first | (with_reducible first | assumption | exact hpA _ _ _ rfl | refine hpN ?_ | refine hpD ?_) | ((with_reducible first | refine hpP ?_ ?_ | refine hpT ?_ ?_); (focus (first | omega | (simp only [zA, zS, zD, zQ] <;> omega)))) | ((with_reducible refine hpA _ _ _ ?_); (focus (first | omega | (simp only [zA, zS, zD, zQ] <;> omega)))) | ((with_reducible refine hpB ?_ ?_); (focus assumption)) | (with_reducible apply hpS)))); intro ci3 fi3 hi3 hzi3; simp at ci3))
          go_roundw
          case rel =>
            refine ⟨k + 1, by omega, by omega, by go_num, by (repeat' (first | (with_reducible first | exact Below.refl _ _ | refine blQ ?_ _ | refine Below.drew ?_ | refine blO ?_ (by assumption) | refine Below.alloc ?_ ?_ _ | refine Below.setCell ?_ ?_ _ | refine Below.frame ?_ _) | omega | (simp only [zA, zS, zD, zQ]; omega))), ?_, fun o' g1 g2 g3 hh => ?_, fun g => by omega, fun g => by omega⟩
            · (repeat' (first | (with_reducible first | assumption | exact hpA _ _ _ rfl | refine hpN ?_ | refine hpD ?_) | ((with_reducible first | refine hpP ?_ ?_ | refine hpT ?_ ?_); (focus (first | omega | (simp only [zA, zS, zD, zQ] <;> omega)))) | ((with_reducible refine hpA _ _ _ ?_); (focus (first | omega | (simp only [zA, zS, zD, zQ] <;> omega)))) | ((with_reducible refine hpB ?_ ?_); (focus assumption)) | (with_reducible apply hpS)))
            · by_cases g : o' = k
              · subst g; exact Hlow.out (Hit_.out hh)
              · exact Hno.out o' g1 g2 (by omega) hh
          case measure => simp [intOf]; omega
    · have Hno' := Lib.hid (fun o g1 g2 => Hno.out o g1 g2 (by omega) : ∀ o, 1 ≤ o → o ≤ 46 → ¬ Hit o x)
      rcases (by omega : k = 47 ∨ k = 48 ∨ k = 49) with rfl | rfl | rfl
      · have Hof := Lib.hid (fun w => show Calls Try.prog 65 #[.int .i64 47] w (fun e w' => e = .returned (.tuple #[.agg #[.int .u32 0, .int .u32 0, .int .u32 0, .int .i64 0, .bool false, .bool false, .bool false], .bool false]) ∧ Below w.heap.size w w') from of_calls 47 w)
        have HE := Lib.hid (fun w => show Calls Try.prog 32 #[.agg #[.int .i64 47, .int .i64 0, .int .i64 0, .int .i64 0, .int .i32 0]] w (fun e w' => e = .returned (.tuple #[.int .u32 115, .bool true]) ∧ Below w.heap.size w w') from enc_sys 47 (by omega) w)
        have Hg := Lib.hid (rget_calls 1 x (by omega) h0 h)
        go_wp2_with (first
          | (go_at_call 65; refine (Hof.out _).mono ?_; rintro e wo ⟨rfl, hB1⟩; apply kept_block hB1 (n := w.heap.size); (focus (repeat' (first | (with_reducible first | assumption | exact hpA _ _ _ rfl | refine hpN ?_ | refine hpD ?_) | ((with_reducible first | refine hpP ?_ ?_ | refine hpT ?_ ?_); (focus (first | omega | (simp only [zA, zS, zD, zQ] <;> omega)))) | ((with_reducible refine hpA _ _ _ ?_); (focus (first | omega | (simp only [zA, zS, zD, zQ] <;> omega)))) | ((with_reducible refine hpB ?_ ?_); (focus assumption)) | (with_reducible apply hpS)))); intro cr1 fr1 hr1 hz1; simp at cr1; skip)
          | (go_at_call 94; refine (Hg.out _).mono ?_; rintro e wg ⟨rfl, hB2⟩; apply kept_block hB2 (n := w.heap.size); (focus (repeat' (first | (with_reducible first | assumption | exact hpA _ _ _ rfl | refine hpN ?_ | refine hpD ?_) | ((with_reducible first | refine hpP ?_ ?_ | refine hpT ?_ ?_); (focus (first | omega | (simp only [zA, zS, zD, zQ] <;> omega)))) | ((with_reducible refine hpA _ _ _ ?_); (focus (first | omega | (simp only [zA, zS, zD, zQ] <;> omega)))) | ((with_reducible refine hpB ?_ ?_); (focus assumption)) | (with_reducible apply hpS)))); intro cr2 fr2 hr2 hz2; simp at cr2; apply kept_block hB2 (n := wo.heap.size); (focus (repeat' (first | (with_reducible first | assumption | exact hpA _ _ _ rfl | refine hpN ?_ | refine hpD ?_) | ((with_reducible first | refine hpP ?_ ?_ | refine hpT ?_ ?_); (focus (first | omega | (simp only [zA, zS, zD, zQ] <;> omega)))) | ((with_reducible refine hpA _ _ _ ?_); (focus (first | omega | (simp only [zA, zS, zD, zQ] <;> omega)))) | ((with_reducible refine hpB ?_ ?_); (focus assumption)) | (with_reducible apply hpS)))); intro cs2 fs2 hs2 hzs2; simp at cs2; apply kept_block hB2 (n := wo.heap.size + 1); (focus (repeat' (first | (with_reducible first | assumption | exact hpA _ _ _ rfl | refine hpN ?_ | refine hpD ?_) | ((with_reducible first | refine hpP ?_ ?_ | refine hpT ?_ ?_); (focus (first | omega | (simp only [zA, zS, zD, zQ] <;> omega)))) | ((with_reducible refine hpA _ _ _ ?_); (focus (first | omega | (simp only [zA, zS, zD, zQ] <;> omega)))) | ((with_reducible refine hpB ?_ ?_); (focus assumption)) | (with_reducible apply hpS)))); intro ci2 fi2 hi2 hzi2; simp at ci2)
          | (go_at_call 32; refine (HE.out _).mono ?_; rintro e we ⟨rfl, hB3⟩; apply kept_block hB3 (n := w.heap.size); (focus (repeat' (first | (with_reducible first | assumption | exact hpA _ _ _ rfl | refine hpN ?_ | refine hpD ?_) | ((with_reducible first | refine hpP ?_ ?_ | refine hpT ?_ ?_); (focus (first | omega | (simp only [zA, zS, zD, zQ] <;> omega)))) | ((with_reducible refine hpA _ _ _ ?_); (focus (first | omega | (simp only [zA, zS, zD, zQ] <;> omega)))) | ((with_reducible refine hpB ?_ ?_); (focus assumption)) | (with_reducible apply hpS)))); intro cr3 fr3 hr3 hz3; simp at cr3; apply kept_block hB3 (n := wo.heap.size + 1); (focus (repeat' (first | (with_reducible first | assumption | exact hpA _ _ _ rfl | refine hpN ?_ | refine hpD ?_) | ((with_reducible first | refine hpP ?_ ?_ | refine hpT ?_ ?_); (focus (first | omega | (simp only [zA, zS, zD, zQ] <;> omega)))) | ((with_reducible refine hpA _ _ _ ?_); (focus (first | omega | (simp only [zA, zS, zD, zQ] <;> omega)))) | ((with_reducible refine hpB ?_ ?_); (focus assumption)) | (with_reducible apply hpS)))); intro ci3 fi3 hi3 hzi3; simp at ci3))
        · have hvx : x = 115 := by
            have h_ : (115 == x) = true := by assumption
            have := eq_of_beq h_
            omega
          have HD : dec x = some ⟨47, 0, 0, 0, 0⟩ := by rw [hvx]; rfl
          refine post_res (B := fun w' => Below w.heap.size w w') ?_ rfl ?_
          · (repeat' (first | (with_reducible first | exact Below.refl _ _ | refine blQ ?_ _ | refine Below.drew ?_ | refine blO ?_ (by assumption) | refine Below.alloc ?_ ?_ _ | refine Below.setCell ?_ ?_ _ | refine Below.frame ?_ _) | omega | (simp only [zA, zS, zD, zQ]; omega)))
          · rw [HD]
            apply res_at (n := w.heap.size)
            (focus (repeat' (first | (with_reducible first | assumption | exact hpA _ _ _ rfl | refine hpN ?_ | refine hpD ?_) | ((with_reducible first | refine hpP ?_ ?_ | refine hpT ?_ ?_); (focus (first | omega | (simp only [zA, zS, zD, zQ] <;> omega)))) | ((with_reducible refine hpA _ _ _ ?_); (focus (first | omega | (simp only [zA, zS, zD, zQ] <;> omega)))) | ((with_reducible refine hpB ?_ ?_); (focus assumption)) | (with_reducible apply hpS))))
            intro W' cw
            simp at cw
            simp [results, Try.results62, go_sem, iv, decV, cw]
        · have hvx : x ≠ 115 := by
            have h_ : (115 == x) = false := by assumption
            intro q
            rw [q] at h_
            exact absurd h_ (by decide)
          go_roundw
          case rel =>
            refine ⟨48, by omega, by omega, rfl, by (repeat' (first | (with_reducible first | exact Below.refl _ _ | refine blQ ?_ _ | refine Below.drew ?_ | refine blO ?_ (by assumption) | refine Below.alloc ?_ ?_ _ | refine Below.setCell ?_ ?_ _ | refine Below.frame ?_ _) | omega | (simp only [zA, zS, zD, zQ]; omega))), ?_, fun o' g1 g2 g3 hh => Hno'.out o' g1 g2 hh, fun _ => hvx, fun g => by omega⟩
            (repeat' (first | (with_reducible first | assumption | exact hpA _ _ _ rfl | refine hpN ?_ | refine hpD ?_) | ((with_reducible first | refine hpP ?_ ?_ | refine hpT ?_ ?_); (focus (first | omega | (simp only [zA, zS, zD, zQ] <;> omega)))) | ((with_reducible refine hpA _ _ _ ?_); (focus (first | omega | (simp only [zA, zS, zD, zQ] <;> omega)))) | ((with_reducible refine hpB ?_ ?_); (focus assumption)) | (with_reducible apply hpS)))
          case measure => simp [intOf]
      · have Hof := Lib.hid (fun w => show Calls Try.prog 65 #[.int .i64 48] w (fun e w' => e = .returned (.tuple #[.agg #[.int .u32 0, .int .u32 0, .int .u32 0, .int .i64 0, .bool false, .bool false, .bool false], .bool false]) ∧ Below w.heap.size w w') from of_calls 48 w)
        have HE := Lib.hid (fun w => show Calls Try.prog 32 #[.agg #[.int .i64 48, .int .i64 0, .int .i64 0, .int .i64 0, .int .i32 0]] w (fun e w' => e = .returned (.tuple #[.int .u32 1048691, .bool true]) ∧ Below w.heap.size w w') from enc_sys 48 (by omega) w)
        have Hg := Lib.hid (rget_calls 1 x (by omega) h0 h)
        go_wp2_with (first
          | (go_at_call 65; refine (Hof.out _).mono ?_; rintro e wo ⟨rfl, hB1⟩; apply kept_block hB1 (n := w.heap.size); (focus (repeat' (first | (with_reducible first | assumption | exact hpA _ _ _ rfl | refine hpN ?_ | refine hpD ?_) | ((with_reducible first | refine hpP ?_ ?_ | refine hpT ?_ ?_); (focus (first | omega | (simp only [zA, zS, zD, zQ] <;> omega)))) | ((with_reducible refine hpA _ _ _ ?_); (focus (first | omega | (simp only [zA, zS, zD, zQ] <;> omega)))) | ((with_reducible refine hpB ?_ ?_); (focus assumption)) | (with_reducible apply hpS)))); intro cr1 fr1 hr1 hz1; simp at cr1; skip)
          | (go_at_call 94; refine (Hg.out _).mono ?_; rintro e wg ⟨rfl, hB2⟩; apply kept_block hB2 (n := w.heap.size); (focus (repeat' (first | (with_reducible first | assumption | exact hpA _ _ _ rfl | refine hpN ?_ | refine hpD ?_) | ((with_reducible first | refine hpP ?_ ?_ | refine hpT ?_ ?_); (focus (first | omega | (simp only [zA, zS, zD, zQ] <;> omega)))) | ((with_reducible refine hpA _ _ _ ?_); (focus (first | omega | (simp only [zA, zS, zD, zQ] <;> omega)))) | ((with_reducible refine hpB ?_ ?_); (focus assumption)) | (with_reducible apply hpS)))); intro cr2 fr2 hr2 hz2; simp at cr2; apply kept_block hB2 (n := wo.heap.size); (focus (repeat' (first | (with_reducible first | assumption | exact hpA _ _ _ rfl | refine hpN ?_ | refine hpD ?_) | ((with_reducible first | refine hpP ?_ ?_ | refine hpT ?_ ?_); (focus (first | omega | (simp only [zA, zS, zD, zQ] <;> omega)))) | ((with_reducible refine hpA _ _ _ ?_); (focus (first | omega | (simp only [zA, zS, zD, zQ] <;> omega)))) | ((with_reducible refine hpB ?_ ?_); (focus assumption)) | (with_reducible apply hpS)))); intro cs2 fs2 hs2 hzs2; simp at cs2; apply kept_block hB2 (n := wo.heap.size + 1); (focus (repeat' (first | (with_reducible first | assumption | exact hpA _ _ _ rfl | refine hpN ?_ | refine hpD ?_) | ((with_reducible first | refine hpP ?_ ?_ | refine hpT ?_ ?_); (focus (first | omega | (simp only [zA, zS, zD, zQ] <;> omega)))) | ((with_reducible refine hpA _ _ _ ?_); (focus (first | omega | (simp only [zA, zS, zD, zQ] <;> omega)))) | ((with_reducible refine hpB ?_ ?_); (focus assumption)) | (with_reducible apply hpS)))); intro ci2 fi2 hi2 hzi2; simp at ci2)
          | (go_at_call 32; refine (HE.out _).mono ?_; rintro e we ⟨rfl, hB3⟩; apply kept_block hB3 (n := w.heap.size); (focus (repeat' (first | (with_reducible first | assumption | exact hpA _ _ _ rfl | refine hpN ?_ | refine hpD ?_) | ((with_reducible first | refine hpP ?_ ?_ | refine hpT ?_ ?_); (focus (first | omega | (simp only [zA, zS, zD, zQ] <;> omega)))) | ((with_reducible refine hpA _ _ _ ?_); (focus (first | omega | (simp only [zA, zS, zD, zQ] <;> omega)))) | ((with_reducible refine hpB ?_ ?_); (focus assumption)) | (with_reducible apply hpS)))); intro cr3 fr3 hr3 hz3; simp at cr3; apply kept_block hB3 (n := wo.heap.size + 1); (focus (repeat' (first | (with_reducible first | assumption | exact hpA _ _ _ rfl | refine hpN ?_ | refine hpD ?_) | ((with_reducible first | refine hpP ?_ ?_ | refine hpT ?_ ?_); (focus (first | omega | (simp only [zA, zS, zD, zQ] <;> omega)))) | ((with_reducible refine hpA _ _ _ ?_); (focus (first | omega | (simp only [zA, zS, zD, zQ] <;> omega)))) | ((with_reducible refine hpB ?_ ?_); (focus assumption)) | (with_reducible apply hpS)))); intro ci3 fi3 hi3 hzi3; simp at ci3))
        · have hvx : x = 1048691 := by
            have h_ : (1048691 == x) = true := by assumption
            have := eq_of_beq h_
            omega
          have HD : dec x = some ⟨48, 0, 0, 0, 0⟩ := by rw [hvx]; rfl
          refine post_res (B := fun w' => Below w.heap.size w w') ?_ rfl ?_
          · (repeat' (first | (with_reducible first | exact Below.refl _ _ | refine blQ ?_ _ | refine Below.drew ?_ | refine blO ?_ (by assumption) | refine Below.alloc ?_ ?_ _ | refine Below.setCell ?_ ?_ _ | refine Below.frame ?_ _) | omega | (simp only [zA, zS, zD, zQ]; omega)))
          · rw [HD]
            apply res_at (n := w.heap.size)
            (focus (repeat' (first | (with_reducible first | assumption | exact hpA _ _ _ rfl | refine hpN ?_ | refine hpD ?_) | ((with_reducible first | refine hpP ?_ ?_ | refine hpT ?_ ?_); (focus (first | omega | (simp only [zA, zS, zD, zQ] <;> omega)))) | ((with_reducible refine hpA _ _ _ ?_); (focus (first | omega | (simp only [zA, zS, zD, zQ] <;> omega)))) | ((with_reducible refine hpB ?_ ?_); (focus assumption)) | (with_reducible apply hpS))))
            intro W' cw
            simp at cw
            simp [results, Try.results62, go_sem, iv, decV, cw]
        · have hvx : x ≠ 1048691 := by
            have h_ : (1048691 == x) = false := by assumption
            intro q
            rw [q] at h_
            exact absurd h_ (by decide)
          go_roundw
          case rel =>
            refine ⟨49, by omega, by omega, rfl, by (repeat' (first | (with_reducible first | exact Below.refl _ _ | refine blQ ?_ _ | refine Below.drew ?_ | refine blO ?_ (by assumption) | refine Below.alloc ?_ ?_ _ | refine Below.setCell ?_ ?_ _ | refine Below.frame ?_ _) | omega | (simp only [zA, zS, zD, zQ]; omega))), ?_, fun o' g1 g2 g3 hh => Hno'.out o' g1 g2 hh, fun _ => Hn1.out (by omega), fun _ => hvx⟩
            (repeat' (first | (with_reducible first | assumption | exact hpA _ _ _ rfl | refine hpN ?_ | refine hpD ?_) | ((with_reducible first | refine hpP ?_ ?_ | refine hpT ?_ ?_); (focus (first | omega | (simp only [zA, zS, zD, zQ] <;> omega)))) | ((with_reducible refine hpA _ _ _ ?_); (focus (first | omega | (simp only [zA, zS, zD, zQ] <;> omega)))) | ((with_reducible refine hpB ?_ ?_); (focus assumption)) | (with_reducible apply hpS)))
          case measure => simp [intOf]
      · go_wp2
        · have HD : dec x = none := dec_none x (Hn1.out (by omega)) (Hn2.out (by omega)) Hno'.out
          refine post_res (B := fun w' => Below w.heap.size w w') ?_ rfl ?_
          · (repeat' (first | (with_reducible first | exact Below.refl _ _ | refine blQ ?_ _ | refine Below.drew ?_ | refine blO ?_ (by assumption) | refine Below.alloc ?_ ?_ _ | refine Below.setCell ?_ ?_ _ | refine Below.frame ?_ _) | omega | (simp only [zA, zS, zD, zQ]; omega)))
          · rw [HD]
            apply res_at (n := w.heap.size)
            (focus (repeat' (first | (with_reducible first | assumption | exact hpA _ _ _ rfl | refine hpN ?_ | refine hpD ?_) | ((with_reducible first | refine hpP ?_ ?_ | refine hpT ?_ ?_); (focus (first | omega | (simp only [zA, zS, zD, zQ] <;> omega)))) | ((with_reducible refine hpA _ _ _ ?_); (focus (first | omega | (simp only [zA, zS, zD, zQ] <;> omega)))) | ((with_reducible refine hpB ?_ ?_); (focus assumption)) | (with_reducible apply hpS))))
            intro W' cw
            simp at cw
            simp [results, Try.results62, go_sem, iv, decV, cw]
end Go.Proofs.Ytioopcilcgebeaa.RefA
