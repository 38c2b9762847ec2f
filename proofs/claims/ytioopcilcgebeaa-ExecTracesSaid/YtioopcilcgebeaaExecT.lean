/- The reference's Path and Same, walked. -/
import Derived.Test.YtioopcilcgebeaaExecQ
set_option linter.unusedVariables false
set_option linter.unusedSimpArgs false
namespace Go.Proofs.Ytioopcilcgebeaa.CpuA
open Go.RowKit Go.Proofs.Ytioopcilcgebeaa.Base Go.Proofs.Ytioopcilcgebeaa.InstS Go.Proofs.Ytioopcilcgebeaa.InstA Go.Proofs.YtioopcilcgebeaaW.PrintWords Go.Proofs.Ytioopcilcgebeaa.BitsP

theorem mix_in (a b : Int) (ha : 0 ≤ a ∧ a < 4294967296) (hb : 0 ≤ b ∧ b < 4294967296) (w : World) :
    Calls Try.prog 70 #[.int .u32 a, .int .u32 b] w fun e w' => e = .returned (.int .u32 (mixS a b)) ∧ ∃ n, w' = w.drewN n := by
  obtain ⟨a, rfl⟩ := Int.eq_ofNat_of_zero_le ha.1
  obtain ⟨b, rfl⟩ := Int.eq_ofNat_of_zero_le hb.1
  exact mix_calls a b (by omega) (by omega) w
theorem mixS_bd (a b : Int) : 0 ≤ mixS a b ∧ mixS a b < 4294967296 := by unfold mixS; omega
theorem pathS_bd (l : List Evt) : 0 ≤ pathS l ∧ pathS l < 4294967296 := by
  rcases List.eq_nil_or_concat l with rfl | ⟨l', v, rfl⟩
  · exact ⟨by decide, by decide⟩
  · rw [List.concat_eq_append, pathS_snoc]; exact mixS_bd _ _
set_option maxHeartbeats 8000000 in
set_option maxRecDepth 100000 in
theorem rpath_calls {W : World} {base : Nat} {A : Option Addr} {cap : Nat} {l : List Evt} (h : W.ownsRow base 35 5 (.slice A l.length cap) l.length (evF l)) (hl : l.length ≤ 1000) (he : ∀ v ∈ l, EvtOk v) :
    Calls Try.prog 37 #[.slice A l.length cap] W fun e w' => e = .returned (.int .u32 (pathS l)) ∧ ∃ n, w' = W.drewN n := by
  have H := Lib.hid h
  have HE := Lib.hid he
  clear h he
  go_enter Try.func37, Try.ntmps37
  go_wp2
  go_loopw [3, 4] (fun x i wr => ∃ k m : Nat, k ≤ l.length ∧ x = .int .u32 (pathS (l.take k)) ∧ i = .int .i64 (k : Int) ∧ wr = W.drewN m) (fun _ i _ => l.length - (intOf i).toNat)
  case atStart => exact ⟨0, 0, by omega, rfl, rfl, rfl⟩
  case round =>
    obtain ⟨k, m, hk, rfl, rfl, rfl⟩ := hrel
    by_cases q : k < l.length
    · obtain ⟨v, hv⟩ : ∃ v, l[k]? = some v := ⟨l[k], List.getElem?_eq_getElem q⟩
      have hok := HE.out v (List.mem_of_getElem? hv)
      have htk : pathS (l.take (k + 1)) = evMix (pathS (l.take k)) v := by rw [List.take_add_one, hv]; exact pathS_snoc _ _
      have hbd := pathS_bd (l.take k)
      obtain ⟨r, rfl, hr, c0, c1, c2, c3, c4⟩ := evs_cell H.out k v hv q
      obtain ⟨ep, ew, ⟨ek, ea, ez⟩⟩ := v
      obtain ⟨p0, p1, a0, a1⟩ := hok
      dsimp only at p0 p1 a0 a1 c0 c1 c2 c3 c4
      have m1 := fun w => mix_in (pathS (l.take k)) ep hbd ⟨p0, p1⟩ w
      have m2 := fun w => mix_in (mixS (pathS (l.take k)) ep) (ek % 4294967296) (mixS_bd _ _) (by omega) w
      have m3 := fun w => mix_in (mixS (mixS (pathS (l.take k)) ep) (ek % 4294967296)) ea (mixS_bd _ _) ⟨a0, a1⟩ w
      have m4 := fun w => mix_in (mixS (mixS (mixS (pathS (l.take k)) ep) (ek % 4294967296)) ea) (ez % 4294967296) (mixS_bd _ _) (by omega) w
      have HT := Lib.hid htk
      unfold evMix at htk
      dsimp only at htk
      generalize pathS (l.take k) = w0 at *
      generalize mixS w0 ep = w1 at *
      generalize mixS w1 (ek % 4294967296) = w2 at *
      generalize mixS w2 ea = w3 at *
      generalize mixS w3 (ez % 4294967296) = w4 at *
      have M1 := Lib.hid m1
      have M2 := Lib.hid m2
      have M3 := Lib.hid m3
      have M4 := Lib.hid m4
      have HTK := Lib.hid htk
      have i0' : (0 : Int) ≤ (k : Int) := by omega
      have i1' : (k : Int) < (l.length : Int) := by omega
      clear m1 m2 m3 m4 htk HT hr
      go_wp2
      go_quiet (first | (go_at_call 70; (with_reducible refine (M1.out _).mono ?_); rintro e w' ⟨rfl, ⟨nd, rfl⟩⟩; (try first | exact ⟨rfl, _, World.drewN_drewN _ _ _⟩ | exact ⟨rfl, _, Eq.trans (World.drewN_drewN _ _ _) (congrArg (World.drewN _) (Nat.add_assoc _ _ _))⟩)) | (go_at_call 70; (with_reducible refine (M2.out _).mono ?_); rintro e w' ⟨rfl, ⟨nd, rfl⟩⟩; (try first | exact ⟨rfl, _, World.drewN_drewN _ _ _⟩ | exact ⟨rfl, _, Eq.trans (World.drewN_drewN _ _ _) (congrArg (World.drewN _) (Nat.add_assoc _ _ _))⟩)) | (go_at_call 70; (with_reducible refine (M3.out _).mono ?_); rintro e w' ⟨rfl, ⟨nd, rfl⟩⟩; (try first | exact ⟨rfl, _, World.drewN_drewN _ _ _⟩ | exact ⟨rfl, _, Eq.trans (World.drewN_drewN _ _ _) (congrArg (World.drewN _) (Nat.add_assoc _ _ _))⟩)) | (go_at_call 70; (with_reducible refine (M4.out _).mono ?_); rintro e w' ⟨rfl, ⟨nd, rfl⟩⟩; (try first | exact ⟨rfl, _, World.drewN_drewN _ _ _⟩ | exact ⟨rfl, _, Eq.trans (World.drewN_drewN _ _ _) (congrArg (World.drewN _) (Nat.add_assoc _ _ _))⟩)))
      go_wp2
      exact ⟨⟨k + 1, _, by omega, by rw [HTK.out], by go_num, rfl⟩, by simp [intOf]; omega⟩
    · obtain rfl : k = l.length := by omega
      rw [List.take_length]
      go_wp2
      go_ret
      exact ⟨rfl, _, rfl⟩
set_option maxHeartbeats 8000000 in
set_option maxRecDepth 100000 in
theorem rsame7_calls {W : World} {base base' : Nat} {A A' : Option Addr} {cap cap' : Nat} {l : List Evt} (h : W.ownsRow base 35 5 (.slice A l.length cap) l.length (evF l)) (h' : W.ownsRow base' 35 5 (.slice A' l.length cap') l.length (evF l)) (hl : l.length ≤ 1000) :
    Calls Try.prog 36 #[.slice A l.length cap, .slice A' l.length cap'] W fun e w' => e = .returned (.bool true) ∧ ∃ n, w' = W.drewN n := by
  have H := Lib.hid h
  have H' := Lib.hid h'
  clear h h'
  go_enter Try.func36, Try.ntmps36
  go_wp2
  go_loopw [5] (fun i wr => ∃ k m : Nat, k ≤ l.length ∧ i = .int .i64 (k : Int) ∧ wr = W.drewN m) (fun i _ => l.length - (intOf i).toNat)
  case atStart => exact ⟨0, 0, by omega, rfl, rfl⟩
  case round =>
    obtain ⟨k, m, hk, rfl, rfl⟩ := hrel
    by_cases q : k < l.length
    · obtain ⟨v, hv⟩ : ∃ v, l[k]? = some v := ⟨l[k], List.getElem?_eq_getElem q⟩
      obtain ⟨r, rfl, hr, c0, c1, c2, c3, c4⟩ := evs_cell H.out k v hv q
      obtain ⟨r', rfl, hr', d0, d1, d2, d3, d4⟩ := evs_cell H'.out k v hv q
      obtain ⟨ep, ew, ⟨ek, ea, ez⟩⟩ := v
      dsimp only at c0 c1 c2 c3 c4 d0 d1 d2 d3 d4
      have i0' : (0 : Int) ≤ (k : Int) := by omega
      have i1' : (k : Int) < (l.length : Int) := by omega
      clear hr hr' hv
      go_wp2
      go_quiet (fail)
      go_wp2
      exact ⟨⟨k + 1, _, by omega, by go_num, rfl⟩, by simp [intOf]; omega⟩
    · obtain rfl : k = l.length := by omega
      go_wp2
      go_ret
      exact ⟨rfl, _, rfl⟩
end Go.Proofs.Ytioopcilcgebeaa.CpuA
