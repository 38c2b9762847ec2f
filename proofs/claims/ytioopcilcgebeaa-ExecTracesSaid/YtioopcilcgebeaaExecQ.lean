/- The reference's Path and Same. -/
import Derived.Test.YtioopcilcgebeaaExecP
set_option linter.unusedVariables false
set_option linter.unusedSimpArgs false
namespace Go.Proofs.Ytioopcilcgebeaa.CpuA
open Go.RowKit Go.Proofs.Ytioopcilcgebeaa.Base Go.Proofs.Ytioopcilcgebeaa.InstS Go.Proofs.Ytioopcilcgebeaa.InstA Go.Proofs.YtioopcilcgebeaaW.PrintWords Go.Proofs.Ytioopcilcgebeaa.BitsP

theorem xor_two (x y : Nat) : (x ^^^ y) % 2 = (x + y) % 2 := by
  have h := Nat.xor_mod_two_pow (a := x) (b := y) (n := 1)
  rw [Nat.pow_one] at h
  rw [h]
  rcases Nat.mod_two_eq_zero_or_one x with hx | hx <;> rcases Nat.mod_two_eq_zero_or_one y with hy | hy <;> rw [hx, hy] <;> simp <;> omega
theorem xor_step (a b k : Nat) : (a ^^^ b) / 2 ^ k = 2 * ((a ^^^ b) / 2 ^ (k + 1)) + (a / 2 ^ k + b / 2 ^ k) % 2 := by
  have h : (a ^^^ b) / 2 ^ k = (a / 2 ^ k) ^^^ (b / 2 ^ k) := by
    rw [← Nat.shiftRight_eq_div_pow, ← Nat.shiftRight_eq_div_pow, ← Nat.shiftRight_eq_div_pow, Nat.shiftRight_xor_distrib]
  have hm : ((a ^^^ b) / 2 ^ k) % 2 = (a / 2 ^ k + b / 2 ^ k) % 2 := by rw [h, xor_two]
  have hd : (a ^^^ b) / 2 ^ (k + 1) = ((a ^^^ b) / 2 ^ k) / 2 := by rw [Nat.pow_succ, Nat.div_div_eq_div_mul]
  omega
set_option maxHeartbeats 8000000 in
set_option maxRecDepth 100000 in
theorem mix_calls (a b : Nat) (ha : a < 4294967296) (hb : b < 4294967296) (w : World) :
    Calls Try.prog 70 #[.int .u32 (a : Int), .int .u32 (b : Int)] w fun e w' => e = .returned (.int .u32 (mixS a b)) ∧ ∃ n, w' = w.drewN n := by
  have hx : Go.bits .xor .u32 (a : Int) (b : Int) = ((a ^^^ b : Nat) : Int) := by rw [u32_xor _ _ (by omega) (by omega) (by omega) (by omega)]; rfl
  have hl : a ^^^ b < 4294967296 := Nat.xor_lt_two_pow (n := 32) (by omega) (by omega)
  go_enter Try.func70, Try.ntmps70
  go_wp2
  go_loopw [5, 6] (fun x i wr => ∃ k m : Nat, k ≤ 32 ∧ x = .int .u32 (((a ^^^ b) / 2 ^ k : Nat) : Int) ∧ i = .int .i64 ((k : Int) - 1) ∧ wr = w.drewN m) (fun _ i _ => (intOf i + 1).toNat)
  case atStart => exact ⟨32, 0, by omega, by rw [Nat.div_eq_of_lt (by omega)]; rfl, rfl, rfl⟩
  case round =>
    obtain ⟨k, m, hk, rfl, rfl, rfl⟩ := hrel
    cases k with
    | zero =>
      rw [Nat.pow_zero, Nat.div_one, ← hx]
      go_wp2
      go_ret
      exact ⟨by rw [← hx]; rfl, _, rfl⟩
    | succ k =>
      have st := xor_step a b k
      have hs1 : shr .u32 (a : Int) (k : Int) = ((a / 2 ^ k : Nat) : Int) := by rw [shr32 _ _ (by omega)]; simp
      have hs2 : shr .u32 (b : Int) (k : Int) = ((b / 2 ^ k : Nat) : Int) := by rw [shr32 _ _ (by omega)]; simp
      have l1 : (a ^^^ b) / 2 ^ (k + 1) ≤ (a ^^^ b) := Nat.div_le_self _ _
      have l2 : (a ^^^ b) / 2 ^ k ≤ (a ^^^ b) := Nat.div_le_self _ _
      have l3 : a / 2 ^ k ≤ a := Nat.div_le_self _ _
      have l4 : b / 2 ^ k ≤ b := Nat.div_le_self _ _
      have hw : IntKind.u64.wrap (k : Int) = (k : Int) := by rw [IntKind.wrap_u64]; omega
      have i0' : (0 : Int) ≤ (k : Int) := by omega
      rw [show ((k + 1 : Nat) : Int) - 1 = (k : Int) by omega]
      have hA : (a : Int) / 2 ^ k = ((a / 2 ^ k : Nat) : Int) := by simp
      have hB : (b : Int) / 2 ^ k = ((b / 2 ^ k : Nat) : Int) := by simp
      generalize (a ^^^ b) / 2 ^ (k + 1) = p at *
      generalize hq : (a ^^^ b) / 2 ^ k = q at *
      generalize a / 2 ^ k = c at *
      generalize b / 2 ^ k = d at *
      go_wp2
      exact ⟨⟨k, _, by omega, by congr 1; rw [hq]; omega, rfl, rfl⟩, by simp [intOf]⟩

theorem stepT_pc (K : Bk) (F : List Int) (s : St) (h : 0 ≤ s.pc ∧ s.pc < 4294967296) : 0 ≤ (stepT K F s).2.2.pc ∧ (stepT K F s).2.2.pc < 4294967296 := by
  have hg : ∀ d n, 0 ≤ d ∧ d < 4294967296 → 0 ≤ (s.go d n).2.pc ∧ (s.go d n).2.pc < 4294967296 := by
    intro d n hd
    unfold St.go
    split
    · exact hd
    · exact h
  unfold stepT
  dsimp only
  split
  · split
    · rename_i i hi
      dsimp only
      unfold doesT loadsT storesT
      dsimp only
      repeat' split
      all_goals first
        | exact h
        | (unfold St.put; dsimp only; omega)
        | (apply hg; omega)
    · exact h
  · exact h
structure EvtOk (v : Evt) : Prop where
  p0 : 0 ≤ v.pc
  p1 : v.pc < 4294967296
  a0 : 0 ≤ v.did.addr
  a1 : v.did.addr < 4294967296
theorem ite_all {α : Type} (P : α → Prop) {c : Prop} [Decidable c] {a b : α} (h : P a) (k : P b) : P (if c then a else b) := by split <;> assumption
def AdOk (d : Did × Int × St) : Prop := 0 ≤ d.1.addr ∧ d.1.addr < 4294967296
theorem adOk_no (r : Int × St) : AdOk (no, r) := ⟨Int.le_refl _, by show (0 : Int) < _; omega⟩
theorem doesT_ad (K : Bk) (F : List Int) (i : Ins) (s : St) : AdOk (doesT K F i s) := by
  have hl : AdOk (loadsT K F i s) := ite_all AdOk ⟨by dsimp only; omega, by dsimp only; omega⟩ (adOk_no _)
  have hs : AdOk (storesT K i s) := ite_all AdOk ⟨by dsimp only; omega, by dsimp only; omega⟩ (adOk_no _)
  unfold doesT
  exact ite_all AdOk (adOk_no _) (ite_all AdOk (adOk_no _) (ite_all AdOk hl (ite_all AdOk hs (ite_all AdOk (ite_all AdOk (adOk_no _) (adOk_no _)) (ite_all AdOk (adOk_no _) (ite_all AdOk (adOk_no _) (ite_all AdOk (adOk_no _) (ite_all AdOk (adOk_no _) (ite_all AdOk (adOk_no _) (ite_all AdOk (adOk_no _) (adOk_no _)))))))))))
theorem stepT_ev (K : Bk) (F : List Int) (s : St) (h : 0 ≤ s.pc ∧ s.pc < 4294967296) : EvtOk (stepT K F s).1 := by
  have n0 : (0 : Int) ≤ no.addr := Int.le_refl _
  have n1 : no.addr < 4294967296 := by decide
  unfold stepT
  dsimp only
  split
  · split
    · rename_i i hi
      have := doesT_ad K F i s
      exact ⟨h.1, h.2, this.1, this.2⟩
    · exact ⟨h.1, h.2, n0, n1⟩
  · exact ⟨h.1, h.2, n0, n1⟩
theorem evsT_ok (K : Bk) (F : List Int) : ∀ (n : Nat) (s : St), 0 ≤ s.pc ∧ s.pc < 4294967296 → ∀ v ∈ evsT K F n s, EvtOk v
  | 0, s, h => by intro v hv; simp [evsT] at hv
  | n + 1, s, h => by
    intro v hv
    unfold evsT at hv
    split at hv
    · rcases List.mem_cons.1 hv with rfl | hv
      · exact stepT_ev K F s h
      · exact evsT_ok K F n _ (stepT_pc K F s h) v hv
    · simp at hv
theorem evsT_map (a b c d : Nat) (F : List Int) : ∀ (n : Nat) (s : St), evsT (mapK a b) F n s = evsT (mapK c d) F n s
  | 0, _ => rfl
  | n + 1, s => by
    unfold evsT
    rw [show stepT (mapK a b) F s = stepT (mapK c d) F s from rfl, evsT_map a b c d F n]
theorem evF_get : ∀ (l : List Evt) (k : Nat) (v : Evt), l[k]? = some v → ∀ j c, (evC v)[j]? = some c → (evF l)[k * 5 + j]? = some c
  | [], k, v, h => by simp at h
  | x :: l, 0, v, h => by
    simp only [List.getElem?_cons_zero, Option.some.injEq] at h
    subst h
    intro j c hj
    rw [Nat.zero_mul, Nat.zero_add, evF, List.getElem?_append_left (List.getElem?_eq_some_iff.1 hj).1]
    exact hj
  | x :: l, k + 1, v, h => by
    intro j c hj
    rw [List.getElem?_cons_succ] at h
    have ih := evF_get l k v h j c hj
    rw [evF, List.getElem?_append_right (by simp [evC]; omega), show (k + 1) * 5 + j - (evC x).length = k * 5 + j by simp [evC]; omega]
    exact ih
/-- A row of events. -/
theorem evs_cell {W : World} {base : Nat} {A : Option Addr} {n cap : Nat} {l : List Evt} (h : W.ownsRow base 35 5 (.slice A n cap) n (evF l)) (k : Nat) (v : Evt) (hv : l[k]? = some v) (hk : k < n) :
    ∃ r, A = some ⟨r, 0, none⟩ ∧ W.heap.size ≥ r ∧ W.cell? ⟨r, k * 5, none⟩ = some (.int .u32 v.pc) ∧ W.cell? ⟨r, k * 5 + 1, none⟩ = some (.int .u32 v.word) ∧ W.cell? ⟨r, k * 5 + 2, none⟩ = some (.int .i64 v.did.kind) ∧ W.cell? ⟨r, k * 5 + 3, none⟩ = some (.int .u32 v.did.addr) ∧ W.cell? ⟨r, k * 5 + 4, none⟩ = some (.int .i64 v.did.size) := by
  rcases h.2 with ⟨hq, q⟩ | ⟨r, cap', cur, e, hb, hr, h1, h2, h3, h4⟩
  · injection hq with _ q1 _; omega
  · injection e with e1 _ e2
    subst e1
    have f := evF_get l k v hv
    rw [← h4] at f
    have g : ∀ j, j < 5 → ∀ c, (evC v)[j]? = some c → W.cell? ⟨r, k * 5 + j, none⟩ = some c := fun j hj c hc => by
      have := f j c hc
      rw [List.getElem?_take, if_pos (by omega), Array.getElem?_toList] at this
      exact (cell_of_heap hr _).trans this
    exact ⟨r, rfl, Nat.le_of_lt (lt_of_heap hr), g 0 (by omega) _ rfl, g 1 (by omega) _ rfl, g 2 (by omega) _ rfl, g 3 (by omega) _ rfl, g 4 (by omega) _ rfl⟩
end Go.Proofs.Ytioopcilcgebeaa.CpuA
