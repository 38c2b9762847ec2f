/- Proofs of this claim's family, merged: CpuA, CpuB, MemA, MemB, MemC, MemD, MemE, MemF, MemG, MemH. -/
import Derived.Test.YtioopcilcgebeaaKA
import Derived.Test.YtioopcilcgebeaaProg
import Derived.Handy
import Derived.KernelRfl
import Derived.Test.YtioopcilcgebeaaKD
import Derived.Test.YtioopcilcgebeaaKP2
import Derived.Deep.RegionHeld3
import Derived.Deep.OwnRows
set_option linter.unusedVariables false
set_option linter.unusedSimpArgs false
/-! #### CpuA -/
namespace Go.Proofs.Ytioopcilcgebeaa.CpuA
open Go.RowKit Go.Proofs.Ytioopcilcgebeaa.Base

/-- All blocks that there were lie as they lay, but for those of l. -/
structure But (l : List Nat) (w w' : World) : Prop where
  os : w'.os = w.os
  tape : w'.tape = w.tape
  output : w'.output = w.output
  size : w.heap.size ≤ w'.heap.size
  block : ∀ k, k < w.heap.size → k ∉ l → w'.heap[k]? = w.heap[k]?
theorem But.refl (l : List Nat) (w : World) : But l w w := ⟨rfl, rfl, rfl, Nat.le_refl _, fun _ _ _ => rfl⟩
theorem But.trans {l : List Nat} {a b c : World} (h : But l a b) (k : But l b c) : But l a c :=
  ⟨k.os.trans h.os, k.tape.trans h.tape, k.output.trans h.output, Nat.le_trans h.size k.size, fun n hn hl => (k.block n (Nat.lt_of_lt_of_le hn h.size) hl).trans (h.block n hn hl)⟩
theorem But.mono {l m : List Nat} {a b : World} (h : But l a b) (hs : ∀ k, k ∈ l → k ∈ m) : But m a b := ⟨h.os, h.tape, h.output, h.size, fun n hn hl => h.block n hn (fun q => hl (hs n q))⟩
theorem But.of_below {l : List Nat} {a b : World} (h : Below a.heap.size a b) : But l a b := ⟨h.os, h.tape, h.output, h.size, fun n hn _ => h.block n hn⟩
theorem But.drewN {l : List Nat} {a b : World} (h : But l a b) (n : Nat) : But l a (b.drewN n) := ⟨h.os, h.tape, h.output, h.size, h.block⟩
theorem But.alloc {l : List Nat} {a b : World} (h : But l a b) (o : Obj) : But l a (b.alloc o) :=
  h.trans (But.of_below ((Below.refl _ _).alloc (Nat.le_refl _) o))
theorem But.set {l : List Nat} {a b : World} (h : But l a b) (ad : Addr) (v : Value) (hm : ad.block ∈ l ∨ a.heap.size ≤ ad.block) : But l a (b.setCell ad v) := by
  refine ⟨h.os, h.tape, h.output, ?_, fun n hn hl => ?_⟩
  · rw [World.size_setCell]; exact h.size
  · rw [← h.block n hn hl]
    simp only [World.setCell, Array.getElem?_modify]
    rw [if_neg]
    intro e
    rcases hm with hm | hm
    · exact hl (e ▸ hm)
    · omega
theorem But.heap {l : List Nat} {a b : World} {n : Nat} {r : Obj} (h : But l a b) (hl : n ∉ l) (hr : a.heap[n]? = some r) : b.heap[n]? = some r := by
  rw [← hr]; exact h.block n (lt_of_heap hr) hl
/-- A machine's cells: its memory, the pc, the registers. -/
def mcells (m : Addr) (pc : Int) (R : List Int) : Array Value := (.pointer (some m) :: .int .u32 pc :: R.map (.int .u32)).toArray
theorem mcells_reg (m : Addr) (pc : Int) (R : List Int) (n : Nat) (h : n < R.length) : (mcells m pc R)[2 + n]? = some (.int .u32 (R.getD n 0)) := by
  unfold mcells
  rw [List.getElem?_toArray, Nat.add_comm 2 n, List.getElem?_cons_succ, List.getElem?_cons_succ, List.getElem?_map, List.getElem?_eq_getElem h]
  simp [List.getD_eq_getElem?_getD, List.getElem?_eq_getElem h]
theorem mcells_pc (m : Addr) (pc : Int) (R : List Int) : (mcells m pc R)[1]? = some (.int .u32 pc) := rfl
theorem mcells_mem (m : Addr) (pc : Int) (R : List Int) : (mcells m pc R)[0]? = some (.pointer (some m)) := rfl
theorem mcells_setpc (m : Addr) (pc v : Int) (R : List Int) : (mcells m pc R).setIfInBounds 1 (.int .u32 v) = mcells m v R := by
  unfold mcells; simp
theorem mcells_setreg (m : Addr) (pc v : Int) (R : List Int) (n : Nat) : (mcells m pc R).setIfInBounds (2 + n) (.int .u32 v) = mcells m pc (R.set n v) := by
  unfold mcells
  rw [List.setIfInBounds_toArray, Nat.add_comm 2 n, List.set_cons_succ, List.set_cons_succ, List.map_set]
/-- The machine that lies in block b. -/
def IsM (b : Nat) (m : Addr) (pc : Int) (R : List Int) (w : World) : Prop := w.heap[b]? = some (.cells (mcells m pc R) 112 (0, 0)) ∧ R.length = 32
theorem IsM.set_reg {b : Nat} {m : Addr} {pc : Int} {R : List Int} {w : World} (h : IsM b m pc R w) (n : Nat) (v : Int) : IsM b m pc (R.set n v) (w.setCell ⟨b, 2 + n, none⟩ (.int .u32 v)) := by
  refine ⟨?_, by rw [List.length_set]; exact h.2⟩
  rw [← mcells_setreg]; exact heap_set h.1
theorem IsM.set_pc {b : Nat} {m : Addr} {pc : Int} {R : List Int} {w : World} (h : IsM b m pc R w) (v : Int) : IsM b m v R (w.setCell ⟨b, 1, none⟩ (.int .u32 v)) := by
  refine ⟨?_, h.2⟩
  rw [← mcells_setpc m pc]; exact heap_set h.1
set_option maxHeartbeats 4000000 in
set_option maxRecDepth 100000 in
theorem new_calls (m : Addr) (pc : Int) (w : World) : Calls Try.prog 17 #[.pointer (some m), .int .u32 pc] w fun e w' => e = .returned (.pointer (some ⟨w.heap.size, 0, none⟩)) ∧ IsM w.heap.size m pc (List.replicate 32 0) w' ∧ Below w.heap.size w w' := by
  go_enter Try.func17, Try.ntmps17
  go_wp2_with fail
  go_returns
  refine ⟨by simp, ⟨?_, rfl⟩, ?_⟩
  · exact heap_at _ _ _ rfl
  · (repeat' (first | (with_reducible first | exact Below.refl _ _ | refine blQ ?_ _ | refine Below.drew ?_ | refine blO ?_ (by assumption) | refine Below.alloc ?_ ?_ _ | refine Below.setCell ?_ ?_ _ | refine Below.frame ?_ _) | omega | (simp only [zA, zS, zD, zQ]; omega)))
set_option maxHeartbeats 4000000 in
set_option maxRecDepth 100000 in
theorem new_nil (pc : Int) (w : World) : Calls Try.prog 17 #[.pointer none, .int .u32 pc] w fun e w' => e = .returned (.pointer none) ∧ w' = w := by
  go_enter Try.func17, Try.ntmps17
  go_wp2_with fail
  go_returns
  exact ⟨by simp, rfl⟩
set_option maxHeartbeats 4000000 in
set_option maxRecDepth 100000 in
theorem pc_calls {b : Nat} {m : Addr} {pc : Int} {R : List Int} {w : World} (h : IsM b m pc R w) : Calls Try.prog 18 #[.pointer (some ⟨b, 0, none⟩)] w fun e w' => e = .returned (.int .u32 pc) ∧ w' = w := by
  have c := cell_of_heap h.1 1
  rw [mcells_pc] at c
  clear h
  go_enter Try.func18, Try.ntmps18
  go_wp2_with fail
  go_returns
  exact ⟨by simp, rfl⟩
set_option maxHeartbeats 4000000 in
set_option maxRecDepth 100000 in
theorem mem_calls {b : Nat} {m : Addr} {pc : Int} {R : List Int} {w : World} (h : IsM b m pc R w) : Calls Try.prog 22 #[.pointer (some ⟨b, 0, none⟩)] w fun e w' => e = .returned (.pointer (some m)) ∧ w' = w := by
  have c := cell_of_heap h.1 0
  rw [mcells_mem] at c
  clear h
  go_enter Try.func22, Try.ntmps22
  go_wp2_with fail
  go_returns
  exact ⟨by simp, rfl⟩
set_option maxHeartbeats 4000000 in
set_option maxRecDepth 100000 in
theorem reg_calls {b : Nat} {m : Addr} {pc : Int} {R : List Int} {w : World} (h : IsM b m pc R w) (n : Int) : Calls Try.prog 21 #[.pointer (some ⟨b, 0, none⟩), .int .i64 n] w fun e w' => e = .returned (.int .u32 (if 0 ≤ n ∧ n < 32 then R.getD n.toNat 0 else 0)) ∧ w' = w := by
  by_cases h1 : 0 ≤ n
  · by_cases h2 : n < 32
    · have c := cell_of_heap h.1 (2 + n.toNat)
      rw [mcells_reg _ _ _ _ (by rw [h.2]; omega)] at c
      have d1 : decide (n < 0) = false := decide_eq_false (by omega)
      have d2 : decide (32 ≤ n) = false := decide_eq_false (by omega)
      have hr : (if 0 ≤ n ∧ n < 32 then R.getD n.toNat 0 else 0) = R.getD n.toNat 0 := if_pos ⟨h1, h2⟩
      rw [hr]
      generalize R.getD n.toNat 0 = r at *
      clear h hr
      go_enter Try.func21, Try.ntmps21
      go_wp2_with fail
      go_returns
      exact ⟨by simp, rfl⟩
    · have d1 : decide (n < 0) = false := decide_eq_false (by omega)
      have d2 : decide (32 ≤ n) = true := decide_eq_true (by omega)
      rw [if_neg (fun q => h2 q.2)]
      clear h
      go_enter Try.func21, Try.ntmps21
      go_wp2_with fail
      go_returns
      exact ⟨by simp, rfl⟩
  · have d1 : decide (n < 0) = true := decide_eq_true (by omega)
    rw [if_neg (fun q => h1 q.1)]
    clear h
    go_enter Try.func21, Try.ntmps21
    go_wp2_with fail
    go_returns
    exact ⟨by simp, rfl⟩
end Go.Proofs.Ytioopcilcgebeaa.CpuA
/-! #### CpuB -/
namespace Go.Proofs.Ytioopcilcgebeaa.CpuA
open Go.RowKit Go.Proofs.Ytioopcilcgebeaa.Base

/-- The registers behind a set. -/
def setR (R : List Int) (n v : Int) : List Int := if 0 < n ∧ n < 32 then R.set n.toNat v else R
theorem setR_length (R : List Int) (n v : Int) : (setR R n v).length = R.length := by unfold setR; split <;> simp
set_option maxHeartbeats 4000000 in
set_option maxRecDepth 100000 in
theorem set_calls {b : Nat} {m : Addr} {pc : Int} {R : List Int} {w : World} (h : IsM b m pc R w) (n v : Int) : Calls Try.prog 55 #[.pointer (some ⟨b, 0, none⟩), .int .i64 n, .int .u32 v] w fun e w' => e = .returned (.tuple #[]) ∧ IsM b m pc (setR R n v) w' ∧ But [b] w w' := by
  by_cases h1 : 0 < n
  · by_cases h2 : n < 32
    · have c := cell_of_heap h.1 (2 + n.toNat)
      rw [mcells_reg _ _ _ _ (by rw [h.2]; omega)] at c
      have f := frozen_of_heap h.1 (2 + n.toNat)
      have d1 : decide (0 < n) = true := decide_eq_true (by omega)
      have d2 : decide (n < 32) = true := decide_eq_true (by omega)
      have hs : setR R n v = R.set n.toNat v := if_pos ⟨h1, h2⟩
      rw [hs]
      have H := Lib.hid h
      generalize R.getD n.toNat 0 = r at *
      clear h hs
      go_enter Try.func55, Try.ntmps55
      go_wp2_with fail
      go_returns
      exact ⟨by simp, H.out.set_reg n.toNat v, (But.refl _ _).set _ _ (.inl (by simp))⟩
    · have d1 : decide (0 < n) = true := decide_eq_true (by omega)
      have d2 : decide (n < 32) = false := decide_eq_false (by omega)
      rw [show setR R n v = R from if_neg (fun q => h2 q.2)]
      have H := Lib.hid h
      clear h
      go_enter Try.func55, Try.ntmps55
      go_wp2_with fail
      go_returns
      exact ⟨by simp, H.out, But.refl _ _⟩
  · have d1 : decide (0 < n) = false := decide_eq_false (by omega)
    rw [show setR R n v = R from if_neg (fun q => h1 q.1)]
    have H := Lib.hid h
    clear h
    go_enter Try.func55, Try.ntmps55
    go_wp2_with fail
    go_returns
    exact ⟨by simp, H.out, But.refl _ _⟩
set_option maxHeartbeats 4000000 in
set_option maxRecDepth 100000 in
theorem Set_calls {b : Nat} {m : Addr} {pc : Int} {R : List Int} {w : World} (h : IsM b m pc R w) (n v : Int) : Calls Try.prog 19 #[.pointer (some ⟨b, 0, none⟩), .int .i64 n, .int .u32 v] w fun e w' => e = .returned (.tuple #[]) ∧ IsM b m pc (setR R n v) w' ∧ But [b] w w' := by
  have H := Lib.hid (set_calls h n v)
  clear h
  go_enter Try.func19, Try.ntmps19
  go_wp2_with (first
    | (go_at_call 55; refine H.out.mono ?_; rintro e w' ⟨rfl, hM, hB⟩))
  go_returns
  exact ⟨by simp, hM, hB⟩
set_option maxHeartbeats 4000000 in
set_option maxRecDepth 100000 in
theorem Set_nil (n v : Int) (w : World) : Calls Try.prog 19 #[.pointer none, .int .i64 n, .int .u32 v] w fun e w' => e = .returned (.tuple #[]) ∧ w' = w := by
  go_enter Try.func19, Try.ntmps19
  go_wp2_with fail
  go_returns
  exact ⟨by simp, rfl⟩
set_option maxHeartbeats 4000000 in
set_option maxRecDepth 100000 in
theorem puts_calls {b : Nat} {m : Addr} {pc : Int} {R : List Int} {w : World} (h : IsM b m pc R w) (n v : Int) : Calls Try.prog 88 #[.pointer (some ⟨b, 0, none⟩), .int .i64 n, .int .u32 v] w fun e w' => e = .returned (.int .i64 0) ∧ IsM b m ((pc + 4) % 4294967296) (setR R n v) w' ∧ But [b] w w' := by
  have H := Lib.hid (set_calls h n v)
  clear h
  go_enter Try.func88, Try.ntmps88
  go_wp2_with (first
    | (go_at_call 55; refine H.out.mono ?_; rintro e w' ⟨rfl, hM, hB⟩; have c := cell_of_heap hM.1 1; rw [mcells_pc] at c; have f := frozen_of_heap hM.1 1; have HM := Lib.hid hM; clear hM))
  go_returns
  exact ⟨by simp, HM.out.set_pc _, hB.set _ _ (.inl (by simp))⟩
set_option maxHeartbeats 4000000 in
set_option maxRecDepth 100000 in
theorem goes_calls {b : Nat} {m : Addr} {pc : Int} {R : List Int} {w : World} (h : IsM b m pc R w) (dst n : Int) (h0 : 0 ≤ dst) : Calls Try.prog 93 #[.pointer (some ⟨b, 0, none⟩), .int .u32 dst, .int .i64 n] w fun e w' => if dst % 4 = 0 then e = .returned (.int .i64 0) ∧ IsM b m dst (setR R n ((pc + 4) % 4294967296)) w' ∧ But [b] w w' else e = .returned (.int .i64 1) ∧ w' = w := by
  have H := Lib.hid (set_calls h n ((pc + 4) % 4294967296))
  have c0 := cell_of_heap h.1 1
  rw [mcells_pc] at c0
  have t1 : dst.tmod 4 = dst % 4 := Int.tmod_eq_emod_of_nonneg h0
  clear h
  by_cases q : dst % 4 = 0
  · simp only [if_pos q]
    go_enter Try.func93, Try.ntmps93
    go_wp2_with (first
      | (go_at_call 55; refine H.out.mono ?_; rintro e w' ⟨rfl, hM, hB⟩; have c := cell_of_heap hM.1 1; rw [mcells_pc] at c; have f := frozen_of_heap hM.1 1; have HM := Lib.hid hM; clear hM))
    go_returns
    exact ⟨by simp, HM.out.set_pc _, hB.set _ _ (.inl (by simp))⟩
  · simp only [if_neg q]
    have q1 : (dst % 4 != 0) = true := by simpa using q
    go_enter Try.func93, Try.ntmps93
    go_wp2_with fail
    go_returns
    exact ⟨by simp, rfl⟩
end Go.Proofs.Ytioopcilcgebeaa.CpuA
/-! #### MemA -/
namespace Go.Proofs.Ytioopcilcgebeaa.CpuA
open Go.RowKit Go.Proofs.Ytioopcilcgebeaa.Base

set_option maxHeartbeats 4000000 in
set_option maxRecDepth 100000 in
theorem part_in (base_ addr : Int) (fb n d k : Nat) (_hb : 0 ≤ base_) (ha : addr < 4294967296) (hd : addr = base_ + d) (hn : n ≤ 1048576) (hk : d + k ≤ n) (hdn : d < n) (w : World) :
    Calls Try.prog 101 #[.agg #[.int .u32 base_, .slice (some ⟨fb, 0, none⟩) n n], .int .u32 addr, .int .i64 (k : Int)] w fun e w' => e = .returned (.tuple #[.slice (some ⟨fb, d, none⟩) k (n - d), .bool true]) ∧ Below w.heap.size w w' := by
  have d1 : decide (addr < base_) = false := decide_eq_false (by omega)
  have d2 : decide ((k : Int) < 0) = false := decide_eq_false (by omega)
  have e1 : (addr - base_) % 4294967296 = (d : Int) := by omega
  have e2 : IntKind.u64.wrap (n : Int) = (n : Int) := by rw [IntKind.wrap_u64]; omega
  have e3 : IntKind.u64.wrap (k : Int) = (k : Int) := by rw [IntKind.wrap_u64]; omega
  have e4 : IntKind.u64.wrap ((n : Int) - (d : Int)) = (n : Int) - (d : Int) := by rw [IntKind.wrap_u64]; omega
  have e5 : IntKind.u64.wrap ((d : Int) + (k : Int)) = ((d + k : Nat) : Int) := by rw [IntKind.wrap_u64]; omega
  have d3 : decide ((n : Int) < (d : Int)) = false := decide_eq_false (by omega)
  have d4 : decide ((n : Int) - (d : Int) < (k : Int)) = false := decide_eq_false (by omega)
  have d5 : ¬ n = d := by omega
  go_enter Try.func101, Try.ntmps101
  go_wp2_with fail
  go_returns
  have a1 : (base_ + (d : Int) - base_).toNat = d := by omega
  have a2 : (base_ + (d : Int) - base_ + (k : Int)).toNat = d + k := by omega
  refine ⟨?_, by (repeat' (first | (with_reducible first | exact Below.refl _ _ | refine blQ ?_ _ | refine Below.drew ?_ | refine blO ?_ (by assumption) | refine Below.alloc ?_ ?_ _ | refine Below.setCell ?_ ?_ _ | refine Below.frame ?_ _) | omega | (simp only [zA, zS, zD, zQ]; omega)))⟩
  simp [a1, a2]
set_option maxHeartbeats 4000000 in
set_option maxRecDepth 100000 in
theorem part_out (base_ addr k : Int) (fb n : Nat) (hb : 0 ≤ base_ ∧ base_ < 4294967296) (ha : 0 ≤ addr ∧ addr < 4294967296) (hn : n ≤ 1048576) (hk0 : k < 4294967296) (hk : ¬ (base_ ≤ addr ∧ 0 ≤ k ∧ addr - base_ + k ≤ n)) (w : World) :
    Calls Try.prog 101 #[.agg #[.int .u32 base_, .slice (some ⟨fb, 0, none⟩) n n], .int .u32 addr, .int .i64 k] w fun e w' => e = .returned (.tuple #[.slice none 0 0, .bool false]) ∧ Below w.heap.size w w' := by
  by_cases q1 : addr < base_
  · have d1 : decide (addr < base_) = true := decide_eq_true q1
    clear hk
    go_enter Try.func101, Try.ntmps101
    go_wp2_with fail
    go_returns
    exact ⟨by simp, by (repeat' (first | (with_reducible first | exact Below.refl _ _ | refine blQ ?_ _ | refine Below.drew ?_ | refine blO ?_ (by assumption) | refine Below.alloc ?_ ?_ _ | refine Below.setCell ?_ ?_ _ | refine Below.frame ?_ _) | omega | (simp only [zA, zS, zD, zQ]; omega)))⟩
  · have d1 : decide (addr < base_) = false := decide_eq_false q1
    by_cases q2 : k < 0
    · have d2 : decide (k < 0) = true := decide_eq_true q2
      clear hk
      go_enter Try.func101, Try.ntmps101
      go_wp2_with fail
      go_returns
      exact ⟨by simp, by (repeat' (first | (with_reducible first | exact Below.refl _ _ | refine blQ ?_ _ | refine Below.drew ?_ | refine blO ?_ (by assumption) | refine Below.alloc ?_ ?_ _ | refine Below.setCell ?_ ?_ _ | refine Below.frame ?_ _) | omega | (simp only [zA, zS, zD, zQ]; omega)))⟩
    · have d2 : decide (k < 0) = false := decide_eq_false q2
      by_cases q3 : (n : Int) < addr - base_
      · have d3 : decide ((n : Int) < addr - base_) = true := decide_eq_true q3
        clear hk
        go_enter Try.func101, Try.ntmps101
        go_wp2_with fail
        go_returns
        exact ⟨by simp, by (repeat' (first | (with_reducible first | exact Below.refl _ _ | refine blQ ?_ _ | refine Below.drew ?_ | refine blO ?_ (by assumption) | refine Below.alloc ?_ ?_ _ | refine Below.setCell ?_ ?_ _ | refine Below.frame ?_ _) | omega | (simp only [zA, zS, zD, zQ]; omega)))⟩
      · have d3 : decide ((n : Int) < addr - base_) = false := decide_eq_false q3
        have q4 : (n : Int) - (addr - base_) < k := by omega
        have d4 : decide ((n : Int) - (addr - base_) < k) = true := decide_eq_true q4
        clear hk
        go_enter Try.func101, Try.ntmps101
        go_wp2_with fail
        go_returns
        exact ⟨by simp, by (repeat' (first | (with_reducible first | exact Below.refl _ _ | refine blQ ?_ _ | refine Below.drew ?_ | refine blO ?_ (by assumption) | refine Below.alloc ?_ ?_ _ | refine Below.setCell ?_ ?_ _ | refine Below.frame ?_ _) | omega | (simp only [zA, zS, zD, zQ]; omega)))⟩
end Go.Proofs.Ytioopcilcgebeaa.CpuA
/-! #### MemB -/
namespace Go.Proofs.Ytioopcilcgebeaa.CpuA
open Go.RowKit Go.Proofs.Ytioopcilcgebeaa.Base

/-- A memory's banks: their beginnings, sizes and blocks. -/
structure Bk where
  f : Int
  fn : Nat
  r : Int
  rn : Nat
  fb : Nat
  rb : Nat
def Bk.Ok (k : Bk) : Prop := 0 ≤ k.f ∧ k.f < 4294967296 ∧ 0 ≤ k.r ∧ k.r < 4294967296 ∧ k.fn ≤ 1048576 ∧ k.rn ≤ 1048576
def memcells (k : Bk) : Array Value := #[.int .u32 k.f, .int .u32 k.fn, .int .u32 k.r, .int .u32 k.rn, .int .u32 k.f, .slice (some ⟨k.fb, 0, none⟩) k.fn k.fn, .int .u32 k.r, .slice (some ⟨k.rb, 0, none⟩) k.rn k.rn]
def IsMem (b : Nat) (k : Bk) (w : World) : Prop := w.heap[b]? = some (.cells (memcells k) 110 (0, 0))
def InB (base_ : Int) (n : Nat) (addr k : Int) : Prop := base_ ≤ addr ∧ 0 ≤ k ∧ addr - base_ + k ≤ n
instance (base_ : Int) (n : Nat) (addr k : Int) : Decidable (InB base_ n addr k) := by unfold InB; infer_instance
set_option maxHeartbeats 4000000 in
set_option maxRecDepth 100000 in
theorem mpart_flash {b : Nat} {K : Bk} {w : World} (h : IsMem b K w) (hK : K.Ok) (addr : Int) (d k : Nat) (ha : addr < 4294967296) (hd : addr = K.f + d) (hk : d + k ≤ K.fn) (hdn : d < K.fn) :
    Calls Try.prog 68 #[.pointer (some ⟨b, 0, none⟩), .int .u32 addr, .int .i64 (k : Int)] w fun e w' => e = .returned (.tuple #[.slice (some ⟨K.fb, d, none⟩) k (K.fn - d), .bool true]) ∧ Below w.heap.size w w' := by
  obtain ⟨f, fn, r, rn, fb, rb⟩ := K
  simp only [Bk.Ok] at hK
  dsimp only at *
  have c := cell_of_heap h
  simp only [memcells] at c
  simp at c
  have H := Lib.hid (part_in f addr fb fn d k (by omega) ha hd (by omega) hk hdn)
  clear h hK hk hdn hd
  go_enter Try.func68, Try.ntmps68
  go_wp2_with (first
    | (go_at_call 101; (with_reducible refine (H.out _).mono ?_); rintro e w' ⟨rfl, hB⟩))
  go_returns
  exact ⟨by simp, by (repeat' (first | (with_reducible first | exact Below.refl _ _ | refine blQ ?_ _ | refine Below.drew ?_ | refine blO ?_ (by assumption) | refine Below.alloc ?_ ?_ _ | refine Below.setCell ?_ ?_ _ | refine Below.frame ?_ _) | omega | (simp only [zA, zS, zD, zQ]; omega)))⟩
set_option maxHeartbeats 4000000 in
set_option maxRecDepth 100000 in
theorem mpart_ram {b : Nat} {K : Bk} {w : World} (h : IsMem b K w) (hK : K.Ok) (addr : Int) (d k : Nat) (ha : addr < 4294967296) (hd : addr = K.r + d) (hk : d + k ≤ K.rn) (hdn : d < K.rn) (hf : ¬ InB K.f K.fn addr k) :
    Calls Try.prog 68 #[.pointer (some ⟨b, 0, none⟩), .int .u32 addr, .int .i64 (k : Int)] w fun e w' => e = .returned (.tuple #[.slice (some ⟨K.rb, d, none⟩) k (K.rn - d), .bool true]) ∧ Below w.heap.size w w' := by
  obtain ⟨f, fn, r, rn, fb, rb⟩ := K
  simp only [Bk.Ok] at hK
  dsimp only at *
  have c := cell_of_heap h
  simp only [memcells] at c
  simp at c
  have H := Lib.hid (part_in r addr rb rn d k (by omega) ha hd (by omega) hk hdn)
  have H1 := Lib.hid (part_out f addr k fb fn (by omega) (by omega) (by omega) (by omega) hf)
  have hl := lt_of_heap h
  have Hh := Lib.hid h
  clear h hK hk hdn hd hf
  go_enter Try.func68, Try.ntmps68
  go_wp2_with (first
    | (go_at_call 101; (with_reducible refine (H1.out _).mono ?_); rintro e w' ⟨rfl, hB⟩; have hx := cell_of_heap (heap_below hB Hh.out); simp only [memcells] at hx; simp at hx)
    | (go_at_call 101; (with_reducible refine (H.out _).mono ?_); rintro e w2 ⟨rfl, hB2⟩))
  go_returns
  exact ⟨by simp, by (repeat' (first | (with_reducible first | exact Below.refl _ _ | refine blQ ?_ _ | refine Below.drew ?_ | refine blO ?_ (by assumption) | refine Below.alloc ?_ ?_ _ | refine Below.setCell ?_ ?_ _ | refine Below.frame ?_ _) | omega | (simp only [zA, zS, zD, zQ]; omega)))⟩
set_option maxHeartbeats 4000000 in
set_option maxRecDepth 100000 in
theorem mpart_none {b : Nat} {K : Bk} {w : World} (h : IsMem b K w) (hK : K.Ok) (addr k : Int) (ha : 0 ≤ addr ∧ addr < 4294967296) (hk : k < 4294967296) (hf : ¬ InB K.f K.fn addr k) (hr : ¬ InB K.r K.rn addr k) :
    Calls Try.prog 68 #[.pointer (some ⟨b, 0, none⟩), .int .u32 addr, .int .i64 k] w fun e w' => e = .returned (.tuple #[.slice none 0 0, .bool false]) ∧ Below w.heap.size w w' := by
  obtain ⟨f, fn, r, rn, fb, rb⟩ := K
  simp only [Bk.Ok] at hK
  dsimp only at *
  have c := cell_of_heap h
  simp only [memcells] at c
  simp at c
  have H := Lib.hid (part_out r addr k rb rn (by omega) ha (by omega) hk hr)
  have H1 := Lib.hid (part_out f addr k fb fn (by omega) ha (by omega) hk hf)
  have Hh := Lib.hid h
  clear h hK hk hr hf
  go_enter Try.func68, Try.ntmps68
  go_wp2_with (first
    | (go_at_call 101; (with_reducible refine (H1.out _).mono ?_); rintro e w' ⟨rfl, hB⟩; have hx := cell_of_heap (heap_below hB Hh.out); simp only [memcells] at hx; simp at hx)
    | (go_at_call 101; (with_reducible refine (H.out _).mono ?_); rintro e w2 ⟨rfl, hB2⟩))
  go_returns
  exact ⟨by simp, by (repeat' (first | (with_reducible first | exact Below.refl _ _ | refine blQ ?_ _ | refine Below.drew ?_ | refine blO ?_ (by assumption) | refine Below.alloc ?_ ?_ _ | refine Below.setCell ?_ ?_ _ | refine Below.frame ?_ _) | omega | (simp only [zA, zS, zD, zQ]; omega)))⟩
set_option maxHeartbeats 4000000 in
set_option maxRecDepth 100000 in
theorem mpart_nil (addr k : Int) (w : World) :
    Calls Try.prog 68 #[.pointer none, .int .u32 addr, .int .i64 k] w fun e w' => e = .returned (.tuple #[.slice none 0 0, .bool false]) ∧ w' = w := by
  go_enter Try.func68, Try.ntmps68
  go_wp2_with fail
  go_returns
  exact ⟨by simp, rfl⟩
end Go.Proofs.Ytioopcilcgebeaa.CpuA
/-! #### MemC -/
namespace Go.Proofs.Ytioopcilcgebeaa.CpuA
open Go.RowKit Go.Proofs.Ytioopcilcgebeaa.Base Go.Proofs.YtioopcilcgebeaaW.PrintWords Go.Proofs.YtioopcilcgebeaaW.PrintLast Go.Proofs.YtioopcilcgebeaaW.PrintMore

def IsBytes (b : Nat) (F : List Int) (w : World) : Prop := w.heap[b]? = some (.cells (F.map (.int .u8)).toArray 5 (0, 0))
theorem bytes_cell {b : Nat} {F : List Int} {w : World} (h : IsBytes b F w) (j : Nat) (hj : j < F.length) : w.cell? ⟨b, j, none⟩ = some (.int .u8 (F.getD j 0)) := by
  rw [cell_of_heap h]
  simp [List.getD_eq_getElem?_getD, List.getElem?_eq_getElem hj]
theorem C_of_bytes {b : Nat} {F : List Int} {w : World} (h : IsBytes b F w) (d k : Nat) (hk : d + k ≤ F.length) (hm : F.length ≤ 1048576) : Kd.C (Kd.int .u8) w (some ⟨b, d, none⟩) ((F.drop d).take k).length ((F.drop d).take k) := by
  have hl : ((F.drop d).take k).length = k := by rw [List.length_take, List.length_drop]; omega
  rw [hl]
  refine Kd.C_of_reads (d := (0 : Int)) ⟨hl, by omega, fun hp => ⟨_, rfl, fun j hj => ?_⟩⟩
  have e : (Addr.add ⟨b, d, none⟩ j) = ⟨b, d + j, none⟩ := by
    unfold Addr.add
    split
    · subst_vars; rfl
    · rfl
  rw [e, bytes_cell h (d + j) (by omega)]
  congr 2
  rw [List.getD_eq_getElem?_getD, List.getD_eq_getElem?_getD, List.getElem?_take, if_pos hj, List.getElem?_drop]
/-- Bytes as a number, the lowest first. -/
def leS : List Int → Int
  | [] => 0
  | c :: l => c + 256 * leS l
theorem number_eq (l : List Int) (hl : l.length = 1 ∨ l.length = 2 ∨ l.length = 4) (hb : ∀ c ∈ l, 0 ≤ c ∧ c < 256) : PCpu.mem_number.f 6 l = some (leS l) := by
  have sh : ∀ (c : Int) (n : Nat), 0 ≤ c → c < 256 → n ≤ 24 → shl .u32 (c % 4294967296) (n : Int) = c * 2 ^ n := by
    intro c n h0 h1 hn
    rw [BitsP.shl32 _ n (by omega), Int.emod_eq_of_lt h0 (by omega)]
    have p : (2 : Int) ^ n ≤ 2 ^ 24 := by
      have h1 : (2 : Nat) ^ n ≤ 2 ^ 24 := Nat.pow_le_pow_right (by omega) hn
      have h2 : ((2 ^ n : Nat) : Int) ≤ ((2 ^ 24 : Nat) : Int) := Int.ofNat_le.2 h1
      rw [Int.natCast_pow, Int.natCast_pow] at h2
      exact h2
    have p0 : (0 : Int) < 2 ^ n := Int.pow_pos (by omega)
    refine Int.emod_eq_of_lt (Int.mul_nonneg h0 (Int.le_of_lt p0)) ?_
    have : c * 2 ^ n ≤ 255 * 2 ^ n := Int.mul_le_mul_of_nonneg_right (by omega) (Int.le_of_lt p0)
    simp only [Int.reducePow] at p
    omega
  have s0 : ∀ c : Int, 0 ≤ c → c < 256 → shl .u32 (c % 4294967296) 0 = c * 1 := fun c h0 h1 => sh c 0 h0 h1 (by omega)
  have s8 : ∀ c : Int, 0 ≤ c → c < 256 → shl .u32 (c % 4294967296) 8 = c * 256 := fun c h0 h1 => sh c 8 h0 h1 (by omega)
  have s16 : ∀ c : Int, 0 ≤ c → c < 256 → shl .u32 (c % 4294967296) 16 = c * 65536 := fun c h0 h1 => sh c 16 h0 h1 (by omega)
  have s24 : ∀ c : Int, 0 ≤ c → c < 256 → shl .u32 (c % 4294967296) 24 = c * 16777216 := fun c h0 h1 => sh c 24 h0 h1 (by omega)
  have orr : ∀ (x y : Int) (i : Nat), 0 ≤ x → x < 2 ^ i → y % 2 ^ i = 0 → 0 ≤ y → y < 4294967296 → i ≤ 32 → Go.bits .or .u32 x y = x + y := fun x y i a b c d e f => BitsP.or_add' x y i a b c d e f
  match l, hl with
  | [a], _ =>
    have ha := hb a (by simp)
    unfold PCpu.mem_number.f
    simp [PCpu.mem_number.l0, rd, wrap64, s0 a ha.1 ha.2, leS]
    rw [orr 0 a 0 (by omega) (by omega) (by omega) (by omega) (by omega) (by omega)]
    omega
  | [a, b], _ =>
    have ha := hb a (by simp)
    have hb' := hb b (by simp)
    unfold PCpu.mem_number.f
    simp [PCpu.mem_number.l0, rd, wrap64, s0 a ha.1 ha.2, s8 b hb'.1 hb'.2, leS]
    rw [orr 0 a 0 (by omega) (by omega) (by omega) (by omega) (by omega) (by omega), orr (0 + a) _ 8 (by omega) (by simp only [Int.reducePow]; omega) (by simp only [Int.reducePow]; omega) (by omega) (by omega) (by omega)]
    omega
  | [a, b, c, d], _ =>
    have ha := hb a (by simp)
    have hb' := hb b (by simp)
    have hc := hb c (by simp)
    have hd := hb d (by simp)
    unfold PCpu.mem_number.f
    simp [PCpu.mem_number.l0, rd, wrap64, s0 a ha.1 ha.2, s8 b hb'.1 hb'.2, s16 c hc.1 hc.2, s24 d hd.1 hd.2, leS]
    rw [orr 0 a 0 (by omega) (by omega) (by omega) (by omega) (by omega) (by omega), orr (0 + a) _ 8 (by omega) (by simp only [Int.reducePow]; omega) (by simp only [Int.reducePow]; omega) (by omega) (by omega) (by omega),
      orr (0 + a + b * 256) _ 16 (by omega) (by simp only [Int.reducePow]; omega) (by simp only [Int.reducePow]; omega) (by omega) (by omega) (by omega), orr (0 + a + b * 256 + c * 65536) _ 24 (by omega) (by simp only [Int.reducePow]; omega) (by simp only [Int.reducePow]; omega) (by omega) (by omega) (by omega)]
    omega
end Go.Proofs.Ytioopcilcgebeaa.CpuA
/-! #### MemD -/
namespace Go.Proofs.Ytioopcilcgebeaa.CpuA
open Go.RowKit Go.Proofs.Ytioopcilcgebeaa.Base Go.Proofs.YtioopcilcgebeaaW.PrintWords

/-- A memory's contents: flash and RAM. -/
structure Mem (b : Nat) (K : Bk) (F R : List Int) (w : World) : Prop where
  ok : K.Ok
  mem : IsMem b K w
  flash : IsBytes K.fb F w
  ram : IsBytes K.rb R w
  fl : F.length = K.fn
  rl : R.length = K.rn
  fbytes : ∀ c ∈ F, 0 ≤ c ∧ c < 256
  rbytes : ∀ c ∈ R, 0 ≤ c ∧ c < 256
theorem Mem.below {b : Nat} {K : Bk} {F R : List Int} {w w' : World} (h : Mem b K F R w) (hb : Below w.heap.size w w') : Mem b K F R w' :=
  ⟨h.ok, heap_below hb h.mem, heap_below hb h.flash, heap_below hb h.ram, h.fl, h.rl, h.fbytes, h.rbytes⟩
/-- The bytes that lie at an address; none: not all lie in one bank. -/
def bytesAt (K : Bk) (F R : List Int) (addr : Int) (k : Nat) : Option (List Int) :=
  if InB K.f K.fn addr k then some ((F.drop (addr - K.f).toNat).take k)
  else if InB K.r K.rn addr k then some ((R.drop (addr - K.r).toNat).take k) else none
theorem bytesAt_ok {K : Bk} {F R : List Int} {addr : Int} {k : Nat} {l : List Int} (h : bytesAt K F R addr k = some l) (fl : F.length = K.fn) (rl : R.length = K.rn) (fb : ∀ c ∈ F, 0 ≤ c ∧ c < 256) (rb : ∀ c ∈ R, 0 ≤ c ∧ c < 256) : l.length = k ∧ ∀ c ∈ l, 0 ≤ c ∧ c < 256 := by
  unfold bytesAt at h
  split at h
  · rename_i q
    obtain rfl := Option.some.inj h
    unfold InB at q
    refine ⟨by rw [List.length_take, List.length_drop]; omega, fun c hc => fb c (List.mem_of_mem_drop (List.mem_of_mem_take hc))⟩
  · split at h
    · rename_i q
      obtain rfl := Option.some.inj h
      unfold InB at q
      refine ⟨by rw [List.length_take, List.length_drop]; omega, fun c hc => rb c (List.mem_of_mem_drop (List.mem_of_mem_take hc))⟩
    · cases h
/-- part, for one byte or more: where the bytes lie, read. -/
theorem part_bytes {b : Nat} {K : Bk} {F R : List Int} {w : World} (h : Mem b K F R w) (addr : Int) (ha : 0 ≤ addr ∧ addr < 4294967296) (k : Nat) (hk : 0 < k ∧ k < 1000) :
    Calls Try.prog 68 #[.pointer (some ⟨b, 0, none⟩), .int .u32 addr, .int .i64 (k : Int)] w fun e w' => Below w.heap.size w w' ∧
      match bytesAt K F R addr k with
      | some l => ∃ A c, e = .returned (.tuple #[.slice (some A) k c, .bool true]) ∧ k ≤ c ∧ Kd.C (Kd.int .u8) w' (some A) l.length l
      | none => e = .returned (.tuple #[.slice none 0 0, .bool false]) := by
  have hok := h.ok
  unfold Bk.Ok at hok
  unfold bytesAt
  by_cases q1 : InB K.f K.fn addr k
  · simp only [if_pos q1]
    have q := q1
    unfold InB at q
    refine (mpart_flash h.mem h.ok addr (addr - K.f).toNat k ha.2 (by omega) (by omega) (by omega) ).mono ?_
    rintro e w' ⟨rfl, hB⟩
    exact ⟨hB, _, _, rfl, by omega, C_of_bytes (heap_below hB h.flash) _ _ (by rw [h.fl]; omega) (by rw [h.fl]; omega)⟩
  · simp only [if_neg q1]
    by_cases q2 : InB K.r K.rn addr k
    · simp only [if_pos q2]
      have q := q2
      unfold InB at q
      refine (mpart_ram h.mem h.ok addr (addr - K.r).toNat k ha.2 (by omega) (by omega) (by omega) q1).mono ?_
      rintro e w' ⟨rfl, hB⟩
      exact ⟨hB, _, _, rfl, by omega, C_of_bytes (heap_below hB h.ram) _ _ (by rw [h.rl]; omega) (by rw [h.rl]; omega)⟩
    · simp only [if_neg q2]
      refine (mpart_none h.mem h.ok addr k ha (by omega) q1 q2).mono ?_
      rintro e w' ⟨rfl, hB⟩
      exact ⟨hB, rfl⟩
/-- What a fetch tells. -/
def fetchS (K : Bk) (F R : List Int) (addr : Int) : Int × Int :=
  if addr % 4 = 0 then (match bytesAt K F R addr 4 with | some l => (leS l, 0) | none => (0, 2)) else (0, 1)
set_option maxHeartbeats 4000000 in
set_option maxRecDepth 100000 in
theorem fetch_calls {b : Nat} {K : Bk} {F R : List Int} {w : World} (h : Mem b K F R w) (addr : Int) (ha : 0 ≤ addr ∧ addr < 4294967296) :
    Calls Try.prog 56 #[.pointer (some ⟨b, 0, none⟩), .int .u32 addr] w fun e w' => e = .returned (.tuple #[.int .u32 (fetchS K F R addr).1, .int .i64 (fetchS K F R addr).2]) ∧ Below w.heap.size w w' := by
  have t1 : addr.tmod 4 = addr % 4 := Int.tmod_eq_emod_of_nonneg ha.1
  unfold fetchS
  by_cases q : addr % 4 = 0
  · simp only [if_pos q]
    have q1 : (addr % 4 != 0) = false := by simpa using q
    have hp := part_bytes h addr ha 4 (by omega)
    cases hb : bytesAt K F R addr 4 with
    | none =>
      rw [hb] at hp
      have Hp := Lib.hid hp
      clear hp hb h
      go_enter Try.func56, Try.ntmps56
      go_wp2_with (first
        | (go_at_call 68; refine Hp.out.mono ?_; rintro e w' ⟨hB, rfl⟩))
      go_returns
      exact ⟨by simp, hB⟩
    | some l =>
      rw [hb] at hp
      obtain ⟨hl, hby⟩ := bytesAt_ok hb h.fl h.rl h.fbytes h.rbytes
      have hn := number_eq l (by omega) hby
      have Hp := Lib.hid hp
      have Hn := Lib.hid hn
      clear hp hb h hn hby
      go_enter Try.func56, Try.ntmps56
      go_wp2_with (first
        | (go_at_call 68; refine Hp.out.mono ?_; rintro e w' ⟨hB, A, c, rfl, hc, hC⟩; have HC := Lib.hid hC; clear hC)
        | (go_at_call 74; refine (show Calls _ _ _ _ _ from hl ▸ (PCpu.mem_number.calls 6 _ _ l _ _ HC.out (by omega) Hn.out)).mono ?_; rintro e w2 ⟨rfl, hD⟩))
      go_returns
      exact ⟨by simp, hB.trans ⟨hD.below.os, hD.below.tape, hD.below.output, hD.below.size, fun k hk => hD.below.block k (Nat.lt_of_lt_of_le hk hB.size)⟩⟩
  · simp only [if_neg q]
    have q1 : (addr % 4 != 0) = true := by simpa using q
    clear h
    go_enter Try.func56, Try.ntmps56
    go_wp2_with fail
    go_returns
    exact ⟨by simp, Below.refl _ _⟩
end Go.Proofs.Ytioopcilcgebeaa.CpuA
/-! #### MemE -/
namespace Go.Proofs.Ytioopcilcgebeaa.CpuA
open Go.RowKit Go.Proofs.Ytioopcilcgebeaa.Base Go.Proofs.YtioopcilcgebeaaW.PrintWords

def loadS (K : Bk) (F R : List Int) (addr : Int) (k : Nat) : Int × Int :=
  if addr % k = 0 then (match bytesAt K F R addr k with | some l => (leS l, 0) | none => (0, 3)) else (0, 1)
theorem sized_calls (k : Nat) (hk : k = 1 ∨ k = 2 ∨ k = 4) (w : World) : Calls Try.prog 73 #[.int .i64 (k : Int)] w fun e w' => e = .returned (.bool true) ∧ ∃ n, w' = w.drewN n := by
  refine (PCpu.mem_sized.calls k true w ?_).mono fun e w' h => ⟨h.1, h.2.out⟩
  rcases hk with rfl | rfl | rfl <;> rfl
set_option maxHeartbeats 8000000 in
set_option maxRecDepth 100000 in
theorem load_calls {b : Nat} {K : Bk} {F R : List Int} {w : World} (h : Mem b K F R w) (addr : Int) (ha : 0 ≤ addr ∧ addr < 4294967296) (k : Nat) (hk : k = 1 ∨ k = 2 ∨ k = 4) :
    Calls Try.prog 43 #[.pointer (some ⟨b, 0, none⟩), .int .u32 addr, .int .i64 (k : Int)] w fun e w' => e = .returned (.tuple #[.int .u32 (loadS K F R addr k).1, .int .i64 (loadS K F R addr k).2]) ∧ Below w.heap.size w w' := by
  have t1 : addr.tmod (k : Int) = addr % (k : Int) := Int.tmod_eq_emod_of_nonneg ha.1
  have t2 : (k : Int) % 4294967296 = (k : Int) := by omega
  have t3 : ((k : Int) == 0) = false := by rw [beq_eq_false_iff_ne]; omega
  have Hs := Lib.hid (sized_calls k hk)
  unfold loadS
  by_cases q : addr % (k : Int) = 0
  · simp only [if_pos q]
    have q1 : (addr % (k : Int) != 0) = false := by simpa using q
    cases hb : bytesAt K F R addr k with
    | none =>
      have Hp := Lib.hid (fun w' (hB : Below w.heap.size w w') => part_bytes (h.below hB) addr ha k (by omega))
      simp only [hb] at Hp
      clear hb h
      go_enter Try.func43, Try.ntmps43
      go_wp2_with (first
        | (go_at_call 73; refine (Hs.out _).mono ?_; rintro e w' ⟨rfl, nq, rfl⟩)
        | (go_at_call 68; refine (Hp.out _ (by (repeat' (first | (with_reducible first | exact Below.refl _ _ | refine blQ ?_ _ | refine Below.drew ?_ | refine blO ?_ (by assumption) | refine Below.alloc ?_ ?_ _ | refine Below.setCell ?_ ?_ _ | refine Below.frame ?_ _) | omega | (simp only [zA, zS, zD, zQ]; omega))))).mono ?_; rintro e w' ⟨hB, rfl⟩))
      go_returns
      exact ⟨by simp, by (repeat' (first | (with_reducible first | exact Below.refl _ _ | refine blQ ?_ _ | refine Below.drew ?_ | refine blO ?_ (by assumption) | refine Below.alloc ?_ ?_ _ | refine Below.setCell ?_ ?_ _ | refine Below.frame ?_ _) | omega | (simp only [zA, zS, zD, zQ]; omega)))⟩
    | some l =>
      obtain ⟨hl, hby⟩ := bytesAt_ok hb h.fl h.rl h.fbytes h.rbytes
      have Hn := Lib.hid (number_eq l (by omega) hby)
      have Hp := Lib.hid (fun w' (hB : Below w.heap.size w w') => part_bytes (h.below hB) addr ha k (by omega))
      simp only [hb] at Hp
      clear hb h hby
      go_enter Try.func43, Try.ntmps43
      go_wp2_with (first
        | (go_at_call 73; refine (Hs.out _).mono ?_; rintro e w' ⟨rfl, nq, rfl⟩)
        | (go_at_call 68; refine (Hp.out _ (by (repeat' (first | (with_reducible first | exact Below.refl _ _ | refine blQ ?_ _ | refine Below.drew ?_ | refine blO ?_ (by assumption) | refine Below.alloc ?_ ?_ _ | refine Below.setCell ?_ ?_ _ | refine Below.frame ?_ _) | omega | (simp only [zA, zS, zD, zQ]; omega))))).mono ?_; rintro e w' ⟨hB, A, c, rfl, hc, hC⟩; have HC := Lib.hid hC; clear hC)
        | (go_at_call 74; refine (show Calls _ _ _ _ _ from hl ▸ (PCpu.mem_number.calls 6 _ _ l _ _ HC.out (by omega) Hn.out)).mono ?_; rintro e w2 ⟨rfl, hD⟩; have hD2 := hD.below))
      go_returns
      exact ⟨by simp, by (repeat' (first | (with_reducible first | exact Below.refl _ _ | refine blQ ?_ _ | refine Below.drew ?_ | refine blO ?_ (by assumption) | refine Below.alloc ?_ ?_ _ | refine Below.setCell ?_ ?_ _ | refine Below.frame ?_ _) | omega | (simp only [zA, zS, zD, zQ]; omega)))⟩
  · simp only [if_neg q]
    have q1 : (addr % (k : Int) != 0) = true := by simpa using q
    clear h
    go_enter Try.func43, Try.ntmps43
    go_wp2_with (first
        | (go_at_call 73; refine (Hs.out _).mono ?_; rintro e w' ⟨rfl, nq, rfl⟩))
    go_returns
    exact ⟨by simp, by (repeat' (first | (with_reducible first | exact Below.refl _ _ | refine blQ ?_ _ | refine Below.drew ?_ | refine blO ?_ (by assumption) | refine Below.alloc ?_ ?_ _ | refine Below.setCell ?_ ?_ _ | refine Below.frame ?_ _) | omega | (simp only [zA, zS, zD, zQ]; omega)))⟩
end Go.Proofs.Ytioopcilcgebeaa.CpuA
/-! #### MemF -/
namespace Go.Proofs.Ytioopcilcgebeaa.CpuA
open Go.RowKit Go.Proofs.Ytioopcilcgebeaa.Base Go.Proofs.YtioopcilcgebeaaW.PrintWords

theorem IsBytes.set {b : Nat} {F : List Int} {w : World} (h : IsBytes b F w) (j : Nat) (v : Int) : IsBytes b (F.set j v) (w.setCell ⟨b, j, none⟩ (.int .u8 v)) := by
  unfold IsBytes
  rw [List.map_set, ← List.setIfInBounds_toArray]
  exact heap_set h
/-- Bytes laid from d on, the lowest first. -/
def putB (R : List Int) (d : Nat) (v : Int) : Nat → List Int
  | 0 => R
  | k + 1 => putB (R.set d (v % 256)) (d + 1) (v / 256) k
set_option maxHeartbeats 8000000 in
set_option maxRecDepth 100000 in
theorem store_in {b : Nat} {K : Bk} {F R : List Int} {w : World} (h : Mem b K F R w) (addr v : Int) (ha : 0 ≤ addr ∧ addr < 4294967296) (k : Nat) (hk : k = 1 ∨ k = 2 ∨ k = 4) (_hv : 0 ≤ v ∧ v < 4294967296) (q : addr % k = 0) (qi : InB K.r K.rn addr k) :
    Calls Try.prog 127 #[.pointer (some ⟨b, 0, none⟩), .int .u32 addr, .int .i64 (k : Int), .int .u32 v] w fun e w' => e = .returned (.int .i64 0) ∧ IsBytes K.rb (putB R (addr - K.r).toNat v k) w' ∧ But [K.rb] w w' := by
  have t1 : addr.tmod (k : Int) = addr % (k : Int) := Int.tmod_eq_emod_of_nonneg ha.1
  have t2 : (k : Int) % 4294967296 = (k : Int) := by omega
  have t3 : ((k : Int) == 0) = false := by rw [beq_eq_false_iff_ne]; omega
  have Hs := Lib.hid (sized_calls k hk)
  have q1 : (addr % (k : Int) != 0) = false := by simpa using q
  have hok := h.ok
  unfold Bk.Ok at hok
  unfold InB at qi
  obtain ⟨d, hd⟩ : ∃ d : Nat, addr = K.r + d := ⟨(addr - K.r).toNat, by omega⟩
  have ed : (addr - K.r).toNat = d := by omega
  have Hp := Lib.hid (part_in K.r addr K.rb K.rn d k (by omega) ha.2 hd (by omega) (by omega) (by omega))
  rw [ed]
  have H := Lib.hid h
  have hlt : d + k ≤ R.length := by rw [h.rl]; omega
  have hm : K.rn ≤ 1048576 := by omega
  obtain ⟨f, fn, r, rn, fb, rb⟩ := K
  dsimp only at *
  have c := cell_of_heap h.mem
  simp only [memcells] at c
  simp at c
  clear h hok qi hd ed q
  go_enter Try.func127, Try.ntmps127
  go_wp2_with (first
    | (go_at_call 73; refine (Hs.out _).mono ?_; rintro e w' ⟨rfl, nq, rfl⟩)
    | (go_at_call 101; refine (Hp.out _).mono ?_; rintro e w' ⟨rfl, hB⟩))
  have hB' : Below w.heap.size w w' := by (repeat' (first | (with_reducible first | exact Below.refl _ _ | refine blQ ?_ _ | refine Below.drew ?_ | refine blO ?_ (by assumption) | refine Below.alloc ?_ ?_ _ | refine Below.setCell ?_ ?_ _ | refine Below.frame ?_ _) | omega | (simp only [zA, zS, zD, zQ]; omega)))
  go_loopw [40] (fun i wr => ∃ (t : Nat) (G : List Int), t ≤ k ∧ i = .int .i64 (t : Int) ∧ IsBytes rb G wr ∧ G.length = R.length ∧ putB G (d + t) (v / 256 ^ t) (k - t) = putB R d v k ∧ But [rb] w wr) (fun i _ => k - (intOf i).toNat)
  case atStart => exact ⟨0, R, by omega, rfl, (H.out.below hB').ram, rfl, by simp, But.of_below hB'⟩
  case round =>
    obtain ⟨t, G, ht, rfl, hG, hl, hp, hw⟩ := hrel
    have HG := Lib.hid hG
    have Hp2 := Lib.hid hp
    clear hp
    by_cases q : t < k
    · have d1 : decide ((t : Int) < (k : Int)) = true := decide_eq_true (by omega)
      have cc := bytes_cell hG (d + t) (by omega)
      have ff := frozen_of_heap hG (d + t)
      clear hG
      go_wp2
      have e1 : v / 2 ^ (8 * t) = v / 256 ^ t := by
        rw [Int.pow_mul]; rfl
      have e2 := Hp2.out
      rw [show k - t = (k - (t + 1)) + 1 by omega] at e2
      rw [show ∀ V n, putB G (d + t) V (n + 1) = putB (G.set (d + t) (V % 256)) (d + t + 1) (V / 256) n from fun _ _ => rfl] at e2
      rw [Int.ediv_ediv_of_nonneg (Int.le_of_lt (Int.pow_pos (by omega))), ← Int.pow_succ, Nat.add_assoc] at e2
      rw [e1]
      refine ⟨⟨t + 1, _, by omega, by simp, HG.out.set _ _, by rw [List.length_set]; exact hl, e2, hw.set _ _ (.inl (by simp))⟩, ?_⟩
      simp [intOf]; omega
    · have d1 : decide ((t : Int) < (k : Int)) = false := decide_eq_false (by omega)
      have ht2 : t = k := by omega
      clear hG
      go_wp2
      go_returns
      refine ⟨by simp, ?_, hw⟩
      have := Hp2.out
      rw [ht2, Nat.sub_self] at this
      rw [← this]
      exact HG.out
end Go.Proofs.Ytioopcilcgebeaa.CpuA
/-! #### MemG -/
namespace Go.Proofs.Ytioopcilcgebeaa.CpuA
open Go.RowKit Go.Proofs.Ytioopcilcgebeaa.Base Go.Proofs.YtioopcilcgebeaaW.PrintWords

set_option maxHeartbeats 8000000 in
set_option maxRecDepth 100000 in
theorem store_odd {b : Nat} (addr v : Int) (ha : 0 ≤ addr ∧ addr < 4294967296) (k : Nat) (hk : k = 1 ∨ k = 2 ∨ k = 4) (q : addr % k ≠ 0) (w : World) :
    Calls Try.prog 127 #[.pointer (some ⟨b, 0, none⟩), .int .u32 addr, .int .i64 (k : Int), .int .u32 v] w fun e w' => e = .returned (.int .i64 1) ∧ Below w.heap.size w w' := by
  have t1 : addr.tmod (k : Int) = addr % (k : Int) := Int.tmod_eq_emod_of_nonneg ha.1
  have t2 : (k : Int) % 4294967296 = (k : Int) := by omega
  have t3 : ((k : Int) == 0) = false := by rw [beq_eq_false_iff_ne]; omega
  have Hs := Lib.hid (sized_calls k hk)
  have q1 : (addr % (k : Int) != 0) = true := by simpa using q
  clear q
  go_enter Try.func127, Try.ntmps127
  go_wp2_with (first
    | (go_at_call 73; refine (Hs.out _).mono ?_; rintro e w' ⟨rfl, nq, rfl⟩))
  go_returns
  exact ⟨by simp, by (repeat' (first | (with_reducible first | exact Below.refl _ _ | refine blQ ?_ _ | refine Below.drew ?_ | refine blO ?_ (by assumption) | refine Below.alloc ?_ ?_ _ | refine Below.setCell ?_ ?_ _ | refine Below.frame ?_ _) | omega | (simp only [zA, zS, zD, zQ]; omega)))⟩
set_option maxHeartbeats 8000000 in
set_option maxRecDepth 100000 in
theorem store_out {b : Nat} {K : Bk} {F R : List Int} {w : World} (h : Mem b K F R w) (addr v : Int) (ha : 0 ≤ addr ∧ addr < 4294967296) (k : Nat) (hk : k = 1 ∨ k = 2 ∨ k = 4) (q : addr % k = 0) (qi : ¬ InB K.r K.rn addr k) :
    Calls Try.prog 127 #[.pointer (some ⟨b, 0, none⟩), .int .u32 addr, .int .i64 (k : Int), .int .u32 v] w fun e w' => e = .returned (.int .i64 4) ∧ Below w.heap.size w w' := by
  have t1 : addr.tmod (k : Int) = addr % (k : Int) := Int.tmod_eq_emod_of_nonneg ha.1
  have t2 : (k : Int) % 4294967296 = (k : Int) := by omega
  have t3 : ((k : Int) == 0) = false := by rw [beq_eq_false_iff_ne]; omega
  have Hs := Lib.hid (sized_calls k hk)
  have q1 : (addr % (k : Int) != 0) = false := by simpa using q
  have hok := h.ok
  unfold Bk.Ok at hok
  have Hp := Lib.hid (part_out K.r addr k K.rb K.rn (by omega) ha (by omega) (by omega) qi)
  obtain ⟨f, fn, r, rn, fb, rb⟩ := K
  dsimp only at *
  have c := cell_of_heap h.mem
  simp only [memcells] at c
  simp at c
  clear h hok qi q
  go_enter Try.func127, Try.ntmps127
  go_wp2_with (first
    | (go_at_call 73; refine (Hs.out _).mono ?_; rintro e w' ⟨rfl, nq, rfl⟩)
    | (go_at_call 101; refine (Hp.out _).mono ?_; rintro e w' ⟨rfl, hB⟩))
  go_returns
  exact ⟨by simp, by (repeat' (first | (with_reducible first | exact Below.refl _ _ | refine blQ ?_ _ | refine Below.drew ?_ | refine blO ?_ (by assumption) | refine Below.alloc ?_ ?_ _ | refine Below.setCell ?_ ?_ _ | refine Below.frame ?_ _) | omega | (simp only [zA, zS, zD, zQ]; omega)))⟩
theorem putB_length : ∀ (k : Nat) (R : List Int) (d : Nat) (v : Int), (putB R d v k).length = R.length
  | 0, _, _, _ => rfl
  | k + 1, R, d, v => by unfold putB; rw [putB_length k, List.length_set]
theorem putB_bytes : ∀ (k : Nat) (R : List Int) (d : Nat) (v : Int), (∀ c ∈ R, 0 ≤ c ∧ c < 256) → ∀ c ∈ putB R d v k, 0 ≤ c ∧ c < 256
  | 0, _, _, _, h => h
  | k + 1, R, d, v, h => by
    unfold putB
    refine putB_bytes k _ _ _ (fun c hc => ?_)
    rcases List.mem_or_eq_of_mem_set hc with hc | rfl
    · exact h c hc
    · omega
/-- What a store tells, and RAM behind it. -/
def storeS (K : Bk) (R : List Int) (addr v : Int) (k : Nat) : Int × List Int :=
  if addr % k = 0 then (if InB K.r K.rn addr k then (0, putB R (addr - K.r).toNat v k) else (4, R)) else (1, R)
theorem store_calls {b : Nat} {K : Bk} {F R : List Int} {w : World} (h : Mem b K F R w) (hd : b ≠ K.rb ∧ K.fb ≠ K.rb) (addr v : Int) (ha : 0 ≤ addr ∧ addr < 4294967296) (k : Nat) (hk : k = 1 ∨ k = 2 ∨ k = 4) (hv : 0 ≤ v ∧ v < 4294967296) :
    Calls Try.prog 127 #[.pointer (some ⟨b, 0, none⟩), .int .u32 addr, .int .i64 (k : Int), .int .u32 v] w fun e w' => e = .returned (.int .i64 (storeS K R addr v k).1) ∧ Mem b K F (storeS K R addr v k).2 w' ∧ But [K.rb] w w' := by
  unfold storeS
  by_cases q : addr % (k : Int) = 0
  · simp only [if_pos q]
    by_cases qi : InB K.r K.rn addr k
    · simp only [if_pos qi]
      refine (store_in h addr v ha k hk hv q qi).mono ?_
      rintro e w' ⟨rfl, hr, hb⟩
      refine ⟨rfl, ⟨h.ok, hb.heap (by simpa using hd.1) h.mem, hb.heap (by simpa using hd.2) h.flash, hr, h.fl, by rw [putB_length]; exact h.rl, h.fbytes, putB_bytes _ _ _ _ h.rbytes⟩, hb⟩
    · simp only [if_neg qi]
      refine (store_out h addr v ha k hk q qi).mono ?_
      rintro e w' ⟨rfl, hb⟩
      exact ⟨rfl, h.below hb, But.of_below hb⟩
  · simp only [if_neg q]
    refine (store_odd addr v ha k hk q w).mono ?_
    rintro e w' ⟨rfl, hb⟩
    exact ⟨rfl, h.below hb, But.of_below hb⟩
end Go.Proofs.Ytioopcilcgebeaa.CpuA
/-! #### MemH -/
namespace Go.Proofs.Ytioopcilcgebeaa.CpuA
open Go.RowKit Go.Proofs.Ytioopcilcgebeaa.Base Go.Proofs.YtioopcilcgebeaaW.PrintWords

theorem cell4 {W : World} {b : Nat} {t : TypeId} {fr : Nat × Nat} {a0 a1 a2 a3 : Value} (h : W.heap[b]? = some (.cells #[a0, a1, a2, a3] t fr)) :
    W.cell? ⟨b, 0, none⟩ = some a0 ∧ W.cell? ⟨b, 1, none⟩ = some a1 ∧ W.cell? ⟨b, 2, none⟩ = some a2 ∧ W.cell? ⟨b, 3, none⟩ = some a3 :=
  ⟨(cell_of_heap h 0).trans rfl, (cell_of_heap h 1).trans rfl, (cell_of_heap h 2).trans rfl, (cell_of_heap h 3).trans rfl⟩
/-- A memory that was made. -/
structure Made (w : World) (b : Nat) (K : Bk) (f : Int) (fn : Nat) (r : Int) (rn : Nat) (w' : World) : Prop where
  mem : Mem b K (List.replicate fn 0) (List.replicate rn 0) w'
  kf : K.f = f
  kfn : K.fn = fn
  kr : K.r = r
  krn : K.rn = rn
  fb : w.heap.size ≤ b
  ff : w.heap.size ≤ K.fb
  fr : w.heap.size ≤ K.rb
  a1 : b ≠ K.rb
  a2 : K.fb ≠ K.rb
  bel : Below w.heap.size w w'
theorem made_bytes (n : Nat) : madeCells #[Value.int .u8 0] n = ((List.replicate n (0 : Int)).map (.int .u8)).toArray := by
  rw [List.map_replicate]
  unfold madeCells
  apply Array.ext
  · simp
  · intro i h1 h2
    simp
    rw [Nat.mod_one]
    rfl
def NewPost (f : Int) (fn : Nat) (r : Int) (rn : Nat) (w : World) (e : Ending) (w' : World) : Prop :=
  ∃ b K, e = .returned (.tuple #[.pointer (some ⟨b, 0, none⟩), .int .i64 0]) ∧ Made w b K f fn r rn w'
set_option maxHeartbeats 8000000 in
set_option maxRecDepth 100000 in
theorem new_in (f r : Int) (fn rn : Nat) (hc : PCpu.mem_can.f f fn r rn = some true) (hf : fn ≤ 1048576) (hr' : rn ≤ 1048576) (h0 : 0 ≤ f) (h1 : f < 4294967296) (k0 : 0 ≤ r) (k1 : r < 4294967296) (w : World) :
    Calls Try.prog 15 #[.agg #[.int .u32 f, .int .u32 (fn : Int), .int .u32 r, .int .u32 (rn : Int)]] w (NewPost f fn r rn w) := by
  have Hc := Lib.hid hc
  clear hc
  have m1 := fun w => run_make_row' (P := Try.prog) 63 5 (.int .u8 0) 1 Try.underlying63 rfl rfl .u32 .u32 fn (by omega) (by omega) w
  have m2 := fun w => run_make_row' (P := Try.prog) 63 5 (.int .u8 0) 1 Try.underlying63 rfl rfl .u32 .u32 rn (by omega) (by omega) w
  go_enter Try.func15, Try.ntmps15
  go_wp2_with (first
    | (go_at_call 54; refine (PCpu.mem_can.calls _ _ _ _ _ _ Hc.out).mono ?_; rintro e w' ⟨rfl, hB⟩; apply kept_block hB (n := w.heap.size); (focus (exact heap_at _ _ _ rfl)); intro cr fr hr hz; have c0 := cr 0; have c1 := cr 1; have c2 := cr 2; have c3 := cr 3; simp at c0 c1 c2 c3; clear cr; have n0 : ¬ w.heap.size = w'.heap.size := (by omega); have n1 : ¬ w.heap.size = w'.heap.size + 1 := (by omega); have n2 : ¬ w.heap.size = w'.heap.size + 1 + 1 := (by omega); have n3 : ¬ w.heap.size = w'.heap.size + 2 := (by omega)))
  go_region_held3 (fun u => u.cell? ⟨w.heap.size, 0, none⟩ = some (.int .u32 f) ∧ u.cell? ⟨w.heap.size, 1, none⟩ = some (.int .u32 (fn : Int)) ∧ u.cell? ⟨w.heap.size, 2, none⟩ = some (.int .u32 r) ∧ u.cell? ⟨w.heap.size, 3, none⟩ = some (.int .u32 (rn : Int))) (first | (go_keep; done) | (apply cell4; (repeat' (first | (with_reducible first | assumption | exact hpA _ _ _ rfl | refine hpN ?_ | refine hpD ?_) | ((with_reducible first | refine hpP ?_ ?_ | refine hpT ?_ ?_); (focus (first | omega | (simp [zA, zS, zD, zQ] <;> omega)))) | ((with_reducible refine hpA _ _ _ ?_); (focus (first | omega | (simp [zA, zS, zD, zQ] <;> omega)))) | ((with_reducible refine hpB ?_ ?_); (focus assumption)) | (with_reducible apply hpS))))) (fail)
  all_goals go_wp2
  all_goals go_returns
  · refine ⟨w'.heap.size + 1 + 1, ⟨f, fn, r, rn, w'.heap.size, w'.heap.size + 1⟩, by simp, ?_⟩
    have hl : w.heap.size < w'.heap.size := hz
    refine ⟨⟨⟨h0, h1, k0, k1, hf, hr'⟩, ?_, ?_, ?_, by simp, by simp, ?_, ?_⟩, rfl, rfl, rfl, rfl, ?_, ?_, ?_, ?_, ?_, ?_⟩
    · exact heap_at _ _ _ (by simp)
    · have : IsBytes w'.heap.size (List.replicate fn 0) (w'.alloc (Obj.cells (madeCells #[Value.int IntKind.u8 0] fn) 5)) := by unfold IsBytes; rw [made_bytes]; exact heap_at _ _ _ rfl
      exact heap_past (by simp only [World.size_alloc]; omega) (heap_past (by simp only [World.size_alloc]; omega) this)
    · have : IsBytes (w'.heap.size + 1) (List.replicate rn 0) ((w'.alloc (Obj.cells (madeCells #[Value.int IntKind.u8 0] fn) 5)).alloc (Obj.cells (madeCells #[Value.int IntKind.u8 0] rn) 5)) := by unfold IsBytes; rw [made_bytes rn]; exact heap_at _ _ _ (by simp)
      exact heap_past (by simp only [World.size_alloc]; omega) this
    · intro c hc; have := List.eq_of_mem_replicate hc; omega
    · intro c hc; have := List.eq_of_mem_replicate hc; omega
    · omega
    · show w.heap.size ≤ w'.heap.size; omega
    · show w.heap.size ≤ w'.heap.size + 1; omega
    · show w'.heap.size + 1 + 1 ≠ w'.heap.size + 1; omega
    · show w'.heap.size ≠ w'.heap.size + 1; omega
    · (repeat' (first | (with_reducible first | exact Below.refl _ _ | refine blQ ?_ _ | refine Below.drew ?_ | refine blO ?_ (by assumption) | refine Below.alloc ?_ ?_ _ | refine Below.setCell ?_ ?_ _ | refine Below.frame ?_ _) | omega | (simp only [zA, zS, zD, zQ]; omega)))
  · refine ⟨w'.heap.size + 1 + 1, ⟨f, fn, r, rn, w'.heap.size + 1, w'.heap.size⟩, by simp, ?_⟩
    have hl : w.heap.size < w'.heap.size := hz
    refine ⟨⟨⟨h0, h1, k0, k1, hf, hr'⟩, ?_, ?_, ?_, by simp, by simp, ?_, ?_⟩, rfl, rfl, rfl, rfl, ?_, ?_, ?_, ?_, ?_, ?_⟩
    · exact heap_at _ _ _ (by simp)
    · have : IsBytes (w'.heap.size + 1) (List.replicate fn 0) ((w'.alloc (Obj.cells (madeCells #[Value.int IntKind.u8 0] rn) 5)).alloc (Obj.cells (madeCells #[Value.int IntKind.u8 0] fn) 5)) := by unfold IsBytes; rw [made_bytes fn]; exact heap_at _ _ _ (by simp)
      exact heap_past (by simp only [World.size_alloc]; omega) this
    · have : IsBytes w'.heap.size (List.replicate rn 0) (w'.alloc (Obj.cells (madeCells #[Value.int IntKind.u8 0] rn) 5)) := by unfold IsBytes; rw [made_bytes]; exact heap_at _ _ _ rfl
      exact heap_past (by simp only [World.size_alloc]; omega) (heap_past (by simp only [World.size_alloc]; omega) this)
    · intro c hc; have := List.eq_of_mem_replicate hc; omega
    · intro c hc; have := List.eq_of_mem_replicate hc; omega
    · omega
    · show w.heap.size ≤ w'.heap.size + 1; omega
    · show w.heap.size ≤ w'.heap.size; omega
    · show w'.heap.size + 1 + 1 ≠ w'.heap.size; omega
    · show w'.heap.size + 1 ≠ w'.heap.size; omega
    · (repeat' (first | (with_reducible first | exact Below.refl _ _ | refine blQ ?_ _ | refine Below.drew ?_ | refine blO ?_ (by assumption) | refine Below.alloc ?_ ?_ _ | refine Below.setCell ?_ ?_ _ | refine Below.frame ?_ _) | omega | (simp only [zA, zS, zD, zQ]; omega)))
set_option maxHeartbeats 8000000 in
set_option maxRecDepth 100000 in
theorem new_out (f r fn rn : Int) (hc : PCpu.mem_can.f f fn r rn = some false) (w : World) :
    Calls Try.prog 15 #[.agg #[.int .u32 f, .int .u32 fn, .int .u32 r, .int .u32 rn]] w fun e w' => e = .returned (.tuple #[.pointer none, .int .i64 1]) ∧ Below w.heap.size w w' := by
  have Hc := Lib.hid hc
  clear hc
  go_enter Try.func15, Try.ntmps15
  go_wp2_with (first
    | (go_at_call 54; refine (PCpu.mem_can.calls _ _ _ _ _ _ Hc.out).mono ?_; rintro e w' ⟨rfl, hB⟩))
  go_returns
  exact ⟨by simp, by (repeat' (first | (with_reducible first | exact Below.refl _ _ | refine blQ ?_ _ | refine Below.drew ?_ | refine blO ?_ (by assumption) | refine Below.alloc ?_ ?_ _ | refine Below.setCell ?_ ?_ _ | refine Below.frame ?_ _) | omega | (simp only [zA, zS, zD, zQ]; omega)))⟩
end Go.Proofs.Ytioopcilcgebeaa.CpuA
