/- Proofs of this claim's family, merged: RmC, RxA, RxB. -/
import Derived.Test.YtioopcilcgebeaaKS
import Derived.Test.YtioopcilcgebeaaKP4
set_option linter.unusedVariables false
set_option linter.unusedSimpArgs false
/-! #### RmC -/
namespace Go.Proofs.Ytioopcilcgebeaa.CpuA
open Go.RowKit Go.Proofs.Ytioopcilcgebeaa.Base Go.Proofs.YtioopcilcgebeaaW.PrintWords

theorem infoB : (Try.prog.info? 141).map (fun i => (i.zero, i.size, i.bytes)) = some (some (.agg #[.int .u32 0, .int .u8 0]), 2, 8) := by kernel_rfl
/-- What a store writes. -/
def wrL (a x : Int) : Nat → List (Int × Int)
  | 0 => []
  | k + 1 => (a % 4294967296, x % 256) :: wrL (a + 1) (x / 256) k
theorem wrL_len : ∀ (k : Nat) (a x : Int), (wrL a x k).length = k
  | 0, _, _ => rfl
  | k + 1, a, x => by simp only [wrL, List.length_cons, wrL_len k]
theorem rowL_own {v : Value} {k : Nat} (h : k ∉ rowL v) : some k ≠ v.ownBlock := by
  intro e
  apply h
  unfold rowL
  rw [← e]
  simp
/-- A row behind an append. -/
theorem grown_but {w w' : World} {v : Value} (h : w.grownBy w' v.ownBlock) : But (rowL v) w w' :=
  ⟨h.os, h.tape, h.output, h.size, fun k hk hl => h.block k hk (rowL_own hl)⟩
theorem rm_append {g base : Nat} {K : Bk} {L : List (Int × Int)} {v : Value} {wr w1 : World} {r cap : Nat} (h : RM g base K L v wr) (a b : Int) (hb : 0 ≤ b ∧ b < 256) (o : Obj)
    (hown : w1.ownsRow base 141 2 (.slice (some ⟨r, 0, none⟩) (L.length + 1) cap) (L.length + 1) (flat L ++ [.int .u32 a, .int .u8 b])) (hg : (wr.alloc o).grownBy w1 v.ownBlock) :
    RM g base K (L ++ [(a, b)]) (.slice (some ⟨r, 0, none⟩) (L.length + 1) cap) (w1.setCell ⟨g, 4, none⟩ (.slice (some ⟨r, 0, none⟩) (L.length + 1) cap)) := by
  have b1 : But (rowL v) (wr.alloc o) w1 := grown_but hg
  have b2 : But (rowL v) wr w1 := (But.of_below ((Below.refl _ _).alloc (Nat.le_refl _) _)).trans b1
  have m1 := b2.heap (h.ne h.mem (by decide)) h.mem
  have ho : w1.ownsRow base 141 2 (.slice (some ⟨r, 0, none⟩) (L.length + 1) cap) (L ++ [(a, b)]).length (flat (L ++ [(a, b)])) := by
    rw [flat_append, List.length_append]
    exact hown
  have hrg : r ≠ g := by
    rcases hown.2 with ⟨q, _⟩ | ⟨r', cap', cur, e, _, hr, _⟩
    · cases q
    · injection e with e1 _ _
      injection e1 with e1
      injection e1 with e1 _ _
      rintro rfl
      rw [← e1, m1] at hr
      injection hr with hr
      injection hr with _ hr _
      exact absurd hr (by decide)
  refine ⟨?_, ⟨ho.1, ?_⟩, ?_⟩
  · exact heap_set m1
  · rcases ho.2 with ⟨q, _⟩ | ⟨r', cap', cur, e, hbs, hr, q⟩
    · cases q
    · have e' := e
      injection e with e1 _ _
      injection e1 with e1
      injection e1 with e1 _ _
      refine .inr ⟨r', cap', cur, ?_, hbs, heap_set_ne (by rw [← e1]; exact hrg) hr, q⟩
      exact e'
  · intro x hx
    rcases List.mem_append.1 hx with hx | hx
    · exact h.wide x hx
    · rw [List.mem_singleton] at hx; subst hx; exact hb
/-- Behind a store: bytes were written. -/
def WPost (g base : Nat) (K : Bk) (L' : List (Int × Int)) (v : Value) (w : World) (r : Value) (e : Ending) (w' : World) : Prop :=
  e = .returned r ∧ ∃ v', RM g base K L' v' w' ∧ But (g :: rowL v) w w' ∧ ∀ r ∈ rowL v', r ∈ rowL v ∨ w.heap.size ≤ r
theorem wpost_same {g base : Nat} {K : Bk} {L : List (Int × Int)} {v : Value} {w : World} {r : Value} {e : Ending} {w' : World} (he : e = .returned r) (h : RM g base K L v w) (hb : Below w.heap.size w w') : WPost g base K L v w r e w' :=
  ⟨he, v, h.below hb, But.of_below hb, fun _ hr => .inl hr⟩
/-- The loop's invariant. -/
def WInv (g base : Nat) (K : Bk) (L : List (Int × Int)) (v : Value) (w : World) (addr x : Int) (k t : Nat) (wr : World) : Prop :=
  ∃ (G : List (Int × Int)) (v' : Value), RM g base K G v' wr ∧ G ++ wrL (addr + t) (x / 256 ^ t) (k - t) = L ++ wrL addr x k ∧ But (g :: rowL v) w wr ∧ (∀ r ∈ rowL v', r ∈ rowL v ∨ w.heap.size ≤ r)
theorem winv_start {g base : Nat} {K : Bk} {L : List (Int × Int)} {v : Value} {w w' : World} (h : RM g base K L v w) (hb : Below w.heap.size w w') (addr x : Int) (k : Nat) : WInv g base K L v w addr x k 0 w' :=
  ⟨L, v, h.below hb, by simp, But.of_below hb, fun _ hr => .inl hr⟩
theorem winv_end {g base : Nat} {K : Bk} {L : List (Int × Int)} {v : Value} {w w' : World} {addr x : Int} {k t : Nat} (h : WInv g base K L v w addr x k t w') (ht : k ≤ t) {e : Ending} {r : Value} (he : e = .returned r) : WPost g base K (L ++ wrL addr x k) v w r e w' := by
  obtain ⟨G, v', hM, hG, hB, hR⟩ := h
  rw [show k - t = 0 by omega] at hG
  simp only [wrL, List.append_nil] at hG
  subst hG
  exact ⟨he, v', hM, hB, hR⟩
theorem winv_step {g base : Nat} {K : Bk} {L G : List (Int × Int)} {v v' : Value} {w wr w1 : World} {addr x : Int} {k t : Nat} {o : Obj} {r cap : Nat} (ht : t < k) (hM : RM g base K G v' wr) (hG : G ++ wrL (addr + t) (x / 256 ^ t) (k - t) = L ++ wrL addr x k) (hB : But (g :: rowL v) w wr) (hR : ∀ r ∈ rowL v', r ∈ rowL v ∨ w.heap.size ≤ r)
    (hown : w1.ownsRow base 141 2 (.slice (some ⟨r, 0, none⟩) (G.length + 1) cap) (G.length + 1) (flat G ++ [.int .u32 ((addr + t) % 4294967296), .int .u8 (x / 256 ^ t % 256)])) (hg : (wr.alloc o).grownBy w1 v'.ownBlock) (hat : v'.ownBlock = some r ∨ r = (wr.alloc o).heap.size) :
    WInv g base K L v w addr x k (t + 1) (w1.setCell ⟨g, 4, none⟩ (.slice (some ⟨r, 0, none⟩) (G.length + 1) cap)) := by
  have hz := hB.size
  have rr : ∀ q ∈ rowL (.slice (some ⟨r, 0, none⟩) (G.length + 1) cap), q ∈ rowL v ∨ w.heap.size ≤ q := by
    intro q hq
    have e : q = r := by simpa [rowL, Value.ownBlock] using hq
    subst e
    rcases hat with hat | hat
    · exact hR _ (by unfold rowL; rw [hat]; simp)
    · right; rw [hat, World.size_alloc]; omega
  refine ⟨G ++ [((addr + t) % 4294967296, x / 256 ^ t % 256)], _, ?_, ?_, ?_, rr⟩
  · have := rm_append hM ((addr + t) % 4294967296) (x / 256 ^ t % 256) (by omega) o hown hg
    exact this
  · rw [show k - t = (k - (t + 1)) + 1 by omega, wrL] at hG
    rw [List.append_assoc, List.singleton_append, ← hG]
    congr 3
    · omega
    · rw [Int.ediv_ediv_of_nonneg (Int.le_of_lt (Int.pow_pos (by omega))), Int.pow_succ]
  · have b1 : But (rowL v') wr w1 := (But.of_below ((Below.refl _ _).alloc (Nat.le_refl _) _)).trans (grown_but hg)
    have b2 : But (g :: rowL v) w w1 := by
      refine ⟨b1.os.trans hB.os, b1.tape.trans hB.tape, b1.output.trans hB.output, Nat.le_trans hB.size b1.size, fun n hn hl => ?_⟩
      rw [b1.block n (Nat.lt_of_lt_of_le hn hB.size) ?_, hB.block n hn hl]
      intro hq
      rcases hR n hq with hq | hq
      · exact hl (List.mem_cons_of_mem _ hq)
      · omega
    exact b2.set _ _ (.inl (by simp))
set_option maxHeartbeats 8000000 in
set_option maxRecDepth 100000 in
theorem rstore_1 {g base : Nat} {K : Bk} {L : List (Int × Int)} {v : Value} {w : World} (h : RM g base K L v w) (hc : K.Can) (hbase : base ≤ w.heap.size) (hL : L.length ≤ 1000000000) (addr x : Int) (ha : 0 ≤ addr ∧ addr < 4294967296) (hx : 0 ≤ x ∧ x < 4294967296)
    (q : addr % (1 : Int) = 0) (hi : InB K.r K.rn addr 1) :
    Calls Try.prog 129 #[.pointer (some ⟨g, 0, none⟩), .int .u32 addr, .int .i64 1, .int .u32 x] w (WPost g base K (L ++ wrL addr x 1) v w (.int .i64 0)) := by
  have t1 : addr.tmod 1 = addr % 1 := Int.tmod_eq_emod_of_nonneg ha.1
  have q1 : (addr % (1 : Int) != 0) = false := by simp
  have Hr := ram_calls h hc.ok addr 1 ha (by omega)
  have hak : addr + 1 ≤ 4294967296 := by have := hc.re; unfold InB at hi; omega
  rw [show decide (InB K.r K.rn addr 1) = true from decide_eq_true hi] at Hr
  replace Hr := Lib.hid Hr
  have H := Lib.hid h
  have Q := Lib.hid q
  obtain ⟨i0, hi0, hz0, hz1, hz2⟩ := info_parts infoB
  clear h q hi
  go_enter Try.func129, Try.ntmps129
  go_wp2_with (first
    | (go_at_call 77; (refine Hr.out.mono ?_); rintro e w' ⟨rfl, n1, rfl⟩))
  go_loopw [9, 3] (fun i y wr => ∃ (t : Nat), t ≤ 1 ∧ i = .int .i64 (t : Int) ∧ y = .int .u32 (x / 256 ^ t) ∧ WInv g base K L v w addr x 1 t wr) (fun i _ _ => 1 - (intOf i).toNat)
  case atStart => exact ⟨0, by omega, rfl, by simp, winv_start H.out (by (repeat' (first | (with_reducible first | exact Below.refl _ _ | refine blQ ?_ _ | refine Below.drew ?_ | refine blO ?_ (by assumption) | refine Below.alloc ?_ ?_ _ | refine Below.setCell ?_ ?_ _ | refine Below.frame ?_ _) | omega | (simp only [zA, zS, zD, zQ]; omega)))) addr x 1⟩
  case round =>
    obtain ⟨t, ht, rfl, rfl, hI⟩ := hrel
    have hy0 : 0 ≤ x / 256 ^ t := Int.ediv_nonneg hx.1 (Int.le_of_lt (Int.pow_pos (by omega)))
    have hy1 : x / 256 ^ t < 4294967296 := Int.lt_of_le_of_lt (Int.ediv_le_self _ hx.1) hx.2
    have hy2 : x / 256 ^ (t + 1) = x / 256 ^ t / 256 := by rw [Int.ediv_ediv_of_nonneg (Int.le_of_lt (Int.pow_pos (by omega))), Int.pow_succ]
    have HY := Lib.hid hy2
    clear hy2
    by_cases q : t < 1
    · obtain ⟨G, v', hM, hG, hB, hR⟩ := hI
      obtain ⟨⟨A, cap, rfl⟩, hl⟩ := hM.len
      have c4 : wr.cell? ⟨g, 4, none⟩ = some (.slice A G.length cap) := cell_of_heap hM.mem 4
      have f4 : wr.frozen? ⟨g, 4, none⟩ = false := frozen_of_heap hM.mem 4
      have hlg : (G.length : Int) ≤ 1000000004 := by
        have := congrArg List.length hG
        simp only [List.length_append, wrL_len] at this
        omega
      have hgs := lt_of_heap hM.mem
      have hbs := hB.size
      have hne := Lib.hid (rowL_own (hM.ne hM.mem (by decide)))
      have HM := Lib.hid hM
      have HG := Lib.hid hG
      have HR := Lib.hid hR
      have HB := Lib.hid hB
      clear hM hG hR hB hl
      have hy3 : 0 ≤ x / 256 ^ t % 256 := by omega
      have hy4 : x / 256 ^ t % 256 < 256 := by omega
      generalize hyy : x / 256 ^ t = y at *
      have HYY := Lib.hid hyy
      clear hyy
      go_wp2_with (first
        | (at_builtin; refine wpList_append_lies _ rfl _ _ 118 rfl base 141 i0 _ 2 8 Try.underlying118 hi0 hz0 hz1 hz2 rfl (by omega) (.slice A G.length cap) G.length (flat G) rfl (HM.out.row.alloc _) ⟨wr.heap.size, 0, none⟩ 1 1 [.int .u32 (addr + t), .int .u8 (y % 256)] rfl rfl (World.news_of_block (heap_at _ _ _ rfl)) (by simp [Value.oneCell']) (by omega) (by unfold maxLen; omega) (by omega) (by rw [World.size_alloc]; omega) _ rfl ?_; intro r cap1 w1 hown hgrow hat hlt; (have c5 : w1.cell? ⟨g, 4, none⟩ = some (.slice A G.length cap) := (hgrow.cell_far ⟨g, 4, none⟩ (by rw [World.size_alloc]; show g < _; omega) hne.out).trans (cell_of_heap (heap_past hgs HM.out.mem) 4)); (have f5 : w1.frozen? ⟨g, 4, none⟩ = false := (hgrow.frozen_far ⟨g, 4, none⟩ (by rw [World.size_alloc]; show g < _; omega) hne.out).trans (frozen_of_heap (heap_past hgs HM.out.mem) 4)); have HO := Lib.hid hown; have HW := Lib.hid hgrow; have HT := Lib.hid hat; clear hown hgrow hat))
      go_roundw
      case rel =>
        subst_vars
        refine ⟨t + 1, by omega, by go_num, by rw [HY.out], ?_⟩
        exact winv_step q HM.out HG.out HB.out HR.out (by rw [Int.emod_eq_of_lt (by omega) (by omega)]; exact HO.out) HW.out HT.out
      case measure => simp [intOf]; omega
    · go_wp2
      go_returns
      exact winv_end hI (by omega) (by simp)
set_option maxHeartbeats 8000000 in
set_option maxRecDepth 100000 in
theorem rstore_2 {g base : Nat} {K : Bk} {L : List (Int × Int)} {v : Value} {w : World} (h : RM g base K L v w) (hc : K.Can) (hbase : base ≤ w.heap.size) (hL : L.length ≤ 1000000000) (addr x : Int) (ha : 0 ≤ addr ∧ addr < 4294967296) (hx : 0 ≤ x ∧ x < 4294967296)
    (q : addr % (2 : Int) = 0) (hi : InB K.r K.rn addr 2) :
    Calls Try.prog 129 #[.pointer (some ⟨g, 0, none⟩), .int .u32 addr, .int .i64 2, .int .u32 x] w (WPost g base K (L ++ wrL addr x 2) v w (.int .i64 0)) := by
  have t1 : addr.tmod 2 = addr % 2 := Int.tmod_eq_emod_of_nonneg ha.1
  have q1 : (addr % (2 : Int) != 0) = false := by simpa using q
  have Hr := ram_calls h hc.ok addr 2 ha (by omega)
  have hak : addr + 2 ≤ 4294967296 := by have := hc.re; unfold InB at hi; omega
  rw [show decide (InB K.r K.rn addr 2) = true from decide_eq_true hi] at Hr
  replace Hr := Lib.hid Hr
  have H := Lib.hid h
  have Q := Lib.hid q
  obtain ⟨i0, hi0, hz0, hz1, hz2⟩ := info_parts infoB
  clear h q hi
  go_enter Try.func129, Try.ntmps129
  go_wp2_with (first
    | (go_at_call 77; (refine Hr.out.mono ?_); rintro e w' ⟨rfl, n1, rfl⟩))
  go_loopw [9, 3] (fun i y wr => ∃ (t : Nat), t ≤ 2 ∧ i = .int .i64 (t : Int) ∧ y = .int .u32 (x / 256 ^ t) ∧ WInv g base K L v w addr x 2 t wr) (fun i _ _ => 2 - (intOf i).toNat)
  case atStart => exact ⟨0, by omega, rfl, by simp, winv_start H.out (by (repeat' (first | (with_reducible first | exact Below.refl _ _ | refine blQ ?_ _ | refine Below.drew ?_ | refine blO ?_ (by assumption) | refine Below.alloc ?_ ?_ _ | refine Below.setCell ?_ ?_ _ | refine Below.frame ?_ _) | omega | (simp only [zA, zS, zD, zQ]; omega)))) addr x 2⟩
  case round =>
    obtain ⟨t, ht, rfl, rfl, hI⟩ := hrel
    have hy0 : 0 ≤ x / 256 ^ t := Int.ediv_nonneg hx.1 (Int.le_of_lt (Int.pow_pos (by omega)))
    have hy1 : x / 256 ^ t < 4294967296 := Int.lt_of_le_of_lt (Int.ediv_le_self _ hx.1) hx.2
    have hy2 : x / 256 ^ (t + 1) = x / 256 ^ t / 256 := by rw [Int.ediv_ediv_of_nonneg (Int.le_of_lt (Int.pow_pos (by omega))), Int.pow_succ]
    have HY := Lib.hid hy2
    clear hy2
    by_cases q : t < 2
    · obtain ⟨G, v', hM, hG, hB, hR⟩ := hI
      obtain ⟨⟨A, cap, rfl⟩, hl⟩ := hM.len
      have c4 : wr.cell? ⟨g, 4, none⟩ = some (.slice A G.length cap) := cell_of_heap hM.mem 4
      have f4 : wr.frozen? ⟨g, 4, none⟩ = false := frozen_of_heap hM.mem 4
      have hlg : (G.length : Int) ≤ 1000000004 := by
        have := congrArg List.length hG
        simp only [List.length_append, wrL_len] at this
        omega
      have hgs := lt_of_heap hM.mem
      have hbs := hB.size
      have hne := Lib.hid (rowL_own (hM.ne hM.mem (by decide)))
      have HM := Lib.hid hM
      have HG := Lib.hid hG
      have HR := Lib.hid hR
      have HB := Lib.hid hB
      clear hM hG hR hB hl
      have hy3 : 0 ≤ x / 256 ^ t % 256 := by omega
      have hy4 : x / 256 ^ t % 256 < 256 := by omega
      generalize hyy : x / 256 ^ t = y at *
      have HYY := Lib.hid hyy
      clear hyy
      go_wp2_with (first
        | (at_builtin; refine wpList_append_lies _ rfl _ _ 118 rfl base 141 i0 _ 2 8 Try.underlying118 hi0 hz0 hz1 hz2 rfl (by omega) (.slice A G.length cap) G.length (flat G) rfl (HM.out.row.alloc _) ⟨wr.heap.size, 0, none⟩ 1 1 [.int .u32 (addr + t), .int .u8 (y % 256)] rfl rfl (World.news_of_block (heap_at _ _ _ rfl)) (by simp [Value.oneCell']) (by omega) (by unfold maxLen; omega) (by omega) (by rw [World.size_alloc]; omega) _ rfl ?_; intro r cap1 w1 hown hgrow hat hlt; (have c5 : w1.cell? ⟨g, 4, none⟩ = some (.slice A G.length cap) := (hgrow.cell_far ⟨g, 4, none⟩ (by rw [World.size_alloc]; show g < _; omega) hne.out).trans (cell_of_heap (heap_past hgs HM.out.mem) 4)); (have f5 : w1.frozen? ⟨g, 4, none⟩ = false := (hgrow.frozen_far ⟨g, 4, none⟩ (by rw [World.size_alloc]; show g < _; omega) hne.out).trans (frozen_of_heap (heap_past hgs HM.out.mem) 4)); have HO := Lib.hid hown; have HW := Lib.hid hgrow; have HT := Lib.hid hat; clear hown hgrow hat))
      go_roundw
      case rel =>
        subst_vars
        refine ⟨t + 1, by omega, by go_num, by rw [HY.out], ?_⟩
        exact winv_step q HM.out HG.out HB.out HR.out (by rw [Int.emod_eq_of_lt (by omega) (by omega)]; exact HO.out) HW.out HT.out
      case measure => simp [intOf]; omega
    · go_wp2
      go_returns
      exact winv_end hI (by omega) (by simp)
set_option maxHeartbeats 8000000 in
set_option maxRecDepth 100000 in
theorem rstore_4 {g base : Nat} {K : Bk} {L : List (Int × Int)} {v : Value} {w : World} (h : RM g base K L v w) (hc : K.Can) (hbase : base ≤ w.heap.size) (hL : L.length ≤ 1000000000) (addr x : Int) (ha : 0 ≤ addr ∧ addr < 4294967296) (hx : 0 ≤ x ∧ x < 4294967296)
    (q : addr % (4 : Int) = 0) (hi : InB K.r K.rn addr 4) :
    Calls Try.prog 129 #[.pointer (some ⟨g, 0, none⟩), .int .u32 addr, .int .i64 4, .int .u32 x] w (WPost g base K (L ++ wrL addr x 4) v w (.int .i64 0)) := by
  have t1 : addr.tmod 4 = addr % 4 := Int.tmod_eq_emod_of_nonneg ha.1
  have q1 : (addr % (4 : Int) != 0) = false := by simpa using q
  have Hr := ram_calls h hc.ok addr 4 ha (by omega)
  have hak : addr + 4 ≤ 4294967296 := by have := hc.re; unfold InB at hi; omega
  rw [show decide (InB K.r K.rn addr 4) = true from decide_eq_true hi] at Hr
  replace Hr := Lib.hid Hr
  have H := Lib.hid h
  have Q := Lib.hid q
  obtain ⟨i0, hi0, hz0, hz1, hz2⟩ := info_parts infoB
  clear h q hi
  go_enter Try.func129, Try.ntmps129
  go_wp2_with (first
    | (go_at_call 77; (refine Hr.out.mono ?_); rintro e w' ⟨rfl, n1, rfl⟩))
  go_loopw [9, 3] (fun i y wr => ∃ (t : Nat), t ≤ 4 ∧ i = .int .i64 (t : Int) ∧ y = .int .u32 (x / 256 ^ t) ∧ WInv g base K L v w addr x 4 t wr) (fun i _ _ => 4 - (intOf i).toNat)
  case atStart => exact ⟨0, by omega, rfl, by simp, winv_start H.out (by (repeat' (first | (with_reducible first | exact Below.refl _ _ | refine blQ ?_ _ | refine Below.drew ?_ | refine blO ?_ (by assumption) | refine Below.alloc ?_ ?_ _ | refine Below.setCell ?_ ?_ _ | refine Below.frame ?_ _) | omega | (simp only [zA, zS, zD, zQ]; omega)))) addr x 4⟩
  case round =>
    obtain ⟨t, ht, rfl, rfl, hI⟩ := hrel
    have hy0 : 0 ≤ x / 256 ^ t := Int.ediv_nonneg hx.1 (Int.le_of_lt (Int.pow_pos (by omega)))
    have hy1 : x / 256 ^ t < 4294967296 := Int.lt_of_le_of_lt (Int.ediv_le_self _ hx.1) hx.2
    have hy2 : x / 256 ^ (t + 1) = x / 256 ^ t / 256 := by rw [Int.ediv_ediv_of_nonneg (Int.le_of_lt (Int.pow_pos (by omega))), Int.pow_succ]
    have HY := Lib.hid hy2
    clear hy2
    by_cases q : t < 4
    · obtain ⟨G, v', hM, hG, hB, hR⟩ := hI
      obtain ⟨⟨A, cap, rfl⟩, hl⟩ := hM.len
      have c4 : wr.cell? ⟨g, 4, none⟩ = some (.slice A G.length cap) := cell_of_heap hM.mem 4
      have f4 : wr.frozen? ⟨g, 4, none⟩ = false := frozen_of_heap hM.mem 4
      have hlg : (G.length : Int) ≤ 1000000004 := by
        have := congrArg List.length hG
        simp only [List.length_append, wrL_len] at this
        omega
      have hgs := lt_of_heap hM.mem
      have hbs := hB.size
      have hne := Lib.hid (rowL_own (hM.ne hM.mem (by decide)))
      have HM := Lib.hid hM
      have HG := Lib.hid hG
      have HR := Lib.hid hR
      have HB := Lib.hid hB
      clear hM hG hR hB hl
      have hy3 : 0 ≤ x / 256 ^ t % 256 := by omega
      have hy4 : x / 256 ^ t % 256 < 256 := by omega
      generalize hyy : x / 256 ^ t = y at *
      have HYY := Lib.hid hyy
      clear hyy
      go_wp2_with (first
        | (at_builtin; refine wpList_append_lies _ rfl _ _ 118 rfl base 141 i0 _ 2 8 Try.underlying118 hi0 hz0 hz1 hz2 rfl (by omega) (.slice A G.length cap) G.length (flat G) rfl (HM.out.row.alloc _) ⟨wr.heap.size, 0, none⟩ 1 1 [.int .u32 (addr + t), .int .u8 (y % 256)] rfl rfl (World.news_of_block (heap_at _ _ _ rfl)) (by simp [Value.oneCell']) (by omega) (by unfold maxLen; omega) (by omega) (by rw [World.size_alloc]; omega) _ rfl ?_; intro r cap1 w1 hown hgrow hat hlt; (have c5 : w1.cell? ⟨g, 4, none⟩ = some (.slice A G.length cap) := (hgrow.cell_far ⟨g, 4, none⟩ (by rw [World.size_alloc]; show g < _; omega) hne.out).trans (cell_of_heap (heap_past hgs HM.out.mem) 4)); (have f5 : w1.frozen? ⟨g, 4, none⟩ = false := (hgrow.frozen_far ⟨g, 4, none⟩ (by rw [World.size_alloc]; show g < _; omega) hne.out).trans (frozen_of_heap (heap_past hgs HM.out.mem) 4)); have HO := Lib.hid hown; have HW := Lib.hid hgrow; have HT := Lib.hid hat; clear hown hgrow hat))
      go_roundw
      case rel =>
        subst_vars
        refine ⟨t + 1, by omega, by go_num, by rw [HY.out], ?_⟩
        exact winv_step q HM.out HG.out HB.out HR.out (by rw [Int.emod_eq_of_lt (by omega) (by omega)]; exact HO.out) HW.out HT.out
      case measure => simp [intOf]; omega
    · go_wp2
      go_returns
      exact winv_end hI (by omega) (by simp)
/-- What a store tells, and what was written. -/
def rstoreS (K : Bk) (addr x : Int) (k : Nat) : Int × List (Int × Int) := if addr % k = 0 then (if InB K.r K.rn addr k then (0, wrL addr x k) else (4, [])) else (1, [])
theorem rel_put {K : Bk} {F M : List Int} {L : List (Int × Int)} (hc : K.Can) (hl : M.length = K.rn) (h : Rel K F M L) (d : Nat) (hd : d < K.rn) (b : Int) : Rel K F (M.set d b) (L ++ [(K.r + d, b)]) := by
  refine ⟨fun e he => ?_, fun e he => ?_⟩
  · rw [atL_snoc, if_neg, h.flash e he]
    have := hc.apart
    show ¬ (K.r + (d : Int) = K.f + e)
    omega
  · rw [atL_snoc]
    by_cases q : d = e
    · subst q
      rw [if_pos rfl, List.getD_eq_getElem?_getD, List.getElem?_set_self (by omega)]; rfl
    · rw [if_neg (by show ¬ (K.r + (d : Int) = K.r + e); omega), h.ram e he, List.getD_eq_getElem?_getD, List.getD_eq_getElem?_getD, List.getElem?_set_ne q]
theorem rel_write {K : Bk} {F : List Int} (hc : K.Can) : ∀ (k : Nat) (M : List Int) (L : List (Int × Int)) (d : Nat) (x : Int), M.length = K.rn → Rel K F M L → d + k ≤ K.rn → Rel K F (putB M d x k) (L ++ wrL (K.r + d) x k)
  | 0, _, _, _, _, _, h, _ => by simpa [putB, wrL] using h
  | k + 1, M, L, d, x, hl, h, hd => by
    have hre := hc.re
    have hok := hc.ok
    unfold Bk.Ok at hok
    have h1 := rel_put hc hl h d (by omega) (x % 256)
    have h2 := rel_write hc k (M.set d (x % 256)) (L ++ [(K.r + d, x % 256)]) (d + 1) (x / 256) (by rw [List.length_set]; exact hl) h1 (by omega)
    rw [putB, wrL, show (K.r + (d : Int)) % 4294967296 = K.r + d from Int.emod_eq_of_lt (by omega) (by omega)]
    rw [List.append_assoc, List.singleton_append, show K.r + ((d + 1 : Nat) : Int) = K.r + d + 1 by omega] at h2
    exact h2
theorem rel_store {K : Bk} {F M : List Int} {L : List (Int × Int)} (hc : K.Can) (hl : M.length = K.rn) (h : Rel K F M L) (addr x : Int) (k : Nat) :
    (storeS K M addr x k).1 = (rstoreS K addr x k).1 ∧ Rel K F (storeS K M addr x k).2 (L ++ (rstoreS K addr x k).2) := by
  unfold storeS rstoreS
  split
  · split
    · rename_i q
      unfold InB at q
      refine ⟨rfl, ?_⟩
      have := rel_write (F := F) hc k M L (addr - K.r).toNat x hl h (by omega)
      rw [show K.r + ((addr - K.r).toNat : Int) = addr by omega] at this
      exact this
    · exact ⟨rfl, by simpa using h⟩
  · exact ⟨rfl, by simpa using h⟩
theorem rstoreS_len (K : Bk) (addr x : Int) (k : Nat) : (rstoreS K addr x k).2.length ≤ k := by
  unfold rstoreS
  split
  · split
    · rw [wrL_len]; exact Nat.le_refl _
    · simp
  · simp
set_option maxHeartbeats 8000000 in
set_option maxRecDepth 100000 in
theorem rstore_calls {g base : Nat} {K : Bk} {L : List (Int × Int)} {v : Value} {w : World} (h : RM g base K L v w) (hc : K.Can) (hbase : base ≤ w.heap.size) (hL : L.length ≤ 1000000000) (addr x : Int) (ha : 0 ≤ addr ∧ addr < 4294967296) (hx : 0 ≤ x ∧ x < 4294967296) (k : Nat) (hk : k = 1 ∨ k = 2 ∨ k = 4) :
    Calls Try.prog 129 #[.pointer (some ⟨g, 0, none⟩), .int .u32 addr, .int .i64 (k : Int), .int .u32 x] w (WPost g base K (L ++ (rstoreS K addr x k).2) v w (.int .i64 (rstoreS K addr x k).1)) := by
  unfold rstoreS
  by_cases q : addr % (k : Int) = 0
  · simp only [if_pos q]
    by_cases qi : InB K.r K.rn addr k
    · simp only [if_pos qi]
      rcases hk with rfl | rfl | rfl
      · exact rstore_1 h hc hbase hL addr x ha hx q qi
      · exact rstore_2 h hc hbase hL addr x ha hx q qi
      · exact rstore_4 h hc hbase hL addr x ha hx q qi
    · simp only [if_neg qi, List.append_nil]
      have t1 : addr.tmod (k : Int) = addr % (k : Int) := Int.tmod_eq_emod_of_nonneg ha.1
      have q1 : (addr % (k : Int) != 0) = false := by simpa using q
      have Hr := ram_calls h hc.ok addr k ha (by omega)
      rw [show decide (InB K.r K.rn addr k) = false from decide_eq_false qi] at Hr
      replace Hr := Lib.hid Hr
      have H := Lib.hid h
      clear h q qi
      rcases hk with rfl | rfl | rfl
      all_goals
        go_enter Try.func129, Try.ntmps129
        go_wp2_with (first
          | (go_at_call 77; (refine Hr.out.mono ?_); rintro e w' ⟨rfl, n1, rfl⟩))
        go_returns
        exact wpost_same (by simp) H.out (by (repeat' (first | (with_reducible first | exact Below.refl _ _ | refine blQ ?_ _ | refine Below.drew ?_ | refine blO ?_ (by assumption) | refine Below.alloc ?_ ?_ _ | refine Below.setCell ?_ ?_ _ | refine Below.frame ?_ _) | omega | (simp only [zA, zS, zD, zQ]; omega))))
  · simp only [if_neg q, List.append_nil]
    have t1 : addr.tmod (k : Int) = addr % (k : Int) := Int.tmod_eq_emod_of_nonneg ha.1
    have q1 : (addr % (k : Int) != 0) = true := by simpa using q
    have H := Lib.hid h
    clear h
    rcases hk with rfl | rfl | rfl
    · exact absurd (by omega) q
    all_goals
      clear q
      go_enter Try.func129, Try.ntmps129
      go_wp2_with fail
      go_returns
      exact wpost_same (by simp) H.out (by (repeat' (first | (with_reducible first | exact Below.refl _ _ | refine blQ ?_ _ | refine Below.drew ?_ | refine blO ?_ (by assumption) | refine Below.alloc ?_ ?_ _ | refine Below.setCell ?_ ?_ _ | refine Below.frame ?_ _) | omega | (simp only [zA, zS, zD, zQ]; omega))))
end Go.Proofs.Ytioopcilcgebeaa.CpuA
/-! #### RxA -/
namespace Go.Proofs.Ytioopcilcgebeaa.CpuA
open Go.RowKit Go.Proofs.Ytioopcilcgebeaa.Base Go.Proofs.Ytioopcilcgebeaa.AluP Go.Proofs.YtioopcilcgebeaaW.PrintWords

def IsX (b : Nat) (m : Addr) (pc : Int) (R : List Int) (w : World) : Prop := w.heap[b]? = some (.cells (mcells m pc R) 89 (0, 0)) ∧ R.length = 32
theorem ralu_calls (op a b : Int) (hop : 1 ≤ op ∧ op ≤ 18) (h0 : 0 ≤ a ∧ a < 4294967296) (k0 : 0 ≤ b ∧ b < 4294967296) (w : World) :
    Calls Try.prog 96 #[.int .i64 op, .int .u32 a, .int .u32 b] w fun e w' => e = .returned (.int .u32 (aluS op a b)) ∧ ∃ n, w' = w.drewN n := by
  refine (PCpu.pintleref06_alu.calls 33 op a b _ w ?_).mono fun e w' h => ⟨h.1, h.2.out⟩
  unfold PCpu.pintleref06_alu.f
  rw [show (33 : Nat) = 33 + 0 from rfl, refAlu_eq 0 op a b hop h0.1 h0.2 k0.1 k0.2]
  rfl
theorem rtaken_calls (op a b : Int) (hop : 36 ≤ op ∧ op ≤ 41) (h0 : 0 ≤ a ∧ a < 4294967296) (k0 : 0 ≤ b ∧ b < 4294967296) (w : World) :
    Calls Try.prog 98 #[.int .i64 op, .int .u32 a, .int .u32 b] w fun e w' => e = .returned (.bool (takesS op a b)) ∧ ∃ n, w' = w.drewN n := by
  refine (PCpu.pintleref06_taken.calls 1 op a b _ w ?_).mono fun e w' h => ⟨h.1, h.2.out⟩
  have j : ∀ x y z, PCpu.pintleref06_taken.j0 1 x y z = if x = 36 then (some (y == z)) else (if x = 37 then (some (y != z)) else (if x = 38 then (some (decide (y < z))) else (if x = 40 then (some (decide (y < z))) else (some (decide (y ≥ z)))))) := fun _ _ _ => rfl
  unfold PCpu.pintleref06_taken.f takesS
  rw [signed_eq a h0.1 h0.2, signed_eq b k0.1 k0.2, w64 a (by omega) (by omega), w64 b (by omega) (by omega)]
  simp only [Option.bind_some, j]
  have e1 : ∀ x y : Int, (x == y) = decide (x = y) := fun x y => by by_cases h : x = y <;> simp [h]
  have s1 : sg a = sg b ↔ a = b := by unfold sg; split <;> split <;> omega
  have : op = 36 ∨ op = 37 ∨ op = 38 ∨ op = 39 ∨ op = 40 ∨ op = 41 := by omega
  rcases this with rfl | rfl | rfl | rfl | rfl | rfl
  · simp [e1, s1]
  · simp [bne, e1, s1]
  · simp
  · simp
  · simp
  · simp
set_option maxHeartbeats 4000000 in
set_option maxRecDepth 100000 in
theorem rsext_calls (op w : Int) (h0 : 0 ≤ w) (h : w < 4294967296) (ho : op = 28 ∨ op = 29) (W : World) :
    Calls Try.prog 130 #[.int .u32 w, .int .i64 (8 * (szS op : Int))] W fun e w' => e = .returned (.int .u32 (sextS op w)) ∧ ∃ n, w' = W.drewN n := by
  rcases ho with rfl | rfl
  · show Calls _ _ #[.int .u32 w, .int .i64 8] _ _
    go_enter Try.func130, Try.ntmps130
    go_wp2
    all_goals
      go_returns
      refine ⟨?_, 0, rfl⟩
      simp [sextS]
      try (have e := word_eq (w % 256 - 256); unfold PCpu.pintleref01_Word.f at e; injection e with e; rw [e, if_pos (by assumption)])
      try omega
  · show Calls _ _ #[.int .u32 w, .int .i64 16] _ _
    go_enter Try.func130, Try.ntmps130
    go_wp2
    all_goals
      go_returns
      refine ⟨?_, 0, rfl⟩
      simp [sextS]
      try (have e := word_eq (w % 65536 - 65536); unfold PCpu.pintleref01_Word.f at e; injection e with e; rw [e, if_pos (by assumption)])
      try omega
set_option maxHeartbeats 4000000 in
set_option maxRecDepth 100000 in
theorem rset_calls {b : Nat} {m : Addr} {pc : Int} {R : List Int} {w : World} (h : IsX b m pc R w) (n v p : Int) (hn : 0 ≤ n ∧ n < 32) : Calls Try.prog 95 #[.pointer (some ⟨b, 0, none⟩), .int .i64 n, .int .u32 v, .int .u32 p] w fun e w' => e = .returned (.int .i64 0) ∧ IsX b m p (setR R n v) w' ∧ But [b] w w' := by
  have c1 := cell_of_heap h.1 1
  rw [mcells_pc] at c1
  have f1 := frozen_of_heap h.1 1
  by_cases h1 : 0 < n
  · have c := cell_of_heap h.1 (2 + n.toNat)
    rw [mcells_reg _ _ _ _ (by rw [h.2]; omega)] at c
    have f := frozen_of_heap h.1 (2 + n.toNat)
    have d1 : decide (0 < n) = true := decide_eq_true (by omega)
    have d2 : decide (32 ≤ n) = false := decide_eq_false (by omega)
    have d3 : decide (n < 0) = false := decide_eq_false (by omega)
    have hs : setR R n v = R.set n.toNat v := if_pos ⟨h1, hn.2⟩
    rw [hs]
    have H := Lib.hid h
    generalize R.getD n.toNat 0 = r at *
    clear h hs
    go_enter Try.func95, Try.ntmps95
    go_wp2_with fail
    go_returns
    refine ⟨by simp, ⟨?_, by rw [List.length_set]; exact H.out.2⟩, ((But.refl _ _).set _ _ (.inl (by simp))).set _ _ (.inl (by simp))⟩
    rw [← mcells_setpc m pc, ← mcells_setreg]
    exact heap_set (heap_set H.out.1)
  · have d1 : decide (0 < n) = false := decide_eq_false (by omega)
    rw [show setR R n v = R from if_neg (fun q => h1 q.1)]
    have H := Lib.hid h
    clear h
    go_enter Try.func95, Try.ntmps95
    go_wp2_with fail
    go_returns
    refine ⟨by simp, ⟨?_, H.out.2⟩, (But.refl _ _).set _ _ (.inl (by simp))⟩
    rw [← mcells_setpc m pc]
    exact heap_set H.out.1
set_option maxHeartbeats 4000000 in
set_option maxRecDepth 100000 in
theorem rjump_yes {b : Nat} {m : Addr} {pc : Int} {R : List Int} {w : World} (h : IsX b m pc R w) (dst n : Int) (hn : 0 ≤ n ∧ n < 32) (h0 : 0 ≤ dst) (h4 : dst % 4 = 0) : Calls Try.prog 99 #[.pointer (some ⟨b, 0, none⟩), .int .u32 dst, .int .i64 n] w fun e w' => e = .returned (.int .i64 0) ∧ IsX b m dst (setR R n ((pc + 4) % 4294967296)) w' ∧ But [b] w w' := by
  have t1 : dst.tmod 4 = dst % 4 := Int.tmod_eq_emod_of_nonneg h0
  have q1 : (dst % 4 != 0) = false := by simpa using h4
  have c1 := cell_of_heap h.1 1
  rw [mcells_pc] at c1
  have H := Lib.hid (rset_calls h n ((pc + 4) % 4294967296) dst hn)
  clear h h4
  go_enter Try.func99, Try.ntmps99
  go_wp2_with (first
    | (go_at_call 95; (refine H.out.mono ?_); rintro e w' ⟨rfl, hM, hB⟩))
  go_returns
  exact ⟨by simp, hM, hB⟩
set_option maxHeartbeats 4000000 in
set_option maxRecDepth 100000 in
theorem rjump_no {b : Nat} (dst n : Int) (h0 : 0 ≤ dst) (h4 : ¬ dst % 4 = 0) (w : World) : Calls Try.prog 99 #[.pointer (some ⟨b, 0, none⟩), .int .u32 dst, .int .i64 n] w fun e w' => e = .returned (.int .i64 1) ∧ w' = w := by
  have t1 : dst.tmod 4 = dst % 4 := Int.tmod_eq_emod_of_nonneg h0
  have q1 : (dst % 4 != 0) = true := by simpa using h4
  clear h4
  go_enter Try.func99, Try.ntmps99
  go_wp2_with fail
  go_returns
  exact ⟨by simp, rfl⟩
end Go.Proofs.Ytioopcilcgebeaa.CpuA
/-! #### RxB -/
namespace Go.Proofs.Ytioopcilcgebeaa.CpuA
open Go.RowKit Go.Proofs.Ytioopcilcgebeaa.Base Go.Proofs.Ytioopcilcgebeaa.AluP Go.Proofs.Ytioopcilcgebeaa.InstS Go.Proofs.YtioopcilcgebeaaW.PrintWords

/-- The reference's machine over its memory. -/
structure RBox (xb g base : Nat) (K : Bk) (F : List Int) (s : St) (L : List (Int × Int)) (v : Value) (w : World) : Prop where
  m : IsX xb ⟨g, 0, none⟩ s.pc s.R w
  mem : RM g base K L v w
  rel : Rel K F s.M L
  ok : StOk K s
  fl : F.length = K.fn
  fb : ∀ c ∈ F, 0 ≤ c ∧ c < 256
  can : K.Can
  base_ : base ≤ w.heap.size
theorem blk_ne {w : World} {a b : Nat} {c d : Array Value} {t u : TypeId} {fr fs : Nat × Nat} (h : w.heap[a]? = some (.cells c t fr)) (k : w.heap[b]? = some (.cells d u fs)) (hn : t ≠ u) : a ≠ b := by
  rintro rfl
  rw [h] at k
  injection k with k
  injection k with _ k _
  exact hn k
theorem RBox.xg {xb g base : Nat} {K : Bk} {F : List Int} {s : St} {L : List (Int × Int)} {v : Value} {w : World} (h : RBox xb g base K F s L v w) : xb ≠ g := blk_ne h.m.1 h.mem.mem (by decide)
theorem RBox.xr {xb g base : Nat} {K : Bk} {F : List Int} {s : St} {L : List (Int × Int)} {v : Value} {w : World} (h : RBox xb g base K F s L v w) : xb ∉ rowL v := h.mem.ne h.m.1 (by decide)
theorem RBox.gr {xb g base : Nat} {K : Bk} {F : List Int} {s : St} {L : List (Int × Int)} {v : Value} {w : World} (h : RBox xb g base K F s L v w) : g ∉ rowL v := h.mem.ne h.mem.mem (by decide)
theorem RBox.but {xb g base : Nat} {K : Bk} {F : List Int} {s : St} {L : List (Int × Int)} {v : Value} {l : List Nat} {w w' : World} (h : RBox xb g base K F s L v w) (hb : But l w w') (h0 : xb ∉ l) (h1 : g ∉ l) (h2 : ∀ k ∈ rowL v, k ∉ l) : RBox xb g base K F s L v w' :=
  ⟨⟨hb.heap h0 h.m.1, h.m.2⟩, h.mem.but hb h1 h2, h.rel, h.ok, h.fl, h.fb, h.can, Nat.le_trans h.base_ hb.size⟩
theorem RBox.below {xb g base : Nat} {K : Bk} {F : List Int} {s : St} {L : List (Int × Int)} {v : Value} {w w' : World} (h : RBox xb g base K F s L v w) (hb : Below w.heap.size w w') : RBox xb g base K F s L v w' := h.but (l := []) (But.of_below hb) (by simp) (by simp) (by simp)
/-- What a step of the reference's machine keeps. -/
def RKeep (xb g base : Nat) (K : Bk) (F : List Int) (s' : St) (L : List (Int × Int)) (v : Value) (w w' : World) : Prop :=
  ∃ L' v', RBox xb g base K F s' L' v' w' ∧ L'.length ≤ L.length + 4 ∧ But (xb :: g :: rowL v) w w' ∧ ∀ r ∈ rowL v', r ∈ rowL v ∨ w.heap.size ≤ r
theorem rkeep_same {xb g base : Nat} {K : Bk} {F : List Int} {s : St} {L : List (Int × Int)} {v : Value} {w w' : World} (h : RBox xb g base K F s L v w) (hb : Below w.heap.size w w') : RKeep xb g base K F s L v w w' :=
  ⟨L, v, h.below hb, by omega, But.of_below hb, fun _ hr => .inl hr⟩
theorem rkeep_put {xb g base : Nat} {K : Bk} {F : List Int} {s s' : St} {L : List (Int × Int)} {v : Value} {w X w' : World} (h : RBox xb g base K F s L v w) (hX : Below w.heap.size w X) (hB : But [xb] X w') (hm : IsX xb ⟨g, 0, none⟩ s'.pc s'.R w') (ok : StOk K s') (hs : s'.M = s.M) : RKeep xb g base K F s' L v w w' := by
  have h1 := h.below hX
  refine ⟨L, v, ⟨hm, h1.mem.but hB (by simpa using Ne.symm h.xg) (fun k hk => by rintro hx; rw [List.mem_singleton] at hx; subst hx; exact h.xr hk), by rw [hs]; exact h.rel, ok, h.fl, h.fb, h.can, Nat.le_trans h1.base_ hB.size⟩, by omega, (But.of_below hX).trans (hB.mono (by simp)), fun _ hr => .inl hr⟩
theorem But.lose {l m : List Nat} {a b : World} (h : But l a b) (hs : ∀ k ∈ l, k ∈ m ∨ a.heap.size ≤ k) : But m a b :=
  ⟨h.os, h.tape, h.output, h.size, fun n hn hm => h.block n hn (fun hl => (hs n hl).elim hm (fun hk => absurd hn (Nat.not_lt.2 hk)))⟩
theorem rkeep_fresh {xb g base : Nat} {K : Bk} {F : List Int} {s' : St} {L : List (Int × Int)} {v : Value} {w X w' : World} {k0 : Nat} (h : RKeep xb g base K F s' L v w X) (hx : xb < w.heap.size) (hg : g < w.heap.size) (hk : w.heap.size ≤ k0) (hn : ∀ c t fr, X.heap[k0]? = some (.cells c t fr) → t ≠ 141) (hc : ∃ c t fr, X.heap[k0]? = some (.cells c t fr)) (hB : But [k0] X w') : RKeep xb g base K F s' L v w w' := by
  obtain ⟨L', v', hb, hl, hw, hr⟩ := h
  obtain ⟨c, t, fr, hc⟩ := hc
  have hk0 : k0 ∉ rowL v' := hb.mem.ne hc (hn c t fr hc)
  refine ⟨L', v', hb.but hB (by simp; omega) (by simp; omega) (fun k hkk => by rintro hx; rw [List.mem_singleton] at hx; subst hx; exact hk0 hkk), hl, ?_, hr⟩
  exact ((hw.mono (m := k0 :: xb :: g :: rowL v) (fun k hk => List.mem_cons_of_mem _ hk)).trans (hB.mono (by simp))).lose (by
    intro k hk
    rcases List.mem_cons.1 hk with rfl | hk
    · exact .inr (by assumption)
    · exact .inl hk)
theorem cq {W : World} {b i : Nat} {c : Array Value} {t : TypeId} {fr : Nat × Nat} {x : Value} (h : W.heap[b]? = some (.cells c t fr)) (hc : c[i]? = some x) : W.cell? ⟨b, i, none⟩ = some x := (cell_of_heap h i).trans hc
theorem but_block {G : Prop} {l : List Nat} {W w' : World} {n : Nat} {c : Array Value} {t : TypeId} (hB : But l W w') (hl : n ∉ l) (h : W.heap[n]? = some (.cells c t (0, 0)))
    (k : (∀ i, w'.cell? ⟨n, i, none⟩ = c[i]?) → (∀ i, w'.frozen? ⟨n, i, none⟩ = false) → w'.heap[n]? = some (.cells c t (0, 0)) → n < w'.heap.size → G) : G :=
  k (cell_of_heap (hB.heap hl h)) (frozen_of_heap (hB.heap hl h)) (hB.heap hl h) (lt_of_heap (hB.heap hl h))
def evdid (d : Did) : Value := .agg #[.int .u32 0, .int .u32 0, .int .i64 d.kind, .int .u32 d.addr, .int .i64 d.size]
def RDPost (xb g base : Nat) (K : Bk) (F : List Int) (r : Did × Int × St) (L : List (Int × Int)) (v : Value) (w : World) (e : Ending) (w' : World) : Prop :=
  e = .returned (.tuple #[evdid r.1, .int .i64 r.2.1]) ∧ RKeep xb g base K F r.2.2 L v w w'
theorem rload_box {xb g base : Nat} {K : Bk} {F : List Int} {s : St} {L : List (Int × Int)} {v : Value} {w : World} (h : RBox xb g base K F s L v w) (addr : Int) (ha : 0 ≤ addr ∧ addr < 4294967296) (k : Nat) (hk : k = 1 ∨ k = 2 ∨ k = 4) :
    Calls Try.prog 44 #[.pointer (some ⟨g, 0, none⟩), .int .u32 addr, .int .i64 (k : Int)] w fun e w' => e = .returned (.tuple #[.int .u32 (loadS K F s.M addr k).1, .int .i64 (loadS K F s.M addr k).2]) ∧ ∃ n, w' = w.drewN n := by
  rw [loadS_rel h.can h.fl h.ok.ml h.rel addr k]
  exact rload_calls h.mem h.can.ok addr ha k hk
theorem rfetch_box {xb g base : Nat} {K : Bk} {F : List Int} {s : St} {L : List (Int × Int)} {v : Value} {w : World} (h : RBox xb g base K F s L v w) :
    Calls Try.prog 61 #[.pointer (some ⟨g, 0, none⟩), .int .u32 s.pc] w fun e w' => e = .returned (.tuple #[.int .u32 (fetchS K F s.M s.pc).1, .int .i64 (fetchS K F s.M s.pc).2]) ∧ ∃ n, w' = w.drewN n := by
  rw [fetchS_rel h.can h.fl h.ok.ml h.rel s.pc]
  exact rfetch_calls h.mem h.can.ok s.pc ⟨h.ok.pc0, h.ok.pc1⟩
/-- An operation of a region that draws its order, taken first. -/
theorem tk {P : Program} {md : Region.Mode} {ops : Array Oper} {Q : Exit → Act → World → Prop} {S : World → Prop} (i : Nat) {oi : Oper} {v : Value} {fuel : Nat} {listed : Array Bool} {a : Act} {w : World} (hi : ops[i]? = some oi)
    (hk : (Region.noSelect ops && (Region.free md ops listed i && (Region.ready md ops listed).contains i)) = true) (hQ : ∀ c a w, Q (.panic c) (a.put oi.dst v) w → Q (.panic c) a w) (hy : YieldsIf P ops S oi v a) (hS : S w)
    (h : wpAnyH P md ops Q S fuel (listed.setIfInBounds i true) (a.put oi.dst v) w) : wpAnyH P md ops Q S (fuel + 1) listed a w := by
  simp only [Bool.and_eq_true] at hk
  exact wpAnyH_take hi hk.1 hk.2.1 hk.2.2 hQ hy hS h
theorem gz {α : Type} {xs : List α} {i : Nat} (h : i < xs.toArray.size) : xs.toArray[i] = xs[i]'(by simpa using h) := List.getElem_toArray h
/-- A load, at a told address. -/
def loadsA (K : Bk) (F : List Int) (op rd at_ : Int) (s : St) : Did × Int × St :=
  if (loadS K F s.M at_ (szS op)).2 = 0 then (⟨1, at_, szS op⟩, 0, s.put rd (sextS op (loadS K F s.M at_ (szS op)).1)) else (no, (loadS K F s.M at_ (szS op)).2, s)
def storesA (K : Bk) (op rs2 at_ : Int) (s : St) : Did × Int × St :=
  if (storeS K s.M at_ (s.reg rs2) (szS op)).1 = 0 then (⟨2, at_, szS op⟩, 0, St.put ⟨s.pc, s.R, (storeS K s.M at_ (s.reg rs2) (szS op)).2⟩ 0 0) else (no, (storeS K s.M at_ (s.reg rs2) (szS op)).1, s)
theorem loadsT_A (K : Bk) (F : List Int) (i : Ins) (s : St) : loadsT K F i s = loadsA K F i.op i.rd ((s.reg i.rs1 + i.imm) % 4294967296) s := rfl
theorem storesT_A (K : Bk) (i : Ins) (s : St) : storesT K i s = storesA K i.op i.rs2 ((s.reg i.rs1 + i.imm) % 4294967296) s := rfl
end Go.Proofs.Ytioopcilcgebeaa.CpuA
