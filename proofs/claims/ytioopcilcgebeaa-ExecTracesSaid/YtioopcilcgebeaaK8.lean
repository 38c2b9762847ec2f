/- Proofs of this claim's family, merged: LawC, LawD, LawF. -/
import Derived.Test.YtioopcilcgebeaaK7
import Derived.WalkSpells
set_option linter.unusedVariables false
set_option linter.unusedSimpArgs false
/-! #### LawC -/
namespace Go.Proofs.Ytioopcilcgebeaa.CpuA
open Go.RowKit Go.Proofs.Ytioopcilcgebeaa.Base Go.Proofs.Ytioopcilcgebeaa.InstS Go.Proofs.Ytioopcilcgebeaa.InstA Go.Proofs.YtioopcilcgebeaaW.PrintWords

/-- The program's machine and the reference's, in one state. -/
structure Two (b mb : Nat) (K : Bk) (F : List Int) (xb g base : Nat) (s : St) (L : List (Int × Int)) (v : Value) (w : World) : Prop where
  c : Box b mb K F s w
  x : RBox xb g base K F s L v w
theorem box_rkeep {b mb : Nat} {K : Bk} {F : List Int} {s : St} {xb g base : Nat} {s' : St} {L : List (Int × Int)} {v : Value} {w w' : World} (h : Box b mb K F s w) (hx : RBox xb g base K F s' L v w) (hb : But (xb :: g :: rowL v) w w') : Box b mb K F s w' := by
  have n : ∀ k c t fr, w.heap[k]? = some (.cells c t fr) → t ≠ 89 → t ≠ 120 → t ≠ 141 → k ∉ xb :: g :: rowL v := by
    intro k c t fr hk h1 h2 h3 hm
    rcases List.mem_cons.1 hm with rfl | hm
    · exact blk_ne hk hx.m.1 h1 rfl
    · rcases List.mem_cons.1 hm with rfl | hm
      · exact blk_ne hk hx.mem.mem h2 rfl
      · exact hx.mem.ne hk h3 hm
  exact h.but hb (n _ _ _ _ h.m.1 (by decide) (by decide) (by decide)) (n _ _ _ _ h.mem.mem (by decide) (by decide) (by decide)) (n _ _ _ _ h.mem.flash (by decide) (by decide) (by decide)) (n _ _ _ _ h.mem.ram (by decide) (by decide) (by decide))
theorem rbox_step {b mb : Nat} {K : Bk} {F : List Int} {s s' : St} {xb g base : Nat} {L : List (Int × Int)} {v : Value} {w w' : World} (h : Box b mb K F s w) (hx : RBox xb g base K F s' L v w) (hb : But [b, K.rb] w w') : RBox xb g base K F s' L v w' := by
  refine hx.but hb ?_ ?_ ?_
  · simp only [List.mem_cons, List.not_mem_nil, or_false, not_or]
    exact ⟨blk_ne hx.m.1 h.m.1 (by decide), blk_ne hx.m.1 h.mem.ram (by decide)⟩
  · simp only [List.mem_cons, List.not_mem_nil, or_false, not_or]
    exact ⟨blk_ne hx.mem.mem h.m.1 (by decide), blk_ne hx.mem.mem h.mem.ram (by decide)⟩
  · intro k hk hm
    simp only [List.mem_cons, List.not_mem_nil, or_false] at hm
    rcases hm with rfl | rfl
    · exact hx.mem.ne h.m.1 (by decide) hk
    · exact hx.mem.ne h.mem.ram (by decide) hk
/-- Old blocks stay as they were, but for those that the two machines have. -/
theorem Two.below {b mb : Nat} {K : Bk} {F : List Int} {xb g base : Nat} {s : St} {L : List (Int × Int)} {v : Value} {w w' : World} (h : Two b mb K F xb g base s L v w) (hb : Below w.heap.size w w') : Two b mb K F xb g base s L v w' := ⟨h.c.below hb, h.x.below hb⟩
/-! A step of nobody. -/
set_option maxHeartbeats 4000000 in
set_option maxRecDepth 100000 in
theorem step_nil (w : World) : Calls Try.prog 20 #[.pointer none] w fun e w' => e = .returned (.tuple #[.agg #[.int .u32 0, .int .u32 0, .int .i64 0, .int .u32 0, .int .i64 0], .int .i64 2]) ∧ Below w.heap.size w w' := by
  go_enter Try.func20, Try.ntmps20
  go_wp2
  refine post_res (B := fun w' => Below w.heap.size w w') (by (exact blZ)) rfl ?_
  apply res_at (n := w.heap.size)
  (focus (exact hpZ))
  intro W' cw
  simp at cw
  simp [results, Try.results20, go_sem, cw]
end Go.Proofs.Ytioopcilcgebeaa.CpuA
/-! #### LawD -/
namespace Go.Proofs.Ytioopcilcgebeaa.CpuA
open Go.RowKit Go.Proofs.Ytioopcilcgebeaa.Base Go.Proofs.Ytioopcilcgebeaa.InstS Go.Proofs.Ytioopcilcgebeaa.InstA Go.Proofs.YtioopcilcgebeaaW.PrintWords

set_option maxRecDepth 100000 in
theorem live_step (fb rb : Nat) : stepT (mapK fb rb) (fl [5243027]) (s0 []) = (⟨4096, 5243027, no⟩, 0, ⟨4100, (rR [] 0).set 1 5, List.replicate 128 0⟩) := by kernel_rfl
set_option maxHeartbeats 8000000 in
set_option maxRecDepth 100000 in
theorem lives_calls (w : World) : Calls Try.prog 23 #[] w fun e w' => e = .returned (.bool true) ∧ Below w.heap.size w w' := by
  have Hb := Lib.hid (fun (W : World) (hc : W.cell? ⟨w.heap.size, 0, none⟩ = some (.int .u32 5243027)) (hl : w.heap.size < W.heap.size) => (show Calls Try.prog 25 #[.slice (some ⟨w.heap.size, 0, none⟩) 1 1, .slice none 0 0] W (Began [5243027] [] W) from
    begins_calls (some ⟨w.heap.size, 0, none⟩) 1 [5243027] none 0 [] W ⟨fun i hi => ⟨_, rfl, hl, by
      obtain rfl : i = 0 := by simpa using hi
      simpa [Addr.add] using hc⟩, by simp⟩ ⟨fun i hi => by simp at hi, by simp⟩ (by unfold maxLen; decide) (by unfold maxLen; decide)))
  have Hs := Lib.hid (fun (b mb fb rb : Nat) (W : World) (h : Box b mb (mapK fb rb) (fl [5243027]) (s0 []) W) => (show Calls Try.prog 20 #[.pointer (some ⟨b, 0, none⟩)] W (fun e w' => e = .returned (.tuple #[.agg #[.int .u32 4096, .int .u32 5243027, .int .i64 0, .int .u32 0, .int .i64 0], .int .i64 0]) ∧ Box b mb (mapK fb rb) (fl [5243027]) ⟨4100, (rR [] 0).set 1 5, List.replicate 128 0⟩ w' ∧ But [b, rb] W w') from by
    have := step_calls h
    rw [live_step] at this
    exact this))
  have Hr := Lib.hid (fun (b mb fb rb : Nat) (W : World) (h : Box b mb (mapK fb rb) (fl [5243027]) ⟨4100, (rR [] 0).set 1 5, List.replicate 128 0⟩ W) => (show Calls Try.prog 21 #[.pointer (some ⟨b, 0, none⟩), .int .i64 1] W (fun e w' => e = .returned (.int .u32 5) ∧ w' = W) from reg_calls h.m 1))
  have Hp := Lib.hid (fun (b mb fb rb : Nat) (W : World) (h : Box b mb (mapK fb rb) (fl [5243027]) ⟨4100, (rR [] 0).set 1 5, List.replicate 128 0⟩ W) => (show Calls Try.prog 18 #[.pointer (some ⟨b, 0, none⟩)] W (fun e w' => e = .returned (.int .u32 4100) ∧ w' = W) from pc_calls h.m))
  go_enter Try.func23, Try.ntmps23
  go_wp2_with (first
    | (go_at_call 25; (refine (Hb.out _ (by simp [go_sem]) (by simp)).mono ?_); rintro e w1 ⟨b, mb, fb, rb, xb, g, L, v, rfl, hC, hX, hl, ⟨g1, g2, g3, g4, g5, g6⟩, hB⟩; have HC := Lib.hid hC; have HX := Lib.hid hX; clear hC hX)
    | (go_at_call 20; (refine (Hs.out _ _ _ _ _ HC.out).mono ?_); rintro e w2 ⟨rfl, hC2, hB2⟩; have HC2 := Lib.hid hC2; clear hC2)
    | (go_at_call 21; (refine (Hr.out _ _ _ _ _ (HC2.out.below (by (exact blZ)))).mono ?_); rintro e w3 ⟨rfl, rfl⟩)
    | (go_at_call 18; (refine (Hp.out _ _ _ _ _ (HC2.out.below (by (exact blZ)))).mono ?_); rintro e w3 ⟨rfl, rfl⟩))
  go_returns
  simp only [World.size_alloc] at g1 g4
  have x1 : But [b, rb] w w2 := (But.of_below (by (exact blZ))).trans hB2
  exact ⟨by simp, below_of_but ((x1.alloc _).lose (by intro q hq; right; simp at hq; rcases hq with rfl | rfl <;> omega))⟩
end Go.Proofs.Ytioopcilcgebeaa.CpuA
/-! #### LawF -/
namespace Go.Proofs.Ytioopcilcgebeaa.CpuA
open Go.RowKit Go.Proofs.Ytioopcilcgebeaa.Base Go.Proofs.Ytioopcilcgebeaa.InstS Go.Proofs.Ytioopcilcgebeaa.InstA Go.Proofs.YtioopcilcgebeaaW.PrintWords

theorem below_but {B : Nat} {w W W' : World} {l : List Nat} (h : Below B w W) (hs : B ≤ W.heap.size) (hb : But l W W') (hl : ∀ k ∈ l, B ≤ k) : Below B w W' :=
  ⟨hb.os.trans h.os, hb.tape.trans h.tape, hb.output.trans h.output, Nat.le_trans h.size hb.size, fun k hk => (hb.block k (Nat.lt_of_lt_of_le hk hs) (fun q => absurd (hl k q) (Nat.not_le.2 hk))).trans (h.block k hk)⟩
theorem row_low {w : World} {base base' : Nat} {e : TypeId} {size : Nat} {v : Value} {n : Nat} {xs : List Value} (h : w.ownsRow base e size v n xs) (hb : base' ≤ base) : w.ownsRow base' e size v n xs :=
  ⟨h.1, h.2.imp id (fun ⟨g, cap, cur, hv, hb2, r⟩ => ⟨g, cap, cur, hv, Nat.le_trans hb hb2, r⟩)⟩
theorem row_bytes {w : World} {base cap : Nat} {A : Option Addr} {B : List Int} (h : w.ownsRow base 5 1 (.slice A B.length cap) B.length (B.map (Value.int .u8))) (h0 : 0 < B.length) :
    ∃ gb cur, A = some ⟨gb, 0, none⟩ ∧ base ≤ gb ∧ w.heap[gb]? = some (.cells cur 5 (0, 0)) ∧ ∀ j, j < B.length → cur[j]? = some (.int .u8 (B.getD j 0)) := by
  rcases h.2 with ⟨_, h1⟩ | ⟨g, cap', cur, e, hb, hg, h1, h2, h3, h4⟩
  · omega
  · injection e with e1 _ _
    refine ⟨g, cur, e1, hb, hg, fun i hi => ?_⟩
    have e2 : (B.map (Value.int .u8))[i]? = some (.int .u8 (B.getD i 0)) := by
      rw [List.getElem?_map, List.getD_eq_getElem?_getD, List.getElem?_eq_getElem hi]; rfl
    rw [← h4, List.getElem?_take, if_pos (by omega), Array.getElem?_toList] at e2
    exact e2
/-- Bytes that were copied. -/
def Got (base : Nat) (w : World) (B : List Int) (e : Ending) (w' : World) : Prop :=
  ∃ A cap, e = .returned (.tuple #[.slice A B.length cap, .bool true]) ∧ w'.ownsRow base 5 1 (.slice A B.length cap) B.length (B.map (Value.int .u8)) ∧ Below w.heap.size w w'
theorem bytes_news {b : Nat} {X : List Int} {w : World} (h : IsBytes b X w) (d k : Nat) (hk : d + k ≤ X.length) : ∀ j v, (((X.drop d).take k).map (Value.int .u8))[j]? = some v → w.cell? ((⟨b, d, none⟩ : Addr).add j) = some v := by
  intro j v hv
  have e : (Addr.add ⟨b, d, none⟩ j) = ⟨b, d + j, none⟩ := by
    unfold Addr.add
    split
    · subst_vars; rfl
    · rfl
  have hl : j < k := by
    have := (List.getElem?_eq_some_iff.1 hv).1
    simp at this
    omega
  rw [List.getElem?_map, List.getElem?_take, if_pos hl, List.getElem?_drop] at hv
  rw [e, bytes_cell h (d + j) (by omega), List.getD_eq_getElem?_getD]
  cases hj : X[d + j]? with
  | none => rw [hj] at hv; cases hv
  | some c => rw [hj] at hv; simpa using hv
set_option maxHeartbeats 8000000 in
set_option maxRecDepth 100000 in
theorem clone_calls (base : Nat) (ad : Addr) (c : Nat) (B : List Int) (w : World) (hb : base ≤ w.heap.size) (hs : ∀ j v, (B.map (Value.int .u8))[j]? = some v → w.cell? (ad.add j) = some v) (hl : B.length ≤ 1048576) (had : ad.block < w.heap.size) :
    Calls Try.prog 69 #[.slice (some ad) B.length c] w fun e w' => ∃ A cap, e = .returned (.slice A B.length cap) ∧ w'.ownsRow base 5 1 (.slice A B.length cap) B.length (B.map (Value.int .u8)) ∧ Below w.heap.size w w' := by
  obtain ⟨i0, hi0, hz0, hz1, hz2⟩ := info_parts info5'
  have Hs := Lib.hid (fun (o : Obj) (j : Nat) (v : Value) (hv : (B.map (Value.int .u8))[j]? = some v) => (show (w.alloc o).cell? (ad.add j) = some v from by
    have hbl : (ad.add j).block = ad.block := by unfold Addr.add; split <;> rfl
    have e : (w.alloc o).heap[(ad.add j).block]? = w.heap[(ad.add j).block]? := Below.heap_alloc w o _ (by rw [hbl]; exact had)
    rw [World.cell?_of_block e]
    exact hs j v hv))
  clear hs
  have qE : ∀ (w : World) (a : Addr) (n c : Nat), (binOp .eql 63 (.slice (some a) n c) (.slice none 0 0)).run Try.prog w = .ok (.bool false) w := fun w a n c => Lib.run_eql_slice_nil w _ _ (some a) n c 0 0 Try.underlying63
  go_enter Try.func69, Try.ntmps69
  go_wp2_with (first
    | (at_builtin; refine wpList_append_own _ rfl _ _ 63 rfl w.heap.size 5 i0 _ 1 1 Try.underlying63 hi0 hz0 hz1 hz2 rfl (by omega) (.slice (some ⟨w.heap.size, 0, none⟩) 0 0) 0 [] rfl ⟨rfl, .inr ⟨w.heap.size, 0, #[], rfl, Nat.le_refl _, heap_at _ _ _ rfl, by omega, by unfold maxLen; omega, rfl, rfl⟩⟩ ad B.length c (B.map (Value.int .u8)) rfl (by simp) (Hs.out _) (by simp [Value.oneCell']) (by unfold maxLen; omega) (by omega) (by simp) ?_; intro v' w1 hown hgrow hnil; obtain ⟨A, cap, rfl⟩ := row_slice hown; have HO := Lib.hid hown; have HW := Lib.hid hgrow; clear hown hgrow hnil))
  go_returns
  refine ⟨A, cap, by simp, ?_, ?_⟩
  · have e0 : 0 + B.length = B.length := Nat.zero_add _
    have h2 := HO.out
    rw [List.nil_append] at h2
    simp only [e0] at h2
    exact row_low h2 hb
  · exact ((Below.refl _ w).alloc (Nat.le_refl _) _).grown HW.out (by simp) (fun k e => by simp [Value.ownBlock] at e; omega)
set_option maxHeartbeats 8000000 in
set_option maxRecDepth 100000 in
theorem get_ram {b : Nat} {K : Bk} {F R : List Int} {w : World} (base : Nat) (hb : base ≤ w.heap.size) (h : Mem b K F R w) (addr : Int) (d k : Nat) (ha : addr < 4294967296) (hd : addr = K.r + d) (hk : d + k ≤ K.rn) (hdn : d < K.rn) (hf : ¬ InB K.f K.fn addr k) :
    Calls Try.prog 33 #[.pointer (some ⟨b, 0, none⟩), .int .u32 addr, .int .i64 (k : Int)] w (Got base w ((R.drop d).take k)) := by
  have Hp := Lib.hid (mpart_ram h.mem h.ok addr d k ha hd hk hdn hf)
  have hl : ((R.drop d).take k).length = k := by rw [List.length_take, List.length_drop, h.rl]; omega
  have hk6 : k ≤ 1048576 := by have := h.ok; unfold Bk.Ok at this; omega
  have Hc := Lib.hid (fun (W : World) (hB : Below w.heap.size w W) => clone_calls base ⟨K.rb, d, none⟩ (K.rn - d) ((R.drop d).take k) W (Nat.le_trans hb hB.size) (bytes_news (heap_below hB h.ram) d k (by rw [h.rl]; exact hk)) (by rw [hl]; exact hk6) (lt_of_heap (heap_below hB h.ram)))
  rw [hl] at Hc
  generalize (R.drop d).take k = B at *
  subst hl
  clear h hd hk hdn hf
  go_enter Try.func33, Try.ntmps33
  go_wp2_with (first
    | (go_at_call 68; (with_reducible refine Hp.out.mono ?_); rintro e w1 ⟨rfl, hB1⟩)
    | (go_at_call 69; (with_reducible refine (Hc.out _ ?_).mono ?_); (focus (exact blZ)); rintro e w2 ⟨A, cap, rfl, hrow, hB2⟩; have HR := Lib.hid hrow; clear hrow))
  go_returns
  exact ⟨A, cap, by simp, HR.out, by (exact blZ)⟩
/-- RAM's bytes of both machines are the same. -/
theorem ram_get {b mb fb rb : Nat} {F : List Int} {s : St} {w : World} (base : Nat) (hb : base ≤ w.heap.size) (h : Box b mb (mapK fb rb) F s w) :
    Calls Try.prog 33 #[.pointer (some ⟨mb, 0, none⟩), .int .u32 2147483648, .int .i64 128] w fun e w' => ∃ gb cap cur, e = .returned (.tuple #[.slice (some ⟨gb, 0, none⟩) 128 cap, .bool true]) ∧ base ≤ gb ∧ w'.heap[gb]? = some (.cells cur 5 (0, 0)) ∧ (∀ j, j < 128 → cur[j]? = some (.int .u8 (s.M.getD j 0))) ∧ Below w.heap.size w w' := by
  have ml : s.M.length = 128 := h.ok.ml
  have q := get_ram base hb h.mem 2147483648 0 128 (by omega) (by rfl) (by show 0 + 128 ≤ 128; omega) (by show 0 < 128; omega) (by unfold InB; show ¬ ((4096 : Int) ≤ 2147483648 ∧ (0 : Int) ≤ ((128 : Nat) : Int) ∧ (2147483648 : Int) - 4096 + ((128 : Nat) : Int) ≤ ((256 : Nat) : Int)); omega)
  rw [List.drop_zero, List.take_of_length_le (by omega)] at q
  refine q.mono ?_
  rintro e w' ⟨A, cap, rfl, hrow, hB⟩
  obtain ⟨gb, cur, rfl, h1, h2, h3⟩ := row_bytes hrow (by omega)
  rw [ml] at h3 ⊢
  exact ⟨gb, cap, cur, rfl, h1, h2, h3, hB⟩
set_option maxHeartbeats 8000000 in
set_option maxRecDepth 100000 in
theorem lawbytes_calls {b mb fb rb xb g base : Nat} {F : List Int} {s : St} {L : List (Int × Int)} {v : Value} {w : World} (h : Two b mb (mapK fb rb) F xb g base s L v w) :
    Calls Try.prog 31 #[.pointer (some ⟨b, 0, none⟩), .pointer (some ⟨xb, 0, none⟩)] w fun e w' => e = .returned (.bool true) ∧ Below w.heap.size w w' := by
  have Hm := Lib.hid (mem_calls h.c.m)
  have Hg := Lib.hid (ram_get w.heap.size (Nat.le_refl _) h.c)
  have HX := Lib.hid (fun (W : World) (hB : Below w.heap.size w W) => h.x.below hB)
  have hrel := h.x.rel.ram
  have HR := Lib.hid hrel
  clear h hrel
  go_enter Try.func31, Try.ntmps31
  go_wp2_with (first
    | (go_at_call 22; (with_reducible refine Hm.out.mono ?_); rintro e w0 ⟨rfl, rfl⟩)
    | (go_at_call 33; (with_reducible refine Hg.out.mono ?_); rintro e w1 ⟨gb, cap, cur, rfl, hgb, hgc, hcur, hB1⟩; have HC := Lib.hid hcur; have HG := Lib.hid hgc; clear hcur hgc))
  have x1 := HX.out w1 hB1
  have cx := cell_of_heap x1.m.1 0
  rw [mcells_mem] at cx
  have HM := Lib.hid x1.mem
  clear x1
  go_loopw [7] (fun i wr => ∃ k m : Nat, k ≤ 128 ∧ i = .int .i64 (k : Int) ∧ wr = w1.drewN m) (fun i _ => 128 - (intOf i).toNat)
  case atStart => exact ⟨0, 0, by omega, rfl, rfl⟩
  case round =>
    obtain ⟨k, m1, hk, rfl, rfl⟩ := hrel
    by_cases q : k < 128
    · have c := cell_of_heap HG.out k
      rw [HC.out k q] at c
      have Ha := Lib.hid (fun n => at_calls (HM.out.drewN n) (2147483648 + (k : Int)))
      have er : atL L (2147483648 + (k : Int)) = s.M.getD k 0 := HR.out k q
      rw [er] at Ha
      clear er
      generalize s.M.getD k 0 = y at *
      have i0' : (0 : Int) ≤ (k : Int) := by omega
      have i1' : (k : Int) < 128 := by omega
      have ew : IntKind.u32.wrap (2147483648 + (k : Int) % 4294967296) = 2147483648 + (k : Int) := by rw [IntKind.wrap_u32]; omega
      go_wp2
      go_quiet ((go_at_call 64; exact quiet_at Ha.out _ _))
      go_wp2
      refine ⟨⟨k + 1, _, by omega, by go_num, rfl⟩, by simp [intOf]; omega⟩
    · go_wp2
      go_returns
      exact ⟨by simp, by (exact blZ)⟩
end Go.Proofs.Ytioopcilcgebeaa.CpuA
