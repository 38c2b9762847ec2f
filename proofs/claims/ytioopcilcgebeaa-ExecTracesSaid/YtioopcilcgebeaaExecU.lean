/- ExecTraces. -/
import Derived.Test.YtioopcilcgebeaaExecT
import Derived.Test.YtioopcilcgebeaaExecF
set_option linter.unusedVariables false
set_option linter.unusedSimpArgs false
namespace Go.Proofs.Ytioopcilcgebeaa.CpuA
open Go.RowKit Go.Proofs.Ytioopcilcgebeaa.Base Go.Proofs.Ytioopcilcgebeaa.InstS Go.Proofs.Ytioopcilcgebeaa.InstA Go.Proofs.YtioopcilcgebeaaW.PrintWords

/-- A row of events in memory. -/
def IsEvs (A : Option Addr) (cap : Nat) (l : List Evt) (w : World) : Prop := ∃ base, w.ownsRow base 35 5 (.slice A l.length cap) l.length (evF l)
theorem IsEvs.below {A : Option Addr} {cap : Nat} {l : List Evt} {w w' : World} (h : IsEvs A cap l w) (hb : Below w.heap.size w w') : IsEvs A cap l w' := by
  obtain ⟨base, h⟩ := h
  exact ⟨base, row_but h (But.of_below hb : But [] w w') (by simp)⟩
theorem IsEvs.box {A : Option Addr} {cap : Nat} {l : List Evt} {b mb : Nat} {K : Bk} {F : List Int} {s : St} {w w' : World} (h : IsEvs A cap l w) (hx : Box b mb K F s w) (hb : But [b, K.rb] w w') : IsEvs A cap l w' := by
  obtain ⟨base, h⟩ := h
  refine ⟨base, row_but h hb (fun k hk => ?_)⟩
  obtain ⟨_, c, hc⟩ := row_blk h k hk
  simp only [List.mem_cons, List.not_mem_nil, or_false, not_or]
  exact ⟨blk_ne hc hx.m.1 (by decide), blk_ne hc hx.mem.ram (by decide)⟩
theorem IsEvs.rbox {A : Option Addr} {cap : Nat} {l : List Evt} {xb g base : Nat} {K : Bk} {F : List Int} {s : St} {L : List (Int × Int)} {v : Value} {w w' : World} (h : IsEvs A cap l w) (hx : RBox xb g base K F s L v w) (hb : But (xb :: g :: rowL v) w w') : IsEvs A cap l w' := by
  obtain ⟨base, h⟩ := h
  refine ⟨base, row_but h hb (fun k hk => ?_)⟩
  obtain ⟨_, c, hc⟩ := row_blk h k hk
  exact rk_ne hx hc (by decide) (by decide) (by decide)
theorem box_up {b mb : Nat} {K : Bk} {F : List Int} {s : St} {w w' : World} (h : Box b mb K F s w) {l : List Nat} (N : Nat) (hb : But l w w') (hl : ∀ k ∈ l, k < N) (h1 : N ≤ b) (h2 : N ≤ mb) (h3 : N ≤ K.fb) (h4 : N ≤ K.rb) : Box b mb K F s w' :=
  have off : ∀ k, N ≤ k → k ∉ l := fun k hk hm => absurd (hl k hm) (Nat.not_lt.2 hk)
  h.but hb (off _ h1) (off _ h2) (off _ h3) (off _ h4)
theorem esame_calls {A A' : Option Addr} {cap cap' : Nat} {l : List Evt} {W : World} (h : IsEvs A cap l W) (h' : IsEvs A' cap' l W) (hl : l.length ≤ 1000) :
    Calls Try.prog 36 #[.slice A l.length cap, .slice A' l.length cap'] W fun e w' => e = .returned (.bool true) ∧ ∃ n, w' = W.drewN n := by
  obtain ⟨_, h⟩ := h
  obtain ⟨_, h'⟩ := h'
  exact rsame7_calls h h' hl
theorem epath_calls {A : Option Addr} {cap : Nat} {l : List Evt} {W : World} (h : IsEvs A cap l W) (hl : l.length ≤ 1000) (he : ∀ v ∈ l, EvtOk v) :
    Calls Try.prog 37 #[.slice A l.length cap] W fun e w' => e = .returned (.int .u32 (pathS l)) ∧ ∃ n, w' = W.drewN n := by
  obtain ⟨_, h⟩ := h
  exact rpath_calls h hl he
set_option maxHeartbeats 16000000 in
set_option maxRecDepth 100000 in
theorem execTraces_walk (A0 : Option Addr) (cap0 : Nat) (words : List Int) (A1 : Option Addr) (cap1 : Nat) (regs : List Int) (fuel : Int) (w : World) (h0 : US A0 words w) (h1 : US A1 regs w) (l0 : words.length ≤ maxLen) (l1 : regs.length ≤ maxLen) :
    Calls Try.prog 10 #[.slice A0 words.length cap0, .slice A1 regs.length cap1, .int .i64 fuel] w fun e w' => e = .returned (.bool true) ∧ Below w.heap.size w w' := by
  have Hb := Lib.hid (fun (W : World) (hW : Below w.heap.size w W) => (begins_calls A0 cap0 words A1 cap1 regs W (h0.below hW) (h1.below hW) l0 l1).mono fun _ _ h => began_T h)
  have Hb' := Hb
  have hf := few_calls fuel
  obtain ⟨fu, hfu⟩ : ∃ fu, (if 60 < fuel then 60 else fuel) = fu := ⟨_, rfl⟩
  have hfl : fu ≤ 60 := by rw [← hfu]; split <;> omega
  rw [hfu] at hf
  have Hf := Lib.hid hf
  clear h0 h1 hf hfu
  have e0 : ∀ fb rb n s, runT (mapK fb rb) (fl words) n s = runT (mapK 0 0) (fl words) n s := fun fb rb n s => runT_map fb rb 0 0 _ n s
  have e1 : ∀ fb rb n s, evsT (mapK fb rb) (fl words) n s = evsT (mapK 0 0) (fl words) n s := fun fb rb n s => evsT_map fb rb 0 0 _ n s
  have hc1 := fun (b mb fb rb : Nat) (W : World) (h : Box b mb (mapK fb rb) (fl words) (s0 regs) W) => trace_calls h fu (by omega)
  have hx1 := fun (xb g bs fb rb : Nat) (L : List (Int × Int)) (v : Value) (hL : L.length ≤ 1000) (W : World) (h : RBox xb g bs (mapK fb rb) (fl words) (s0 regs) L v W) => rtrace_calls h hL fu (by omega)
  have hp1 := fun (b mb fb rb : Nat) (W : World) (h : Box b mb (mapK fb rb) (fl words) (s0 regs) W) => path_calls h fu (by omega)
  have hlen := evsT_length (mapK 0 0) (fl words) fu.toNat (s0 regs)
  have hle := runT_le (mapK 0 0) (fl words) fu.toNat (s0 regs)
  have hok := evsT_ok (mapK 0 0) (fl words) fu.toNat (s0 regs) (by constructor <;> (show _ ; simp [s0]))
  simp only [e0, e1] at hc1 hx1 hp1
  generalize evsT (mapK 0 0) (fl words) fu.toNat (s0 regs) = evs at *
  generalize runT (mapK 0 0) (fl words) fu.toNat (s0 regs) = r at *
  obtain ⟨rn, rt, s1⟩ := r
  dsimp only at hlen hle
  subst hlen
  have HC := Lib.hid hc1
  have HX := Lib.hid hx1
  have HP := Lib.hid hp1
  have HOK := Lib.hid hok
  clear hc1 hx1 hp1 hok e0 e1
  have hev : evs.length ≤ 1000 := by omega
  go_enter Try.func10, Try.ntmps10
  go_wp2_with (first
    | (go_at_call 24; (with_reducible refine (Hf.out _).mono ?_); rintro e wf ⟨rfl, rfl⟩)
    | (go_at_call 25; (with_reducible refine (Hb.out _ ?_).mono ?_); (focus (exact blZ)); rintro e w1 ⟨b1, mb1, fb1, rb1, xb1, g1, bs1, L1, v1, rfl, hT1, hl1, ⟨p1, p2, p3, p4, p5, p6, p7⟩, hB1⟩; have HT1 := Lib.hid hT1; have z1 := hB1.size; clear hT1 Hb)
    | (go_at_call 25; (with_reducible refine (Hb'.out _ ?_).mono ?_); (focus (exact blZ)); rintro e w2 ⟨b2, mb2, fb2, rb2, xb2, g2, bs2, L2, v2, rfl, hT2, hl2, ⟨q1, q2, q3, q4, q5, q6, q7⟩, hB2⟩; have HT2 := Lib.hid hT2.c; have z2 := hB2.size; clear hT2 Hb')
    | (go_at_call 34; (with_reducible refine (HC.out _ _ _ _ _ (HT1.out.c.below hB2)).mono ?_); rintro e w4 ⟨A, cap, rfl, hrow, hC4, hB4⟩; have HX4 := Lib.hid (rbox_step (HT1.out.c.below hB2) (HT1.out.x.below hB2) hB4); have lb1 : b1 < w1.heap.size := lt_of_heap HT1.out.c.m.1; have lrb1 : rb1 < w1.heap.size := lt_of_heap HT1.out.c.mem.ram; have HD4 := Lib.hid (box_up HT2.out w1.heap.size hB4 (by intro k hk; simp only [List.mem_cons, List.not_mem_nil, or_false] at hk; rcases hk with rfl | rfl <;> assumption) q1 q2 q3 q4); have HA4 := Lib.hid (show IsEvs A cap evs w4 from ⟨_, hrow⟩); have HB4 := Lib.hid hB4; have z4 := hB4.size; clear hrow hC4 hB4)
    | (go_at_call 27; (with_reducible refine (HX.out _ _ _ _ _ _ _ (Nat.le_trans hl1 (by omega)) _ HX4.out).mono ?_); rintro e w5 ⟨A', cap', L', v', rfl, hrow, hX5, hB5⟩; have HD5 := Lib.hid (box_rk HD4.out HX4.out hB5); have HA5 := Lib.hid (HA4.out.rbox HX4.out hB5); have HE5 := Lib.hid (show IsEvs A' cap' evs w5 from ⟨_, hrow⟩); have HB5 := Lib.hid hB5; have z5 := hB5.size; clear hrow hX5 hB5)
    | (go_at_call 35; (with_reducible refine (HP.out _ _ _ _ _ HD5.out).mono ?_); rintro e w6 ⟨rfl, hC6, hB6⟩; have HS6 := Lib.hid (fun (W : World) (hW : Below w6.heap.size w6 W) => esame_calls ((HA5.out.box HD5.out hB6).below hW) ((HE5.out.box HD5.out hB6).below hW) hev); have HP6 := Lib.hid (fun (W : World) (hW : Below w6.heap.size w6 W) => epath_calls ((HE5.out.box HD5.out hB6).below hW) hev HOK.out); have HB6 := Lib.hid hB6; have z6 := hB6.size; clear hC6 hB6)
    | (go_at_call 36; (with_reducible refine (HS6.out _ ?_).mono ?_); (focus (exact blZ)); rintro e w8 ⟨rfl, n8, rfl⟩)
    | (go_at_call 37; (with_reducible refine (HP6.out _ ?_).mono ?_); (focus (exact blZ)); rintro e w8 ⟨rfl, n9, rfl⟩)
    | (go_at_call 29; (with_reducible refine (lives7_calls _).mono ?_); rintro e w9 ⟨rfl, hB9⟩))
  go_returns
  have y0 : Below wf.heap.size wf w2 := by (exact blZ)
  have y4 := below_but y0 y0.size HB4.out (by
    intro k hk
    simp only [List.mem_cons, List.not_mem_nil, or_false] at hk
    rcases hk with rfl | rfl <;> omega)
  have hx9 := row_ge HT1.out.x.mem
  have y5 := below_but y4 y4.size HB5.out (by
    intro k hk
    rcases List.mem_cons.1 hk with rfl | hk
    · omega
    · rcases List.mem_cons.1 hk with rfl | hk
      · omega
      · have := hx9 k hk
        omega)
  have y6 := below_but y5 y5.size HB6.out (by
    intro k hk
    simp only [List.mem_cons, List.not_mem_nil, or_false] at hk
    rcases hk with rfl | rfl <;> omega)
  have s6 := y6.size
  exact ⟨by first | (simp; done) | (simp; omega), by (exact blZ)⟩
end Go.Proofs.Ytioopcilcgebeaa.CpuA
