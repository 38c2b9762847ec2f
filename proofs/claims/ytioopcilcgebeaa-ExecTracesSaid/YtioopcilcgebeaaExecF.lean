/- ExecParts. -/
import Derived.Test.YtioopcilcgebeaaExecEs
import Derived.Test.YtioopcilcgebeaaExecR
set_option linter.unusedVariables false
set_option linter.unusedSimpArgs false
namespace Go.Proofs.Ytioopcilcgebeaa.CpuA
open Go.RowKit Go.Proofs.Ytioopcilcgebeaa.Base Go.Proofs.Ytioopcilcgebeaa.InstS Go.Proofs.Ytioopcilcgebeaa.InstA Go.Proofs.YtioopcilcgebeaaW.PrintWords

theorem box_rk {b mb : Nat} {K K' : Bk} {F F' : List Int} {s : St} {xb g base : Nat} {s' : St} {L : List (Int × Int)} {v : Value} {w w' : World} (h : Box b mb K F s w) (hx : RBox xb g base K' F' s' L v w) (hb : But (xb :: g :: rowL v) w w') : Box b mb K F s w' :=
  h.but hb (rk_ne hx h.m.1 (by decide) (by decide) (by decide)) (rk_ne hx h.mem.mem (by decide) (by decide) (by decide)) (rk_ne hx h.mem.flash (by decide) (by decide) (by decide)) (rk_ne hx h.mem.ram (by decide) (by decide) (by decide))
/-- Both machines stay as they are where elder blocks alone were changed. -/
theorem two_off {b mb : Nat} {K : Bk} {F : List Int} {xb g base : Nat} {s : St} {L : List (Int × Int)} {v : Value} {w w' : World} (h : Two b mb K F xb g base s L v w) {l : List Nat} (N : Nat) (hb : But l w w') (hl : ∀ k ∈ l, k < N) (h1 : N ≤ b) (h2 : N ≤ mb) (h3 : N ≤ K.fb) (h4 : N ≤ K.rb) (h5 : N ≤ xb) (h6 : N ≤ g) (h7 : N ≤ base) : Two b mb K F xb g base s L v w' :=
  have off : ∀ k, N ≤ k → k ∉ l := fun k hk hm => absurd (hl k hm) (Nat.not_lt.2 hk)
  ⟨h.c.but hb (off _ h1) (off _ h2) (off _ h3) (off _ h4), h.x.but hb (off _ h5) (off _ h6) (fun k hk => off k (Nat.le_trans h7 (row_ge h.x.mem k hk)))⟩
theorem box_off {b mb : Nat} {K : Bk} {F : List Int} {s : St} {w w' : World} (h : Box b mb K F s w) {l : List Nat} (N : Nat) (hb : But l w w') (hl : ∀ k ∈ l, N ≤ k) (h1 : b < N) (h2 : mb < N) (h3 : K.fb < N) (h4 : K.rb < N) : Box b mb K F s w' :=
  have off : ∀ k, k < N → k ∉ l := fun k hk hm => absurd hk (Nat.not_lt.2 (hl k hm))
  h.but hb (off _ h1) (off _ h2) (off _ h3) (off _ h4)
set_option maxHeartbeats 16000000 in
set_option maxRecDepth 100000 in
theorem execParts_walk (A0 : Option Addr) (cap0 : Nat) (words : List Int) (A1 : Option Addr) (cap1 : Nat) (regs : List Int) (x y : Int) (hx : 0 ≤ x ∧ x < 256) (hy : 0 ≤ y ∧ y < 256) (w : World) (h0 : US A0 words w) (h1 : US A1 regs w) (l0 : words.length ≤ maxLen) (l1 : regs.length ≤ maxLen) :
    Calls Try.prog 5 #[.slice A0 words.length cap0, .slice A1 regs.length cap1, .agg #[.int .u8 x, .int .u8 y]] w fun e w' => e = .returned (.bool true) ∧ Below w.heap.size w w' := by
  have Hb := Lib.hid (fun (W : World) (hW : Below w.heap.size w W) => (begins_calls A0 cap0 words A1 cap1 regs W (h0.below hW) (h1.below hW) l0 l1).mono fun _ _ h => began_T h)
  have Hb' := Hb
  clear h0 h1
  obtain ⟨pn, hpn⟩ : ∃ n : Nat, x % 40 = (n : Int) := ⟨(x % 40).toNat, by omega⟩
  obtain ⟨qn, hqn⟩ : ∃ n : Nat, y % 40 = (n : Int) := ⟨(y % 40).toNat, by omega⟩
  have t1 : x.tmod 40 = (pn : Int) := (Int.tmod_eq_emod_of_nonneg hx.1).trans hpn
  have t2 : y.tmod 40 = (qn : Int) := (Int.tmod_eq_emod_of_nonneg hy.1).trans hqn
  have pl : pn < 40 := by omega
  have ql : qn < 40 := by omega
  clear hpn hqn
  go_enter Try.func5, Try.ntmps5
  go_wp2_with (first
    | (go_at_call 25; (with_reducible refine (Hb.out _ ?_).mono ?_); (focus (exact blZ)); rintro e w1 ⟨b1, mb1, fb1, rb1, xb1, g1, bs1, L1, v1, rfl, hT1, hl1, ⟨p1, p2, p3, p4, p5, p6, p7⟩, hB1⟩; have HC1 := Lib.hid hT1.c; have z1 := hB1.size; clear hT1 p5 p6 p7 hl1 Hb)
    | (go_at_call 25; (with_reducible refine (Hb'.out _ ?_).mono ?_); (focus (exact blZ)); rintro e w2 ⟨b2, mb2, fb2, rb2, xb2, g2, bs2, L2, v2, rfl, hT2, hl2, ⟨q1, q2, q3, q4, q5, q6, q7⟩, hB2⟩; have HT2 := Lib.hid hT2; have z2 := hB2.size; clear hT2 Hb'))
  have hbx := heap_below hB2 (heap_below hB1 (heap_at w (.cells #[.int .u8 x, .int .u8 y] 54) _ rfl))
  have cx0 := cell_of_heap hbx 0
  have cx1 := cell_of_heap hbx 1
  simp at cx0 cx1
  have lb1 : b1 < w1.heap.size := lt_of_heap HC1.out.m.1
  have lmb1 : mb1 < w1.heap.size := lt_of_heap HC1.out.mem.mem
  have lfb1 : fb1 < w1.heap.size := lt_of_heap HC1.out.mem.flash
  have lrb1 : rb1 < w1.heap.size := lt_of_heap HC1.out.mem.ram
  have hC2 := HC1.out.below hB2
  have HC2 := Lib.hid hC2
  clear hbx hC2
  have e3 := runT_map fb2 rb2 fb1 rb1 (fl words) (pn + qn) (s0 regs)
  have hr1 := fun (W : World) (hW : Below w2.heap.size w2 W) => run_calls (HC2.out.below hW) (pn : Int) (by omega)
  have hadd := runT_add (mapK fb1 rb1) (fl words) qn pn (s0 regs)
  have hfull := runT_full (mapK fb1 rb1) (fl words) pn (s0 regs)
  have hle := runT_le (mapK fb1 rb1) (fl words) pn (s0 regs)
  rw [← e3] at hadd
  simp only [Int.toNat_natCast] at hr1
  generalize runT (mapK fb1 rb1) (fl words) pn (s0 regs) = r1 at hr1 hadd hfull hle
  obtain ⟨rn, rt, s1⟩ := r1
  dsimp only at hr1 hadd hfull hle
  have Hr1 := Lib.hid (fun (W : World) (hW : Below w2.heap.size w2 W) => (hr1 W hW).mono (R' := fun e w' => e = .returned (.tuple #[.int .i64 (rn : Int), .int .i64 rt]) ∧ Box b1 mb1 (mapK fb1 rb1) (fl words) s1 w' ∧ Two b2 mb2 (mapK fb2 rb2) (fl words) xb2 g2 bs2 (s0 regs) L2 v2 w' ∧ But [b1, rb1] W w' ∧ Below w2.heap.size w2 W) fun e w' hh => ⟨hh.1, hh.2.1, two_off (HT2.out.below hW) w1.heap.size hh.2.2 (by
    intro k hk
    simp only [List.mem_cons, List.not_mem_nil, or_false] at hk
    rcases hk with rfl | rfl <;> assumption) q1 q2 q3 q4 q5 q6 q7, hh.2.2, hW⟩)
  clear hr1 e3
  by_cases ht : rt = 0
  · subst ht
    have ha := hadd rfl
    have hf := hfull rfl
    subst hf
    clear hadd hfull hle
    have hr2 := fun (W : World) (h : Box b1 mb1 (mapK fb1 rb1) (fl words) s1 W) => run_calls h (qn : Int) (by omega)
    have hr3 := fun (W : World) (h : Two b2 mb2 (mapK fb2 rb2) (fl words) xb2 g2 bs2 (s0 regs) L2 v2 W) => run_calls h.c ((rn : Int) + (qn : Int)) (by omega)
    have htr := fun (W : World) (h : RBox xb2 g2 bs2 (mapK fb2 rb2) (fl words) (s0 regs) L2 v2 W) => rtrace_calls h (by omega) ((rn : Int) + (qn : Int)) (by omega)
    have en : ((rn : Int) + (qn : Int)).toNat = rn + qn := by omega
    simp only [en, ha, Int.toNat_natCast] at hr2 hr3 htr
    have hle2 := runT_le (mapK fb1 rb1) (fl words) qn s1
    generalize runT (mapK fb1 rb1) (fl words) qn s1 = r2 at hr2 hr3 htr hle2
    generalize evsT (mapK fb2 rb2) (fl words) (rn + qn) (s0 regs) = evs at htr
    obtain ⟨n2, t2', s2⟩ := r2
    dsimp only at hr2 hr3 htr hle2
    have Hr2 := Lib.hid hr2
    have Hr3 := Lib.hid (show ∀ (W : World) (h : Two b2 mb2 (mapK fb2 rb2) (fl words) xb2 g2 bs2 (s0 regs) L2 v2 W), Calls Try.prog 26 #[.pointer (some ⟨b2, 0, none⟩), .int .i64 ((rn : Int) + (qn : Int))] W (fun e w' => e = .returned (.tuple #[.int .i64 ((rn : Int) + (n2 : Int)), .int .i64 t2']) ∧ Box b2 mb2 (mapK fb2 rb2) (fl words) s2 w' ∧ But [b2, rb2] W w') from fun W h => by
      have := hr3 W h
      rw [show ((rn + n2 : Nat) : Int) = (rn : Int) + (n2 : Int) by omega] at this
      exact this)
    have Htr := Lib.hid htr
    clear hr2 hr3 htr ha en
    go_quiet (fail)
    all_goals go_wp2_with (first
      | (go_at_call 26; (with_reducible refine (Hr1.out _ ?_).mono ?_); (focus (exact blZ)); rintro e w4 ⟨rfl, hC4, hT4, hB4, hW4⟩; have HC4 := Lib.hid hC4; have HT4 := Lib.hid hT4; have HB4 := Lib.hid hB4; have HW4 := Lib.hid hW4; have z4 := hB4.size; clear hC4 hT4 hB4 hW4 Hr1)
      | (go_at_call 26; (with_reducible refine (Hr2.out _ HC4.out).mono ?_); rintro e w5 ⟨rfl, hC5, hB5⟩; have HC5 := Lib.hid hC5; have HT5 := Lib.hid (two_off HT4.out w1.heap.size hB5 (by intro k hk; simp only [List.mem_cons, List.not_mem_nil, or_false] at hk; rcases hk with rfl | rfl <;> assumption) q1 q2 q3 q4 q5 q6 q7); have HB5 := Lib.hid hB5; clear hC5 hB5 Hr2)
      | (go_at_call 26; (with_reducible refine (Hr3.out _ HT5.out).mono ?_); rintro e w6 ⟨rfl, hC6, hB6⟩; have HD6 := Lib.hid hC6; have HX6 := Lib.hid (rbox_step HT5.out.c HT5.out.x hB6); have HC6 := Lib.hid (box_off HC5.out w1.heap.size hB6 (by intro k hk; simp only [List.mem_cons, List.not_mem_nil, or_false] at hk; rcases hk with rfl | rfl <;> assumption) lb1 lmb1 lfb1 lrb1); have HB6 := Lib.hid hB6; clear hC6 hB6 Hr3)
      | (go_at_call 27; (with_reducible refine (Htr.out _ HX6.out).mono ?_); rintro e w7 ⟨A, cap, L', v', rfl, hrow, hX7, hB7⟩; have HS1 := Lib.hid (fun (W : World) (hW : Below w7.heap.size w7 W) => same_calls ((box_rk HC6.out HX6.out hB7).below hW).m (hX7.below hW).m); have HS2 := Lib.hid (fun (W : World) (hW : Below w7.heap.size w7 W) => same_calls ((box_rk HD6.out HX6.out hB7).below hW).m (hX7.below hW).m); have HB7 := Lib.hid hB7; have z7 := hB7.size; clear hrow hX7 hB7)
      | (go_at_call 28; (with_reducible refine (HS1.out _ ?_).mono ?_); (focus (exact blZ)); rintro e w8 ⟨rfl, n8, rfl⟩)
      | (go_at_call 28; (with_reducible refine (HS2.out _ ?_).mono ?_); (focus (exact blZ)); rintro e w8 ⟨rfl, n9, rfl⟩)
      | (go_at_call 29; (with_reducible refine (lives7_calls _).mono ?_); rintro e w9 ⟨rfl, hB9⟩))
    go_returns
    simp only [zA] at p1 p4
    have y0 : Below w.heap.size w w2 := by (exact blZ)
    have yW := blO y0 HW4.out
    have y4 := below_but yW yW.size HB4.out (by
      intro k hk
      simp only [List.mem_cons, List.not_mem_nil, or_false] at hk
      rcases hk with rfl | rfl <;> omega)
    have y5 := below_but y4 y4.size HB5.out (by
      intro k hk
      simp only [List.mem_cons, List.not_mem_nil, or_false] at hk
      rcases hk with rfl | rfl <;> omega)
    have y6 := below_but y5 y5.size HB6.out (by
      intro k hk
      simp only [List.mem_cons, List.not_mem_nil, or_false] at hk
      rcases hk with rfl | rfl <;> omega)
    have hx9 := row_ge HX6.out.mem
    have y7 := below_but y6 y6.size HB7.out (by
      intro k hk
      rcases List.mem_cons.1 hk with rfl | hk
      · omega
      · rcases List.mem_cons.1 hk with rfl | hk
        · omega
        · have := hx9 k hk
          omega)
    have s7 := y7.size
    exact ⟨by first | (simp; done) | (simp; omega), by (exact blZ)⟩
  · have ht' : (rt != 0) = true := by rw [bne_iff_ne]; exact ht
    have hle' : (rn : Int) ≤ (pn : Int) := by omega
    go_quiet (fail)
    all_goals go_wp2_with (first
      | (go_at_call 26; (with_reducible refine (Hr1.out _ ?_).mono ?_); (focus (exact blZ)); rintro e w4 ⟨rfl, hC4, hT4, hB4, hW4⟩; have HB4 := Lib.hid hB4; have HW4 := Lib.hid hW4; have z4 := hB4.size; clear hC4 hT4 hB4 hW4)
      | (go_at_call 29; (with_reducible refine (lives7_calls _).mono ?_); rintro e w6 ⟨rfl, hB6⟩))
    go_returns
    simp only [zA] at p1 p4
    have y0 : Below w.heap.size w w2 := by (exact blZ)
    have yW := blO y0 HW4.out
    have y4 := below_but yW yW.size HB4.out (by
      intro k hk
      simp only [List.mem_cons, List.not_mem_nil, or_false] at hk
      rcases hk with rfl | rfl <;> omega)
    have s4 := y4.size
    exact ⟨by first | (simp; done) | (simp; omega), by (exact blZ)⟩
end Go.Proofs.Ytioopcilcgebeaa.CpuA
