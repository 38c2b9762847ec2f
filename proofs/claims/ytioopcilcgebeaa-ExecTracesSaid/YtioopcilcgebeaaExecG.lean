/- exec.Trace. -/
import Derived.Test.YtioopcilcgebeaaExecEs
set_option linter.unusedVariables false
set_option linter.unusedSimpArgs false
namespace Go.Proofs.Ytioopcilcgebeaa.CpuA
open Go.RowKit Go.Shelf Go.Proofs.Ytioopcilcgebeaa.Base Go.Proofs.Ytioopcilcgebeaa.ExecA Go.Proofs.YtioopcilcgebeaaW.PrintWords Go.Proofs.YtioopcilcgebeaaW.PrintMore
attribute [local go_sem] Oper.semAt_some max2_int min2_int max_two min_two

/-- A round whose assignment makes blocks. -/
theorem yield_gen {F : Fence} {n : Nat} {P : Program} {l : Nat} {fn : FuncId} {tmps : Array Value} {ps : Array Tmp} {assign body : Code} {D : Nat} {args : Array Value} {W : World} {R : Ending → World → Prop} (hfn : F.fn fn)
    (hl : W.heap[l]? = some (.loop (recL fn tmps ps assign body D .ready))) (hs : args.size = ps.size)
    (h : assign.wpIn (F.inRound l) n P (Exit.then (fun a₁ w₁ => w₁.heap[l]? = some (.loop (recL fn tmps ps assign body D .ready)) ∧
      body.wpIn (F.inRound l) n P (fun e _ W3 => e = .normal ∧ W3.heap[l]? = some (.loop (recL fn tmps ps assign body D .busy)) ∧ R (.returned (.bool true)) (W3.putObj l (.loop (recL fn tmps ps assign body D .ready)))) a₁ (w₁.putObj l (.loop (recL fn tmps ps assign body D .busy)))) (fun _ _ _ => False))
      { tmps := (ps.zip args).foldl (fun t (p, v) => t.setIfInBounds p v) tmps, defers := [] } W) :
    YieldAt F n P l args W R := by
  refine ⟨fn, _, assign, body, run_yield hl hs, roundIn_of_wpIn hfn (wpIn_mono h ?_)⟩
  intro e a w1 hq
  cases e with
  | normal =>
    obtain ⟨hl1, hb⟩ := hq
    refine ⟨_, run_beginRound hl1 rfl, wpIn_mono hb ?_⟩
    rintro e a3 W3 ⟨rfl, hl3, hR⟩
    have := run_endRound (P := P) none hl3
    exact ⟨_, _, this, hR⟩
  | _ => exact hq
/-- Behind exec.Trace. -/
def ETrace (b mb : Nat) (K : Bk) (F : List Int) (r : Nat × Int × St) (evs : List Evt) (w : World) (e : Ending) (w' : World) : Prop :=
  ∃ A cap, e = .returned (.tuple #[.slice A r.1 cap, .int .i64 r.2.1]) ∧ w'.ownsRow w.heap.size 35 5 (.slice A r.1 cap) r.1 (evF evs) ∧ Box b mb K F r.2.2 w' ∧ But [b, K.rb] w w'
set_option maxHeartbeats 16000000 in
set_option maxRecDepth 100000 in
theorem trace_calls {b mb : Nat} {K : Bk} {F : List Int} {s : St} {w : World} (h : Box b mb K F s w) (fuel : Int) (hfu : fuel ≤ 100) :
    Calls Try.prog 34 #[.pointer (some ⟨b, 0, none⟩), .int .i64 fuel] w (ETrace b mb K F (runT K F fuel.toNat s) (evsT K F fuel.toNat s) w) := by
  have H := Lib.hid h
  have l1 := lt_of_heap h.m.1
  have l2 := lt_of_heap h.mem.mem
  have l3 := lt_of_heap h.mem.flash
  have l4 := lt_of_heap h.mem.ram
  clear h
  obtain ⟨i0, hi0, hz0, hz1, hz2⟩ := info_parts info35
  have h3 : 1 ≤ 3 := by omega
  refine (callsIn_wide (n := 3)).1 ?_
  refine callsIn_of_wp_marks Try.func34 rfl trivial ?_
  simp only [Try.ntmps34, List.size_toArray, List.length_cons, List.length_nil, Nat.reduceAdd, Nat.reduceSub, Array.replicate_succ, Array.replicate_zero, List.push_toArray, List.append_toArray, List.nil_append, List.cons_append]
  have dfu : decide (100000 < fuel) = false := decide_eq_false (by omega)
  gi_wp2
  obtain ⟨W0, hW0⟩ : ∃ W0, (w.alloc (.cells #[.pointer (some ⟨b, 0, none⟩), .int .i64 fuel, .int .i64 0, .int .i64 0] 123)).alloc (.cells #[.slice none 0 0] 49) = W0 := ⟨_, rfl⟩
  have Z0 : RowKit.Hid (W0.heap.size = w.heap.size + 2) := Lib.hid (by rw [← hW0]; simp)
  have hb0 : Below w.heap.size w W0 := by rw [← hW0]; (exact blZ)
  have hS0 : IsS w.heap.size ⟨b, 0, none⟩ fuel 0 0 W0 := by rw [← hW0]; exact heap_past (by simp) (heap_at _ _ _ rfl)
  have hO0 : W0.heap[w.heap.size + 1]? = some (.cells #[.slice none 0 0] 49 (0, 0)) := by rw [← hW0]; exact heap_at _ _ _ (by simp)
  rw [hW0]
  refine wpIn_range rfl h3 (gf := 60) (bd := #[.pointer (some ⟨w.heap.size, 0, none⟩)]) rfl trivial (enters_of Try.func60 (by kernel_rfl) rfl) (fun W => Box b mb K F (runT K F fuel.toNat s).2.2 W ∧ IsS w.heap.size ⟨b, 0, none⟩ fuel (runT K F fuel.toNat s).1 (runT K F fuel.toNat s).2.1 W ∧
    (∃ vo, W.heap[w.heap.size + 1]? = some (.cells #[vo] 49 (0, 0)) ∧ W.ownsRow W0.heap.size 35 5 vo (evsT K F fuel.toNat s).length (evF (evsT K F fuel.toNat s))) ∧ But [b, K.rb, w.heap.size, w.heap.size + 1] W0 W) ?call ?done
  case call =>
    intro fn hfn W1 hW1
    have b1 : Below W0.heap.size W0 W1 := by rw [hW1]; exact ((Below.refl _ _).alloc (Nat.le_refl _) _).alloc (by simp) _
    have hl1 := (show W1.heap[W0.heap.size + 1]? = some (.loop _) from by rw [hW1]; exact heap_at _ _ _ (by simp))
    have hD1 : W1.heap[W0.heap.size]? = some (.deferred (some [])) := by rw [hW1]; exact heap_past (by simp) (heap_at _ _ _ rfl)
    clear hW1
    refine (all_calls (s0 := s) (sb := w.heap.size) (by omega) (fun evs W => W.heap[W0.heap.size + 1]? = W1.heap[W0.heap.size + 1]? ∧ W.heap[W0.heap.size]? = some (.deferred (some [])) ∧ (∃ vo, W.heap[w.heap.size + 1]? = some (.cells #[vo] 49 (0, 0)) ∧ W.ownsRow W0.heap.size 35 5 vo evs.length (evF evs)) ∧ But [b, K.rb, w.heap.size, w.heap.size + 1] W0 W) ?hJ ?hY W1 ((H.out.below hb0).below b1) (heap_below b1 hS0) ⟨rfl, hD1, ⟨_, heap_below b1 hO0, World.ownsRow_nil ..⟩, But.of_below b1⟩).mono ?_
    case hJ =>
      rintro evs W W' ⟨h1, h2, ⟨vo, ho, hrow⟩, hb⟩ hB
      rw [hl1] at h1
      have z0 := Z0.out
      refine ⟨(hB.heap (by simp; omega) h1).trans hl1.symm, hB.heap (by simp; omega) h2, ⟨vo, hB.heap (by simp; omega) ho, row_but hrow hB (fun k hk hm => ?_)⟩, hb.trans (hB.mono (by simp))⟩
      have := (row_blk hrow k hk).1
      simp only [List.mem_cons, List.not_mem_nil, or_false] at hm
      rcases hm with rfl | rfl | rfl <;> omega
    case hY =>
      rintro evs ev W ⟨h1, h2, ⟨vo, ho, hrow⟩, hb⟩ hlen
      rw [hl1] at h1
      have hws := lt_of_heap h1
      have co := cell_of_heap ho 0
      have fo := frozen_of_heap ho 0
      simp at co
      obtain ⟨ep, ew, ⟨ek, ea, ez⟩⟩ := ev
      refine yield_gen trivial h1 rfl ?_
      unfold evV
      dsimp only
      have HO := Lib.hid ho
      have HROW := Lib.hid hrow
      have HB := Lib.hid hb
      have H1 := Lib.hid h1
      have H2 := Lib.hid h2
      have HL1 := Lib.hid hl1
      clear ho hrow hb h1 h2 hl1 hD1 hS0 hO0 hW0
      gi_wp2
      refine ⟨heap_past hws H1.out, ?_⟩
      have bX0 : But [W0.heap.size + 1] W ((W.alloc (.cells #[.int .u32 ep, .int .u32 ew, .int .i64 ek, .int .u32 ea, .int .i64 ez] 35))) := (But.refl _ _).alloc _
      have hEX0 : (W.alloc (.cells #[.int .u32 ep, .int .u32 ew, .int .i64 ek, .int .u32 ea, .int .i64 ez] 35)).heap[W.heap.size]? = some (.cells #[.int .u32 ep, .int .u32 ew, .int .i64 ek, .int .u32 ea, .int .i64 ez] 35 (0, 0)) := heap_at _ _ _ rfl
      have sX0 : (W.alloc (.cells #[.int .u32 ep, .int .u32 ew, .int .i64 ek, .int .u32 ea, .int .i64 ez] 35)).heap.size = W.heap.size + 1 := zA _ _
      generalize W.alloc (.cells #[.int .u32 ep, .int .u32 ew, .int .i64 ek, .int .u32 ea, .int .i64 ez] 35) = Y at *
      generalize hX : World.putObj Y (W0.heap.size + 1) _ = X
      have bX : But [W0.heap.size + 1] W X := by rw [← hX]; exact bX0.putObj _ _ (.inl (by simp))
      have hlX := (show X.heap[W0.heap.size + 1]? = some (.loop _) from by rw [← hX]; exact World.putObj_heap_same (by omega))
      have z0 := Z0.out
      have sX : X.heap.size = W.heap.size + 1 := by rw [← hX, World.putObj_size]; exact sX0
      have hEX : X.heap[W.heap.size]? = some (.cells #[.int .u32 ep, .int .u32 ew, .int .i64 ek, .int .u32 ea, .int .i64 ez] 35 (0, 0)) := by rw [← hX]; exact (World.putObj_heap_other (by omega)).trans hEX0
      have hOX : X.heap[w.heap.size + 1]? = some (.cells #[vo] 49 (0, 0)) := bX.heap (by simp; omega) HO.out
      have hrX : X.ownsRow W0.heap.size 35 5 vo evs.length (evF evs) := row_but HROW.out bX (fun k hk hm => by
        obtain ⟨_, c, hc⟩ := row_blk HROW.out k hk
        rw [List.mem_singleton] at hm
        rw [hm, H1.out] at hc
        cases hc)
      have cO := cell_of_heap hOX 0
      have fO := frozen_of_heap hOX 0
      have e0 := cell_of_heap hEX 0
      have e1 := cell_of_heap hEX 1
      have e2 := cell_of_heap hEX 2
      have e3 := cell_of_heap hEX 3
      have e4 := cell_of_heap hEX 4
      simp at cO e0 e1 e2 e3 e4
      have HOX := Lib.hid hOX
      have HRX := Lib.hid hrX
      have HBX := Lib.hid bX
      have HLX := Lib.hid hlX
      have SX := Lib.hid sX
      clear hX bX hlX hEX hOX hrX bX0 hEX0 sX0 z0 sX co fo
      gi_wp2_with (first
        | (gi_at_builtin; refine wpListIn_append_own _ rfl _ _ 49 rfl W0.heap.size 35 i0 _ 5 32 Try.underlying49 hi0 hz0 hz1 hz2 rfl (by omega) vo evs.length (evF evs) rfl (HRX.out.alloc _) ⟨X.heap.size, 0, none⟩ 1 1 (evC ⟨ep, ew, ⟨ek, ea, ez⟩⟩) rfl rfl (World.news_of_block (heap_at _ _ _ rfl)) (by simp [evC, Value.oneCell']) (by unfold maxLen; omega) (by omega) (by have := SX.out; rw [zA]; omega) ?_; intro v' w3 hown hgrow hnil; obtain ⟨vA, vc, rfl⟩ := row_slice hown; have hO3 : w3.heap[w.heap.size + 1]? = some (.cells #[vo] 49 (0, 0)) := (grown_but hgrow).heap (fun hm => by have := (row_blk HRX.out _ hm).1; have := Z0.out; omega) (heap_past (lt_of_heap HOX.out) HOX.out); have cO3 := cell_of_heap hO3 0; have fO3 := frozen_of_heap hO3 0; simp at cO3; have HO3 := Lib.hid hO3; have HOWN := Lib.hid hown; have HG := Lib.hid (grown_but hgrow); clear hown hgrow hnil hO3))
      have z0 := Z0.out
      have sX := SX.out
      have nl : W0.heap.size + 1 ∉ rowL vo := fun hm => by
        obtain ⟨_, c, hc⟩ := row_blk HROW.out _ hm
        rw [H1.out] at hc
        cases hc
      have nD : W0.heap.size ∉ rowL vo := fun hm => by
        obtain ⟨_, c, hc⟩ := row_blk HROW.out _ hm
        rw [H2.out] at hc
        cases hc
      have hl3 := HG.out.heap nl (heap_past (by omega) HLX.out)
      have hlS := hpT (a := ⟨w.heap.size + 1, 0, none⟩) (v := .slice vA (evs.length + 1) vc) (show W0.heap.size + 1 ≠ w.heap.size + 1 by omega) hl3
      have bS : But ((W0.heap.size + 1) :: (w.heap.size + 1) :: rowL vo) W (w3.setCell ⟨w.heap.size + 1, 0, none⟩ (.slice vA (evs.length + 1) vc)) :=
        (((HBX.out.mono (by simp)).alloc _).trans (HG.out.mono (fun k hk => by simp [hk]))).set _ _ (.inl (by simp))
      have hoS := heap_set (i := 0) (v := .slice vA (evs.length + 1) vc) HO3.out
      have hrw : (w3.setCell ⟨w.heap.size + 1, 0, none⟩ (.slice vA (evs.length + 1) vc)).ownsRow W0.heap.size 35 5 (.slice vA (evs.length + 1) vc) (evs.length + 1) (evF (evs ++ [(⟨ep, ew, ⟨ek, ea, ez⟩⟩ : Evt)])) := by
        rw [evF_snoc]
        refine row_but HOWN.out ((But.refl [w.heap.size + 1] _).set _ _ (.inl (by simp))) (fun k hk hm => ?_)
        obtain ⟨hk1, c, hc⟩ := row_blk HOWN.out k hk
        rw [List.mem_singleton] at hm
        omega
      have nl2 : W0.heap.size + 1 ∉ rowL (.slice vA (evs.length + 1) vc) := fun hm => by
        obtain ⟨_, c, hc⟩ := row_blk HOWN.out _ hm
        rw [hl3] at hc
        cases hc
      refine ⟨hlS, ⟨(World.putObj_heap_same (lt_of_heap hlS)).trans HL1.out.symm, (World.putObj_heap_other (by omega)).trans (bS.heap (by simp only [List.mem_cons, not_or]; exact ⟨by omega, by omega, nD⟩) H2.out), ⟨_, (World.putObj_heap_other (by omega)).trans hoS, ?_⟩, ?_⟩, ?_⟩
      · have e1 : (evs ++ [(⟨ep, ew, ⟨ek, ea, ez⟩⟩ : Evt)]).length = evs.length + 1 := by simp
        try rw [e1]
        exact row_but hrw ((But.refl [W0.heap.size + 1] _).putObj _ _ (.inl (by simp))) (fun k hk hm => by
          rw [List.mem_singleton] at hm
          rw [hm] at hk
          exact nl2 hk)
      · refine but_join HB.out (bS.putObj _ _ (.inl (by simp))) (fun r hr => ?_)
        rcases List.mem_cons.1 hr with rfl | hr
        · right; omega
        · rcases List.mem_cons.1 hr with rfl | hr
          · left; simp
          · right; exact (row_blk HROW.out r hr).1
      · intro k hk
        refine (bS.putObj (W0.heap.size + 1) _ (.inl (by simp))).block k ?_ ?_
        · simp only [List.mem_cons, List.not_mem_nil, or_false] at hk
          rcases hk with rfl | rfl | rfl | rfl | rfl <;> omega
        · intro hm
          have hk2 : k < w.heap.size + 1 := by
            simp only [List.mem_cons, List.not_mem_nil, or_false] at hk
            rcases hk with rfl | rfl | rfl | rfl | rfl <;> omega
          rcases List.mem_cons.1 hm with rfl | hm
          · omega
          · rcases List.mem_cons.1 hm with rfl | hm
            · omega
            · have := (row_blk HROW.out k hm).1
              omega
    · rintro e W2 ⟨hv, ⟨h1, h2, h3, h6⟩, h4, h5⟩
      exact ⟨hv, h1.trans hl1, h2, h4, h5, h3, h6⟩
  case done =>
    rintro fn W ⟨hB, hS, ⟨vo, ho, hrow⟩, hb⟩ hl hD
    generalize hW2 : World.putObj W (W0.heap.size + 1) _ = W2
    have z0 := Z0.out
    obtain ⟨vA, vc, rfl⟩ := row_slice hrow
    rw [evsT_length] at ho hrow
    have hS2 : W2.heap[w.heap.size]? = some (.cells #[.pointer (some ⟨b, 0, none⟩), .int .i64 fuel, .int .i64 ((runT K F fuel.toNat s).1 : Int), .int .i64 (runT K F fuel.toNat s).2.1] 123 (0, 0)) := by rw [← hW2]; exact (World.putObj_heap_other (by omega)).trans hS
    have hO2 : W2.heap[w.heap.size + 1]? = some (.cells #[.slice vA (runT K F fuel.toNat s).1 vc] 49 (0, 0)) := by rw [← hW2]; exact (World.putObj_heap_other (by omega)).trans ho
    have hD2 : W2.heap[W0.heap.size]? = some (.deferred (some [])) := by rw [← hW2]; exact (World.putObj_heap_other (by omega)).trans hD
    have hr2 : W2.ownsRow W0.heap.size 35 5 (.slice vA (runT K F fuel.toNat s).1 vc) (runT K F fuel.toNat s).1 (evF (evsT K F fuel.toNat s)) := by
      rw [← hW2]
      refine row_but hrow ((But.refl [W0.heap.size + 1] _).putObj _ _ (.inl (by simp))) (fun k hk hm => ?_)
      obtain ⟨_, c, hc⟩ := row_blk hrow k hk
      rw [List.mem_singleton] at hm
      rw [hm, hl] at hc
      cases hc
    have hk2 : Keeps [b, mb, K.fb, K.rb] W W2 := by
      intro k hk
      rw [← hW2]
      refine World.putObj_heap_other ?_
      simp only [List.mem_cons, List.not_mem_nil, or_false] at hk
      rcases hk with rfl | rfl | rfl | rfl <;> omega
    have hb2 : But [b, K.rb] w W2 := by
      rw [← hW2]
      exact (((But.of_below hb0 : But [b, K.rb, w.heap.size, w.heap.size + 1] w W0).trans hb).putObj (W0.heap.size + 1) _ (.inr (by omega))).lose (by
        intro k hk
        simp only [List.mem_cons, List.not_mem_nil, or_false] at hk ⊢
        omega)
    have hB2 := Lib.hid (hB.keeps hk2 (by simp) (by simp) (by simp) (by simp))
    have c3 := cell_of_heap hS2 3
    have cO := cell_of_heap hO2 0
    simp at c3 cO
    have Hb2 := Lib.hid hb2
    have HD2 := Lib.hid hD2
    have HR2 := Lib.hid hr2
    clear hB hS hb hl hD hW2 hS2 hD2 hk2 hb2 z0 hS0 hb0 hW0 hO0 ho hrow hO2 hr2
    have hmix : Try.prog.follows .mixedOrders = true := by kernel_rfl
    dsimp only
    gi_wp2
    gi_region
    all_goals gi_wp2
    refine ⟨by simp, .inl ⟨_, _, rfl, run_takeDeferred HD2.out, ?_⟩⟩
    have z0 := Z0.out
    refine ⟨.tuple #[.slice vA (runT K F fuel.toNat s).1 vc, .int .i64 (runT K F fuel.toNat s).2.1], ?_, vA, vc, rfl, ?_, ?_, ?_⟩
    · simp [results, Try.results34, go_sem]
    · have hx : (W2.drew).ownsRow W0.heap.size 35 5 (.slice vA (runT K F fuel.toNat s).1 vc) (runT K F fuel.toNat s).1 (evF (evsT K F fuel.toNat s)) := row_but HR2.out (l := []) (But.of_below (Below.refl _ W2).drew) (by simp)
      refine row_low (row_but hx ((But.refl [W0.heap.size] _).putObj _ _ (.inl (by simp))) (fun k hk hm => ?_)) (by omega)
      obtain ⟨_, c, hc⟩ := row_blk hx k hk
      rw [List.mem_singleton] at hm
      rw [hm] at hc
      have hd : W2.drew.heap[W0.heap.size]? = some (.deferred (some [])) := HD2.out
      rw [hd] at hc
      cases hc
    · refine (hB2.out.below (Below.refl _ W2).drew).keeps (l := [b, mb, K.fb, K.rb]) (fun k hk => World.putObj_heap_other ?_) (by simp) (by simp) (by simp) (by simp)
      simp only [List.mem_cons, List.not_mem_nil, or_false] at hk
      rcases hk with rfl | rfl | rfl | rfl <;> omega
    · exact (Hb2.out.trans (But.of_below (Below.refl _ W2).drew)).putObj _ _ (.inr (by omega))
end Go.Proofs.Ytioopcilcgebeaa.CpuA
