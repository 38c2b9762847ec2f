/- Proofs of this claim's family, merged: ExecA, ExecB, ExecC. -/
import Derived.RangeFuncNested
import Derived.RangeFuncBound
import Derived.RangeFuncCalls
import Derived.RangeFuncLeaves
import Derived.Shelf.Abstract
import Derived.Shelf.RegionOpen
import Derived.WalkKit
import Derived.OwnWalkIn
import Derived.TacticsInMore
import Derived.LoopNIn
import Derived.LoopIn
import Derived.Test.YtioopcilcgebeaaProg
import Derived.Test.YtioopcilcgebeaaKR
import Derived.Test.YtioopcilcgebeaaK8
set_option linter.unusedVariables false
set_option linter.unusedSimpArgs false
/-! #### ExecA -/
namespace Go.Proofs.Ytioopcilcgebeaa.ExecA
open Go.RowKit Go.Shelf

/-- The record of a loop. -/
def recL (fn : FuncId) (tmps : Array Value) (ps : Array Tmp) (assign body : Code) (D : Nat) (st : LoopState) : Loop := { state := st, pending := none, fn, tmps, params := ps, assign, body, defers := D }
section
variable {F : Fence} {n : Nat} {P : Program}
theorem wpIn_range {g : Operand} {ps : Array Tmp} {assign body : Code} {Q : Exit → Act → World → Prop} {a : Act} {w : World}
    (hro : F.round = none) (h1 : 1 ≤ n) {gf : Nat} {bd : Array Value} (hg : a.eval g = .func (.func gf) bd #[]) (hFg : F.fn gf) (eg : ∀ args w, (callFunc gf args).run P w = .ok (.enter gf args) w)
    (R : World → Prop)
    (hcall : ∀ fn, F.fn fn → ∀ W1, W1 = (w.alloc (.deferred (some []))).alloc (.loop (recL fn a.tmps ps assign body w.heap.size .ready)) →
      CallsIn F (n - 1) P gf (bd ++ #[.func (.yield (w.heap.size + 1)) #[] #[]]) W1 (fun e W' => (∃ v, e = .returned v) ∧ W'.heap[w.heap.size + 1]? = some (.loop (recL fn a.tmps ps assign body w.heap.size .ready)) ∧ W'.heap[w.heap.size]? = some (.deferred (some [])) ∧ R W'))
    (hdone : ∀ fn W, R W → W.heap[w.heap.size + 1]? = some (.loop (recL fn a.tmps ps assign body w.heap.size .ready)) → W.heap[w.heap.size]? = some (.deferred (some [])) →
      Q .normal { a with defers := { target := .collected w.heap.size, args := #[] } :: a.defers } (W.putObj (w.heap.size + 1) (.loop { recL fn a.tmps ps assign body w.heap.size .ready with state := .exhausted }))) :
    (Code.rangeFunc g ps assign body).wpIn F n P Q a w := by
  refine wpIn_rangeFunc ?_
  intro fn hfn
  rw [hro]
  obtain ⟨W1, hW1⟩ : ∃ W1, (w.alloc (.deferred (some []))).alloc (.loop (recL fn a.tmps ps assign body w.heap.size .ready)) = W1 := ⟨_, rfl⟩
  have h2 := hcall fn hfn W1 hW1.symm
  refine ⟨w.heap.size + 1, [{ target := .collected w.heap.size, args := #[] }], W1, { target := .fn (.func gf) #[], args := bd ++ #[.func (.yield (w.heap.size + 1)) #[] #[]] }, W1, gf, bd ++ #[.func (.yield (w.heap.size + 1)) #[] #[]], W1, ?_, ?_, ?_, ?_, fun _ => h1, ?_⟩
  · rw [← hW1]; exact run_enterLoop_outer _ _ _ _ _
  · simp only [resolve, hg]
    simp [go_sem]
  · intro f' hf'; simp [Target.leads] at hf'; subst hf'; exact hFg
  · simp [invoke, go_sem, eg]
  · refine h2.mono ?_
    rintro e W2 ⟨⟨v, rfl⟩, hl, hk, hR⟩
    have h3 := run_endLoop (P := P) hl (by simp [recL])
    exact ⟨none, _, h3, hdone fn _ hR hl hk⟩
/-- A round: yield is called where the record is ready. -/
theorem yield_in {l : Nat} {fn : FuncId} {tmps : Array Value} {ps : Array Tmp} {assign body : Code} {D : Nat} {args : Array Value} {W : World} {R : Ending → World → Prop} (hfn : F.fn fn)
    (hl : W.heap[l]? = some (.loop (recL fn tmps ps assign body D .ready))) (hs : args.size = ps.size) (a₁ : Act)
    (hassign : ∀ K : Act → World → Prop, K a₁ W → assign.wpIn (F.inRound l) n P (Exit.then K (fun _ _ _ => False)) { tmps := (ps.zip args).foldl (fun t (p, v) => t.setIfInBounds p v) tmps, defers := [] } W)
    (hbody : body.wpIn (F.inRound l) n P (fun e _ W3 => e = .normal ∧ W3.heap[l]? = some (.loop (recL fn tmps ps assign body D .busy)) ∧ R (.returned (.bool true)) (W3.putObj l (.loop (recL fn tmps ps assign body D .ready)))) a₁ (W.putObj l (.loop (recL fn tmps ps assign body D .busy)))) :
    YieldAt F n P l args W R := by
  refine ⟨fn, _, assign, body, run_yield hl hs, roundIn_of_wpIn hfn (hassign _ ⟨_, run_beginRound hl rfl, ?_⟩)⟩
  refine wpIn_mono hbody ?_
  rintro e a3 W3 ⟨rfl, hl3, hR⟩
  have := run_endRound (P := P) none hl3
  exact ⟨_, _, this, hR⟩
end
end Go.Proofs.Ytioopcilcgebeaa.ExecA
/-! #### ExecB -/
namespace Go.Proofs.Ytioopcilcgebeaa.CpuA
open Go.RowKit Go.Shelf Go.Proofs.Ytioopcilcgebeaa.Base Go.Proofs.Ytioopcilcgebeaa.ExecA
attribute [local go_sem] Oper.semAt_some

/-- A run: how many steps, the trap, the state. -/
def runT (K : Bk) (F : List Int) : Nat → St → Nat × Int × St
  | 0, s => (0, 0, s)
  | n + 1, s => if (stepT K F s).2.1 = 0 then ((runT K F n (stepT K F s).2.2).1 + 1, (runT K F n (stepT K F s).2.2).2) else (0, (stepT K F s).2.1, (stepT K F s).2.2)
/-- Its events. -/
def evsT (K : Bk) (F : List Int) : Nat → St → List Evt
  | 0, _ => []
  | n + 1, s => if (stepT K F s).2.1 = 0 then (stepT K F s).1 :: evsT K F n (stepT K F s).2.2 else []
theorem evsT_length (K : Bk) (F : List Int) : ∀ (n : Nat) (s : St), (evsT K F n s).length = (runT K F n s).1
  | 0, _ => rfl
  | n + 1, s => by
    unfold evsT runT
    split
    · simp [evsT_length K F n]
    · rfl
theorem runT_le (K : Bk) (F : List Int) : ∀ (n : Nat) (s : St), (runT K F n s).1 ≤ n
  | 0, _ => Nat.le_refl _
  | n + 1, s => by
    unfold runT
    split
    · have := runT_le K F n (stepT K F s).2.2; dsimp only; omega
    · exact Nat.zero_le _
theorem blkNe {w : World} {a b : Nat} {c d : Array Value} {t u : TypeId} {fr fs : Nat × Nat} (h : w.heap[a]? = some (.cells c t fr)) (k : w.heap[b]? = some (.cells d u fs)) (hn : t ≠ u) : a ≠ b := by
  rintro rfl
  rw [h] at k
  injection k with k
  injection k with _ k _
  exact hn k
/-- The iterator's own block. -/
def IsS (sb : Nat) (c : Addr) (fuel done trap : Int) (w : World) : Prop := w.heap[sb]? = some (.cells #[.pointer (some c), .int .i64 fuel, .int .i64 done, .int .i64 trap] 123 (0, 0))
/-- What a round leaves alone. -/
def Keeps (l : List Nat) (W W' : World) : Prop := ∀ k ∈ l, W'.heap[k]? = W.heap[k]?
theorem Box.keeps {b mb : Nat} {K : Bk} {F : List Int} {s : St} {l : List Nat} {w w' : World} (h : Box b mb K F s w) (hk : Keeps l w w') (h0 : b ∈ l) (h1 : mb ∈ l) (h2 : K.fb ∈ l) (h3 : K.rb ∈ l) : Box b mb K F s w' :=
  ⟨⟨(hk _ h0).trans h.m.1, h.m.2⟩, ⟨h.mem.ok, (hk _ h1).trans h.mem.mem, (hk _ h2).trans h.mem.flash, (hk _ h3).trans h.mem.ram, h.mem.fl, h.mem.rl, h.mem.fbytes, h.mem.rbytes⟩, h.ok, h.n1, h.n2, h.n3, h.n4, h.n5⟩
def leftS (sb : Nat) (fuel : Int) (w : World) : Nat := match w.cell? ⟨sb, 2, none⟩ with | some (.int _ d) => (fuel - d).toNat | _ => 0
theorem uponIn_yield {F : Fence} {n : Nat} {P : Program} {o : Oper} {a : Act} {next : Act → World → Prop} {Q : Exit → Act → World → Prop} {l : Nat} {args : Array Value} {W : World} {R : Ending → World → Prop} (hd : F.depth = none) (h : YieldAt F (n - 1) P l args W R)
    (k : ∀ e w', R e w' → ∃ v, e = .returned v ∧ next (a.put o.dst v) w') : o.uponIn F n P a next Q ((Instr.yield l args).run P W) := by
  obtain ⟨fn, tmps, assign, body, hy, hR⟩ := h
  rw [hy, Oper.uponIn_round]
  refine ⟨fun h => (by rw [hd] at h; cases h), hR.mono ?_⟩
  intro e w' hr
  obtain ⟨v, rfl, hn⟩ := k e w' hr
  exact hn
set_option maxHeartbeats 16000000 in
set_option maxRecDepth 100000 in
theorem all_calls {b mb : Nat} {K : Bk} {F : List Int} {s0 : St} {m l sb : Nat} {fuel : Int} (hfu : fuel < 9223372036854775807) (J : List Evt → World → Prop)
    (hJ : ∀ evs W W', J evs W → But [b, K.rb, sb] W W' → J evs W')
    (hY : ∀ evs ev W, J evs W → evs.length < fuel.toNat → YieldAt Fence.wide (m - 1) Try.prog l #[evV ev] W (fun e W' => e = .returned (.bool true) ∧ J (evs ++ [ev]) W' ∧ Keeps [b, mb, K.fb, K.rb, sb] W W'))
    (W1 : World) (hB : Box b mb K F s0 W1) (hS : IsS sb ⟨b, 0, none⟩ fuel 0 0 W1) (h0 : J [] W1) :
    CallsIn Fence.wide m Try.prog 60 #[.pointer (some ⟨sb, 0, none⟩), .func (.yield l) #[] #[]] W1 (fun e W' => (∃ v, e = .returned v) ∧ J (evsT K F fuel.toNat s0) W' ∧ Box b mb K F (runT K F fuel.toNat s0).2.2 W' ∧ IsS sb ⟨b, 0, none⟩ fuel (runT K F fuel.toNat s0).1 (runT K F fuel.toNat s0).2.1 W') := by
  have HJ := Lib.hid hJ
  have HY := Lib.hid (show ∀ evs ep ew ek ea ez W, J evs W → evs.length < fuel.toNat → YieldAt Fence.wide (m - 1) Try.prog l #[.agg #[.int .u32 ep, .int .u32 ew, .int .i64 ek, .int .u32 ea, .int .i64 ez]] W (fun e W' => e = .returned (.bool true) ∧ J (evs ++ [⟨ep, ew, ⟨ek, ea, ez⟩⟩]) W' ∧ Keeps [b, mb, K.fb, K.rb, sb] W W') from fun evs ep ew ek ea ez W => hY evs ⟨ep, ew, ⟨ek, ea, ez⟩⟩ W)
  have HB := Lib.hid hB
  have HS := Lib.hid hS
  have H0 := Lib.hid h0
  clear hJ hY hB hS h0
  refine callsIn_of_wp Try.func60 rfl trivial ?_ rfl
  simp only [Try.ntmps60, List.size_toArray, List.length_cons, List.length_nil, Nat.reduceAdd, Nat.reduceSub, Array.replicate_succ, Array.replicate_zero, List.push_toArray, List.append_toArray, List.nil_append, List.cons_append]
  gi_wp2
  gi_loopw [5] (fun _ wr => ∃ (k : Nat) (evs : List Evt) (s : St), Go.RowKit.Hid (J evs wr) ∧ Go.RowKit.Hid (Box b mb K F s wr) ∧ Go.RowKit.Hid (IsS sb ⟨b, 0, none⟩ fuel (k : Int) 0 wr) ∧ evs.length = k ∧ k ≤ fuel.toNat ∧ runT K F fuel.toNat s0 = (k + (runT K F (fuel.toNat - k) s).1, (runT K F (fuel.toNat - k) s).2) ∧ evsT K F fuel.toNat s0 = evs ++ evsT K F (fuel.toNat - k) s) (fun _ wr => leftS sb fuel wr)
  case atStart => exact ⟨0, [], s0, H0, HB, HS, rfl, Nat.zero_le _, by simp, by simp⟩
  case round =>
    obtain ⟨k, evs, s, hJ, hB, hS, hl, hk, hr, he⟩ := hrel
    have c0 := cell_of_heap (show wr.heap[sb]? = some (.cells _ _ (0, 0)) from hS) 0
    have c1 := cell_of_heap (show wr.heap[sb]? = some (.cells _ _ (0, 0)) from hS) 1
    have c2 := cell_of_heap (show wr.heap[sb]? = some (.cells _ _ (0, 0)) from hS) 2
    simp at c0 c1 c2
    have n1 : sb ≠ b := blkNe hS hB.m.1 (by decide)
    have n2 : sb ≠ K.rb := blkNe hS hB.mem.ram (by decide)
    have n3 : sb ≠ mb := blkNe hS hB.mem.mem (by decide)
    have n4 : sb ≠ K.fb := blkNe hS hB.mem.flash (by decide)
    have hlt : sb < wr.heap.size := lt_of_heap hS
    by_cases q : (k : Int) < fuel
    · have hs' := step_calls (hB.below (Below.refl _ wr).drew)
      have hr' : runT K F (fuel.toNat - k) s = if (stepT K F s).2.1 = 0 then ((runT K F (fuel.toNat - (k + 1)) (stepT K F s).2.2).1 + 1, (runT K F (fuel.toNat - (k + 1)) (stepT K F s).2.2).2) else (0, (stepT K F s).2.1, (stepT K F s).2.2) := by
        rw [show fuel.toNat - k = (fuel.toNat - (k + 1)) + 1 by omega]; rfl
      have he' : evsT K F (fuel.toNat - k) s = if (stepT K F s).2.1 = 0 then (stepT K F s).1 :: evsT K F (fuel.toNat - (k + 1)) (stepT K F s).2.2 else [] := by
        rw [show fuel.toNat - k = (fuel.toNat - (k + 1)) + 1 by omega]; rfl
      generalize stepT K F s = r at hs' hr' he'
      obtain ⟨⟨ep, ew, ⟨ek, ea, ez⟩⟩, t, s'⟩ := r
      dsimp only at hr' he'
      have Hs := Lib.hid (show Calls Try.prog 20 #[.pointer (some ⟨b, 0, none⟩)] wr.drew (fun e w' => e = .returned (.tuple #[.agg #[.int .u32 ep, .int .u32 ew, .int .i64 ek, .int .u32 ea, .int .i64 ez], .int .i64 t]) ∧ Box b mb K F s' w' ∧ But [b, K.rb] wr.drew w') from hs')
      have HS0 := Lib.hid hS
      clear hs' hS
      have hmix : Try.prog.follows .mixedOrders = true := by kernel_rfl
      by_cases ht : t = 0
      · subst ht
        gi_wp2
        gi_region
        all_goals gi_wp2_with (first
          | (refine ⟨trivial, fun hx => (by cases hx), ?_⟩; (with_reducible refine (callsIn_wide.2 Hs.out).mono ?_); rintro e w2 ⟨rfl, hC2, hB2⟩; have hS2 : w2.heap[sb]? = some (.cells #[.pointer (some ⟨b, 0, none⟩), .int .i64 fuel, .int .i64 (k : Int), .int .i64 0] 123 (0, 0)) := hB2.heap (by simp [n1, n2]) HS0.out; have d2 := cell_of_heap hS2 2; have d3 := cell_of_heap hS2 3; have f3 := frozen_of_heap hS2 3; have f2 := frozen_of_heap hS2 2; simp at d2 d3; have l2 := lt_of_heap hS2; have HB2 := Lib.hid hB2; have HC2 := Lib.hid hC2; clear hC2 hB2))
        refine uponIn_yield rfl (HY.out evs ep ew ek ea ez _ ?_ ?_) ?_
        · refine HJ.out _ _ _ hJ ?_
          refine But.alloc ?_ _
          refine But.set ?_ _ _ ?_
          · exact (But.of_below (Below.refl _ wr).drew).trans (HB2.out.mono (by simp))
          · simp
        · omega
        rintro e w3 ⟨rfl, hJ3, hK3⟩
        refine ⟨_, rfl, ?_⟩
        gi_wp2
        rw [if_pos trivial] at hr' he'
        have hb3 : But [sb] w2 ((w2.setCell ⟨sb, 2, none⟩ (.int .i64 ((k : Int) + 1))).alloc (.cells #[.int .u32 ep, .int .u32 ew, .int .i64 ek, .int .u32 ea, .int .i64 ez] 35)) := ((But.refl _ _).set _ _ (by simp)).alloc _
        have hS3 : IsS sb ⟨b, 0, none⟩ fuel ((k : Int) + 1) 0 w3 := by
          refine (hK3 sb (by simp)).trans ?_
          refine Base.heap_past ?_ ?_
          · rw [World.size_setCell]; exact l2
          · have := heap_set (i := 2) (v := .int .i64 ((k : Int) + 1)) hS2
            simpa using this
        refine ⟨⟨k + 1, evs ++ [(⟨ep, ew, ⟨ek, ea, ez⟩⟩ : Evt)], s', Lib.hid hJ3, (HC2.out.but hb3 (by simpa using Ne.symm n1) (by simpa using Ne.symm n3) (by simpa using Ne.symm n4) (by simpa using Ne.symm n2)).keeps hK3 (by simp) (by simp) (by simp) (by simp), ?_, by simp [hl], by omega, ?_, ?_⟩, ?_⟩
        · rw [show ((k + 1 : Nat) : Int) = (k : Int) + 1 by omega]; exact hS3
        · rw [hr, hr']; dsimp only; congr 1; omega
        · rw [he, he', List.append_assoc]; rfl
        · have z1 := cell_of_heap (show wr.heap[sb]? = some (.cells _ _ (0, 0)) from HS0.out) 2
          have z3 := cell_of_heap (show w3.heap[sb]? = some (.cells _ _ (0, 0)) from hS3) 2
          simp at z1 z3
          unfold leftS
          rw [z1, z3]
          dsimp only
          omega
      · have ht' : (t != 0) = true := by rw [bne_iff_ne]; exact ht
        gi_wp2
        gi_region
        all_goals gi_wp2_with (first
          | (refine ⟨trivial, fun hx => (by cases hx), ?_⟩; (with_reducible refine (callsIn_wide.2 Hs.out).mono ?_); rintro e w2 ⟨rfl, hC2, hB2⟩; have hS2 : w2.heap[sb]? = some (.cells #[.pointer (some ⟨b, 0, none⟩), .int .i64 fuel, .int .i64 (k : Int), .int .i64 0] 123 (0, 0)) := hB2.heap (by simp [n1, n2]) HS0.out; have d2 := cell_of_heap hS2 2; have d3 := cell_of_heap hS2 3; have f3 := frozen_of_heap hS2 3; have f2 := frozen_of_heap hS2 2; simp at d2 d3; have l2 := lt_of_heap hS2; have HB2 := Lib.hid hB2; have HC2 := Lib.hid hC2; clear hC2 hB2))
        go_returns
        rw [if_neg ht] at hr' he'
        rw [hr, he, hr', he', List.append_nil]
        have hb3 : But [sb] w2 ((w2.setCell ⟨sb, 3, none⟩ (.int .i64 t)).alloc (.cells #[.int .u32 ep, .int .u32 ew, .int .i64 ek, .int .u32 ea, .int .i64 ez] 35)) := ((But.refl _ _).set _ _ (by simp)).alloc _
        refine ⟨⟨_, rfl⟩, HJ.out _ _ _ hJ (((But.of_below (Below.refl _ wr).drew).trans (HB2.out.mono (by simp))).trans (hb3.mono (by simp))), HC2.out.but hb3 (by simpa using Ne.symm n1) (by simpa using Ne.symm n3) (by simpa using Ne.symm n4) (by simpa using Ne.symm n2), ?_⟩
        refine Base.heap_past ?_ ?_
        · rw [World.size_setCell]; exact l2
        · have := heap_set (i := 3) (v := .int .i64 t) hS2
          simpa using this
    · have hk' : k = fuel.toNat := by omega
      have HS0 := Lib.hid hS
      clear hS
      have hmix : Try.prog.follows .mixedOrders = true := by kernel_rfl
      gi_wp2
      gi_region
      all_goals gi_wp2
      go_returns
      have e0 : fuel.toNat - k = 0 := by omega
      rw [hr, he, e0]
      refine ⟨⟨_, rfl⟩, ?_, ?_, ?_⟩
      · simpa [evsT] using HJ.out _ _ _ hJ (But.of_below (Below.refl _ wr).drew)
      · exact hB.below (Below.refl _ wr).drew
      · exact HS0.out
end Go.Proofs.Ytioopcilcgebeaa.CpuA
/-! #### ExecC -/
namespace Go.Proofs.Ytioopcilcgebeaa.CpuA
open Go.RowKit Go.Shelf Go.Proofs.Ytioopcilcgebeaa.Base Go.Proofs.Ytioopcilcgebeaa.ExecA
attribute [local go_sem] Oper.semAt_some

theorem putObj_back {W : World} {l : Nat} {o o2 : Obj} (h : W.heap[l]? = some o2) : (W.putObj l o).putObj l o2 = W := by
  obtain ⟨hl, he⟩ := Array.getElem?_eq_some_iff.1 h
  unfold World.putObj
  have : (W.heap.setIfInBounds l o).setIfInBounds l o2 = W.heap := by
    rw [Array.setIfInBounds_setIfInBounds]
    apply Array.ext_getElem?
    intro i
    rw [Array.getElem?_setIfInBounds]
    split
    · subst_vars; simp [hl]
    · rfl
  dsimp only
  rw [this]
theorem yield_skip {F : Fence} {n : Nat} {P : Program} {l : Nat} {fn : FuncId} {tmps : Array Value} {ps : Array Tmp} {body : Code} {D : Nat} {args : Array Value} {W : World} {R : Ending → World → Prop} (hfn : F.fn fn)
    (hl : W.heap[l]? = some (.loop (recL fn tmps ps .skip body D .ready))) (hs : args.size = ps.size)
    (hbody : body.wpIn (F.inRound l) n P (fun e _ W3 => e = .normal ∧ W3.heap[l]? = some (.loop (recL fn tmps ps .skip body D .busy)) ∧ R (.returned (.bool true)) (W3.putObj l (.loop (recL fn tmps ps .skip body D .ready)))) { tmps := (ps.zip args).foldl (fun t (p, v) => t.setIfInBounds p v) tmps, defers := [] } (W.putObj l (.loop (recL fn tmps ps .skip body D .busy)))) :
    YieldAt F n P l args W R := yield_in hfn hl hs _ (fun K hK => wpIn_skip hK) hbody
theorem But.putObj {l : List Nat} {a b : World} (h : But l a b) (r : Nat) (o : Obj) (hm : r ∈ l ∨ a.heap.size ≤ r) : But l a (b.putObj r o) := by
  refine ⟨h.os, h.tape, h.output, by rw [World.putObj_size]; exact h.size, fun n hn hl => ?_⟩
  rw [← h.block n hn hl]
  refine World.putObj_heap_other ?_
  rintro rfl
  rcases hm with hm | hm
  · exact hl hm
  · omega
set_option maxHeartbeats 16000000 in
set_option maxRecDepth 100000 in
theorem run_calls {b mb : Nat} {K : Bk} {F : List Int} {s : St} {w : World} (h : Box b mb K F s w) (fuel : Int) (hfu : fuel < 9223372036854775807) :
    Calls Try.prog 26 #[.pointer (some ⟨b, 0, none⟩), .int .i64 fuel] w fun e w' => e = .returned (.tuple #[.int .i64 (runT K F fuel.toNat s).1, .int .i64 (runT K F fuel.toNat s).2.1]) ∧ Box b mb K F (runT K F fuel.toNat s).2.2 w' ∧ But [b, K.rb] w w' := by
  have H := Lib.hid h
  have l1 := lt_of_heap h.m.1
  have l2 := lt_of_heap h.mem.mem
  have l3 := lt_of_heap h.mem.flash
  have l4 := lt_of_heap h.mem.ram
  clear h
  have h3 : 1 ≤ 3 := by omega
  refine (callsIn_wide (n := 3)).1 ?_
  refine callsIn_of_wp_marks Try.func26 rfl trivial ?_
  simp only [Try.ntmps26, List.size_toArray, List.length_cons, List.length_nil, Nat.reduceAdd, Nat.reduceSub, Array.replicate_succ, Array.replicate_zero, List.push_toArray, List.append_toArray, List.nil_append, List.cons_append]
  gi_wp2
  obtain ⟨W0, hW0⟩ : ∃ W0, w.alloc (.cells #[.pointer (some ⟨b, 0, none⟩), .int .i64 fuel, .int .i64 0, .int .i64 0] 123) = W0 := ⟨_, rfl⟩
  have Z0 : RowKit.Hid (W0.heap.size = w.heap.size + 1) := Lib.hid (by rw [← hW0, World.size_alloc])
  have hb0 : Below w.heap.size w W0 := by rw [← hW0]; exact (Below.refl _ _).alloc (Nat.le_refl _) _
  have hS0 : IsS w.heap.size ⟨b, 0, none⟩ fuel 0 0 W0 := by rw [← hW0]; exact heap_at _ _ _ rfl
  rw [hW0]
  refine wpIn_range rfl h3 (gf := 60) (bd := #[.pointer (some ⟨w.heap.size, 0, none⟩)]) rfl trivial (enters_of Try.func60 (by kernel_rfl) rfl) (fun W => Box b mb K F (runT K F fuel.toNat s).2.2 W ∧ IsS w.heap.size ⟨b, 0, none⟩ fuel (runT K F fuel.toNat s).1 (runT K F fuel.toNat s).2.1 W ∧ But [b, K.rb, w.heap.size] W0 W) ?call ?done
  case call =>
    intro fn hfn W1 hW1
    have b1 : Below W0.heap.size W0 W1 := by rw [hW1]; exact ((Below.refl _ _).alloc (Nat.le_refl _) _).alloc (by simp) _
    have hl1 := (show W1.heap[W0.heap.size + 1]? = some (.loop _) from by rw [hW1]; exact heap_at _ _ _ (by simp))
    have hD1 : W1.heap[W0.heap.size]? = some (.deferred (some [])) := by rw [hW1]; exact heap_past (by simp) (heap_at _ _ _ rfl)
    clear hW1
    refine (all_calls (s0 := s) (sb := w.heap.size) hfu (fun _ W => W.heap[W0.heap.size + 1]? = W1.heap[W0.heap.size + 1]? ∧ W.heap[W0.heap.size]? = some (.deferred (some [])) ∧ But [b, K.rb, w.heap.size] W0 W) ?hJ ?hY W1 ((H.out.below hb0).below b1) (heap_below b1 hS0) ⟨rfl, hD1, But.of_below b1⟩).mono ?_
    case hJ =>
      rintro _ W W' ⟨h1, h2, h3⟩ hb
      rw [hl1] at h1
      have z0 := Z0.out
      exact ⟨(hb.heap (by simp; omega) h1).trans hl1.symm, hb.heap (by simp; omega) h2, h3.trans hb⟩
    case hY =>
      rintro evs ev W ⟨h1, h2, h3⟩ _
      rw [hl1] at h1
      refine yield_skip trivial h1 rfl ?_
      · gi_wp2
        refine ⟨World.putObj_heap_same (lt_of_heap h1), ?_⟩
        rw [putObj_back h1]
        refine ⟨⟨?_, h2, h3⟩, fun _ _ => rfl⟩
        rw [h1]
    · rintro e W2 ⟨hv, ⟨h1, h2, h3⟩, h4, h5⟩
      exact ⟨hv, h1.trans hl1, h2, h4, h5, h3⟩
  case done =>
    rintro fn W ⟨hB, hS, hb⟩ hl hD
    generalize hW2 : World.putObj W (W0.heap.size + 1) _ = W2
    have z0 := Z0.out
    have hS2 : W2.heap[w.heap.size]? = some (.cells #[.pointer (some ⟨b, 0, none⟩), .int .i64 fuel, .int .i64 ((runT K F fuel.toNat s).1 : Int), .int .i64 (runT K F fuel.toNat s).2.1] 123 (0, 0)) := by rw [← hW2]; exact (World.putObj_heap_other (by omega)).trans hS
    have hD2 : W2.heap[W0.heap.size]? = some (.deferred (some [])) := by rw [← hW2]; exact (World.putObj_heap_other (by omega)).trans hD
    have hk2 : Keeps [b, mb, K.fb, K.rb] W W2 := by
      intro k hk
      rw [← hW2]
      refine World.putObj_heap_other ?_
      simp only [List.mem_cons, List.not_mem_nil, or_false] at hk
      rcases hk with rfl | rfl | rfl | rfl <;> omega
    have hb2 : But [b, K.rb] w W2 := by
      rw [← hW2]
      exact (((But.of_below hb0 : But [b, K.rb, w.heap.size] w W0).trans hb).putObj (W0.heap.size + 1) _ (.inr (by omega))).lose (by
        intro k hk
        simp only [List.mem_cons, List.not_mem_nil, or_false] at hk ⊢
        omega)
    have hB2 := Lib.hid (hB.keeps hk2 (by simp) (by simp) (by simp) (by simp))
    have c2 := cell_of_heap hS2 2
    have c3 := cell_of_heap hS2 3
    simp at c2 c3
    have Hb2 := Lib.hid hb2
    have HD2 := Lib.hid hD2
    clear hB hS hb hl hD hW2 hS2 hD2 hk2 hb2 z0 hS0 hb0 hW0
    have hmix : Try.prog.follows .mixedOrders = true := by kernel_rfl
    dsimp only
    gi_wp2
    gi_region
    all_goals gi_wp2
    refine ⟨by simp, .inl ⟨_, _, rfl, run_takeDeferred HD2.out, ?_⟩⟩
    refine ⟨.tuple #[.int .i64 ((runT K F fuel.toNat s).1 : Int), .int .i64 (runT K F fuel.toNat s).2.1], ?_, rfl, ?_, ?_⟩
    · simp [results, Try.results26, go_sem]
    · have z0 := Z0.out
      refine (hB2.out.below (Below.refl _ W2).drew).keeps (l := [b, mb, K.fb, K.rb]) (fun k hk => World.putObj_heap_other ?_) (by simp) (by simp) (by simp) (by simp)
      simp only [List.mem_cons, List.not_mem_nil, or_false] at hk
      rcases hk with rfl | rfl | rfl | rfl <;> omega
    · have z0 := Z0.out
      exact (Hb2.out.trans (But.of_below (Below.refl _ W2).drew)).putObj _ _ (.inr (by omega))
/-! A run of nobody. -/
set_option maxHeartbeats 16000000 in
set_option maxRecDepth 100000 in
theorem all_nil {m sb : Nat} {y : Value} {fuel : Int} (W1 : World) (hS : W1.heap[sb]? = some (.cells #[.pointer none, .int .i64 fuel, .int .i64 0, .int .i64 0] 123 (0, 0))) :
    CallsIn Fence.wide m Try.prog 60 #[.pointer (some ⟨sb, 0, none⟩), y] W1 (fun e W' => (∃ v, e = .returned v) ∧ W'.heap[sb]? = some (.cells #[.pointer none, .int .i64 fuel, .int .i64 0, .int .i64 (if 0 < fuel then 2 else 0)] 123 (0, 0)) ∧ But [sb] W1 W') := by
  generalize hg : (if 0 < fuel then (2 : Int) else 0) = tr
  have HG := Lib.hid hg
  have HS := Lib.hid hS
  have hlt := lt_of_heap hS
  have c0 := cell_of_heap hS 0
  have c1 := cell_of_heap hS 1
  have c2 := cell_of_heap hS 2
  simp at c0 c1 c2
  clear hS hg
  refine callsIn_of_wp Try.func60 rfl trivial ?_ rfl
  simp only [Try.ntmps60, List.size_toArray, List.length_cons, List.length_nil, Nat.reduceAdd, Nat.reduceSub, Array.replicate_succ, Array.replicate_zero, List.push_toArray, List.append_toArray, List.nil_append, List.cons_append]
  have hmix : Try.prog.follows .mixedOrders = true := by kernel_rfl
  gi_wp2
  gi_loopw [5] (fun _ wr => wr = W1) (fun _ _ => 0)
  case atStart => rfl
  case round =>
    subst hrel
    by_cases q : 0 < fuel
    · have hg := HG.out
      rw [if_pos q] at hg
      subst hg
      gi_wp2
      gi_region
      all_goals gi_wp2_with (first
        | (refine ⟨trivial, fun hx => (by cases hx), ?_⟩; (with_reducible refine (callsIn_wide.2 (step_nil _)).mono ?_); rintro e w2 ⟨rfl, hB2⟩; have hS2 : w2.heap[sb]? = some (.cells #[.pointer none, .int .i64 fuel, .int .i64 0, .int .i64 0] 123 (0, 0)) := heap_below hB2 HS.out; have d3 := cell_of_heap hS2 3; have f3 := frozen_of_heap hS2 3; simp at d3; have l2 := lt_of_heap hS2; have HB2 := Lib.hid hB2; clear hB2))
      go_returns
      refine ⟨⟨_, rfl⟩, ?_, ?_⟩
      · refine Base.heap_past ?_ ?_
        · rw [World.size_setCell]; exact l2
        · have := heap_set (i := 3) (v := .int .i64 2) hS2
          simpa using this
      · exact (((But.of_below (Below.refl _ _).drew).trans (But.of_below HB2.out)).set _ _ (by simp)).alloc _
    · have hg := HG.out
      rw [if_neg q] at hg
      subst hg
      gi_wp2
      gi_region
      all_goals gi_wp2
      go_returns
      exact ⟨⟨_, rfl⟩, HS.out, But.of_below (Below.refl _ _).drew⟩
set_option maxHeartbeats 16000000 in
set_option maxRecDepth 100000 in
theorem run_nil (fuel : Int) (w : World) :
    Calls Try.prog 26 #[.pointer none, .int .i64 fuel] w fun e w' => e = .returned (.tuple #[.int .i64 0, .int .i64 (if 0 < fuel then 2 else 0)]) ∧ Below w.heap.size w w' := by
  generalize hg : (if 0 < fuel then (2 : Int) else 0) = tr
  have HG := Lib.hid hg
  clear hg
  have h3 : 1 ≤ 3 := by omega
  refine (callsIn_wide (n := 3)).1 ?_
  refine callsIn_of_wp_marks Try.func26 rfl trivial ?_
  simp only [Try.ntmps26, List.size_toArray, List.length_cons, List.length_nil, Nat.reduceAdd, Nat.reduceSub, Array.replicate_succ, Array.replicate_zero, List.push_toArray, List.append_toArray, List.nil_append, List.cons_append]
  gi_wp2
  obtain ⟨W0, hW0⟩ : ∃ W0, w.alloc (.cells #[.pointer none, .int .i64 fuel, .int .i64 0, .int .i64 0] 123) = W0 := ⟨_, rfl⟩
  have Z0 : RowKit.Hid (W0.heap.size = w.heap.size + 1) := Lib.hid (by rw [← hW0, World.size_alloc])
  have hb0 : Below w.heap.size w W0 := by rw [← hW0]; exact (Below.refl _ _).alloc (Nat.le_refl _) _
  have hS0 : W0.heap[w.heap.size]? = some (.cells #[.pointer none, .int .i64 fuel, .int .i64 0, .int .i64 0] 123 (0, 0)) := by rw [← hW0]; exact heap_at _ _ _ rfl
  rw [hW0]
  refine wpIn_range rfl h3 (gf := 60) (bd := #[.pointer (some ⟨w.heap.size, 0, none⟩)]) rfl trivial (enters_of Try.func60 (by kernel_rfl) rfl) (fun W => W.heap[w.heap.size]? = some (.cells #[.pointer none, .int .i64 fuel, .int .i64 0, .int .i64 tr] 123 (0, 0)) ∧ But [w.heap.size] W0 W) ?call ?done
  case call =>
    intro fn hfn W1 hW1
    have b1 : Below W0.heap.size W0 W1 := by rw [hW1]; exact ((Below.refl _ _).alloc (Nat.le_refl _) _).alloc (by simp) _
    have hl1 := (show W1.heap[W0.heap.size + 1]? = some (.loop _) from by rw [hW1]; exact heap_at _ _ _ (by simp))
    have hD1 : W1.heap[W0.heap.size]? = some (.deferred (some [])) := by rw [hW1]; exact heap_past (by simp) (heap_at _ _ _ rfl)
    clear hW1
    refine (all_nil (sb := w.heap.size) W1 (heap_below b1 hS0)).mono ?_
    rintro e W2 ⟨hv, h1, h2⟩
    rw [HG.out] at h1
    have z0 := Z0.out
    exact ⟨hv, h2.heap (by simp; omega) hl1, h2.heap (by simp; omega) hD1, h1, (But.of_below b1).trans h2⟩
  case done =>
    rintro fn W ⟨hS, hb⟩ hl hD
    generalize hW2 : World.putObj W (W0.heap.size + 1) _ = W2
    have z0 := Z0.out
    have hS2 : W2.heap[w.heap.size]? = some (.cells #[.pointer none, .int .i64 fuel, .int .i64 0, .int .i64 tr] 123 (0, 0)) := by rw [← hW2]; exact (World.putObj_heap_other (by omega)).trans hS
    have hD2 : W2.heap[W0.heap.size]? = some (.deferred (some [])) := by rw [← hW2]; exact (World.putObj_heap_other (by omega)).trans hD
    have hb2 : But [] w W2 := by
      rw [← hW2]
      exact (((But.of_below hb0 : But [w.heap.size] w W0).trans hb).putObj (W0.heap.size + 1) _ (.inr (by omega))).lose (by
        intro k hk
        simp only [List.mem_cons, List.not_mem_nil, or_false] at hk ⊢
        omega)
    have c2 := cell_of_heap hS2 2
    have c3 := cell_of_heap hS2 3
    simp at c2 c3
    have Hb2 := Lib.hid hb2
    have HD2 := Lib.hid hD2
    clear hS hb hl hD hW2 hS2 hD2 hb2 z0 hS0 hb0 hW0
    have hmix : Try.prog.follows .mixedOrders = true := by kernel_rfl
    dsimp only
    gi_wp2
    gi_region
    all_goals gi_wp2
    refine ⟨by simp, .inl ⟨_, _, rfl, run_takeDeferred HD2.out, ?_⟩⟩
    refine ⟨.tuple #[.int .i64 0, .int .i64 tr], ?_, rfl, ?_⟩
    · simp [results, Try.results26, go_sem]
    · have z0 := Z0.out
      exact below_of_but ((Hb2.out.trans (But.of_below (Below.refl _ W2).drew)).putObj _ _ (.inr (by omega)))
end Go.Proofs.Ytioopcilcgebeaa.CpuA
