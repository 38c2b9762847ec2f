/- exec.Path. -/
import Derived.Test.YtioopcilcgebeaaExecG
set_option linter.unusedVariables false
set_option linter.unusedSimpArgs false
namespace Go.Proofs.Ytioopcilcgebeaa.CpuA
open Go.RowKit Go.Shelf Go.Proofs.Ytioopcilcgebeaa.Base Go.Proofs.Ytioopcilcgebeaa.ExecA Go.Proofs.YtioopcilcgebeaaW.PrintWords Go.Proofs.YtioopcilcgebeaaW.PrintMore
attribute [local go_sem] Oper.semAt_some max2_int min2_int max_two min_two

/-- A number's next one. -/
def mixS (way n : Int) : Int := Go.bits .xor .u32 way n * 16777619 % 4294967296
def evMix (way : Int) (v : Evt) : Int := mixS (mixS (mixS (mixS way v.pc) (v.did.kind % 4294967296)) v.did.addr) (v.did.size % 4294967296)
/-- The way behind the first k of an event's four numbers. -/
def mixK (way : Int) (v : Evt) : Nat → Int
  | 0 => way
  | 1 => mixS way v.pc
  | 2 => mixS (mixS way v.pc) (v.did.kind % 4294967296)
  | 3 => mixS (mixS (mixS way v.pc) (v.did.kind % 4294967296)) v.did.addr
  | _ => evMix way v
def pathS (l : List Evt) : Int := l.foldl evMix 2166136261
theorem pathS_snoc (l : List Evt) (v : Evt) : pathS (l ++ [v]) = evMix (pathS l) v := by simp [pathS]
theorem idx134_0 (a b c d : Int) (w : World) : (Instr.index 134 (.agg #[.int .u32 a, .int .u32 b, .int .u32 c, .int .u32 d]) (.int .i64 0)).run Try.prog w = .ok (.int .u32 a) w := by kernel_rfl
theorem idx134_1 (a b c d : Int) (w : World) : (Instr.index 134 (.agg #[.int .u32 a, .int .u32 b, .int .u32 c, .int .u32 d]) (.int .i64 1)).run Try.prog w = .ok (.int .u32 b) w := by kernel_rfl
theorem idx134_2 (a b c d : Int) (w : World) : (Instr.index 134 (.agg #[.int .u32 a, .int .u32 b, .int .u32 c, .int .u32 d]) (.int .i64 2)).run Try.prog w = .ok (.int .u32 c) w := by kernel_rfl
theorem idx134_3 (a b c d : Int) (w : World) : (Instr.index 134 (.agg #[.int .u32 a, .int .u32 b, .int .u32 c, .int .u32 d]) (.int .i64 3)).run Try.prog w = .ok (.int .u32 d) w := by kernel_rfl
attribute [local go_sem] idx134_0 idx134_1 idx134_2 idx134_3
/-- Behind exec.Path. -/
def EPath (b mb : Nat) (K : Bk) (F : List Int) (r : Nat × Int × St) (evs : List Evt) (w : World) (e : Ending) (w' : World) : Prop :=
  e = .returned (.tuple #[.int .u32 (pathS evs), .int .i64 r.2.1]) ∧ Box b mb K F r.2.2 w' ∧ But [b, K.rb] w w'
set_option maxHeartbeats 16000000 in
set_option maxRecDepth 100000 in
theorem path_calls {b mb : Nat} {K : Bk} {F : List Int} {s : St} {w : World} (h : Box b mb K F s w) (fuel : Int) (hfu : fuel ≤ 100) :
    Calls Try.prog 35 #[.pointer (some ⟨b, 0, none⟩), .int .i64 fuel] w (EPath b mb K F (runT K F fuel.toNat s) (evsT K F fuel.toNat s) w) := by
  have H := Lib.hid h
  have l1 := lt_of_heap h.m.1
  have l2 := lt_of_heap h.mem.mem
  have l3 := lt_of_heap h.mem.flash
  have l4 := lt_of_heap h.mem.ram
  clear h
  have h3 : 1 ≤ 3 := by omega
  refine (callsIn_wide (n := 3)).1 ?_
  refine callsIn_of_wp_marks Try.func35 rfl trivial ?_
  simp only [Try.ntmps35, List.size_toArray, List.length_cons, List.length_nil, Nat.reduceAdd, Nat.reduceSub, Array.replicate_succ, Array.replicate_zero, List.push_toArray, List.append_toArray, List.nil_append, List.cons_append]
  have dfu : decide (100000 < fuel) = false := decide_eq_false (by omega)
  gi_wp2
  obtain ⟨W0, hW0⟩ : ∃ W0, (w.alloc (.cells #[.pointer (some ⟨b, 0, none⟩), .int .i64 fuel, .int .i64 0, .int .i64 0] 123)).alloc (.cells #[.int .u32 2166136261] 22) = W0 := ⟨_, rfl⟩
  have Z0 : RowKit.Hid (W0.heap.size = w.heap.size + 2) := Lib.hid (by rw [← hW0]; simp)
  have hb0 : Below w.heap.size w W0 := by rw [← hW0]; (exact blZ)
  have hS0 : IsS w.heap.size ⟨b, 0, none⟩ fuel 0 0 W0 := by rw [← hW0]; exact heap_past (by simp) (heap_at _ _ _ rfl)
  have hO0 : W0.heap[w.heap.size + 1]? = some (.cells #[.int .u32 2166136261] 22 (0, 0)) := by rw [← hW0]; exact heap_at _ _ _ (by simp)
  rw [hW0]
  refine wpIn_range rfl h3 (gf := 60) (bd := #[.pointer (some ⟨w.heap.size, 0, none⟩)]) rfl trivial (enters_of Try.func60 (by kernel_rfl) rfl) (fun W => Box b mb K F (runT K F fuel.toNat s).2.2 W ∧ IsS w.heap.size ⟨b, 0, none⟩ fuel (runT K F fuel.toNat s).1 (runT K F fuel.toNat s).2.1 W ∧
    W.heap[w.heap.size + 1]? = some (.cells #[.int .u32 (pathS (evsT K F fuel.toNat s))] 22 (0, 0)) ∧ But [b, K.rb, w.heap.size, w.heap.size + 1] W0 W) ?call ?done
  case call =>
    intro fn hfn W1 hW1
    have b1 : Below W0.heap.size W0 W1 := by rw [hW1]; exact ((Below.refl _ _).alloc (Nat.le_refl _) _).alloc (by simp) _
    have hl1 := (show W1.heap[W0.heap.size + 1]? = some (.loop _) from by rw [hW1]; exact heap_at _ _ _ (by simp))
    have hD1 : W1.heap[W0.heap.size]? = some (.deferred (some [])) := by rw [hW1]; exact heap_past (by simp) (heap_at _ _ _ rfl)
    clear hW1
    refine (all_calls (s0 := s) (sb := w.heap.size) (by omega) (fun evs W => W.heap[W0.heap.size + 1]? = W1.heap[W0.heap.size + 1]? ∧ W.heap[W0.heap.size]? = some (.deferred (some [])) ∧ W.heap[w.heap.size + 1]? = some (.cells #[.int .u32 (pathS evs)] 22 (0, 0)) ∧ But [b, K.rb, w.heap.size, w.heap.size + 1] W0 W) ?hJ ?hY W1 ((H.out.below hb0).below b1) (heap_below b1 hS0) ⟨rfl, hD1, heap_below b1 hO0, But.of_below b1⟩).mono ?_
    case hJ =>
      rintro evs W W' ⟨h1, h2, ho, hb⟩ hB
      rw [hl1] at h1
      have z0 := Z0.out
      exact ⟨(hB.heap (by simp; omega) h1).trans hl1.symm, hB.heap (by simp; omega) h2, hB.heap (by simp; omega) ho, hb.trans (hB.mono (by simp))⟩
    case hY =>
      rintro evs ev W ⟨h1, h2, ho, hb⟩ hlen
      rw [hl1] at h1
      have hws := lt_of_heap h1
      rw [pathS_snoc]
      obtain ⟨ep, ew, ⟨ek, ea, ez⟩⟩ := ev
      generalize pathS evs = way at *
      refine yield_gen trivial h1 rfl ?_
      unfold evV
      dsimp only
      have HO := Lib.hid ho
      have HB := Lib.hid hb
      have H1 := Lib.hid h1
      have H2 := Lib.hid h2
      have HL1 := Lib.hid hl1
      clear ho hb h1 h2 hl1 hD1 hS0 hO0 hW0
      gi_wp2
      refine ⟨heap_past hws H1.out, ?_⟩
      have bX0 : But [W0.heap.size + 1] W ((W.alloc (.cells #[.int .u32 ep, .int .u32 ew, .int .i64 ek, .int .u32 ea, .int .i64 ez] 35))) := (But.refl _ _).alloc _
      have hEX0 : (W.alloc (.cells #[.int .u32 ep, .int .u32 ew, .int .i64 ek, .int .u32 ea, .int .i64 ez] 35)).heap[W.heap.size]? = some (.cells #[.int .u32 ep, .int .u32 ew, .int .i64 ek, .int .u32 ea, .int .i64 ez] 35 (0, 0)) := heap_at _ _ _ rfl
      have sX0 : (W.alloc (.cells #[.int .u32 ep, .int .u32 ew, .int .i64 ek, .int .u32 ea, .int .i64 ez] 35)).heap.size = W.heap.size + 1 := zA _ _
      generalize W.alloc (.cells #[.int .u32 ep, .int .u32 ew, .int .i64 ek, .int .u32 ea, .int .i64 ez] 35) = Y at *
      generalize hX : World.putObj Y (W0.heap.size + 1) _ = X
      have bX : But [W0.heap.size + 1] W X := by rw [← hX]; exact bX0.putObj _ _ (.inl (by simp))
      have hlX := (show X.heap[W0.heap.size + 1]? = some (.loop _) from by rw [← hX]; exact World.putObj_heap_same (by omega))
      have z0 := Z0.out
      have sX : X.heap.size = W.heap.size + 1 := by rw [← hX, World.putObj_size]; exact sX0
      have hEX : X.heap[W.heap.size]? = some (.cells #[.int .u32 ep, .int .u32 ew, .int .i64 ek, .int .u32 ea, .int .i64 ez] 35 (0, 0)) := by rw [← hX]; exact (World.putObj_heap_other (by omega)).trans hEX0
      have hOX : X.heap[w.heap.size + 1]? = some (.cells #[.int .u32 way] 22 (0, 0)) := bX.heap (by simp; omega) HO.out
      have e0 := cell_of_heap hEX 0
      have e1 := cell_of_heap hEX 1
      have e2 := cell_of_heap hEX 2
      have e3 := cell_of_heap hEX 3
      have e4 := cell_of_heap hEX 4
      simp at e0 e1 e2 e3 e4
      have HOX := Lib.hid hOX
      have HBX := Lib.hid bX
      have HLX := Lib.hid hlX
      have SX := Lib.hid sX
      clear hX bX hlX hEX hOX bX0 hEX0 sX0 z0 sX
      gi_wp2
      gi_loopw [30] (fun i wr => ∃ k : Nat, k ≤ 4 ∧ i = .int .i64 (k : Int) ∧ RowKit.Hid (wr.heap[w.heap.size + 1]? = some (.cells #[.int .u32 (mixK way ⟨ep, ew, ⟨ek, ea, ez⟩⟩ k)] 22 (0, 0))) ∧ RowKit.Hid (But [w.heap.size + 1] X wr)) (fun i _ => 4 - (intOf i).toNat)
      case atStart => exact ⟨0, by omega, rfl, HOX, Lib.hid (But.refl _ _)⟩
      case round =>
        obtain ⟨k, hk, rfl, hO, hbe⟩ := hrel
        have cO := cell_of_heap hO.out 0
        have fO := frozen_of_heap hO.out 0
        simp at cO
        have hset := fun v => heap_set (i := 0) (v := v) hO.out
        simp at hset
        have hb9 := fun v => hbe.out.set ⟨w.heap.size + 1, 0, none⟩ v (.inl (by simp))

        have : k = 0 ∨ k = 1 ∨ k = 2 ∨ k = 3 ∨ k = 4 := by omega
        rcases this with rfl | rfl | rfl | rfl | rfl
        · gi_wp2
          exact ⟨⟨1, by omega, rfl, Lib.hid (hset _), Lib.hid (hb9 _)⟩, by simp [intOf]⟩
        · gi_wp2
          exact ⟨⟨2, by omega, rfl, Lib.hid (hset _), Lib.hid (hb9 _)⟩, by simp [intOf]⟩
        · gi_wp2
          exact ⟨⟨3, by omega, rfl, Lib.hid (hset _), Lib.hid (hb9 _)⟩, by simp [intOf]⟩
        · gi_wp2
          exact ⟨⟨4, by omega, rfl, Lib.hid (hset _), Lib.hid (hb9 _)⟩, by simp [intOf]⟩
        · gi_wp2
          have z0 := Z0.out
          have sX := SX.out
          have hlS := hbe.out.heap (by simp; omega) HLX.out
          have bS : But [W0.heap.size + 1, w.heap.size + 1] W wr := (HBX.out.mono (by simp)).trans (hbe.out.mono (by simp))
          refine ⟨hlS, ⟨(World.putObj_heap_same (lt_of_heap hlS)).trans HL1.out.symm, (World.putObj_heap_other (by omega)).trans (bS.heap (by simp; omega) H2.out), (World.putObj_heap_other (by omega)).trans hO.out, ?_⟩, ?_⟩
          · refine but_join HB.out (bS.putObj _ _ (.inl (by simp))) (fun r hr => ?_)
            rcases List.mem_cons.1 hr with rfl | hr
            · right; omega
            · left; rw [List.mem_singleton] at hr; subst hr; simp
          · intro k hk
            refine (bS.putObj (W0.heap.size + 1) _ (.inl (by simp))).block k ?_ ?_
            · simp only [List.mem_cons, List.not_mem_nil, or_false] at hk
              rcases hk with rfl | rfl | rfl | rfl | rfl <;> omega
            · intro hm
              simp only [List.mem_cons, List.not_mem_nil, or_false] at hk hm
              rcases hk with rfl | rfl | rfl | rfl | rfl <;> omega
    · rintro e W2 ⟨hv, ⟨h1, h2, h3, h6⟩, h4, h5⟩
      exact ⟨hv, h1.trans hl1, h2, h4, h5, h3, h6⟩
  case done =>
    rintro fn W ⟨hB, hS, ho, hb⟩ hl hD
    generalize hW2 : World.putObj W (W0.heap.size + 1) _ = W2
    have z0 := Z0.out
    have hS2 : W2.heap[w.heap.size]? = some (.cells #[.pointer (some ⟨b, 0, none⟩), .int .i64 fuel, .int .i64 ((runT K F fuel.toNat s).1 : Int), .int .i64 (runT K F fuel.toNat s).2.1] 123 (0, 0)) := by rw [← hW2]; exact (World.putObj_heap_other (by omega)).trans hS
    have hO2 : W2.heap[w.heap.size + 1]? = some (.cells #[.int .u32 (pathS (evsT K F fuel.toNat s))] 22 (0, 0)) := by rw [← hW2]; exact (World.putObj_heap_other (by omega)).trans ho
    have hD2 : W2.heap[W0.heap.size]? = some (.deferred (some [])) := by rw [← hW2]; exact (World.putObj_heap_other (by omega)).trans hD
    have hk2 : Keeps [b, mb, K.fb, K.rb] W W2 := by
      intro k hk
      rw [← hW2]
      refine World.putObj_heap_other ?_
      simp only [List.mem_cons, List.not_mem_nil, or_false] at hk
      rcases hk with rfl | rfl | rfl | rfl <;> omega
    have hb2 : But [b, K.rb] w W2 := by
      rw [← hW2]
      exact (((But.of_below hb0 : But [b, K.rb, w.heap.size, w.heap.size + 1] w W0).trans hb).putObj (W0.heap.size + 1) _ (.inr (by omega))).lose (by
        intro k hk
        simp only [List.mem_cons, List.not_mem_nil, or_false] at hk ⊢
        omega)
    have hB2 := Lib.hid (hB.keeps hk2 (by simp) (by simp) (by simp) (by simp))
    have c3 := cell_of_heap hS2 3
    have cO := cell_of_heap hO2 0
    simp at c3 cO
    have Hb2 := Lib.hid hb2
    have HD2 := Lib.hid hD2
    clear hB hS hb hl hD hW2 hS2 hD2 hk2 hb2 z0 hS0 hb0 hW0 hO0 ho hO2
    have hmix : Try.prog.follows .mixedOrders = true := by kernel_rfl
    dsimp only
    gi_wp2
    gi_region
    all_goals gi_wp2
    refine ⟨by simp, .inl ⟨_, _, rfl, run_takeDeferred HD2.out, ?_⟩⟩
    have z0 := Z0.out
    refine ⟨.tuple #[.int .u32 (pathS (evsT K F fuel.toNat s)), .int .i64 (runT K F fuel.toNat s).2.1], ?_, rfl, ?_, ?_⟩
    · simp [results, Try.results35, go_sem]
    · refine (hB2.out.below (Below.refl _ W2).drew).keeps (l := [b, mb, K.fb, K.rb]) (fun k hk => World.putObj_heap_other ?_) (by simp) (by simp) (by simp) (by simp)
      simp only [List.mem_cons, List.not_mem_nil, or_false] at hk
      rcases hk with rfl | rfl | rfl | rfl <;> omega
    · exact (Hb2.out.trans (But.of_below (Below.refl _ W2).drew)).putObj _ _ (.inr (by omega))
end Go.Proofs.Ytioopcilcgebeaa.CpuA
