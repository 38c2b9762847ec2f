/- The reference's Trace. -/
import Derived.Test.YtioopcilcgebeaaKEx
import Derived.Test.YtioopcilcgebeaaLawG
set_option linter.unusedVariables false
set_option linter.unusedSimpArgs false
namespace Go.Proofs.Ytioopcilcgebeaa.CpuA
open Go.RowKit Go.Proofs.Ytioopcilcgebeaa.Base Go.Proofs.Ytioopcilcgebeaa.InstS Go.Proofs.Ytioopcilcgebeaa.InstA Go.Proofs.YtioopcilcgebeaaW.PrintWords

def evC (v : Evt) : List Value := [.int .u32 v.pc, .int .u32 v.word, .int .i64 v.did.kind, .int .u32 v.did.addr, .int .i64 v.did.size]
def evF : List Evt → List Value
  | [] => []
  | v :: l => evC v ++ evF l
theorem evF_snoc : ∀ (l : List Evt) (v : Evt), evF (l ++ [v]) = evF l ++ evC v
  | [], v => by simp [evF]
  | x :: l, v => by simp only [List.cons_append, evF, evF_snoc l v, List.append_assoc]
theorem info35 : (Try.prog.info? 35).map (fun i => (i.zero, i.size, i.bytes)) = some (some (.agg #[.int .u32 0, .int .u32 0, .int .i64 0, .int .u32 0, .int .i64 0]), 5, 32) := by kernel_rfl
theorem row_but {w w' : World} {base : Nat} {e : TypeId} {size : Nat} {v : Value} {n : Nat} {xs : List Value} {l : List Nat} (h : w.ownsRow base e size v n xs) (hb : But l w w') (hn : ∀ k ∈ rowL v, k ∉ l) : w'.ownsRow base e size v n xs := by
  refine ⟨h.1, ?_⟩
  rcases h.2 with q | ⟨r, cap, cur, rfl, hbs, hr, q⟩
  · exact .inl q
  · exact .inr ⟨r, cap, cur, rfl, hbs, hb.heap (hn r (by simp [rowL, Value.ownBlock])) hr, q⟩
theorem row_blk {w : World} {base : Nat} {e : TypeId} {size : Nat} {v : Value} {n : Nat} {xs : List Value} (h : w.ownsRow base e size v n xs) : ∀ k ∈ rowL v, base ≤ k ∧ ∃ c, w.heap[k]? = some (.cells c e (0, 0)) := by
  intro k hk
  rcases h.2 with ⟨rfl, _⟩ | ⟨r, cap, cur, rfl, hb, hr, _⟩
  · simp [rowL, Value.ownBlock] at hk
  · simp only [rowL, Value.ownBlock, List.mem_singleton] at hk
    subst hk
    exact ⟨hb, cur, hr⟩
theorem but_join {l0 l1 : List Nat} {a b c : World} (h : But l0 a b) (k : But l1 b c) (hs : ∀ r ∈ l1, r ∈ l0 ∨ a.heap.size ≤ r) : But l0 a c :=
  ((h.mono (m := l0 ++ l1) (fun r hr => List.mem_append_left _ hr)).trans (k.mono (fun r hr => List.mem_append_right _ hr))).lose (fun r hr => (List.mem_append.1 hr).elim .inl (hs r))
def room (v : Value) : Nat := match v with | .slice _ n _ => 101 - n | _ => 0
/-- Behind the reference's Trace: how many events, the trap, the state; the events. -/
def RTrace (xb g base : Nat) (K : Bk) (F : List Int) (r : Nat × Int × St) (evs : List Evt) (v : Value) (w : World) (e : Ending) (w' : World) : Prop :=
  ∃ A cap L' v', e = .returned (.tuple #[.slice A r.1 cap, .int .i64 r.2.1]) ∧ w'.ownsRow w.heap.size 35 5 (.slice A r.1 cap) r.1 (evF evs) ∧ RBox xb g base K F r.2.2 L' v' w' ∧ But (xb :: g :: rowL v) w w'
set_option maxHeartbeats 16000000 in
set_option maxRecDepth 100000 in
theorem rtrace_calls {xb g base : Nat} {K : Bk} {F : List Int} {s0 : St} {L : List (Int × Int)} {v : Value} {w : World} (h : RBox xb g base K F s0 L v w) (hL : L.length ≤ 1000) (fuel : Int) (hf : fuel ≤ 100) :
    Calls Try.prog 27 #[.pointer (some ⟨xb, 0, none⟩), .int .i64 fuel] w (RTrace xb g base K F (runT K F fuel.toNat s0) (evsT K F fuel.toNat s0) v w) := by
  have H := Lib.hid h
  have lx := lt_of_heap h.m.1
  have lg := lt_of_heap h.mem.mem
  clear h
  obtain ⟨i0, hi0, hz0, hz1, hz2⟩ := info_parts info35
  go_enter Try.func27, Try.ntmps27
  go_wp2
  go_loopw [6] (fun vo wr => ∃ (k : Nat) (evs : List Evt) (s : St) (L1 : List (Int × Int)) (v1 : Value), RowKit.Hid (wr.ownsRow w.heap.size 35 5 vo k (evF evs)) ∧ RowKit.Hid (RBox xb g base K F s L1 v1 wr) ∧ L1.length ≤ L.length + 4 * k ∧ RowKit.Hid (But (xb :: g :: rowL v) w wr) ∧ RowKit.Hid (∀ r ∈ rowL v1, r ∈ rowL v ∨ w.heap.size ≤ r) ∧ evs.length = k ∧ k ≤ fuel.toNat ∧
    runT K F fuel.toNat s0 = (k + (runT K F (fuel.toNat - k) s).1, (runT K F (fuel.toNat - k) s).2) ∧ evsT K F fuel.toNat s0 = evs ++ evsT K F (fuel.toNat - k) s) (fun vo _ => room vo)
  case atStart => exact ⟨0, [], s0, L, v, Lib.hid ⟨rfl, .inr ⟨w.heap.size, 0, #[], rfl, Nat.le_refl _, heap_at _ _ _ rfl, by omega, by unfold maxLen; omega, rfl, rfl⟩⟩, Lib.hid (H.out.below (by (exact blZ))), by omega, Lib.hid (But.of_below (by (exact blZ))), Lib.hid (fun r hr => .inl hr), rfl, Nat.zero_le _, by simp, by simp⟩
  case round =>
    obtain ⟨k, evs, s, L1, v1, hrow, hX, hl, hB, hR, hlen, hk, hr, he⟩ := hrel
    obtain ⟨vA, vc, rfl⟩ := row_slice hrow
    have hsz := hB.size
    by_cases q : (k : Int) < fuel
    · have hs' := rstep_calls hX (by omega)
      have hr' : runT K F (fuel.toNat - k) s = if (stepT K F s).2.1 = 0 then ((runT K F (fuel.toNat - (k + 1)) (stepT K F s).2.2).1 + 1, (runT K F (fuel.toNat - (k + 1)) (stepT K F s).2.2).2) else (0, (stepT K F s).2.1, (stepT K F s).2.2) := by
        rw [show fuel.toNat - k = (fuel.toNat - (k + 1)) + 1 by omega]; rfl
      have he' : evsT K F (fuel.toNat - k) s = if (stepT K F s).2.1 = 0 then (stepT K F s).1 :: evsT K F (fuel.toNat - (k + 1)) (stepT K F s).2.2 else [] := by
        rw [show fuel.toNat - k = (fuel.toNat - (k + 1)) + 1 by omega]; rfl
      generalize stepT K F s = r at hs' hr' he'
      obtain ⟨⟨ep, ew, ⟨ek, ea, ez⟩⟩, t, s'⟩ := r
      dsimp only at hr' he'
      have Hs := Lib.hid (show Calls Try.prog 30 #[.pointer (some ⟨xb, 0, none⟩)] wr (fun e w' => e = .returned (.tuple #[.agg #[.int .u32 ep, .int .u32 ew, .int .i64 ek, .int .u32 ea, .int .i64 ez], .int .i64 t]) ∧ RKeep xb g base K F s' L1 v1 wr w') from hs')
      clear hs'
      have hnr : ∀ r ∈ rowL (Value.slice vA k vc), r ∉ xb :: g :: rowL v1 := fun r hr => by
        obtain ⟨_, c, hc⟩ := row_blk hrow r hr
        exact rk_ne hX hc (by decide) (by decide) (by decide)
      have HN := Lib.hid hnr
      clear hnr
      by_cases ht : t = 0
      · subst ht
        rw [if_pos rfl] at hr' he'
        go_wp2_with (first
          | (go_at_call 30; (with_reducible refine Hs.out.mono ?_); rintro e w2 ⟨rfl, L2, v2, hX2, hl2, hB2, hR2⟩; have z2 := hB2.size; have HX2 := Lib.hid hX2; have HB2 := Lib.hid hB2; have HR2 := Lib.hid hR2; have HO2 := Lib.hid (row_but hrow hB2 HN.out); clear hX2 hB2 hR2)
          | (at_builtin; refine wpList_append_lies _ rfl _ _ 49 rfl w.heap.size 35 i0 _ 5 32 Try.underlying49 hi0 hz0 hz1 hz2 rfl (by omega) (.slice vA k vc) k _ rfl ((HO2.out.alloc _).alloc _) ⟨w2.heap.size + 1, 0, none⟩ 1 1 (evC ⟨ep, ew, ⟨ek, ea, ez⟩⟩) rfl rfl (World.news_of_block (heap_at _ _ _ (by simp))) (by simp [evC, Value.oneCell']) (by omega) (by unfold maxLen; omega) (by omega) (by simp only [zA]; omega) _ rfl ?_; intro rr cap1 w3 hown hgrow hat hlt; have HO := Lib.hid hown; have HW := Lib.hid hgrow; clear hown hgrow hat))
        have hb2 : But (xb :: g :: rowL v) w w2 := but_join hB HB2.out (by
          intro r hr
          rcases List.mem_cons.1 hr with rfl | hr
          · exact .inl (by simp)
          · rcases List.mem_cons.1 hr with rfl | hr
            · exact .inl (by simp)
            · exact (hR r hr).imp (fun h => by simp [h]) id)
        have bg : But (rowL (.slice vA k vc)) w2 w3 := (But.of_below (((Below.refl _ w2).alloc (Nat.le_refl _) _).alloc (by simp) _)).trans (grown_but HW.out)
        have hb3 : But (xb :: g :: rowL v) w w3 := but_join hb2 bg (fun r hr => .inr (row_blk HO2.out r hr).1)
        have hX3 : RBox xb g base K F s' L2 v2 w3 := HX2.out.but bg
          (fun hm => by obtain ⟨_, c, hc⟩ := row_blk HO2.out _ hm; exact blk_ne HX2.out.m.1 hc (by decide) rfl)
          (fun hm => by obtain ⟨_, c, hc⟩ := row_blk HO2.out _ hm; exact blk_ne HX2.out.mem.mem hc (by decide) rfl)
          (fun r hr hm => by obtain ⟨_, c, hc⟩ := row_blk HO2.out _ hm; exact HX2.out.mem.ne hc (by decide) hr)
        have ho := HO.out
        rw [← evF_snoc] at ho
        refine ⟨⟨k + 1, evs ++ [(⟨ep, ew, ⟨ek, ea, ez⟩⟩ : Evt)], s', L2, v2, Lib.hid ho, Lib.hid hX3, by omega, Lib.hid hb3, Lib.hid (fun r hr => (HR2.out r hr).elim (fun h => hR r h) (fun h => .inr (by omega))), by simp [hlen], by omega, ?_, ?_⟩, ?_⟩
        · rw [hr, hr']; dsimp only; congr 1; omega
        · rw [he, he', List.append_assoc]; rfl
        · show 101 - (k + 1) < 101 - k
          omega
      · have ht' : (t != 0) = true := by rw [bne_iff_ne]; exact ht
        rw [if_neg ht] at hr' he'
        go_wp2_with (first
          | (go_at_call 30; (with_reducible refine Hs.out.mono ?_); rintro e w2 ⟨rfl, L2, v2, hX2, hl2, hB2, hR2⟩; have z2 := hB2.size; have HX2 := Lib.hid hX2; have HB2 := Lib.hid hB2; have HR2 := Lib.hid hR2; have HO2 := Lib.hid (row_but hrow hB2 HN.out); clear hX2 hB2 hR2))
        have hb2 : But (xb :: g :: rowL v) w w2 := but_join hB HB2.out (by
          intro r hr
          rcases List.mem_cons.1 hr with rfl | hr
          · exact .inl (by simp)
          · rcases List.mem_cons.1 hr with rfl | hr
            · exact .inl (by simp)
            · exact (hR r hr).imp (fun h => by simp [h]) id)
        go_returns
        have hal : Below w2.heap.size w2 (w2.alloc (.cells #[.int .u32 ep, .int .u32 ew, .int .i64 ek, .int .u32 ea, .int .i64 ez] 35)) := (Below.refl _ w2).alloc (Nat.le_refl _) _
        rw [hr, he, hr', he', List.append_nil]
        refine ⟨vA, vc, L2, v2, by simp, HO2.out.alloc _, HX2.out.below hal, hb2.alloc _⟩
    · have e0 : fuel.toNat - k = 0 := by omega
      rw [e0] at hr he
      have Hr := Lib.hid hr
      have He := Lib.hid he
      clear hr he e0
      go_wp2
      go_returns
      rw [Hr.out, He.out]
      exact ⟨vA, vc, L1, v1, by simp [runT], (by have h := hrow.out; simpa [runT, evsT] using h), hX, hB⟩
end Go.Proofs.Ytioopcilcgebeaa.CpuA
