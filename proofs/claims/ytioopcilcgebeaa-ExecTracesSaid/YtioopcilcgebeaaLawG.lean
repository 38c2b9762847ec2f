/- CpuSteps. -/
import Derived.Test.YtioopcilcgebeaaK8
set_option linter.unusedVariables false
set_option linter.unusedSimpArgs false
namespace Go.Proofs.Ytioopcilcgebeaa.CpuA
open Go.RowKit Go.Proofs.Ytioopcilcgebeaa.Base Go.Proofs.Ytioopcilcgebeaa.InstS Go.Proofs.Ytioopcilcgebeaa.InstA Go.Proofs.YtioopcilcgebeaaW.PrintWords

theorem rk_ne {xb g base : Nat} {K : Bk} {F : List Int} {s : St} {L : List (Int × Int)} {v : Value} {w : World} (hx : RBox xb g base K F s L v w) {k : Nat} {c : Array Value} {t : TypeId} {fr : Nat × Nat} (hk : w.heap[k]? = some (.cells c t fr)) (h1 : t ≠ 89) (h2 : t ≠ 120) (h3 : t ≠ 141) : k ∉ xb :: g :: rowL v := by
  intro hm
  rcases List.mem_cons.1 hm with rfl | hm
  · exact blk_ne hk hx.m.1 h1 rfl
  · rcases List.mem_cons.1 hm with rfl | hm
    · exact blk_ne hk hx.mem.mem h2 rfl
    · exact hx.mem.ne hk h3 hm
theorem row_ge {g base : Nat} {K : Bk} {L : List (Int × Int)} {v : Value} {w : World} (h : RM g base K L v w) : ∀ k ∈ rowL v, base ≤ k := by
  intro k hk
  rcases h.row.2 with ⟨rfl, _⟩ | ⟨r, cap, cur, rfl, hb, _⟩
  · simp [rowL, Value.ownBlock] at hk
  · simp only [rowL, Value.ownBlock, List.mem_singleton] at hk
    omega
/-- A step of the reference, where the program's machine has done its own. -/
theorem two_rstep {b mb : Nat} {K : Bk} {F : List Int} {xb g base : Nat} {s : St} {L : List (Int × Int)} {v : Value} {W : World} (hC : Box b mb K F (stepT K F s).2.2 W) (hX : RBox xb g base K F s L v W) (hL : L.length ≤ 1000000000) :
    Calls Try.prog 30 #[.pointer (some ⟨xb, 0, none⟩)] W fun e w' => e = .returned (.tuple #[evV (stepT K F s).1, .int .i64 (stepT K F s).2.1]) ∧ RBox xb g base K F s L v W ∧ ∃ L' v', Two b mb K F xb g base (stepT K F s).2.2 L' v' w' ∧ L'.length ≤ L.length + 4 ∧ But (xb :: g :: rowL v) W w' :=
  (rstep_calls hX hL).mono fun e w' ⟨he, L', v', h1, h2, h3, h4⟩ => ⟨he, hX, L', v', ⟨box_rkeep hC hX h3, h1⟩, h2, h3⟩
theorem rstep_keep {G : Prop} {xb g base : Nat} {K : Bk} {F : List Int} {s : St} {L : List (Int × Int)} {v : Value} {W w3 : World} (hx : RBox xb g base K F s L v W) (hB : But (xb :: g :: rowL v) W w3) {n : Nat} {c : Array Value} {t : TypeId} (h : W.heap[n]? = some (.cells c t (0, 0)))
    (ht : t ≠ 89 ∧ t ≠ 120 ∧ t ≠ 141)
    (k : (∀ i, w3.cell? ⟨n, i, none⟩ = c[i]?) → (∀ i, w3.frozen? ⟨n, i, none⟩ = false) → w3.heap[n]? = some (.cells c t (0, 0)) → n < w3.heap.size → G) : G :=
  but_block hB (rk_ne hx h ht.1 ht.2.1 ht.2.2) h k
set_option maxHeartbeats 16000000 in
set_option maxRecDepth 100000 in
theorem cpuSteps_walk (A0 : Option Addr) (cap0 : Nat) (words : List Int) (A1 : Option Addr) (cap1 : Nat) (regs : List Int) (w : World) (h0 : US A0 words w) (h1 : US A1 regs w) (l0 : words.length ≤ maxLen) (l1 : regs.length ≤ maxLen) :
    Calls Try.prog 6 #[.slice A0 words.length cap0, .slice A1 regs.length cap1] w fun e w' => e = .returned (.bool true) ∧ Below w.heap.size w w' := by
  have Hb := Lib.hid (begins_calls A0 cap0 words A1 cap1 regs w h0 h1 l0 l1)
  clear h0 h1
  go_enter Try.func6, Try.ntmps6
  go_wp2_with (first
    | (go_at_call 25; (with_reducible refine Hb.out.mono ?_); rintro e w1 ⟨b, mb, fb, rb, xb, g, L, v, rfl, hC, hX, hl, ⟨g1, g2, g3, g4, g5, g6⟩, hB⟩; have HT0 := Lib.hid (Two.mk hC hX); clear hC hX))
  generalize hF : fl words = F at *
  generalize s0 regs = s00 at *
  go_loopw [8] (fun i wr => ∃ k : Nat, k ≤ 40 ∧ i = .int .i64 (k : Int) ∧ ∃ s L v, Go.RowKit.Hid (Two b mb (mapK fb rb) F xb g w.heap.size s L v wr) ∧ L.length ≤ 240 + 4 * k ∧ Below w.heap.size w wr) (fun i _ => 40 - (intOf i).toNat)
  case atStart => exact ⟨0, by omega, rfl, _, _, _, HT0, by omega, hB⟩
  case round =>
    obtain ⟨k, hk, rfl, s, L, v, HT, hl, hbe⟩ := hrel
    clear HT0 hB
    have hsz := hbe.size
    by_cases q : k < 40
    · have Hs' := step_calls HT.out.c
      have Hr' := fun (W : World) (hC : Box b mb (mapK fb rb) F (stepT (mapK fb rb) F s).2.2 W) (hX : RBox xb g w.heap.size (mapK fb rb) F s L v W) => two_rstep hC hX (by omega)
      generalize stepT (mapK fb rb) F s = r at Hs' Hr'
      obtain ⟨⟨p, wd, ⟨dk, da, ds⟩⟩, t, s'⟩ := r
      have Hs := Lib.hid (show Calls Try.prog 20 #[.pointer (some ⟨b, 0, none⟩)] wr (fun e w' => e = .returned (.tuple #[.agg #[.int .u32 p, .int .u32 wd, .int .i64 dk, .int .u32 da, .int .i64 ds], .int .i64 t]) ∧ Box b mb (mapK fb rb) F s' w' ∧ But [b, rb] wr w') from Hs')
      have Hr := Lib.hid (show ∀ (W : World) (hC : Box b mb (mapK fb rb) F s' W) (hX : RBox xb g w.heap.size (mapK fb rb) F s L v W), Calls Try.prog 30 #[.pointer (some ⟨xb, 0, none⟩)] W (fun e w' => e = .returned (.tuple #[.agg #[.int .u32 p, .int .u32 wd, .int .i64 dk, .int .u32 da, .int .i64 ds], .int .i64 t]) ∧ RBox xb g w.heap.size (mapK fb rb) F s L v W ∧ ∃ L' v', Two b mb (mapK fb rb) F xb g w.heap.size s' L' v' w' ∧ L'.length ≤ L.length + 4 ∧ But (xb :: g :: rowL v) W w') from Hr')
      clear Hs' Hr'
      go_wp2_with (first
        | (go_at_call 20; (with_reducible refine Hs.out.mono ?_); rintro e w2 ⟨rfl, hC2, hB2⟩; have HC2 := Lib.hid hC2; have HX2 := Lib.hid (rbox_step HT.out.c HT.out.x hB2); have z2 := hB2.size; have HB2 := Lib.hid hB2; clear hC2 hB2)
        | (go_at_call 30; (with_reducible refine (Hr.out _ (HC2.out.below ?_) (HX2.out.below ?_)).mono ?_); (focus (exact blZ)); (focus (exact blZ)); rintro e w3 ⟨rfl, hxW, L', v', hT3, hl3, hB3⟩; apply rstep_keep hxW hB3 (n := w2.heap.size); (focus (exact hpZ)); (focus decide); intro ce fe he hz; have e0 := ce 0; have e1 := ce 1; have e2 := ce 2; have e3 := ce 3; have e4 := ce 4; simp at e0 e1 e2 e3 e4; clear ce fe; have HT3 := Lib.hid hT3; have HS := Lib.hid (fun (W : World) (hB : Below w3.heap.size w3 W) => same_calls (Two.below hT3 hB).c.m (Two.below hT3 hB).x.m); clear hT3)
        | (go_at_call 28; (with_reducible refine (HS.out _ ?_).mono ?_); (focus (exact blZ)); rintro e w4 ⟨rfl, n4, rfl⟩))
      have y1 : Below w.heap.size w w2 := below_but hbe hsz HB2.out (by
        intro k hk
        simp only [List.mem_cons, List.not_mem_nil, or_false] at hk
        rcases hk with rfl | rfl <;> omega)
      have hx0 := row_ge HT.out.x.mem
      have y3 : Below w.heap.size w w3 := below_but (y1.alloc (by omega) _) (by rw [World.size_alloc]; omega) hB3 (by
        intro k hk
        rcases List.mem_cons.1 hk with rfl | hk
        · exact g5
        · rcases List.mem_cons.1 hk with rfl | hk
          · exact g6
          · exact hx0 k hk)
      exact ⟨⟨k + 1, by omega, by go_num, s', L', v', Lib.hid (HT3.out.below (by (exact blZ))), by omega, below_drewQ (y3.alloc (by omega) _) n4⟩, by simp [intOf]; omega⟩
    · have HL := Lib.hid (lawbytes_calls HT.out)
      go_wp2_with (first
        | (go_at_call 31; (with_reducible refine HL.out.mono ?_); rintro e w2 ⟨rfl, hB2⟩)
        | (go_at_call 23; (with_reducible refine (lives_calls _).mono ?_); rintro e w3 ⟨rfl, hB3⟩))
      go_returns
      exact ⟨by simp, by (exact blZ)⟩
end Go.Proofs.Ytioopcilcgebeaa.CpuA
