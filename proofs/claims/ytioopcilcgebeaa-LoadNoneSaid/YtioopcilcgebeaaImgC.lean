/- An image's stack, input, output and what may be written. -/
import Derived.Test.YtioopcilcgebeaaImgB
import Derived.Test.YtioopcilcgebeaaRegC
import Derived.Test.YtioopcilcgebeaaRegB
import Derived.WalkSpells
import Derived.Deep.RegionHeld3
import Derived.Test.YtioopcilcgebeaaI1
import Derived.Test.YtioopcilcgebeaaI3
import Derived.Test.YtioopcilcgebeaaI2
set_option linter.unusedVariables false
set_option linter.unusedSimpArgs false
namespace Go.Proofs.Ytioopcilcgebeaa.CpuA
open Go.RowKit Go.Proofs.Ytioopcilcgebeaa.Base Go.Proofs.YtioopcilcgebeaaW.PrintWords

def stackS (a n : Int) : Int × Int := (IntKind.u64.wrap (IntKind.u64.wrap a - IntKind.u64.wrap n), IntKind.u64.wrap a)
theorem stack_calls (a n : Int) (w : World) : Calls Try.prog 156 #[.agg #[.int .u32 a, .int .u32 n]] w fun e w' => e = .returned (.agg #[.int .u64 (stackS a n).1, .int .u64 (stackS a n).2]) ∧ Below w.heap.size w w' :=
  PCpu.image_stack.calls a n _ _ w rfl
theorem banks_calls (f fn r rn : Int) (w : World) : Calls Try.prog 151 #[.agg #[.int .u32 f, .int .u32 fn, .int .u32 r, .int .u32 rn]] w fun e w' => e = .returned (.tuple #[.agg #[.int .u64 (ofS f fn).1, .int .u64 (ofS f fn).2], .agg #[.int .u64 (ofS r rn).1, .int .u64 (ofS r rn).2]]) ∧ Below w.heap.size w w' :=
  PCpu.image_banks.calls f fn r rn _ _ _ _ w rfl
def withinS (s t : Int × Int) : Bool := if (s.1 == s.2) = true then true else if s.1 ≥ t.1 then decide (s.2 ≤ t.2) else false
theorem within_calls (a b c d : Int) (w : World) : Calls Try.prog 154 #[.agg #[.int .u64 a, .int .u64 b], .agg #[.int .u64 c, .int .u64 d]] w fun e w' => e = .returned (.bool (withinS (a, b) (c, d))) ∧ Below w.heap.size w w' := by
  refine PCpu.image_span_within.calls a b c d _ w ?_
  show (Option.some (a == b)).bind _ = _
  unfold withinS
  dsimp only [Option.bind]
  split
  · rfl
  · split <;> rfl
def partS (x : PCpu.S85) : Int × Int := (IntKind.u64.wrap x.f0, IntKind.u64.wrap (IntKind.u64.wrap x.f0 + IntKind.u64.wrap (x.f1.length : Int)))
theorem part_calls (x : PCpu.S85) (A : Option Addr) (c : Nat) (w : World) (h : Kd.C (Kd.int .u8) w A x.f1.length x.f1) (hc : x.f1.length ≤ c) :
    Calls Try.prog 152 #[.agg #[.int .u32 x.f0, .slice A x.f1.length c]] w fun e w' => e = .returned (.agg #[.int .u64 (partS x).1, .int .u64 (partS x).2]) ∧ Below w.heap.size w w' :=
  PCpu.image_part.calls x.f0 A c x.f1 _ _ w h hc rfl
def wrS (oa ol : Int) (ws : List PCpu.S73) : List (Int × Int) := ofS oa ol :: ws.map (fun x => ofS x.f0 x.f1)
def laS (oa ol : Int) (ws : List PCpu.S73) (ss : List PCpu.S85) : List (Int × Int) := wrS oa ol ws ++ ss.map partS
def dataT (r rn sa sn rm ia il oa ol : Int) (ws : List PCpu.S73) (ss : List PCpu.S85) : Bool :=
  !(decide (Int.tmod sa 16 ≠ 0)) && (!(decide (Int.tmod sn 16 ≠ 0)) && (!(decide (sa < sn)) && (!(decide (8 < (ws.length : Int))) &&
    ((ofS ia il :: stackS sa sn :: wrS oa ol ws).all (fun s => withinS s (ofS r rn)) && (!((wrS oa ol ws ++ [stackS sa sn]).any (meetsS (ofS ia il))) && (!((laS oa ol ws ss).any (meetsS (stackS sa sn))) && decide (rm ≤ rn)))))))
theorem spr_kept {wx w' : World} {g8 g11 N : Nat} {L : List (Int × Int)} (h : SpR g8 L wx) (hN : L.length * 2 ≤ N) (hg : wx.grownBy w' (some g11)) (hk : HeadKept wx w' g11 196 N) : SpR g8 L w' := by
  obtain ⟨cur, h1, h2⟩ := h
  by_cases e : g8 = g11
  · subst e
    obtain ⟨cur', h3, h4⟩ := hk cur h1
    refine ⟨cur', h3, ?_⟩
    rw [← h2]
    have := congrArg (List.take (L.length * 2)) h4
    rwa [List.take_take, List.take_take, Nat.min_eq_left hN] at this
  · exact ⟨cur, (hg.block g8 (lt_of_heap h1) (by simpa using e)).trans h1, h2⟩
theorem spr_news {g : Nat} {L : List (Int × Int)} {w : World} (h : SpR g L w) : ∀ j v, (spF L)[j]? = some v → w.cell? ((⟨g, 0, none⟩ : Addr).add j) = some v := by
  intro j v hv
  obtain ⟨cur, h1, h2⟩ := h
  have e : (Addr.add ⟨g, 0, none⟩ j) = ⟨g, j, none⟩ := by
    unfold Addr.add
    split
    · subst_vars; rfl
    · simp
  rw [e, cell_of_heap h1]
  rw [← h2, List.getElem?_take] at hv
  split at hv
  · rwa [Array.getElem?_toList] at hv
  · cases hv
theorem spF_one : ∀ (L : List (Int × Int)), ∀ u ∈ spF L, u.oneCell' = true
  | [], u, h => by cases h
  | x :: L, u, h => by
    simp only [spF, List.mem_cons] at h
    rcases h with rfl | rfl | h
    · rfl
    · rfl
    · exact spF_one L u h
theorem keepS {u : World} {g5 g7 b : Nat} {p q p' q' rm rn : Int} {f fn r en tx tn sa sn fu ia il oa ol : Int} {V0 V1 : Value} (h5 : u.heap[g5]? = some (.cells #[.int .u64 p, .int .u64 q] 196 (0, 0))) (h7 : u.heap[g7]? = some (.cells #[.int .u64 p', .int .u64 q'] 196 (0, 0)))
    (h0 : u.heap[b]? = some (.cells #[.int .u32 f, .int .u32 fn, .int .u32 r, .int .u32 rn, .int .u32 en, .int .u32 tx, .int .u32 tn, .int .u32 sa, .int .u32 sn, .int .u32 rm, .int .u64 fu, .int .u32 ia, .int .u32 il, .int .u32 oa, .int .u32 ol, V0, V1] 78 (0, 0))) :
    u.cell? ⟨g5, 0, none⟩ = some (.int .u64 p) ∧ u.cell? ⟨g5, 1, none⟩ = some (.int .u64 q) ∧ u.cell? ⟨g7, 0, none⟩ = some (.int .u64 p') ∧ u.cell? ⟨g7, 1, none⟩ = some (.int .u64 q') ∧ u.cell? ⟨b, 9, none⟩ = some (.int .u32 rm) ∧ u.cell? ⟨b, 3, none⟩ = some (.int .u32 rn) :=
  ⟨(cell_of_heap h5 0).trans rfl, (cell_of_heap h5 1).trans rfl, (cell_of_heap h7 0).trans rfl, (cell_of_heap h7 1).trans rfl, (cell_of_heap h0 9).trans rfl, (cell_of_heap h0 3).trans rfl⟩
theorem infoSp : (Try.prog.info? 196).map (fun i => (i.zero, i.size, i.bytes)) = some (some (.agg #[.int .u64 0, .int .u64 0]), 2, 16) := by kernel_rfl
theorem allocS (a : Act) (w : World) (o : Oper) (ho : o.op = .alloc 196) : (execOp a.eval o).run Try.prog w = .ok (.value (.pointer (some ⟨w.heap.size, 0, none⟩))) (w.alloc (.cells #[.int .u64 0, .int .u64 0] 196 (0, 0))) := by
  unfold execOp
  simp only [ho]
  simp [go_sem]
theorem below_but {w a b : World} {g : Nat} (h : Below w.heap.size w a) (k : But [g] a b) (hg : w.heap.size ≤ g) : Below w.heap.size w b :=
  ⟨k.os.trans h.os, k.tape.trans h.tape, k.output.trans h.output, Nat.le_trans h.size k.size, fun n hn => (k.block n (Nat.lt_of_lt_of_le hn h.size) (by simp; omega)).trans (h.block n hn)⟩
theorem storeSp {ops : Array Oper} {rest : List Oper} {o : Oper} {a : Act} {w : World} {Q : Exit → Act → World → Prop} (hgd : o.guard = none) (x y : Operand) (ho : o.op = .store 196 x y) (hd : o.dst = none) (g : Nat) (p q p0 q0 : Int)
    (hx : a.eval x = .pointer (some ⟨g, 0, none⟩)) (hy : a.eval y = .agg #[.int .u64 p, .int .u64 q]) (hg : w.heap[g]? = some (.cells #[.int .u64 p0, .int .u64 q0] 196 (0, 0)))
    (h : ∀ w', w'.heap[g]? = some (.cells #[.int .u64 p, .int .u64 q] 196 (0, 0)) → But [g] w w' → wpList Try.prog ops Q rest a w') : wpList Try.prog ops Q (o :: rest) a w := by
  refine wpList_store_row hgd 196 x y ho g #[.int .u64 p, .int .u64 q] hx hy _ _ hg (by kernel_rfl) rfl (by simp [Value.oneCell']) ?_
  rw [hd]
  exact h _ (setRow_heap w g _ _ _ (0, 0) hg) ⟨rfl, rfl, rfl, by simp [World.setRow], fun k hk hl => setRow_other w g k _ (by rintro rfl; exact hl (by simp))⟩
set_option maxHeartbeats 8000000 in
set_option maxRecDepth 100000 in
theorem cloneS_calls (g c : Nat) (L : List (Int × Int)) (w : World) (h : SpR g L w) (h0 : 0 < L.length) (hl : L.length ≤ 1000) :
    Calls Try.prog 158 #[.slice (some ⟨g, 0, none⟩) L.length c] w fun e w' => ∃ g' c', e = .returned (.slice (some ⟨g', 0, none⟩) L.length c') ∧ w'.ownsRow w.heap.size 196 2 (.slice (some ⟨g', 0, none⟩) L.length c') L.length (spF L) ∧ Below w.heap.size w w' := by
  obtain ⟨i0, hi0, hz0, hz1, hz2⟩ := info_parts infoSp
  have H := Lib.hid h
  clear h
  have qE : ∀ (w : World) (a : Addr) (n c : Nat), (binOp .eql 202 (.slice (some a) n c) (.slice none 0 0)).run Try.prog w = .ok (.bool false) w := fun w a n c => Lib.run_eql_slice_nil w _ _ (some a) n c 0 0 Try.underlying202
  go_enter Try.func158, Try.ntmps158
  go_wp2_with (first
    | (at_builtin; refine wpList_append_lies _ rfl _ _ 202 rfl w.heap.size 196 i0 _ 2 16 Try.underlying202 hi0 hz0 hz1 hz2 rfl (by omega) (.slice (some ⟨w.heap.size, 0, none⟩) 0 0) 0 [] rfl ⟨rfl, .inr ⟨w.heap.size, 0, #[], rfl, Nat.le_refl _, heap_at _ _ _ rfl, by omega, by unfold maxLen; omega, rfl, rfl⟩⟩ ⟨g, 0, none⟩ L.length c (spF L) rfl (spF_length _) (spr_news (H.out.below (by (repeat' (first | (with_reducible first | exact Below.refl _ _ | refine blQ ?_ _ | refine Below.drew ?_ | refine blO ?_ (by assumption) | refine Below.alloc ?_ ?_ _ | refine Below.setCell ?_ ?_ _ | refine Below.frame ?_ _) | omega | (simp only [zA, zS, zD, zQ]; omega)))))) (spF_one _) (by omega) (by unfold maxLen; omega) (by omega) (by simp only [zA]; omega) _ rfl ?_; intro g9 c9 w9 hown hgrow hat hlt; have HO := Lib.hid hown; have HW := Lib.hid hgrow; have HT := Lib.hid hat; clear hown hgrow hat))
  go_returns
  refine ⟨g9, c9, by simp, ?_, ?_⟩
  · have e0 : 0 + L.length = L.length := Nat.zero_add _
    have h2 := HO.out
    rw [List.nil_append] at h2
    simp only [e0] at h2
    exact h2
  · exact ((Below.refl _ w).alloc (Nat.le_refl _) _).grown HW.out (by simp) (fun k e => by simp [Value.ownBlock] at e; omega)
theorem sp_own {W : World} {base g cap : Nat} {l : List (Int × Int)} {n : Nat} (h : W.ownsRow base 196 2 (.slice (some ⟨g, 0, none⟩) n cap) n (spF l)) (hn : n = l.length) : SpR g l W := by
  subst hn
  rcases h.2 with ⟨hq, _⟩ | ⟨g1, cap1, cur, e, hb, hh, _, _, _, htk⟩
  · cases hq
  · injection e with e1 _ _
    injection e1 with e1
    injection e1 with e1 _ _
    subst e1
    exact ⟨cur, hh, htk⟩
def RCl (base : Nat) (L : List (Int × Int)) (v : Value) (w : World) : Prop := ∃ g c, v = .slice (some ⟨g, 0, none⟩) L.length c ∧ w.ownsRow base 196 2 v L.length (spF L)
def RBu (p q : Int) (v : Value) (w : World) : Prop := ∃ g, v = .slice (some ⟨g, 0, none⟩) 1 1 ∧ w.heap[g]? = some (.cells #[.int .u64 p, .int .u64 q] 196 (0, 0))
def RAp (L : List (Int × Int)) (v : Value) (w : World) : Prop := ∃ g c, v = .slice (some ⟨g, 0, none⟩) L.length c ∧ SpR g L w
theorem RCl.up (base : Nat) (L : List (Int × Int)) (v : Value) : Up (RCl base L v) := fun w w' ⟨g, c, h, k⟩ hb => ⟨g, c, h, pw_own_below k hb⟩
theorem RBu.up (p q : Int) (v : Value) : Up (RBu p q v) := fun w w' ⟨g, h, k⟩ hb => ⟨g, h, heap_below hb k⟩
theorem RAp.up (L : List (Int × Int)) (v : Value) : Up (RAp L v) := fun w w' ⟨g, c, h, k⟩ hb => ⟨g, c, h, k.below hb⟩
theorem Up.and {F G : World → Prop} (h : Up F) (k : Up G) : Up (fun w => F w ∧ G w) := fun w w' hw hb => ⟨h _ _ hw.1 hb, k _ _ hw.2 hb⟩
theorem ev_clone {ops : Array Oper} {W : World} {F : World → Prop} {o : Oper} {a : Act} (g c : Nat) (L : List (Int × Int)) (hU : Up F) (hwa : Region.wanted o (yielded ops a.tmps) = true)
    (hrun : ∀ w, (execOp a.eval o).run Try.prog w = .ok (.enter 158 #[.slice (some ⟨g, 0, none⟩) L.length c]) w) (hs : SpR g L W) (h0 : 0 < L.length) (hl : L.length ≤ 1000) :
    Ev Try.prog ops W F o (fun v w => F w ∧ RCl W.heap.size L v w) a :=
  ev_call _ _ hwa hrun fun w hw hF => (cloneS_calls g c L w (hs.below hw) h0 hl).mono fun e w' ⟨g', c', he, ho, hb⟩ =>
    ⟨_, he, below_on hw hb, hU _ _ hF hb, g', c', rfl, own_weaken ho hw.size⟩
theorem ev_build {ops : Array Oper} {W : World} {F : World → Prop} {o : Oper} {a : Act} (p q : Int) (hU : Up F) (hwa : Region.wanted o (yielded ops a.tmps) = true)
    (hrun : ∀ w, (execOp a.eval o).run Try.prog w = .ok (.value (.slice (some ⟨w.heap.size, 0, none⟩) 1 1)) (w.alloc (.cells #[.int .u64 p, .int .u64 q] 196 (0, 0)))) :
    Ev Try.prog ops W F o (fun v w => F w ∧ RBu p q v w) a :=
  ev_val hwa fun w hw hF => ⟨_, _, hrun w, hw.alloc hw.size _, hU _ _ hF ((Below.refl _ _).alloc (Nat.le_refl _) _), w.heap.size, rfl, heap_at _ _ _ rfl⟩
theorem ev_append {ops : Array Oper} {W : World} {F : World → Prop} {o : Oper} {a : Act} (p q : Int) (L : List (Int × Int)) (va vb : Value) (x y : Operand) (ho : o.op = .call { callee := .builtin .append, args := #[x, y], argTypes := #[202, 202] })
    (hx : a.eval x = va) (hy : a.eval y = vb) (hwa : Region.wanted o (yielded ops a.tmps) = true) (hl : L.length ≤ 1000) (hF : ∀ w, F w → RCl W.heap.size L va w ∧ RBu p q vb w) :
    Ev Try.prog ops W F o (fun v w => RAp (L ++ [(p, q)]) v w) a :=
  ev_val hwa fun w hw hf => by
    obtain ⟨⟨g, c, rfl, hown⟩, gb, rfl, hb⟩ := hF w hf
    obtain ⟨i0, hi0, hz0, hz1, hz2⟩ := info_parts infoSp
    obtain ⟨g', cap, w', hr, h2, h3, h4, h5⟩ := run_append_lies (P := Try.prog) w 202 o.type W.heap.size 196 i0 _ 2 16 Try.underlying202 hi0 hz0 hz1 hz2 rfl (by omega) _ L.length (spF L) hown ⟨gb, 0, none⟩ 1 1 [.int .u64 p, .int .u64 q] rfl (World.news_of_block hb) (by simp [Value.oneCell']) (by omega) (by unfold maxLen; omega) (by omega) hw.size w.heap.size rfl
    refine ⟨.slice (some ⟨g', 0, none⟩) (L.length + 1) cap, w', ?_, hw.grown h3 hw.size (fun k hk => own_base hown k hk), g', cap, by simp, sp_own (n := L.length + 1) (by rw [spF_append]; exact h2) (by simp)⟩
    unfold execOp
    simp only [ho, resolve, invoke, builtin, Sem.run_bind, Sem.run_pure, Result.andThen_ok, List.map_toArray, List.map_cons, List.map_nil, hx, hy, hr]
end Go.Proofs.Ytioopcilcgebeaa.CpuA
