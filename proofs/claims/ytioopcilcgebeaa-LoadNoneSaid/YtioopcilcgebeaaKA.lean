/- Proofs of this claim's family, merged: Base, InstS, Heap, InstA, RefA. -/
import Derived.Test.YtioopcilcgebeaaKW
import Derived.StillTailTactics
import Derived.Lib.Hide
import Derived.IntWalk
import Derived.BigQuiet
import Derived.Handy
import Derived.PlainAid
import Derived.RowKit
import Derived.Test.YtioopcilcgebeaaProg
import Derived.KernelRfl
set_option linter.unusedVariables false
set_option linter.unusedSimpArgs false
/-! #### Base -/
namespace Go.Proofs.Ytioopcilcgebeaa.Base
open Go.RowKit

theorem wp_abs {P : Program} {c : Code} {Q : Exit → Act → World → Prop} {a : Act} {w : World} (S : World → Prop) (h0 : S w) (h : ∀ W, S W → c.wp P Q a W) : c.wp P Q a w := h w h0
theorem cell_of_heap {W : World} {b : Nat} {c : Array Value} {t : TypeId} {fr : Nat × Nat} (h : W.heap[b]? = some (.cells c t fr)) (i : Nat) : W.cell? ⟨b, i, none⟩ = c[i]? := by
  simp [World.cell?, h]
theorem frozen_of_heap {W : World} {b : Nat} {c : Array Value} {t : TypeId} (h : W.heap[b]? = some (.cells c t (0, 0))) (i : Nat) : W.frozen? ⟨b, i, none⟩ = false := by
  simp [World.frozen?, h]
theorem heap_at (w : World) (o : Obj) (n : Nat) (hn : n = w.heap.size) : (w.alloc o).heap[n]? = some o := by
  subst hn; show (w.heap.push o)[w.heap.size]? = some o; simp
theorem heap_past {w : World} {o r : Obj} {n : Nat} (hn : n < w.heap.size) (h : w.heap[n]? = some r) : (w.alloc o).heap[n]? = some r := by
  rw [← h]; show (w.heap.push o)[n]? = _; rw [Array.getElem?_push, if_neg (Nat.ne_of_lt hn)]
theorem heap_drew {w : World} {r : Obj} {n : Nat} (h : w.heap[n]? = some r) : w.drew.heap[n]? = some r := h
theorem heap_drewN {w : World} {r : Obj} {n m : Nat} (h : w.heap[n]? = some r) : (w.drewN m).heap[n]? = some r := by
  rw [← h]; rfl
theorem heap_below {w w1 : World} {r : Obj} {n : Nat} (hb : Below w.heap.size w w1) (h : w.heap[n]? = some r) : w1.heap[n]? = some r := by
  rw [← h]; exact hb.block n (Array.getElem?_eq_some_iff.1 h).1
theorem below_drewQ {B : Nat} {a w : World} (h : Below B a w) (q : Nat) : Below B a (w.drewN q) := ⟨h.os, h.tape, h.output, h.size, h.block⟩
theorem below_on {a b c : World} (h : Below a.heap.size a b) (k : Below b.heap.size b c) : Below a.heap.size a c := h.trans ⟨k.os, k.tape, k.output, k.size, fun n hn => k.block n (Nat.lt_of_lt_of_le hn h.size)⟩
theorem zA (w : World) (o : Obj) : (w.alloc o).heap.size = w.heap.size + 1 := World.size_alloc w o
theorem zS (w : World) (a : Addr) (v : Value) : (w.setCell a v).heap.size = w.heap.size := World.size_setCell w a v
theorem zD (w : World) : w.drew.heap.size = w.heap.size := rfl
theorem zQ (w : World) (n : Nat) : (w.drewN n).heap.size = w.heap.size := rfl
theorem hpA (w : World) (o : Obj) (n : Nat) (hn : n = w.heap.size) : (w.alloc o).heap[n]? = some o := heap_at w o n hn
theorem hpP {w : World} {o r : Obj} {n : Nat} (hn : n < w.heap.size) (h : w.heap[n]? = some r) : (w.alloc o).heap[n]? = some r := heap_past hn h
theorem hpD {w : World} {r : Obj} {n : Nat} (h : w.heap[n]? = some r) : w.drew.heap[n]? = some r := h
theorem hpN {w : World} {r : Obj} {n m : Nat} (h : w.heap[n]? = some r) : (w.drewN m).heap[n]? = some r := heap_drewN h
theorem hpB {w w1 : World} {r : Obj} {n : Nat} (hb : Below w.heap.size w w1) (h : w.heap[n]? = some r) : w1.heap[n]? = some r := heap_below hb h
theorem hpT {w : World} {k : Nat} {a : Addr} {r : Obj} {v : Value} (hn : k ≠ a.block) (h : w.heap[k]? = some r) : (w.setCell a v).heap[k]? = some r := by
  rw [← h]
  simp only [World.setCell, Array.getElem?_modify]
  rw [if_neg (fun e => hn e.symm)]
theorem hpS {w : World} {b i : Nat} {c : Array Value} {t : TypeId} {fr : Nat × Nat} {v : Value} (h : w.heap[b]? = some (.cells c t fr)) : (w.setCell ⟨b, i, none⟩ v).heap[b]? = some (.cells (c.setIfInBounds i v) t fr) := by
  simp [World.setCell, Array.getElem?_modify, h]
theorem blQ {B : Nat} {a w : World} (h : Below B a w) (q : Nat) : Below B a (w.drewN q) := below_drewQ h q
theorem blO {a b c : World} (h : Below a.heap.size a b) (k : Below b.heap.size b c) : Below a.heap.size a c := below_on h k
theorem lt_of_heap {w : World} {r : Obj} {n : Nat} (h : w.heap[n]? = some r) : n < w.heap.size := (Array.getElem?_eq_some_iff.1 h).1

/-! A region that draws its order: a head of reads and quiet calls, in whatever order, then a tail in one order. The head is walked once, in every world of a class. -/
section
variable {P : Program} {ops : Array Oper} {md : Region.Mode} {C : World → Prop}
def wpHeadQ (P : Program) (md : Region.Mode) (ops : Array Oper) (C : World → Prop) (n : Nat) (L : Array Bool → Act → Prop) : Nat → Array Bool → Act → Prop
  | 0, listed, a => L listed a
  | f + 1, listed, a => Region.ready md ops listed ≠ [] ∧ ∀ i ∈ Region.ready md ops listed, i < n ∧ qOp P ops C i (wpHeadQ P md ops C n L f (listed.setIfInBounds i true)) a
theorem any_of_headQ {n g : Nat} {L : Array Bool → Act → Prop} {Q' : Exit → Act → World → Prop} (hL : ∀ listed a w, C w → L listed a → wpAny P md ops Q' g listed a w) :
    ∀ (f : Nat) (listed : Array Bool) (a : Act) (w : World), C w → wpHeadQ P md ops C n L f listed a → wpAny P md ops Q' (f + g) listed a w
  | 0, listed, a, w, hw, h => by rw [Nat.zero_add]; exact hL _ _ _ hw h
  | f + 1, listed, a, w, hw, h => by
    rw [show f + 1 + g = (f + g) + 1 by omega]
    exact ⟨fun h0 => absurd h0 h.1, fun i hi => wpOp_of_qOp hw (fun a' w' hw' h' => any_of_headQ hL f _ a' w' hw' h') (h.2 i hi).2⟩
theorem headQ_first {n i : Nat} {oi : Oper} {v : Value} {L : Array Bool → Act → Prop} (hi : ops[i]? = some oi) (hsel : ∀ (j : Nat) (o : Oper) cs b, ops[j]? = some o → o.op ≠ .select cs b)
    (hs : Region.sinkB md ops n = true) (hc : Region.chainB md ops n = true) (hn : n < ops.size) (hin : i < n)
    (hdone : ∀ listed a, L listed a → ∀ j ∈ Region.ready md ops listed, n ≤ j) :
    ∀ (f : Nat) (listed : Array Bool) (a : Act), HeadInv md ops n listed →
      (∀ j oj, ops[j]? = some oj → j ≠ i → listed.getD j true = false → (∀ e ∈ oj.after, Region.binds md e = true → e.on ≠ i) → oi.apart ops oj = true) →
      i ∈ Region.ready md ops listed → YieldsIn P ops C oi v a →
      wpHeadQ P md ops C n L f (listed.setIfInBounds i true) (a.put oi.dst v) → wpHeadQ P md ops C n L (f + 1) listed a := by
  intro f
  induction f with
  | zero =>
    intro listed a inv _ hr hy H
    have hun := (mem_ready.1 hr).1
    refine ⟨fun h => (by rw [h] at hr; cases hr), fun j hj => ?_⟩
    have hjn : j < n := by
      rcases Nat.lt_or_ge j n with h | h
      · exact h
      · exact absurd hj (tail_waits hs hc hn inv _ i rfl hin hun j h)
    refine ⟨hjn, ?_⟩
    by_cases hji : j = i
    · subst hji; exact hy.qOp hi H
    · have := hdone _ _ H j (ready_mono hj hji)
      omega
  | succ f ih =>
    intro listed a inv hfree hr hy H
    have hun := (mem_ready.1 hr).1
    refine ⟨fun h => (by rw [h] at hr; cases hr), fun j hj => ?_⟩
    have hjn : j < n := by
      rcases Nat.lt_or_ge j n with h | h
      · exact h
      · exact absurd hj (tail_waits hs hc hn inv _ i rfl hin hun j h)
    refine ⟨hjn, ?_⟩
    by_cases hji : j = i
    · subst hji; exact hy.qOp hi H
    · have h1 := (H.2 j (ready_mono hj hji)).2
      obtain ⟨hjun, oj, hoj, hall⟩ := mem_ready.1 hj
      have hnot : ∀ e ∈ oj.after, Region.binds md e = true → e.on ≠ i := fun e he hb heq => by
        have h1 := hall e he hb
        rw [heq, getD_both hun] at h1
        cases h1
      have h2 := qOp_put hoj (hfree j oj hoj hji hjun hnot) (fun cs b => hsel i oi cs b hi) (fun cs b => hsel j oj cs b hoj) hy h1
      have hfree' : ∀ k ok, ops[k]? = some ok → k ≠ i → (listed.setIfInBounds j true).getD k true = false →
          (∀ e ∈ ok.after, Region.binds md e = true → e.on ≠ i) → oi.apart ops ok = true := fun k ok hk hki hun hno => by
        refine hfree k ok hk hki ?_ hno
        by_cases hjk : j = k
        · subst hjk; exact hjun
        · rw [getD_set_ne true hjk] at hun; exact hun
      refine qOp_mono (fun a' h3 => ih (listed.setIfInBounds j true) a' (inv.set hj hjn) hfree' (ready_mono hr (Ne.symm hji)) h3.1 ?_) h2
      rw [Array.setIfInBounds_comm _ _ hji]
      exact h3.2
theorem headQ_lex {n g : Nat} {Lq : Act → Prop} (hsel : Region.noSelect ops = true) (hs : Region.sinkB md ops n = true) (hc : Region.chainB md ops n = true) (hn : n < ops.size) :
    ∀ (l : List Oper) (k : Nat) (listed : Array Bool) (a : Act), (∀ j, j < l.length → l[j]? = ops[k + j]?) → k + l.length = n → HeadInv md ops n listed →
    Region.lexHead md ops g l.length k listed = true → wpQuiet P ops C Lq l a →
    wpHeadQ P md ops C n (fun listed' a' => Region.seqB md ops g n listed' = true ∧ Lq a') l.length listed a
  | [], k, listed, a, _, hk, _, hB, h => by
    have : k = n := by simpa using hk
    subst this
    exact ⟨by simpa [Region.lexHead] using hB, h⟩
  | o :: l, k, listed, a, hl, hk, inv, hB, h => by
    have h0 : ops[k]? = some o := by simpa using (hl 0 (by simp)).symm
    simp only [List.length_cons, Region.lexHead, Bool.and_eq_true] at hB
    obtain ⟨⟨hr, hf⟩, hB'⟩ := hB
    have hkn : k < n := by simp only [List.length_cons] at hk; omega
    have hr' : k ∈ Region.ready md ops listed := by simpa using hr
    have hst : qOp P ops C k (wpQuiet P ops C Lq l) a := by unfold qOp; simp only [h0]; exact h
    obtain ⟨v, hy, hK⟩ := yieldsIn_of_qOp h0 hst
    exact headQ_first h0 (Region.noSelect_spec hsel) hs hc hn hkn (fun listed' a' hL => seqB_ready hL.1) l.length listed a inv (Region.free_spec h0 hf) hr' hy
      (headQ_lex hsel hs hc hn l (k + 1) _ _ (fun j hj => by have := hl (j + 1) (by simp; omega); simpa [Nat.add_assoc, Nat.add_comm 1 j] using this) (by simp only [List.length_cons] at hk; omega) (inv.set hr' hkn) hB' hK)
/-- The region: its head (n operations) quiet in the class 'F i, for some i', its tail one by one from whatever world of the class. -/
theorem region_tail {ι : Type} (F : ι → World) {id : Nat} {Q : Exit → Act → World → Prop} {a : Act} {w : World} {l : List Oper} (n : Nat) (hm : P.follows .mixedOrders = true) (hB : Region.lexTailB .any l.toArray n = true)
    (hC : ∃ i, w.drew = F i)
    (h : wpQuiet P l.toArray (fun w' => ∃ i, w' = F i) (fun a' => ∀ i, wpList P l.toArray Q (l.drop n) a' (F i)) (l.take n) a) : (Code.region id l.toArray true).wp P Q a w := by
  simp only [Region.lexTailB, Bool.and_eq_true, decide_eq_true_eq] at hB
  obtain ⟨⟨⟨⟨hsel, hn⟩, hs⟩, hc⟩, hlex⟩ := hB
  have hn' : n < l.length := by simpa using hn
  have htl : (l.take n).length = n := by simp; omega
  have hdl : (l.drop n).length = l.toArray.size - n := by simp
  have inv0 : HeadInv .any l.toArray n (Array.replicate l.toArray.size false) :=
    ⟨by simp, fun j oj _ hl => (by rw [getD_replicate_false] at hl; cases hl), fun t _ ht => getD_in (by simpa using ht) (getD_replicate_false _ _)⟩
  have H := headQ_lex (md := .any) (g := l.toArray.size - n) hsel hs hc hn (l.take n) 0 _ a (fun j hj => by
    have hj' : j < n := by rw [htl] at hj; exact hj
    simp [hj']) (by simpa using htl) inv0 (by rw [htl]; exact hlex) h
  refine wp_region_any hm ?_
  have := any_of_headQ (Q' := Q) (g := l.toArray.size - n) (fun listed a' w' hw' hL => by
    obtain ⟨i, rfl⟩ := hw'
    have := wpAny_of_seq (md := .any) (Q' := Q) (l.drop n) n listed a' (F i) (fun j => by simp [List.getElem?_drop]) (by rw [hdl]; exact hL.1) (hL.2 i)
    rwa [hdl] at this) _ _ _ w.drew hC H
  rw [htl, show n + (l.toArray.size - n) = l.toArray.size by omega] at this
  exact this
/-- The same without a tail. -/
theorem region_all {ι : Type} (F : ι → World) {id : Nat} {Q : Exit → Act → World → Prop} {a : Act} {w : World} {l : List Oper} (hm : P.follows .mixedOrders = true) (hB : Region.lexB .any l.toArray = true) (hC : ∃ i, w.drew = F i)
    (h : wpQuiet P l.toArray (fun w' => ∃ i, w' = F i) (fun a' => ∀ i, Q .normal a' (F i)) l a) : (Code.region id l.toArray true).wp P Q a w := by
  refine wp_region_quiet (C := fun w' => ∃ i, w' = F i) hm hB hC ?_
  simpa using h
end
end Go.Proofs.Ytioopcilcgebeaa.Base
/-! #### InstS -/
namespace Go.Proofs.Ytioopcilcgebeaa.InstS

/-- What an operation's word is made of. -/
structure Srt where
  low : Int
  three : Int
  seven : Int
  form : Int
  d : Bool
  a : Bool
  b : Bool
  shift : Bool
def tab : List Srt := [
  ⟨51, 0, 0, 0, true, true, true, false⟩,
  ⟨51, 0, 32, 0, true, true, true, false⟩,
  ⟨51, 1, 0, 0, true, true, true, false⟩,
  ⟨51, 2, 0, 0, true, true, true, false⟩,
  ⟨51, 3, 0, 0, true, true, true, false⟩,
  ⟨51, 4, 0, 0, true, true, true, false⟩,
  ⟨51, 5, 0, 0, true, true, true, false⟩,
  ⟨51, 5, 32, 0, true, true, true, false⟩,
  ⟨51, 6, 0, 0, true, true, true, false⟩,
  ⟨51, 7, 0, 0, true, true, true, false⟩,
  ⟨51, 0, 1, 0, true, true, true, false⟩,
  ⟨51, 1, 1, 0, true, true, true, false⟩,
  ⟨51, 2, 1, 0, true, true, true, false⟩,
  ⟨51, 3, 1, 0, true, true, true, false⟩,
  ⟨51, 4, 1, 0, true, true, true, false⟩,
  ⟨51, 5, 1, 0, true, true, true, false⟩,
  ⟨51, 6, 1, 0, true, true, true, false⟩,
  ⟨51, 7, 1, 0, true, true, true, false⟩,
  ⟨19, 0, 0, 1, true, true, false, false⟩,
  ⟨19, 2, 0, 1, true, true, false, false⟩,
  ⟨19, 3, 0, 1, true, true, false, false⟩,
  ⟨19, 4, 0, 1, true, true, false, false⟩,
  ⟨19, 6, 0, 1, true, true, false, false⟩,
  ⟨19, 7, 0, 1, true, true, false, false⟩,
  ⟨19, 1, 0, 0, true, true, false, true⟩,
  ⟨19, 5, 0, 0, true, true, false, true⟩,
  ⟨19, 5, 32, 0, true, true, false, true⟩,
  ⟨3, 0, 0, 1, true, true, false, false⟩,
  ⟨3, 1, 0, 1, true, true, false, false⟩,
  ⟨3, 2, 0, 1, true, true, false, false⟩,
  ⟨3, 4, 0, 1, true, true, false, false⟩,
  ⟨3, 5, 0, 1, true, true, false, false⟩,
  ⟨35, 0, 0, 2, false, true, true, false⟩,
  ⟨35, 1, 0, 2, false, true, true, false⟩,
  ⟨35, 2, 0, 2, false, true, true, false⟩,
  ⟨99, 0, 0, 3, false, true, true, false⟩,
  ⟨99, 1, 0, 3, false, true, true, false⟩,
  ⟨99, 4, 0, 3, false, true, true, false⟩,
  ⟨99, 5, 0, 3, false, true, true, false⟩,
  ⟨99, 6, 0, 3, false, true, true, false⟩,
  ⟨99, 7, 0, 3, false, true, true, false⟩,
  ⟨55, 0, 0, 4, true, false, false, false⟩,
  ⟨23, 0, 0, 4, true, false, false, false⟩,
  ⟨111, 0, 0, 5, true, false, false, false⟩,
  ⟨103, 0, 0, 1, true, true, false, false⟩,
  ⟨15, 0, 0, 1, false, false, false, false⟩]
def noS : Srt := ⟨0, 0, 0, 0, false, false, false, false⟩
def ofS (op : Int) : Srt := if 1 ≤ op ∧ op ≤ 46 then tab.getD (op - 1).toNat noS else noS
def ofOk (op : Int) : Bool := decide (1 ≤ op ∧ op ≤ 46)
structure Ins where
  op : Int
  rd : Int
  rs1 : Int
  rs2 : Int
  imm : Int
end Go.Proofs.Ytioopcilcgebeaa.InstS
/-! #### Heap -/
/-! What lies in a block of a world that is written out. -/
namespace Go.Proofs.Ytioopcilcgebeaa.Base
open Go.RowKit
theorem heap_set {w : World} {b i : Nat} {c : Array Value} {t : TypeId} {fr : Nat × Nat} {v : Value} (h : w.heap[b]? = some (.cells c t fr)) : (w.setCell ⟨b, i, none⟩ v).heap[b]? = some (.cells (c.setIfInBounds i v) t fr) := by
  simp [World.setCell, Array.getElem?_modify, h]
theorem heap_set_ne {w : World} {k : Nat} {a : Addr} {r : Obj} {v : Value} (hn : k ≠ a.block) (h : w.heap[k]? = some r) : (w.setCell a v).heap[k]? = some r := by
  rw [← h]
  simp only [World.setCell, Array.getElem?_modify]
  rw [if_neg (fun e => hn e.symm)]
theorem size_drewQ (w : World) (n : Nat) : (w.drewN n).heap.size = w.heap.size := rfl
theorem kept_block {G : Prop} {W w' : World} {n : Nat} {c : Array Value} {t : TypeId} (hB : Below W.heap.size W w') (h : W.heap[n]? = some (.cells c t (0, 0)))
    (k : (∀ i, w'.cell? ⟨n, i, none⟩ = c[i]?) → (∀ i, w'.frozen? ⟨n, i, none⟩ = false) → w'.heap[n]? = some (.cells c t (0, 0)) → n < w'.heap.size → G) : G :=
  k (cell_of_heap (heap_below hB h)) (frozen_of_heap (heap_below hB h)) (heap_below hB h) (lt_of_heap (heap_below hB h))
theorem post_res {P : Program} {fn : Func} {a : Act} {w : World} {v : Value} {B : World → Prop} (hB : B w) (hd : a.defers = []) (hr : (results fn a.tmps).run P w = .ok v w) : bodyPost P fn (fun e w' => e = .returned v ∧ B w') .ret a w := bodyPost_ret hr hd ⟨rfl, hB⟩
theorem res_at {P : Program} {fn : Func} {tm : Array Value} {W : World} {v : Value} {n : Nat} {c : Array Value} {t : TypeId} (h : W.heap[n]? = some (.cells c t (0, 0)))
    (k : ∀ W', (∀ i, W'.cell? ⟨n, i, none⟩ = c[i]?) → (results fn tm).run P W' = .ok v W') : (results fn tm).run P W = .ok v W := k W (cell_of_heap h)
end Go.Proofs.Ytioopcilcgebeaa.Base
/-! #### InstA -/
namespace Go.Proofs.Ytioopcilcgebeaa.InstA
open Go.RowKit Go.Proofs.Ytioopcilcgebeaa.Base Go.Proofs.Ytioopcilcgebeaa.InstS

def sv (s : Srt) : Value := .agg #[.int .u32 s.low, .int .u32 s.three, .int .u32 s.seven, .int .i64 s.form, .bool s.d, .bool s.a, .bool s.b, .bool s.shift]
theorem ofS_at (n : Nat) (h : n < 46) : ofS ((n : Int) + 1) = tab.getD n noS := by
  unfold ofS
  rw [if_pos (by omega)]
  congr 1
  omega
/-- 'of' at one operation. -/
def OfAt (n : Nat) : Prop := ∀ w : World, Calls Try.prog 116 #[.int .i64 ((n : Int) + 1)] w fun e w' => e = .returned (.tuple #[sv (tab.getD n noS), .bool true]) ∧ Below w.heap.size w w'
end Go.Proofs.Ytioopcilcgebeaa.InstA
/-! #### RefA -/
namespace Go.Proofs.Ytioopcilcgebeaa.RefA
open Go.RowKit Go.Proofs.Ytioopcilcgebeaa.Base Go.Proofs.Ytioopcilcgebeaa.InstS

def rv (s : Srt) : Value := .agg #[.int .u32 s.low, .int .u32 s.three, .int .u32 s.seven, .int .i64 (if s.shift = true then 6 else s.form), .bool s.d, .bool s.a, .bool s.b]
/-- The reference's 'Of' at one operation. -/
def OfAt (n : Nat) : Prop := ∀ w : World, Calls Try.prog 65 #[.int .i64 ((n : Int) + 1)] w fun e w' => e = .returned (.tuple #[rv (tab.getD n noS), .bool true]) ∧ Below w.heap.size w w'
end Go.Proofs.Ytioopcilcgebeaa.RefA
