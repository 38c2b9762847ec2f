/- Spans: which meet, whether one lies apart from others. -/
import Derived.Test.YtioopcilcgebeaaKM
import Derived.Test.YtioopcilcgebeaaI1
set_option linter.unusedVariables false
set_option linter.unusedSimpArgs false
namespace Go.Proofs.Ytioopcilcgebeaa.CpuA
open Go.RowKit Go.Proofs.Ytioopcilcgebeaa.Base Go.Proofs.YtioopcilcgebeaaW.PrintWords

/-- The worlds that a world's quiet calls lead to: what lay lies. -/
structure Cls (W : World) where
  val : World
  property : Below W.heap.size W val
instance (W : World) : Nonempty (Cls W) := ⟨⟨W, Below.refl _ _⟩⟩
theorem cls_cell {W : World} {b : Nat} {c : Array Value} {t : TypeId} {fr : Nat × Nat} (h : W.heap[b]? = some (.cells c t fr)) (k : Nat) (i : Cls W) : i.val.cell? ⟨b, k, none⟩ = c[k]? :=
  cell_of_heap (heap_below i.property h) k
/-- A region that draws its order, of reads and of calls that leave what lies. -/
theorem region_cls {P : Program} {id : Nat} {Q : Exit → Act → World → Prop} {a : Act} {W : World} {l : List Oper} (hm : P.follows .mixedOrders = true) (hB : Region.lexB .any l.toArray = true)
    (h : wpQuiet P l.toArray (fun w' => ∃ i : Cls W, w' = i.val) (fun a' => ∀ i : Cls W, Q .normal a' i.val) l a) : (Code.region id l.toArray true).wp P Q a W :=
  region_all (fun i : Cls W => i.val) hm hB ⟨⟨W.drew, Below.drew (Below.refl _ _)⟩, rfl⟩ h
theorem cls_call {P : Program} {f : FuncId} {args : Array Value} {W : World} {v : Value} (i : Cls W) (h : ∀ X, Calls P f args X fun e w' => e = .returned v ∧ Below X.heap.size X w') :
    Calls P f args i.val fun e w' => e = .returned v ∧ ∃ j : Cls W, w' = j.val :=
  (h i.val).mono fun _ _ ⟨he, hb⟩ => ⟨he, ⟨_, below_on i.property hb⟩, rfl⟩
theorem cls_callB {P : Program} {f : FuncId} {args : Array Value} {W : World} {v : Value} (i : Cls W) (h : ∀ X, Below W.heap.size W X → Calls P f args X fun e w' => e = .returned v ∧ Below X.heap.size X w') :
    Calls P f args i.val fun e w' => e = .returned v ∧ ∃ j : Cls W, w' = j.val :=
  (h i.val i.property).mono fun _ _ ⟨he, hb⟩ => ⟨he, ⟨_, below_on i.property hb⟩, rfl⟩
theorem fldS0 (a b : Int) (w : World) : (Instr.field 196 (.agg #[.int .u64 a, .int .u64 b]) 0).run Try.prog w = .ok (.int .u64 a) w := by kernel_rfl
theorem fldS1 (a b : Int) (w : World) : (Instr.field 196 (.agg #[.int .u64 a, .int .u64 b]) 1).run Try.prog w = .ok (.int .u64 b) w := by kernel_rfl
def meetsS (s t : Int × Int) : Bool := !(s.1 == s.2) && (!(t.1 == t.2) && (decide (s.1 < t.2) && decide (t.1 < s.2)))
theorem cell2 {W : World} {b : Nat} {t : TypeId} {fr : Nat × Nat} {a0 a1 : Value} (h : W.heap[b]? = some (.cells #[a0, a1] t fr)) :
    W.cell? ⟨b, 0, none⟩ = some a0 ∧ W.cell? ⟨b, 1, none⟩ = some a1 :=
  ⟨(cell_of_heap h 0).trans rfl, (cell_of_heap h 1).trans rfl⟩
theorem empty_calls (a b : Int) (w : World) : Calls Try.prog 153 #[.agg #[.int .u64 a, .int .u64 b]] w fun e w' => e = .returned (.bool (a == b)) ∧ Below w.heap.size w w' :=
  PCpu.image_span_empty.calls a b _ w rfl
set_option maxHeartbeats 8000000 in
set_option maxRecDepth 100000 in
theorem meets_calls (a b c d : Int) (w : World) : Calls Try.prog 163 #[.agg #[.int .u64 a, .int .u64 b], .agg #[.int .u64 c, .int .u64 d]] w fun e w' => e = .returned (.bool (meetsS (a, b) (c, d))) ∧ Below w.heap.size w w' := by
  by_cases h1 : a = b
  · have e1 : (a == b) = true := by simpa using h1
    clear h1
    go_enter Try.func163, Try.ntmps163
    go_wp2_with (first
      | (go_at_call 153; (refine (empty_calls _ _ _).mono ?_); rintro e w' ⟨rfl, hB⟩; (have z1 := hB.size); (have B0 : w'.heap[w.heap.size]? = some (.cells #[.int .u64 a, .int .u64 b] 196 (0, 0)) := heap_below hB (by (repeat' (first | (with_reducible first | assumption | exact hpA _ _ _ rfl | refine hpN ?_ | refine hpD ?_) | ((with_reducible first | refine hpP ?_ ?_ | refine hpT ?_ ?_); (focus (first | omega | (simp [zA, zS, zD, zQ] <;> omega)))) | ((with_reducible refine hpA _ _ _ ?_); (focus (first | omega | (simp [zA, zS, zD, zQ] <;> omega)))) | ((with_reducible refine hpB ?_ ?_); (focus assumption)) | (with_reducible apply hpS))))); (have B1 : w'.heap[w.heap.size + 1]? = some (.cells #[.int .u64 c, .int .u64 d] 196 (0, 0)) := heap_below hB (by (repeat' (first | (with_reducible first | assumption | exact hpA _ _ _ rfl | refine hpN ?_ | refine hpD ?_) | ((with_reducible first | refine hpP ?_ ?_ | refine hpT ?_ ?_); (focus (first | omega | (simp [zA, zS, zD, zQ] <;> omega)))) | ((with_reducible refine hpA _ _ _ ?_); (focus (first | omega | (simp [zA, zS, zD, zQ] <;> omega)))) | ((with_reducible refine hpB ?_ ?_); (focus assumption)) | (with_reducible apply hpS))))); (obtain ⟨k0, k1⟩ := cell2 B0); (obtain ⟨k2, k3⟩ := cell2 B1)))
    go_returns
    exact ⟨by simp [meetsS, e1], by (repeat' (first | (with_reducible first | exact Below.refl _ _ | refine blQ ?_ _ | refine Below.drew ?_ | refine blO ?_ (by assumption) | refine Below.alloc ?_ ?_ _ | refine Below.setCell ?_ ?_ _ | refine Below.frame ?_ _) | omega | (simp only [zA, zS, zD, zQ]; omega)))⟩
  · have e1 : (a == b) = false := by simpa using h1
    clear h1
    by_cases h2 : c = d
    · have e2 : (c == d) = true := by simpa using h2
      clear h2
      go_enter Try.func163, Try.ntmps163
      go_wp2_with (first
        | (go_at_call 153; (refine (empty_calls _ _ _).mono ?_); rintro e w' ⟨rfl, hB⟩; (have z1 := hB.size); (have B0 : w'.heap[w.heap.size]? = some (.cells #[.int .u64 a, .int .u64 b] 196 (0, 0)) := heap_below hB (by (repeat' (first | (with_reducible first | assumption | exact hpA _ _ _ rfl | refine hpN ?_ | refine hpD ?_) | ((with_reducible first | refine hpP ?_ ?_ | refine hpT ?_ ?_); (focus (first | omega | (simp [zA, zS, zD, zQ] <;> omega)))) | ((with_reducible refine hpA _ _ _ ?_); (focus (first | omega | (simp [zA, zS, zD, zQ] <;> omega)))) | ((with_reducible refine hpB ?_ ?_); (focus assumption)) | (with_reducible apply hpS))))); (have B1 : w'.heap[w.heap.size + 1]? = some (.cells #[.int .u64 c, .int .u64 d] 196 (0, 0)) := heap_below hB (by (repeat' (first | (with_reducible first | assumption | exact hpA _ _ _ rfl | refine hpN ?_ | refine hpD ?_) | ((with_reducible first | refine hpP ?_ ?_ | refine hpT ?_ ?_); (focus (first | omega | (simp [zA, zS, zD, zQ] <;> omega)))) | ((with_reducible refine hpA _ _ _ ?_); (focus (first | omega | (simp [zA, zS, zD, zQ] <;> omega)))) | ((with_reducible refine hpB ?_ ?_); (focus assumption)) | (with_reducible apply hpS))))); (obtain ⟨k0, k1⟩ := cell2 B0); (obtain ⟨k2, k3⟩ := cell2 B1)))
      go_returns
      exact ⟨by simp [meetsS, e1, e2], by (repeat' (first | (with_reducible first | exact Below.refl _ _ | refine blQ ?_ _ | refine Below.drew ?_ | refine blO ?_ (by assumption) | refine Below.alloc ?_ ?_ _ | refine Below.setCell ?_ ?_ _ | refine Below.frame ?_ _) | omega | (simp only [zA, zS, zD, zQ]; omega)))⟩
    · have e2 : (c == d) = false := by simpa using h2
      clear h2
      by_cases h3 : a < d
      · have e3 : decide (a < d) = true := decide_eq_true h3
        generalize h4 : decide (c < b) = q at *
        go_enter Try.func163, Try.ntmps163
        go_wp2_with (first
          | (go_at_call 153; (refine (empty_calls _ _ _).mono ?_); rintro e w' ⟨rfl, hB⟩; (have z1 := hB.size); (have B0 : w'.heap[w.heap.size]? = some (.cells #[.int .u64 a, .int .u64 b] 196 (0, 0)) := heap_below hB (by (repeat' (first | (with_reducible first | assumption | exact hpA _ _ _ rfl | refine hpN ?_ | refine hpD ?_) | ((with_reducible first | refine hpP ?_ ?_ | refine hpT ?_ ?_); (focus (first | omega | (simp [zA, zS, zD, zQ] <;> omega)))) | ((with_reducible refine hpA _ _ _ ?_); (focus (first | omega | (simp [zA, zS, zD, zQ] <;> omega)))) | ((with_reducible refine hpB ?_ ?_); (focus assumption)) | (with_reducible apply hpS))))); (have B1 : w'.heap[w.heap.size + 1]? = some (.cells #[.int .u64 c, .int .u64 d] 196 (0, 0)) := heap_below hB (by (repeat' (first | (with_reducible first | assumption | exact hpA _ _ _ rfl | refine hpN ?_ | refine hpD ?_) | ((with_reducible first | refine hpP ?_ ?_ | refine hpT ?_ ?_); (focus (first | omega | (simp [zA, zS, zD, zQ] <;> omega)))) | ((with_reducible refine hpA _ _ _ ?_); (focus (first | omega | (simp [zA, zS, zD, zQ] <;> omega)))) | ((with_reducible refine hpB ?_ ?_); (focus assumption)) | (with_reducible apply hpS))))); (obtain ⟨k0, k1⟩ := cell2 B0); (obtain ⟨k2, k3⟩ := cell2 B1)))
        go_returns
        exact ⟨by simp [meetsS, e1, e2, e3, h4], by (repeat' (first | (with_reducible first | exact Below.refl _ _ | refine blQ ?_ _ | refine Below.drew ?_ | refine blO ?_ (by assumption) | refine Below.alloc ?_ ?_ _ | refine Below.setCell ?_ ?_ _ | refine Below.frame ?_ _) | omega | (simp only [zA, zS, zD, zQ]; omega)))⟩
      · have e3 : decide (a < d) = false := decide_eq_false h3
        go_enter Try.func163, Try.ntmps163
        go_wp2_with (first
          | (go_at_call 153; (refine (empty_calls _ _ _).mono ?_); rintro e w' ⟨rfl, hB⟩; (have z1 := hB.size); (have B0 : w'.heap[w.heap.size]? = some (.cells #[.int .u64 a, .int .u64 b] 196 (0, 0)) := heap_below hB (by (repeat' (first | (with_reducible first | assumption | exact hpA _ _ _ rfl | refine hpN ?_ | refine hpD ?_) | ((with_reducible first | refine hpP ?_ ?_ | refine hpT ?_ ?_); (focus (first | omega | (simp [zA, zS, zD, zQ] <;> omega)))) | ((with_reducible refine hpA _ _ _ ?_); (focus (first | omega | (simp [zA, zS, zD, zQ] <;> omega)))) | ((with_reducible refine hpB ?_ ?_); (focus assumption)) | (with_reducible apply hpS))))); (have B1 : w'.heap[w.heap.size + 1]? = some (.cells #[.int .u64 c, .int .u64 d] 196 (0, 0)) := heap_below hB (by (repeat' (first | (with_reducible first | assumption | exact hpA _ _ _ rfl | refine hpN ?_ | refine hpD ?_) | ((with_reducible first | refine hpP ?_ ?_ | refine hpT ?_ ?_); (focus (first | omega | (simp [zA, zS, zD, zQ] <;> omega)))) | ((with_reducible refine hpA _ _ _ ?_); (focus (first | omega | (simp [zA, zS, zD, zQ] <;> omega)))) | ((with_reducible refine hpB ?_ ?_); (focus assumption)) | (with_reducible apply hpS))))); (obtain ⟨k0, k1⟩ := cell2 B0); (obtain ⟨k2, k3⟩ := cell2 B1)))
        go_returns
        exact ⟨by simp [meetsS, e1, e2, e3], by (repeat' (first | (with_reducible first | exact Below.refl _ _ | refine blQ ?_ _ | refine Below.drew ?_ | refine blO ?_ (by assumption) | refine Below.alloc ?_ ?_ _ | refine Below.setCell ?_ ?_ _ | refine Below.frame ?_ _) | omega | (simp only [zA, zS, zD, zQ]; omega)))⟩

def spF : List (Int × Int) → List Value
  | [] => []
  | x :: l => .int .u64 x.1 :: .int .u64 x.2 :: spF l
theorem spF_length : ∀ l : List (Int × Int), (spF l).length = l.length * 2
  | [] => rfl
  | x :: l => by simp only [spF, List.length_cons, spF_length l]; omega
theorem spF_append : ∀ l m : List (Int × Int), spF (l ++ m) = spF l ++ spF m
  | [], _ => rfl
  | x :: l, m => by simp only [spF, List.cons_append, spF_append l m]
theorem spF_get : ∀ (l : List (Int × Int)) (k : Nat), k < l.length → (spF l)[k * 2]? = some (.int .u64 (l.getD k (0, 0)).1) ∧ (spF l)[k * 2 + 1]? = some (.int .u64 (l.getD k (0, 0)).2)
  | [], k, h => absurd h (by simp)
  | x :: l, 0, _ => ⟨rfl, rfl⟩
  | x :: l, k + 1, h => by
    have ih := spF_get l k (by simpa using h)
    rw [show (k + 1) * 2 = k * 2 + 2 by omega]
    simp only [spF, List.getElem?_cons_succ, List.getD_cons_succ]
    exact ih
/-- Spans that lie at the head of a block. -/
def SpR (g : Nat) (l : List (Int × Int)) (w : World) : Prop := ∃ cur, w.heap[g]? = some (.cells cur 196 (0, 0)) ∧ cur.toList.take (l.length * 2) = spF l
theorem SpR.below {g : Nat} {l : List (Int × Int)} {w w' : World} (h : SpR g l w) (hb : Below w.heap.size w w') : SpR g l w' := by
  obtain ⟨cur, h1, h2⟩ := h
  exact ⟨cur, heap_below hb h1, h2⟩
theorem SpR.cells {g : Nat} {l : List (Int × Int)} {w : World} (h : SpR g l w) (k : Nat) (hk : k < l.length) :
    w.cell? ⟨g, k * 2, none⟩ = some (.int .u64 (l.getD k (0, 0)).1) ∧ w.cell? ⟨g, k * 2 + 1, none⟩ = some (.int .u64 (l.getD k (0, 0)).2) := by
  obtain ⟨cur, h1, h2⟩ := h
  have f := spF_get l k hk
  rw [← h2] at f
  rw [List.getElem?_take, if_pos (by omega), List.getElem?_take, if_pos (by omega), Array.getElem?_toList, Array.getElem?_toList] at f
  exact ⟨(cell_of_heap h1 _).trans f.1, (cell_of_heap h1 _).trans f.2⟩
theorem SpR.lt {g : Nat} {l : List (Int × Int)} {w : World} (h : SpR g l w) : g < w.heap.size := by
  obtain ⟨cur, h1, h2⟩ := h
  exact lt_of_heap h1
/-- The first span that meets, or none. -/
def ixS (s : Int × Int) : List (Int × Int) → Int → Int
  | [], _ => -1
  | x :: l, k => if meetsS s x = true then k else ixS s l (k + 1)
theorem ixS_cons (s x : Int × Int) (l : List (Int × Int)) (k : Int) : ixS s (x :: l) k = if meetsS s x = true then k else ixS s l (k + 1) := rfl
theorem ixS_nil (s : Int × Int) (k : Int) : ixS s [] k = -1 := rfl
set_option maxHeartbeats 8000000 in
set_option maxRecDepth 100000 in
theorem index_calls (a b : Int) (g cap : Nat) (l : List (Int × Int)) (w : World) (h : SpR g l w) (hl : l.length ≤ 5000) :
    Calls Try.prog 164 #[.slice (some ⟨g, 0, none⟩) l.length cap, .func (.func 163) #[.agg #[.int .u64 a, .int .u64 b]] #[]] w fun e w' => e = .returned (.int .i64 (ixS (a, b) l 0)) ∧ Below w.heap.size w w' := by
  have H := Lib.hid h
  clear h
  go_enter Try.func164, Try.ntmps164
  go_wp2
  go_loopw [8] (fun i wr => ∃ k : Nat, k ≤ l.length ∧ i = .int .i64 (k : Int) ∧ Below w.heap.size w wr ∧ ixS (a, b) l 0 = ixS (a, b) (l.drop k) k) (fun i _ => l.length - (intOf i).toNat)
  case atStart => exact ⟨0, by omega, rfl, by (repeat' (first | (with_reducible first | exact Below.refl _ _ | refine blQ ?_ _ | refine Below.drew ?_ | refine blO ?_ (by assumption) | refine Below.alloc ?_ ?_ _ | refine Below.setCell ?_ ?_ _ | refine Below.frame ?_ _) | omega | (simp only [zA, zS, zD, zQ]; omega))), rfl⟩
  case round =>
    obtain ⟨k, hk, rfl, hB, hI⟩ := hrel
    have hz := hB.size
    by_cases q : k < l.length
    · have hs := (H.out.below hB).cells k q
      have hlt := H.out.lt
      have e0 : l.drop k = (l.getD k (0, 0)) :: l.drop (k + 1) := by
        rw [List.drop_eq_getElem_cons q, List.getD_eq_getElem?_getD, List.getElem?_eq_getElem q]; rfl
      rw [e0] at hI
      generalize hx : l.getD k (0, 0) = x at *
      obtain ⟨c, d⟩ := x
      obtain ⟨s1, s2⟩ := hs
      dsimp only at s1 s2
      rw [ixS_cons] at hI
      have HB := Lib.hid hB
      clear hB
      by_cases hm : meetsS (a, b) (c, d) = true
      · rw [if_pos hm] at hI
        have HI := Lib.hid hI
        clear hI
        go_wp2_with (first
          | (go_at_call 163; (refine (meets_calls _ _ _ _ _).mono ?_); rintro e w' ⟨rfl, hB1⟩; (have z1 := hB1.size); rw [hm]))
        go_returns
        exact ⟨by simp [HI.out], (by have := HB.out; (repeat' (first | (with_reducible first | exact Below.refl _ _ | refine blQ ?_ _ | refine Below.drew ?_ | refine blO ?_ (by assumption) | refine Below.alloc ?_ ?_ _ | refine Below.setCell ?_ ?_ _ | refine Below.frame ?_ _) | omega | (simp only [zA, zS, zD, zQ]; omega))))⟩
      · rw [if_neg hm] at hI
        replace hm := Bool.eq_false_iff.mpr hm
        have HI := Lib.hid hI
        clear hI
        go_wp2_with (first
          | (go_at_call 163; (refine (meets_calls _ _ _ _ _).mono ?_); rintro e w' ⟨rfl, hB1⟩; (have z1 := hB1.size); rw [hm]))
        go_roundw
        case rel => exact ⟨k + 1, by omega, by go_num, (by have := HB.out; (repeat' (first | (with_reducible first | exact Below.refl _ _ | refine blQ ?_ _ | refine Below.drew ?_ | refine blO ?_ (by assumption) | refine Below.alloc ?_ ?_ _ | refine Below.setCell ?_ ?_ _ | refine Below.frame ?_ _) | omega | (simp only [zA, zS, zD, zQ]; omega)))), HI.out⟩
        case measure => simp [intOf]; omega
    · have : k = l.length := by omega
      subst this
      rw [List.drop_length, ixS_nil] at hI
      have HI := Lib.hid hI
      clear q hI
      go_wp2
      go_returns
      exact ⟨by simp [HI.out], by (repeat' (first | (with_reducible first | exact Below.refl _ _ | refine blQ ?_ _ | refine Below.drew ?_ | refine blO ?_ (by assumption) | refine Below.alloc ?_ ?_ _ | refine Below.setCell ?_ ?_ _ | refine Below.frame ?_ _) | omega | (simp only [zA, zS, zD, zQ]; omega)))⟩
theorem ixS_any (s : Int × Int) : ∀ (l : List (Int × Int)) (k : Int), 0 ≤ k → (decide (ixS s l k ≥ 0)) = l.any (meetsS s)
  | [], k, h => rfl
  | x :: l, k, h => by
    unfold ixS
    rw [List.any_cons]
    by_cases hm : meetsS s x = true
    · rw [if_pos hm, hm]; simpa using h
    · rw [if_neg hm, Bool.eq_false_iff.mpr hm, Bool.false_or, ixS_any s l (k + 1) (by omega)]
set_option maxHeartbeats 8000000 in
set_option maxRecDepth 100000 in
theorem apart_calls (a b : Int) (g cap : Nat) (l : List (Int × Int)) (w : World) (h : SpR g l w) (hl : l.length ≤ 5000) :
    Calls Try.prog 157 #[.agg #[.int .u64 a, .int .u64 b], .slice (some ⟨g, 0, none⟩) l.length cap] w fun e w' => e = .returned (.bool (!l.any (meetsS (a, b)))) ∧ Below w.heap.size w w' := by
  have HI := Lib.hid (fun W (hb : Below w.heap.size w W) => index_calls a b g cap l W (h.below hb) hl)
  have hx := ixS_any (a, b) l 0 (by omega)
  generalize ixS (a, b) l 0 = x at *
  generalize hy : l.any (meetsS (a, b)) = y at *
  clear h hy
  have HC : ∀ W, Below w.heap.size w W → Calls Try.prog 162 #[.slice (some ⟨g, 0, none⟩) l.length cap, .func (.func 163) #[.agg #[.int .u64 a, .int .u64 b]] #[]] W fun e w' => e = .returned (.bool y) ∧ Below W.heap.size W w' := by
    intro W hW
    have HI' := Lib.hid (HI.out W hW)
    go_enter Try.func162, Try.ntmps162
    go_wp2_with (first
      | (go_at_call 164; (refine HI'.out.mono ?_); rintro e w' ⟨rfl, hB1⟩; (have z1 := hB1.size)))
    go_returns
    exact ⟨by simp [hx], by (repeat' (first | (with_reducible first | exact Below.refl _ _ | refine blQ ?_ _ | refine Below.drew ?_ | refine blO ?_ (by assumption) | refine Below.alloc ?_ ?_ _ | refine Below.setCell ?_ ?_ _ | refine Below.frame ?_ _) | omega | (simp only [zA, zS, zD, zQ]; omega)))⟩
  replace HC := Lib.hid HC
  go_enter Try.func157, Try.ntmps157
  go_wp2_with (first
    | (go_at_call 162; (refine (HC.out _ (by (repeat' (first | (with_reducible first | exact Below.refl _ _ | refine blQ ?_ _ | refine Below.drew ?_ | refine blO ?_ (by assumption) | refine Below.alloc ?_ ?_ _ | refine Below.setCell ?_ ?_ _ | refine Below.frame ?_ _) | omega | (simp only [zA, zS, zD, zQ]; omega))))).mono ?_); rintro e w' ⟨rfl, hB1⟩; (have z1 := hB1.size)))
  go_returns
  exact ⟨by simp, by (repeat' (first | (with_reducible first | exact Below.refl _ _ | refine blQ ?_ _ | refine Below.drew ?_ | refine blO ?_ (by assumption) | refine Below.alloc ?_ ?_ _ | refine Below.setCell ?_ ?_ _ | refine Below.frame ?_ _) | omega | (simp only [zA, zS, zD, zQ]; omega)))⟩
end Go.Proofs.Ytioopcilcgebeaa.CpuA
