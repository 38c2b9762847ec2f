/- A region that draws its order, whose head reads, calls what leaves all that lay, and does events (allocations, calls that make, append); what follows the head draws too, and is quiet. -/
import Derived.Test.YtioopcilcgebeaaRegA
set_option linter.unusedVariables false
set_option linter.unusedSimpArgs false
namespace Go.Proofs.Ytioopcilcgebeaa.Base
open Go.RowKit Go.Proofs.Ytioopcilcgebeaa.CpuA

section
variable {P : Program} {ops : Array Oper} {md : Region.Mode} {W : World}
/-- What an event leaves: R of its value and of the world. -/
def evUpon (P : Program) (W : World) (R : Value → World → Prop) : Result Next → Prop
  | .ok (.value v) w' => Below W.heap.size W w' ∧ R v w'
  | .ok (.enter f args) w' => Calls P f args w' (fun e w'' => ∃ v, e = .returned v ∧ Below W.heap.size W w'' ∧ R v w'')
  | _ => False
def Ev (P : Program) (ops : Array Oper) (W : World) (F : World → Prop) (o : Oper) (R : Value → World → Prop) (a : Act) : Prop :=
  Region.wanted o (yielded ops a.tmps) = true ∧ ∀ w, Below W.heap.size W w → F w → evUpon P W R ((execOp a.eval o).run P w)
/-- What stays behind what leaves all that lies. -/
def Up (F : World → Prop) : Prop := ∀ w w', F w → Below w.heap.size w w' → F w'
def wpHe (P : Program) (md : Region.Mode) (ops : Array Oper) (W : World) (n : Nat) (L : (World → Prop) → Array Bool → Act → Prop) : Nat → (World → Prop) → Array Bool → Act → Prop
  | 0, F, listed, a => L F listed a
  | f + 1, F, listed, a => Region.ready md ops listed ≠ [] ∧ ∀ i ∈ Region.ready md ops listed, i < n ∧ ∃ o, ops[i]? = some o ∧
      ((∃ R, Ev P ops W F o R a ∧ ∀ v, Up (R v) ∧ wpHe P md ops W n L f (R v) (listed.setIfInBounds i true) (a.put o.dst v)) ∨
       (∃ v, Still P ops W o v a ∧ wpHe P md ops W n L f F (listed.setIfInBounds i true) (a.put o.dst v)))
theorem any_of_he {n g : Nat} {L : (World → Prop) → Array Bool → Act → Prop} {Q' : Exit → Act → World → Prop} (hL : ∀ F listed a w, Below W.heap.size W w → F w → L F listed a → wpAny P md ops Q' g listed a w) :
    ∀ (f : Nat) (F : World → Prop) (listed : Array Bool) (a : Act) (w : World), Up F → Below W.heap.size W w → F w → wpHe P md ops W n L f F listed a → wpAny P md ops Q' (f + g) listed a w
  | 0, F, listed, a, w, _, hw, hF, h => by rw [Nat.zero_add]; exact hL _ _ _ _ hw hF h
  | f + 1, F, listed, a, w, hU, hw, hF, h => by
    rw [show f + 1 + g = (f + g) + 1 by omega]
    refine ⟨fun h0 => absurd h0 h.1, fun i hi => ?_⟩
    obtain ⟨_, o, ho, hk⟩ := h.2 i hi
    rcases hk with ⟨R, ⟨hwa, hev⟩, hg⟩ | ⟨v, hst, hr⟩
    · unfold wpOp
      simp only [ho, hwa, if_true]
      left
      unfold Oper.wp
      have hq := hev w hw hF
      revert hq
      generalize (execOp a.eval o).run P w = r
      intro hq
      match r, hq with
      | .ok (.value v) w', hq => exact any_of_he hL f _ _ _ _ (hg v).1 hq.1 hq.2 (hg v).2
      | .ok (.enter f' args) w', hq =>
        refine Calls.mono (R := fun e w'' => ∃ v, e = .returned v ∧ Below W.heap.size W w'' ∧ R v w'') hq (fun e w'' he => ?_)
        obtain ⟨v, rfl, h1, h2⟩ := he
        exact any_of_he hL f _ _ _ _ (hg v).1 h1 h2 (hg v).2
    · refine wpOp_of_qOp (C := fun w' => ∃ i : Cls w, w' = i.val) ⟨⟨w, Below.refl _ _⟩, rfl⟩ (fun a' w' hw' h' => ?_) ((hst w hw).qOp ho (K := fun a' => wpHe P md ops W n L f F (listed.setIfInBounds i true) a') hr)
      obtain ⟨j, rfl⟩ := hw'
      exact any_of_he hL f _ _ _ _ hU (below_on hw j.property) (hU _ _ hF j.property) h'
theorem he_step {n f : Nat} {L : (World → Prop) → Array Bool → Act → Prop} {F : World → Prop} {listed : Array Bool} {a : Act} (rs : List Nat) (hr : Region.ready md ops listed = rs) (hne : rs ≠ [])
    (h : ∀ i ∈ rs, i < n ∧ ∃ o, ops[i]? = some o ∧ ((∃ R, Ev P ops W F o R a ∧ ∀ v, Up (R v) ∧ wpHe P md ops W n L f (R v) (listed.setIfInBounds i true) (a.put o.dst v)) ∨ (∃ v, Still P ops W o v a ∧ wpHe P md ops W n L f F (listed.setIfInBounds i true) (a.put o.dst v)))) :
    wpHe P md ops W n L (f + 1) F listed a := by
  unfold wpHe
  rw [hr]
  exact ⟨hne, h⟩
theorem ev_call {o : Oper} {F : World → Prop} {R : Value → World → Prop} {a : Act} (f : FuncId) (args : Array Value) (hwa : Region.wanted o (yielded ops a.tmps) = true) (hrun : ∀ w, (execOp a.eval o).run P w = .ok (.enter f args) w)
    (h : ∀ w, Below W.heap.size W w → F w → Calls P f args w (fun e w'' => ∃ v, e = .returned v ∧ Below W.heap.size W w'' ∧ R v w'')) : Ev P ops W F o R a :=
  ⟨hwa, fun w hw hF => by rw [hrun]; exact h w hw hF⟩
theorem ev_val {o : Oper} {F : World → Prop} {R : Value → World → Prop} {a : Act} (hwa : Region.wanted o (yielded ops a.tmps) = true)
    (h : ∀ w, Below W.heap.size W w → F w → ∃ v w', (execOp a.eval o).run P w = .ok (.value v) w' ∧ Below W.heap.size W w' ∧ R v w') : Ev P ops W F o R a :=
  ⟨hwa, fun w hw hF => by obtain ⟨v, w', hr, h1, h2⟩ := h w hw hF; rw [hr]; exact ⟨h1, h2⟩⟩
/-- What stands behind the head's first waits for one that stands behind the head. -/
def chain2B (md : Region.Mode) (ops : Array Oper) (n : Nat) : Bool :=
  (List.range ops.size).all fun t => decide (t ≤ n) || (List.range t).any fun j => decide (n ≤ j) && Region.waitsFor md ops t j
theorem tail_waits2 {n : Nat} {listed : Array Bool} (hs : Region.sinkB md ops n = true) (hc : chain2B md ops n = true) (inv : HeadInv md ops n listed) :
    ∀ (d i : Nat), n - i = d → i < n → listed.getD i true = false → ∀ t, n ≤ t → t ∉ Region.ready md ops listed := by
  intro d
  induction d using Nat.strongRecOn with
  | _ d ih =>
    intro i hd hi hun t ht hr
    obtain ⟨_, ot, hot, hall⟩ := mem_ready.1 hr
    have htlt : t < ops.size := (Array.getElem?_eq_some_iff.1 hot).1
    have waits : ∀ j, Region.waitsFor md ops t j = true → listed.getD j false = true := fun j hj => by
      obtain ⟨oj, hoj, e, he, hb, hon⟩ := Region.waitsFor_spec hj
      obtain rfl : oj = ot := Option.some.inj (hoj.symm.trans hot)
      rw [← hon]
      exact hall e he hb
    by_cases htn : t = n
    · subst htn
      obtain ⟨j, hj, hj2⟩ := List.any_eq_true.1 (List.all_eq_true.1 hs i (List.mem_range.2 hi))
      simp only [Bool.and_eq_true, decide_eq_true_eq] at hj2
      have hjle : j ≤ t := by have := List.mem_range.1 hj; omega
      by_cases hjt : j = t
      · subst hjt
        have h2 := waits i hj2.2
        rw [getD_both hun] at h2
        cases h2
      · cases hl : listed.getD j false with
        | true =>
          obtain ⟨oj, hoj, e, he, hb, hon⟩ := Region.waitsFor_spec hj2.2
          have h2 := inv.closed j oj hoj hl e he hb
          rw [hon, getD_both hun] at h2
          cases h2
        | false =>
          have hjs : j < listed.size := by rw [inv.size]; omega
          exact ih (t - j) (by omega) j rfl (by omega) (getD_in hjs hl) t (Nat.le_refl _) hr
    · have h1 := List.all_eq_true.1 hc t (List.mem_range.2 htlt)
      simp only [Bool.or_eq_true, decide_eq_true_eq] at h1
      rcases h1 with h1 | h1
      · omega
      · obtain ⟨j, hj, hj2⟩ := List.any_eq_true.1 h1
        simp only [Bool.and_eq_true, decide_eq_true_eq] at hj2
        have h2 := waits j hj2.2
        have h3 := inv.tail j hj2.1 (by have := List.mem_range.1 hj; omega)
        rw [getD_both h3] at h2
        cases h2
theorem he_first {n i : Nat} {oi : Oper} {v : Value} {L : (World → Prop) → Array Bool → Act → Prop} (hi : ops[i]? = some oi) (hsel : ∀ (j : Nat) (o : Oper) cs b, ops[j]? = some o → o.op ≠ .select cs b)
    (hs : Region.sinkB md ops n = true) (hc : chain2B md ops n = true) (hin : i < n)
    (hdone : ∀ gs listed a, L gs listed a → ∀ j ∈ Region.ready md ops listed, n ≤ j) :
    ∀ (f : Nat) (gs : (World → Prop)) (listed : Array Bool) (a : Act), HeadInv md ops n listed →
      (∀ j oj, ops[j]? = some oj → j ≠ i → listed.getD j true = false → (∀ e ∈ oj.after, Region.binds md e = true → e.on ≠ i) → oi.apart ops oj = true) →
      i ∈ Region.ready md ops listed → Still P ops W oi v a →
      wpHe P md ops W n L f gs (listed.setIfInBounds i true) (a.put oi.dst v) → wpHe P md ops W n L (f + 1) gs listed a := by
  intro f
  induction f with
  | zero =>
    intro gs listed a inv _ hr hy H
    have hun := (mem_ready.1 hr).1
    refine ⟨fun h => (by rw [h] at hr; cases hr), fun j hj => ?_⟩
    have hjn : j < n := by
      rcases Nat.lt_or_ge j n with h | h
      · exact h
      · exact absurd hj (tail_waits2 hs hc inv _ i rfl hin hun j h)
    refine ⟨hjn, ?_⟩
    by_cases hji : j = i
    · subst hji; exact ⟨oi, hi, .inr ⟨v, hy, H⟩⟩
    · have := hdone _ _ _ H j (ready_mono hj hji)
      omega
  | succ f ih =>
    intro gs listed a inv hfree hr hy H
    have hun := (mem_ready.1 hr).1
    refine ⟨fun h => (by rw [h] at hr; cases hr), fun j hj => ?_⟩
    have hjn : j < n := by
      rcases Nat.lt_or_ge j n with h | h
      · exact h
      · exact absurd hj (tail_waits2 hs hc inv _ i rfl hin hun j h)
    refine ⟨hjn, ?_⟩
    by_cases hji : j = i
    · subst hji; exact ⟨oi, hi, .inr ⟨v, hy, H⟩⟩
    · obtain ⟨_, oj, hoj, hk⟩ := H.2 j (ready_mono hj hji)
      obtain ⟨hjun, oj', hoj', hall⟩ := mem_ready.1 hj
      obtain rfl : oj = oj' := Option.some.inj (hoj.symm.trans hoj')
      have hnot : ∀ e ∈ oj.after, Region.binds md e = true → e.on ≠ i := fun e he hb heq => by
        have h1 := hall e he hb
        rw [heq, getD_both hun] at h1
        cases h1
      obtain ⟨h1, h2, h3⟩ := Oper.apart_spec (hfree j oj hoj hji hjun hnot)
      have hfree' : ∀ k ok, ops[k]? = some ok → k ≠ i → (listed.setIfInBounds j true).getD k true = false →
          (∀ e ∈ ok.after, Region.binds md e = true → e.on ≠ i) → oi.apart ops ok = true := fun k ok hk hki hun hno => by
        refine hfree k ok hk hki ?_ hno
        by_cases hjk : j = k
        · subst hjk; exact hjun
        · rw [getD_set_ne true hjk] at hun; exact hun
      have on : ∀ (gs' : (World → Prop)) (u : Value), wpHe P md ops W n L f gs' ((listed.setIfInBounds i true).setIfInBounds j true) ((a.put oi.dst v).put oj.dst u) → wpHe P md ops W n L (f + 1) gs' (listed.setIfInBounds j true) (a.put oj.dst u) := fun gs' u hq => by
        refine ih gs' (listed.setIfInBounds j true) _ (inv.set hj hjn) hfree' (ready_mono hr (Ne.symm hji)) (hy.put (hsel i oi · · hi) h3) ?_
        rw [Array.setIfInBounds_comm _ _ hji, ← Act.put_comm a v u h2]
        exact hq
      refine ⟨oj, hoj, ?_⟩
      rcases hk with ⟨R, ⟨hwa, hev⟩, hg⟩ | ⟨u, hst, hq⟩
      · left
        refine ⟨R, ⟨by rw [← wanted_put oj a oi.dst v h1]; exact hwa, fun w hw hF => ?_⟩, fun u => ⟨(hg u).1, on _ _ (hg u).2⟩⟩
        rw [← execOp_put (ops := ops) oj (hsel j oj · · hoj) a oi.dst v h1]
        exact hev w hw hF
      · right
        exact ⟨u, hst.unput (hsel j oj · · hoj) h1, on _ _ hq⟩
theorem he_lex {n f : Nat} {L : (World → Prop) → Array Bool → Act → Prop} (hsel : ∀ (j : Nat) (o : Oper) cs b, ops[j]? = some o → o.op ≠ .select cs b)
    (hs : Region.sinkB md ops n = true) (hc : chain2B md ops n = true) (hdone : ∀ gs listed a, L gs listed a → ∀ j ∈ Region.ready md ops listed, n ≤ j) {K : Act → Prop} {gs : (World → Prop)} :
    ∀ (is : List Nat) (listed : Array Bool) (a : Act), HeadInv md ops n listed → lexI md ops n is listed = true → StillL P ops W K is a → (∀ a', K a' → wpHe P md ops W n L f gs (setAll listed is) a') →
      wpHe P md ops W n L (f + is.length) gs listed a
  | [], listed, a, _, _, hq, hK => hK a hq
  | k :: is, listed, a, inv, hB, hq, hK => by
    obtain ⟨o, v, ho, hst, hq⟩ := hq
    simp only [lexI, Bool.and_eq_true, decide_eq_true_eq] at hB
    obtain ⟨⟨⟨hr, hf⟩, hkn⟩, hB'⟩ := hB
    have hr' : k ∈ Region.ready md ops listed := by simpa using hr
    exact he_first ho hsel hs hc hkn hdone (f + is.length) gs listed a inv (Region.free_spec ho hf) hr' hst
      (he_lex hsel hs hc hdone is _ _ (inv.set hr' hkn) hB' hq hK)
/-- Behind the head: quiet operations. -/
def heEnd (P : Program) (l : List Oper) (W : World) (n : Nat) (Q : Exit → Act → World → Prop) (F : World → Prop) (listed : Array Bool) (a : Act) : Prop :=
  (Region.ready .any l.toArray listed).all (fun j => decide (n ≤ j)) = true ∧ Region.lexFrom .any l.toArray (l.length - n) n listed = true ∧ ∀ w', Below W.heap.size W w' → F w' → wpQuiet P l.toArray (fun w'' => ∃ i : Cls w', w'' = i.val) (fun a'' => ∀ i : Cls w', Q .normal a'' i.val) (l.drop n) a
/-- The region. is: the quiet operations of the head, m: how many events; behind the head (n operations) all is quiet. -/
theorem region_ev {id : Nat} {Q : Exit → Act → World → Prop} {a : Act} {l : List Oper} (n m : Nat) (is : List Nat) (F0 : World → Prop) (hF0 : Up F0) (hFW : F0 W) (hm : P.follows .mixedOrders = true)
    (hB : (Region.noSelect l.toArray && decide (n ≤ l.length) && Region.sinkB .any l.toArray n && chain2B .any l.toArray n && lexI .any l.toArray n is (Array.replicate l.length false) && decide (is.length + m = n)) = true)
    (hd : dstsB a.tmps.size (is.filterMap (fun k => l[k]?)) = true) (hl : is.map (fun k => l[k]?) = (is.filterMap (fun k => l[k]?)).map some)
    (hq : ∃ A0 : Act, (∀ w, Below W.heap.size W w → ∀ K : Act → Prop, K A0 → wpQuiet P l.toArray (fun w' => ∃ i : Cls w, w' = i.val) K (is.filterMap (fun k => l[k]?)) a) ∧
      wpHe P .any l.toArray W n (heEnd P l W n Q) m F0 (setAll (Array.replicate l.length false) is) A0) :
    (Code.region id l.toArray true).wp P Q a W := by
  simp only [Bool.and_eq_true, decide_eq_true_eq] at hB
  obtain ⟨⟨⟨⟨⟨hsel, hn⟩, hs⟩, hc⟩, hlex⟩, hnm⟩ := hB
  obtain ⟨A0, h, hA⟩ := hq
  have hdl : (l.drop n).length = l.length - n := by simp
  have inv0 : HeadInv .any l.toArray n (Array.replicate l.length false) :=
    ⟨by simp, fun j oj _ hl => (by rw [getD_replicate_false] at hl; cases hl), fun t _ ht => getD_in (by simpa using ht) (getD_replicate_false _ _)⟩
  have hst : StillL P l.toArray W (· = A0) is a := still_of_quiet is _ a (by simpa using hl) hd (fun w hw => h w hw (· = A0) rfl)
  have H := he_lex (md := .any) (L := heEnd P l W n Q) (f := m) (gs := F0) (Region.noSelect_spec hsel) hs hc (fun F listed a hL j hj => by simpa using List.all_eq_true.1 hL.1 j hj) is _ a inv0 hlex hst (fun a' e => by subst e; exact hA)
  refine wp_region_any hm ?_
  have := any_of_he (Q' := Q) (L := heEnd P l W n Q) (g := l.length - n) (fun F listed a' w' hw' hF' hL => by
    refine wpAny_of_quiet (C := fun w'' => ∃ i : Cls w', w'' = i.val) (Q := fun a'' => ∀ i : Cls w', Q .normal a'' i.val) (fun a'' w'' hw'' h'' => ?_) _ _ _ _ ⟨⟨w', Below.refl _ _⟩, rfl⟩ ?_
    · obtain ⟨i, rfl⟩ := hw''; exact h'' i
    · have := wpAnyQ_lex (md := .any) (C := fun w'' => ∃ i : Cls w', w'' = i.val) (Q := fun a'' => ∀ i : Cls w', Q .normal a'' i.val) hsel (l.drop n) n listed a' (fun j => by simp [List.getElem?_drop]) (by rw [hdl]; exact hL.2.1) (hL.2.2 w' hw' hF')
      rwa [hdl] at this) _ F0 _ _ W.drew hF0 (Below.drew (Below.refl _ _)) (hF0 _ _ hFW (Below.drew (Below.refl _ _))) H
  rw [show m + is.length + (l.length - n) = l.toArray.size by simp; omega] at this
  simpa using this
end
end Go.Proofs.Ytioopcilcgebeaa.Base
