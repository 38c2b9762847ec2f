/- A region that draws its order, whose head reads, calls what leaves all that lay, and allocates; its tail goes in one order. -/
import Derived.Test.YtioopcilcgebeaaImgA
set_option linter.unusedVariables false
set_option linter.unusedSimpArgs false
namespace Go.Proofs.Ytioopcilcgebeaa.Base
open Go.RowKit Go.Proofs.Ytioopcilcgebeaa.CpuA

section
variable {P : Program} {ops : Array Oper} {md : Region.Mode} {W : World}
/-- One value in every world behind W, and what lay lies. -/
def Still (P : Program) (ops : Array Oper) (W : World) (o : Oper) (v : Value) (a : Act) : Prop := ∀ w, Below W.heap.size W w → YieldsIn P ops (fun w' => ∃ i : Cls w, w' = i.val) o v a
theorem Still.put {o : Oper} {v : Value} {a : Act} (h : Still P ops W o v a) (hsel : ∀ cs b, o.op ≠ .select cs b) {dst : Option Tmp} {u : Value} (hx : ∀ d, dst = some d → d ∉ o.looksAt ops) : Still P ops W o v (a.put dst u) :=
  fun w hw => (h w hw).of_same (execOp_put o hsel a dst u hx) (wanted_put o a dst u hx)
theorem Still.unput {o : Oper} {v : Value} {a : Act} {dst : Option Tmp} {u : Value} (h : Still P ops W o v (a.put dst u)) (hsel : ∀ cs b, o.op ≠ .select cs b) (hx : ∀ d, dst = some d → d ∉ o.looksAt ops) : Still P ops W o v a :=
  fun w hw => (h w hw).of_same (execOp_put o hsel a dst u hx).symm (wanted_put o a dst u hx).symm
/-- The head: gs are the blocks that were allocated so far, the last one first. -/
def wpHd (P : Program) (md : Region.Mode) (ops : Array Oper) (W : World) (n : Nat) (L : List (Nat × Obj) → Array Bool → Act → Prop) : Nat → List (Nat × Obj) → Array Bool → Act → Prop
  | 0, gs, listed, a => L gs listed a
  | f + 1, gs, listed, a => Region.ready md ops listed ≠ [] ∧ ∀ i ∈ Region.ready md ops listed, i < n ∧ ∃ o, ops[i]? = some o ∧
      ((∃ ob, (Region.wanted o (yielded ops a.tmps) = true ∧ ∀ w : World, (execOp a.eval o).run P w = .ok (.value (.pointer (some ⟨w.heap.size, 0, none⟩))) (w.alloc ob)) ∧
          ∀ g, W.heap.size ≤ g → (∀ p ∈ gs, p.1 < g) → wpHd P md ops W n L f ((g, ob) :: gs) (listed.setIfInBounds i true) (a.put o.dst (.pointer (some ⟨g, 0, none⟩)))) ∨
       (∃ v, Still P ops W o v a ∧ wpHd P md ops W n L f gs (listed.setIfInBounds i true) (a.put o.dst v)))
/-- What is known of a world behind the head. -/
def HdInv (W : World) (gs : List (Nat × Obj)) (w : World) : Prop := Below W.heap.size W w ∧ ∀ p ∈ gs, W.heap.size ≤ p.1 ∧ w.heap[p.1]? = some p.2
theorem HdInv.below {gs : List (Nat × Obj)} {w w' : World} (h : HdInv W gs w) (hb : Below w.heap.size w w') : HdInv W gs w' :=
  ⟨below_on h.1 hb, fun p hp => ⟨(h.2 p hp).1, heap_below hb (h.2 p hp).2⟩⟩
theorem any_of_hd {n g : Nat} {L : List (Nat × Obj) → Array Bool → Act → Prop} {Q' : Exit → Act → World → Prop} (hL : ∀ gs listed a w, HdInv W gs w → L gs listed a → wpAny P md ops Q' g listed a w) :
    ∀ (f : Nat) (gs : List (Nat × Obj)) (listed : Array Bool) (a : Act) (w : World), HdInv W gs w → wpHd P md ops W n L f gs listed a → wpAny P md ops Q' (f + g) listed a w
  | 0, gs, listed, a, w, hw, h => by rw [Nat.zero_add]; exact hL _ _ _ _ hw h
  | f + 1, gs, listed, a, w, hw, h => by
    rw [show f + 1 + g = (f + g) + 1 by omega]
    refine ⟨fun h0 => absurd h0 h.1, fun i hi => ?_⟩
    obtain ⟨_, o, ho, hk⟩ := h.2 i hi
    rcases hk with ⟨ob, ⟨hwa, hrun⟩, hg⟩ | ⟨v, hst, hr⟩
    · unfold wpOp
      simp only [ho, hwa, if_true]
      left
      unfold Oper.wp
      rw [hrun, Oper.upon_value]
      refine any_of_hd hL f _ _ _ _ ?_ (hg w.heap.size hw.1.size (fun p hp => lt_of_heap (hw.2 p hp).2))
      refine ⟨(hw.1).alloc hw.1.size _, fun p hp => ?_⟩
      rcases List.mem_cons.1 hp with rfl | hp
      · exact ⟨hw.1.size, heap_at _ _ _ rfl⟩
      · exact ⟨(hw.2 p hp).1, heap_past (lt_of_heap (hw.2 p hp).2) (hw.2 p hp).2⟩
    · refine wpOp_of_qOp (C := fun w' => ∃ i : Cls w, w' = i.val) ⟨⟨w, Below.refl _ _⟩, rfl⟩ (fun a' w' hw' h' => ?_) ((hst w hw.1).qOp ho (K := fun a' => wpHd P md ops W n L f gs (listed.setIfInBounds i true) a') hr)
      obtain ⟨j, rfl⟩ := hw'
      exact any_of_hd hL f _ _ _ _ (hw.below j.property) h'
theorem hd_first {n i : Nat} {oi : Oper} {v : Value} {L : List (Nat × Obj) → Array Bool → Act → Prop} (hi : ops[i]? = some oi) (hsel : ∀ (j : Nat) (o : Oper) cs b, ops[j]? = some o → o.op ≠ .select cs b)
    (hs : Region.sinkB md ops n = true) (hc : Region.chainB md ops n = true) (hn : n < ops.size) (hin : i < n)
    (hdone : ∀ gs listed a, L gs listed a → ∀ j ∈ Region.ready md ops listed, n ≤ j) :
    ∀ (f : Nat) (gs : List (Nat × Obj)) (listed : Array Bool) (a : Act), HeadInv md ops n listed →
      (∀ j oj, ops[j]? = some oj → j ≠ i → listed.getD j true = false → (∀ e ∈ oj.after, Region.binds md e = true → e.on ≠ i) → oi.apart ops oj = true) →
      i ∈ Region.ready md ops listed → Still P ops W oi v a →
      wpHd P md ops W n L f gs (listed.setIfInBounds i true) (a.put oi.dst v) → wpHd P md ops W n L (f + 1) gs listed a := by
  intro f
  induction f with
  | zero =>
    intro gs listed a inv _ hr hy H
    have hun := (mem_ready.1 hr).1
    refine ⟨fun h => (by rw [h] at hr; cases hr), fun j hj => ?_⟩
    have hjn : j < n := by
      rcases Nat.lt_or_ge j n with h | h
      · exact h
      · exact absurd hj (tail_waits hs hc hn inv _ i rfl hin hun j h)
    refine ⟨hjn, ?_⟩
    by_cases hji : j = i
    · subst hji; exact ⟨oi, hi, .inr ⟨v, hy, H⟩⟩
    · have := hdone _ _ _ H j (ready_mono hj hji)
      omega
  | succ f ih =>
    intro gs listed a inv hfree hr hy H
    have hun := (mem_ready.1 hr).1
    refine ⟨fun h => (by rw [h] at hr; cases hr), fun j hj => ?_⟩
    have hjn : j < n := by
      rcases Nat.lt_or_ge j n with h | h
      · exact h
      · exact absurd hj (tail_waits hs hc hn inv _ i rfl hin hun j h)
    refine ⟨hjn, ?_⟩
    by_cases hji : j = i
    · subst hji; exact ⟨oi, hi, .inr ⟨v, hy, H⟩⟩
    · obtain ⟨_, oj, hoj, hk⟩ := H.2 j (ready_mono hj hji)
      obtain ⟨hjun, oj', hoj', hall⟩ := mem_ready.1 hj
      obtain rfl : oj = oj' := Option.some.inj (hoj.symm.trans hoj')
      have hnot : ∀ e ∈ oj.after, Region.binds md e = true → e.on ≠ i := fun e he hb heq => by
        have h1 := hall e he hb
        rw [heq, getD_both hun] at h1
        cases h1
      obtain ⟨h1, h2, h3⟩ := Oper.apart_spec (hfree j oj hoj hji hjun hnot)
      have hfree' : ∀ k ok, ops[k]? = some ok → k ≠ i → (listed.setIfInBounds j true).getD k true = false →
          (∀ e ∈ ok.after, Region.binds md e = true → e.on ≠ i) → oi.apart ops ok = true := fun k ok hk hki hun hno => by
        refine hfree k ok hk hki ?_ hno
        by_cases hjk : j = k
        · subst hjk; exact hjun
        · rw [getD_set_ne true hjk] at hun; exact hun
      have on : ∀ (gs' : List (Nat × Obj)) (u : Value), wpHd P md ops W n L f gs' ((listed.setIfInBounds i true).setIfInBounds j true) ((a.put oi.dst v).put oj.dst u) → wpHd P md ops W n L (f + 1) gs' (listed.setIfInBounds j true) (a.put oj.dst u) := fun gs' u hq => by
        refine ih gs' (listed.setIfInBounds j true) _ (inv.set hj hjn) hfree' (ready_mono hr (Ne.symm hji)) (hy.put (hsel i oi · · hi) h3) ?_
        rw [Array.setIfInBounds_comm _ _ hji, ← Act.put_comm a v u h2]
        exact hq
      refine ⟨oj, hoj, ?_⟩
      rcases hk with ⟨ob, ⟨hwa, hrun⟩, hg⟩ | ⟨u, hst, hq⟩
      · left
        refine ⟨ob, ⟨by rw [← wanted_put oj a oi.dst v h1]; exact hwa, fun w => ?_⟩, fun g hg1 hg2 => on _ _ (hg g hg1 hg2)⟩
        rw [← execOp_put (ops := ops) oj (hsel j oj · · hoj) a oi.dst v h1]
        exact hrun w
      · right
        exact ⟨u, hst.unput (hsel j oj · · hoj) h1, on _ _ hq⟩
/-- The quiet operations, one behind the other. -/
def StillL (P : Program) (ops : Array Oper) (W : World) (K : Act → Prop) : List Nat → Act → Prop
  | [], a => K a
  | k :: is, a => ∃ o v, ops[k]? = some o ∧ Still P ops W o v a ∧ StillL P ops W K is (a.put o.dst v)
def lexI (md : Region.Mode) (ops : Array Oper) (n : Nat) : List Nat → Array Bool → Bool
  | [], _ => true
  | k :: is, listed => (Region.ready md ops listed).contains k && Region.free md ops listed k && decide (k < n) && lexI md ops n is (listed.setIfInBounds k true)
def setAll (listed : Array Bool) (is : List Nat) : Array Bool := is.foldl (fun l k => l.setIfInBounds k true) listed
theorem hd_lex {n f : Nat} {L : List (Nat × Obj) → Array Bool → Act → Prop} (hsel : ∀ (j : Nat) (o : Oper) cs b, ops[j]? = some o → o.op ≠ .select cs b)
    (hs : Region.sinkB md ops n = true) (hc : Region.chainB md ops n = true) (hn : n < ops.size) (hdone : ∀ gs listed a, L gs listed a → ∀ j ∈ Region.ready md ops listed, n ≤ j) {K : Act → Prop} {gs : List (Nat × Obj)} :
    ∀ (is : List Nat) (listed : Array Bool) (a : Act), HeadInv md ops n listed → lexI md ops n is listed = true → StillL P ops W K is a → (∀ a', K a' → wpHd P md ops W n L f gs (setAll listed is) a') →
      wpHd P md ops W n L (f + is.length) gs listed a
  | [], listed, a, _, _, hq, hK => hK a hq
  | k :: is, listed, a, inv, hB, hq, hK => by
    obtain ⟨o, v, ho, hst, hq⟩ := hq
    simp only [lexI, Bool.and_eq_true, decide_eq_true_eq] at hB
    obtain ⟨⟨⟨hr, hf⟩, hkn⟩, hB'⟩ := hB
    have hr' : k ∈ Region.ready md ops listed := by simpa using hr
    exact hd_first ho hsel hs hc hn hkn hdone (f + is.length) gs listed a inv (Region.free_spec ho hf) hr' hst
      (hd_lex hsel hs hc hn hdone is _ _ (inv.set hr' hkn) hB' hq hK)
/-- The slots that quiet operations leave alone. -/
theorem quiet_slot {C : World → Prop} {A0 : Act} (d : Tmp) : ∀ (l : List Oper) (a : Act), (∀ o ∈ l, o.dst ≠ some d) → wpQuiet P ops C (· = A0) l a → A0.tmps[d]? = a.tmps[d]?
  | [], a, _, h => by have h' : a = A0 := h; rw [h']
  | o :: l, a, hd, h => by
    have key : ∀ v, wpQuiet P ops C (· = A0) l (a.put o.dst v) → A0.tmps[d]? = a.tmps[d]? := fun v hv => by
      rw [quiet_slot d l _ (fun o ho => hd o (List.mem_cons_of_mem _ ho)) hv]
      have h0 := hd o (List.mem_cons_self ..)
      cases e : o.dst with
      | none => rfl
      | some d' =>
        rw [e] at h0
        simp only [Act.put]
        rw [Array.getElem?_setIfInBounds_ne (fun q => h0 (by rw [q]))]
    unfold wpQuiet at h
    split at h
    · obtain ⟨v, _, hv⟩ := h
      exact key v hv
    · exact key _ h
theorem put_size (a : Act) (d : Option Tmp) (v : Value) : (a.put d v).tmps.size = a.tmps.size := by
  cases d <;> simp [Act.put]
def dstsB (sz : Nat) : List Oper → Bool
  | [] => true
  | o :: l => (match o.dst with | some d => decide (d < sz) && l.all (fun o' => o'.dst != some d) | none => false) && dstsB sz l
/-- One walk for each class: the values are the same, for the last frame tells them. -/
theorem still_of_quiet {A0 : Act} : ∀ (is : List Nat) (l : List Oper) (a : Act), is.map (fun k => ops[k]?) = l.map some → dstsB a.tmps.size l = true →
    (∀ w, Below W.heap.size W w → wpQuiet P ops (fun w' => ∃ i : Cls w, w' = i.val) (· = A0) l a) → StillL P ops W (· = A0) is a
  | [], [], a, _, _, h => h W (Below.refl _ _)
  | [], _ :: _, a, e, _, _ => by simp at e
  | _ :: _, [], a, e, _, _ => by simp at e
  | k :: is, o :: l, a, e, hB, h => by
    simp only [List.map_cons, List.cons.injEq] at e
    obtain ⟨ho, e⟩ := e
    simp only [dstsB, Bool.and_eq_true] at hB
    obtain ⟨hd, hB⟩ := hB
    cases hdd : o.dst with
    | none => rw [hdd] at hd; cases hd
    | some d =>
      rw [hdd] at hd
      simp only [Bool.and_eq_true, decide_eq_true_eq, List.all_eq_true, bne_iff_ne, ne_eq] at hd
      have each : ∀ w, Below W.heap.size W w → YieldsIn P ops (fun w' => ∃ i : Cls w, w' = i.val) o (A0.tmps.getD d undef) a ∧ wpQuiet P ops (fun w' => ∃ i : Cls w, w' = i.val) (· = A0) l (a.put o.dst (A0.tmps.getD d undef)) := fun w hw => by
        have hq : qOp P ops (fun w' => ∃ i : Cls w, w' = i.val) k (wpQuiet P ops (fun w' => ∃ i : Cls w, w' = i.val) (· = A0) l) a := by
          have h0 := h w hw
          unfold qOp
          simp only [ho]
          exact h0
        obtain ⟨v, hy, hv⟩ := yieldsIn_of_qOp ho hq
        have hs := quiet_slot d l _ (fun o' ho' => hd.2 o' ho') hv
        have hv' : A0.tmps.getD d undef = v := by
          rw [hdd] at hs
          simp only [Act.put] at hs
          rw [Array.getElem?_setIfInBounds_self_of_lt hd.1] at hs
          rw [Array.getD_eq_getD_getElem?, hs]; rfl
        rw [hv']
        exact ⟨hy, hv⟩
      refine ⟨o, A0.tmps.getD d undef, ho, fun w hw => (each w hw).1, ?_⟩
      exact still_of_quiet is l _ e (by rw [put_size]; exact hB) (fun w hw => (each w hw).2)
/-- Behind the head: the tail, in one order. -/
def hdEnd (P : Program) (l : List Oper) (W : World) (n : Nat) (Q : Exit → Act → World → Prop) (gs : List (Nat × Obj)) (listed : Array Bool) (a : Act) : Prop :=
  Region.seqB .any l.toArray (l.length - n) n listed = true ∧ ∀ w', HdInv W gs w' → wpList P l.toArray Q (l.drop n) a w'
/-- The allocating operations may come in every order. -/
def permB (md : Region.Mode) (ops : Array Oper) : Nat → List Nat → Array Bool → Bool
  | 0, rem, _ => rem.isEmpty
  | f + 1, rem, listed => (Region.ready md ops listed == rem) && !rem.isEmpty && rem.all (fun i => permB md ops f (rem.erase i) (listed.setIfInBounds i true))
/-- Pointers into slots. -/
def putP (dst : Nat → Option Tmp) (a : Act) (p : Nat × Nat) : Act := a.put (dst p.1) (.pointer (some ⟨p.2, 0, none⟩))
theorem hd_allocs {n : Nat} {L : List (Nat × Obj) → Array Bool → Act → Prop} {A0 : Act} {l0 : Array Bool} (ob : Nat → Obj) (dst : Nat → Option Tmp) (As : List Nat)
    (hop : ∀ i ∈ As, i < n ∧ ∃ o, ops[i]? = some o ∧ o.dst = dst i ∧ o.guard = none ∧ ∀ (a : Act) (w : World), (execOp a.eval o).run P w = .ok (.value (.pointer (some ⟨w.heap.size, 0, none⟩))) (w.alloc (ob i)))
    (hfin : ∀ (ps : List (Nat × Nat)), (ps.map Prod.fst).Perm As → ps.Pairwise (fun p q => p.2 < q.2) → (∀ p ∈ ps, W.heap.size ≤ p.2) → L ((ps.map (fun p => (p.2, ob p.1))).reverse) (setAll l0 (ps.map Prod.fst)) (ps.foldl (putP dst) A0)) :
    ∀ (f : Nat) (rem : List Nat) (ps : List (Nat × Nat)), (ps.map Prod.fst ++ rem).Perm As → ps.Pairwise (fun p q => p.2 < q.2) → (∀ p ∈ ps, W.heap.size ≤ p.2) → permB md ops f rem (setAll l0 (ps.map Prod.fst)) = true →
      wpHd P md ops W n L f ((ps.map (fun p => (p.2, ob p.1))).reverse) (setAll l0 (ps.map Prod.fst)) (ps.foldl (putP dst) A0)
  | 0, rem, ps, hp, h1, h2, hB => by
    have : rem = [] := by simpa [permB] using hB
    subst this
    rw [List.append_nil] at hp
    exact hfin ps hp h1 h2
  | f + 1, rem, ps, hp, h1, h2, hB => by
    simp only [permB, Bool.and_eq_true, beq_iff_eq, Bool.not_eq_true', List.isEmpty_eq_false_iff, List.all_eq_true] at hB
    obtain ⟨⟨hr, hne⟩, hall⟩ := hB
    refine ⟨by rw [hr]; exact hne, fun i hi => ?_⟩
    rw [hr] at hi
    have hiA : i ∈ As := hp.subset (List.mem_append_right _ hi)
    obtain ⟨hin, o, ho, hd, hg, hrun⟩ := hop i hiA
    refine ⟨hin, o, ho, .inl ⟨ob i, ⟨by simp [Region.wanted, hg], fun w => hrun _ w⟩, fun g hg1 hg2 => ?_⟩⟩
    have hp' : ((ps ++ [(i, g)]).map Prod.fst ++ rem.erase i).Perm As := by
      rw [List.map_append, List.append_assoc]
      exact ((List.perm_cons_erase hi).symm.append_left _).trans hp
    have h1' : (ps ++ [(i, g)]).Pairwise (fun p q => p.2 < q.2) := by
      rw [List.pairwise_append]
      refine ⟨h1, List.pairwise_singleton _ _, fun p hp q hq => ?_⟩
      rw [List.mem_singleton] at hq
      subst hq
      exact hg2 (p.2, ob p.1) (by rw [List.mem_reverse]; exact List.mem_map_of_mem (f := fun p : Nat × Nat => (p.2, ob p.1)) hp)
    have h2' : ∀ p ∈ ps ++ [(i, g)], W.heap.size ≤ p.2 := fun p hp => by
      rcases List.mem_append.1 hp with hp | hp
      · exact h2 p hp
      · rw [List.mem_singleton] at hp; subst hp; exact hg1
    have hs' : setAll l0 ((ps ++ [(i, g)]).map Prod.fst) = (setAll l0 (ps.map Prod.fst)).setIfInBounds i true := by simp [setAll, List.foldl_append]
    have q := hd_allocs ob dst As hop hfin f (rem.erase i) (ps ++ [(i, g)]) hp' h1' h2' (by rw [hs']; exact hall i hi)
    rw [hs'] at q
    rw [List.foldl_append, List.map_append, List.reverse_append] at q
    rw [hd]
    exact q
theorem setAll_perm {is js : List Nat} (h : is.Perm js) (l : Array Bool) : setAll l is = setAll l js := by
  refine h.foldl_eq' (fun x _ y _ z => ?_) l
  by_cases e : x = y
  · subst e; rfl
  · exact (Array.setIfInBounds_comm _ _ e)
/-- Where each pointer went. -/
def ptrOf (ps : List (Nat × Nat)) (i : Nat) : Nat := ((ps.find? (fun p => p.1 == i)).map Prod.snd).getD 0
theorem ptrOf_mem {ps : List (Nat × Nat)} (hn : (ps.map Prod.fst).Nodup) {p : Nat × Nat} (hp : p ∈ ps) : ptrOf ps p.1 = p.2 := by
  induction ps with
  | nil => cases hp
  | cons x ps ih =>
    rw [List.map_cons, List.nodup_cons] at hn
    unfold ptrOf
    rw [List.find?_cons]
    rcases List.mem_cons.1 hp with rfl | hp
    · simp
    · have : (x.1 == p.1) = false := by
        rw [beq_eq_false_iff_ne]
        intro e
        exact hn.1 (e ▸ List.mem_map_of_mem hp)
      rw [this]
      exact ih hn.2 hp
theorem inj_of_nodup_map {dst : Nat → Option Tmp} : ∀ {As : List Nat}, (As.map dst).Nodup → ∀ {x y : Nat}, x ∈ As → y ∈ As → dst x = dst y → x = y
  | [], _, x, y, hx, _, _ => by cases hx
  | z :: As, h, x, y, hx, hy, e => by
    rw [List.map_cons, List.nodup_cons] at h
    rcases List.mem_cons.1 hx with rfl | hx'
    · rcases List.mem_cons.1 hy with rfl | hy'
      · rfl
      · exact absurd (e ▸ List.mem_map_of_mem hy') h.1
    · rcases List.mem_cons.1 hy with rfl | hy'
      · exact absurd (e ▸ List.mem_map_of_mem hx') h.1
      · exact inj_of_nodup_map h.2 hx' hy' e
theorem pair_of_pairwise : ∀ {ps : List (Nat × Nat)}, ps.Pairwise (fun p q => p.2 < q.2) → ∀ {p q : Nat × Nat}, p ∈ ps → q ∈ ps → p ≠ q → p.2 < q.2 ∨ q.2 < p.2
  | [], _, p, q, hp, _, _ => by cases hp
  | z :: ps, h, p, q, hp, hq, e => by
    rw [List.pairwise_cons] at h
    rcases List.mem_cons.1 hp with rfl | hp'
    · rcases List.mem_cons.1 hq with rfl | hq'
      · exact absurd rfl e
      · exact .inl (h.1 q hq')
    · rcases List.mem_cons.1 hq with rfl | hq'
      · exact .inr (h.1 p hp')
      · exact pair_of_pairwise h.2 hp' hq' e
/-- The region. is: the quiet operations of the head, m: how many of it allocate. -/
theorem region_hd {id : Nat} {Q : Exit → Act → World → Prop} {a : Act} {l : List Oper} (A0 : Act) (n m : Nat) (is : List Nat) (hm : P.follows .mixedOrders = true)
    (hB : (Region.noSelect l.toArray && decide (n < l.length) && Region.sinkB .any l.toArray n && Region.chainB .any l.toArray n && lexI .any l.toArray n is (Array.replicate l.length false) && decide (is.length + m = n)) = true)
    (hd : dstsB a.tmps.size (is.filterMap (fun k => l[k]?)) = true) (hl : is.map (fun k => l[k]?) = (is.filterMap (fun k => l[k]?)).map some)
    (h : ∀ w, Below W.heap.size W w → wpQuiet P l.toArray (fun w' => ∃ i : Cls w, w' = i.val) (· = A0) (is.filterMap (fun k => l[k]?)) a)
    (hA : wpHd P .any l.toArray W n (hdEnd P l W n Q) m [] (setAll (Array.replicate l.length false) is) A0) :
    (Code.region id l.toArray true).wp P Q a W := by
  simp only [Bool.and_eq_true, decide_eq_true_eq] at hB
  obtain ⟨⟨⟨⟨⟨hsel, hn⟩, hs⟩, hc⟩, hlex⟩, hnm⟩ := hB
  have hdl : (l.drop n).length = l.length - n := by simp
  have inv0 : HeadInv .any l.toArray n (Array.replicate l.length false) :=
    ⟨by simp, fun j oj _ hl => (by rw [getD_replicate_false] at hl; cases hl), fun t _ ht => getD_in (by simpa using ht) (getD_replicate_false _ _)⟩
  have hst : StillL P l.toArray W (· = A0) is a := still_of_quiet is _ a (by simpa using hl) hd h
  have H := hd_lex (md := .any) (L := hdEnd P l W n Q) (f := m) (gs := []) (Region.noSelect_spec hsel) hs hc (by simpa using hn) (fun gs listed a hL => seqB_ready hL.1) is _ a inv0 hlex hst (fun a' e => by subst e; exact hA)
  refine wp_region_any hm ?_
  have := any_of_hd (Q' := Q) (g := l.length - n) (fun gs listed a' w' hw' hL => by
    have := wpAny_of_seq (md := .any) (Q' := Q) (l.drop n) n listed a' w' (fun j => by simp [List.getElem?_drop]) (by rw [hdl]; exact hL.1) (hL.2 w' hw')
    rwa [hdl] at this) _ [] _ _ W.drew ⟨Below.drew (Below.refl _ _), fun p hp => by cases hp⟩ H
  rw [show m + is.length + (l.length - n) = l.toArray.size by simp; omega] at this
  simpa using this
/-- The same, the allocations' blocks told by G. -/
theorem region_al {id : Nat} {Q : Exit → Act → World → Prop} {a : Act} {l : List Oper} (n : Nat) (is As : List Nat) (ob : Nat → Obj) (dst : Nat → Option Tmp) (hm : P.follows .mixedOrders = true)
    (hB : (Region.noSelect l.toArray && decide (n < l.length) && Region.sinkB .any l.toArray n && Region.chainB .any l.toArray n && lexI .any l.toArray n is (Array.replicate l.length false) && decide (is.length + As.length = n)) = true)
    (hd : dstsB a.tmps.size (is.filterMap (fun k => l[k]?)) = true) (hl : is.map (fun k => l[k]?) = (is.filterMap (fun k => l[k]?)).map some)
    (hP : (permB .any l.toArray As.length As (setAll (Array.replicate l.length false) is) && Region.seqB .any l.toArray (l.length - n) n (setAll (setAll (Array.replicate l.length false) is) As) && decide ((As.map dst).Nodup) && decide (As.Nodup)) = true)
    (hop : ∀ i ∈ As, i < n ∧ ∃ o, l.toArray[i]? = some o ∧ o.dst = dst i ∧ o.guard = none ∧ ∀ (a : Act) (w : World), (execOp a.eval o).run P w = .ok (.value (.pointer (some ⟨w.heap.size, 0, none⟩))) (w.alloc (ob i)))
    (hq : ∃ A0 : Act, (∀ w, Below W.heap.size W w → ∀ K : Act → Prop, K A0 → wpQuiet P l.toArray (fun w' => ∃ i : Cls w, w' = i.val) K (is.filterMap (fun k => l[k]?)) a) ∧
      ∀ (G : Nat → Nat) (w' : World), (∀ i ∈ As, W.heap.size ≤ G i) → As.Pairwise (fun i j => G i ≠ G j) → Below W.heap.size W w' → (∀ i ∈ As, w'.heap[G i]? = some (ob i)) → wpList P l.toArray Q (l.drop n) (As.foldl (fun a i => a.put (dst i) (.pointer (some ⟨G i, 0, none⟩))) A0) w') :
    (Code.region id l.toArray true).wp P Q a W := by
  simp only [Bool.and_eq_true, decide_eq_true_eq] at hP
  obtain ⟨⟨⟨hperm, hseq⟩, hnd⟩, hnA⟩ := hP
  obtain ⟨A0, h, hA⟩ := hq
  refine region_hd A0 n As.length is hm hB hd hl (fun w hw => h w hw (· = A0) rfl) ?_
  refine hd_allocs (ps := []) (A0 := A0) (l0 := setAll (Array.replicate l.length false) is) ob dst As hop (fun ps hp h1 h2 => ?_) As.length As (by simp) List.Pairwise.nil (fun p hp => by cases hp) hperm
  have hn : (ps.map Prod.fst).Nodup := hp.nodup_iff.2 hnA
  refine ⟨by rw [setAll_perm hp]; exact hseq, fun w' hw => ?_⟩
  have mem : ∀ i ∈ As, ∃ p ∈ ps, p.1 = i := fun i hi => by simpa using hp.symm.subset hi
  have e : ps.foldl (putP dst) A0 = As.foldl (fun a i => a.put (dst i) (.pointer (some ⟨ptrOf ps i, 0, none⟩))) A0 := by
    have e1 : ps.foldl (putP dst) A0 = (ps.map Prod.fst).foldl (fun a i => a.put (dst i) (.pointer (some ⟨ptrOf ps i, 0, none⟩))) A0 := by
      rw [List.foldl_map]
      have : ∀ (qs : List (Nat × Nat)), (∀ q ∈ qs, q ∈ ps) → ∀ (b : Act), qs.foldl (putP dst) b = qs.foldl (fun a p => a.put (dst p.1) (.pointer (some ⟨ptrOf ps p.1, 0, none⟩))) b := by
        intro qs
        induction qs with
        | nil => intro _ b; rfl
        | cons q qs ih =>
          intro hq b
          rw [List.foldl_cons, List.foldl_cons, ih (fun x hx => hq x (List.mem_cons_of_mem _ hx))]
          rw [ptrOf_mem hn (hq q (List.mem_cons_self ..))]
          rfl
      exact this ps (fun _ h => h) A0
    rw [e1]
    refine hp.foldl_eq' (fun x hx y hy z => ?_) A0
    by_cases exy : x = y
    · subst exy; rfl
    · have hxA := hp.subset hx
      have hyA := hp.subset hy
      refine Act.put_comm z _ _ (fun d h1 h2 => ?_)
      have : dst x = dst y := h1.trans h2.symm
      exact exy (inj_of_nodup_map hnd hxA hyA this)
  rw [e]
  refine hA (ptrOf ps) w' (fun i hi => ?_) ?_ hw.1 (fun i hi => ?_)
  · obtain ⟨p, hp1, rfl⟩ := mem i hi
    rw [ptrOf_mem hn hp1]; exact h2 p hp1
  · have hne : ∀ i ∈ As, ∀ j ∈ As, i ≠ j → ptrOf ps i ≠ ptrOf ps j := fun i hi j hj hij => by
      obtain ⟨p, hp1, rfl⟩ := mem i hi
      obtain ⟨q, hq1, rfl⟩ := mem j hj
      rw [ptrOf_mem hn hp1, ptrOf_mem hn hq1]
      rcases pair_of_pairwise h1 hp1 hq1 (fun e => hij (by rw [e])) with h | h
      · omega
      · omega
    exact (List.pairwise_iff_forall_sublist.2 (fun {i j} hs => by
      have hi : i ∈ As := hs.subset (by simp)
      have hj : j ∈ As := hs.subset (by simp)
      have : i ≠ j := by
        have := hnA.sublist hs
        simpa using this
      exact hne i hi j hj this))
  · obtain ⟨p, hp1, rfl⟩ := mem i hi
    rw [ptrOf_mem hn hp1]
    exact (hw.2 (p.2, ob p.1) (by rw [List.mem_reverse]; exact List.mem_map_of_mem (f := fun p : Nat × Nat => (p.2, ob p.1)) hp1)).2
end
end Go.Proofs.Ytioopcilcgebeaa.Base
