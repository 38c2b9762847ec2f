import Derived.Test.YtmmckdjbbbmdgaaLirF
import Derived.Test.YtmmckdjbbbmdgaaLirE
import Derived.Test.YtmmckdjbbbmdgaaPLirx15
import Derived.Test.YtmmckdjbbbmdgaaPLirx9
set_option linter.unusedSimpArgs false
namespace Go.Proofs.Ytmmckdjbbbmdgaa.LirA
open Go.RowKit Go.Proofs.YtmmckdjbbbmdgaaW.PrintWords Go.Proofs.YtmmckdjbbbmdgaaW.PrintLast Go.Proofs.YtmmckdjbbbmdgaaW.PrintMore
open Go.Proofs.Ytmmckdjbbbmdgaa.PLir

def isOpen (l : List S33) (out : List Int) (i k : Nat) : Prop := opAt l k = 23 ∧ ¬ out.getD k 0 < (i : Int)
instance (l : List S33) (out : List Int) (i k : Nat) : Decidable (isOpen l out i k) := by unfold isOpen; infer_instance
theorem open_iff {l : List S33} {out : List Int} {i k : Nat} {st : List Nat} (hO : I l l.length out []) (hK : K l i st) (hi : i < l.length) (hk : k < i) : isOpen l out i k ↔ k ∈ st := by
  obtain ⟨⟨o, hI⟩, _, _⟩ := hK
  constructor
  · rintro ⟨h3, hge⟩
    by_cases hm : k ∈ st
    · exact hm
    · obtain ⟨e, he, hl, _⟩ := hI.shut k hk h3 hm
      obtain ⟨e', he', _, hv⟩ := hO.shut k (by omega) h3 (by simp)
      rw [he] at he'
      obtain rfl := Option.some.inj he'
      rw [hv] at hge
      omega
  · intro hm
    obtain ⟨h3, _, d, _, hE⟩ := Open_mem hI.open_ k hm
    obtain ⟨e, he, _, hv⟩ := hO.shut k (by omega) h3 (by simp)
    rw [he] at hE
    have := (endF_lt hE.symm).1
    exact ⟨h3, by rw [hv]; omega⟩
def opens (l : List S33) (out : List Int) (i k m : Nat) : Nat := ((List.range' k m).filter fun k => decide (isOpen l out i k)).length
theorem opens_succ (l : List S33) (out : List Int) (i k m : Nat) : opens l out i k (m + 1) = (if isOpen l out i k then 1 else 0) + opens l out i (k + 1) m := by
  unfold opens
  rw [List.range'_succ, List.filter_cons]
  by_cases h : isOpen l out i k
  · rw [if_pos h, if_pos (decide_eq_true h), List.length_cons]; omega
  · rw [if_neg h, if_neg (by rw [decide_eq_false h]; simp)]; omega
theorem opens_all {l : List S33} {out : List Int} {i : Nat} {st : List Nat} (hO : I l l.length out []) (hK : K l i st) (hi : i < l.length) (h3 : opAt l i = 23) : opens l out i 0 (i + 1) = st.length + 1 := by
  have hp : ((List.range' 0 (i + 1)).filter fun k => decide (isOpen l out i k)).Perm (i :: st) := by
    refine (List.perm_ext_iff_of_nodup ?_ ?_).2 fun a => ?_
    · exact List.filter_sublist.nodup List.nodup_range'
    · refine List.nodup_cons.2 ⟨fun hm => ?_, hK.desc.imp fun h => Nat.ne_of_gt h⟩
      obtain ⟨⟨o, hI⟩, _, _⟩ := hK
      have := (Open_mem hI.open_ i hm).2.1
      omega
    · rw [List.mem_filter, List.mem_range'_1, List.mem_cons, decide_eq_true_eq]
      constructor
      · rintro ⟨⟨_, hlt⟩, ho⟩
        by_cases e : a = i
        · exact .inl e
        · exact .inr ((open_iff hO hK hi (by omega)).1 ho)
      · rintro (rfl | hm)
        · refine ⟨⟨by omega, by omega⟩, h3, ?_⟩
          obtain ⟨e, he, _, hv⟩ := hO.shut a hi h3 (by simp)
          have := (endF_lt he).1
          rw [hv]; omega
        · have hlt : a < i := by
            obtain ⟨⟨o, hI⟩, _, _⟩ := hK
            exact (Open_mem hI.open_ a hm).2.1
          exact ⟨⟨by omega, by omega⟩, (open_iff hO hK hi hlt).2 hm⟩
  unfold opens
  rw [hp.length_eq, List.length_cons]
def clash (l : List S33) (out : List Int) (i k : Nat) : Prop := (hasS (opAt l i)).1 = true ∧ ∃ k', k ≤ k' ∧ k' < i ∧ isOpen l out i k' ∧ dAt l i = dAt l k'
theorem inner_ev (l : List S33) (hn : l.length < 100000000) (out : List Int) (hl : out.length = l.length) (i : Nat) (hi : i < l.length) (r : Int) : ∀ (m k c : Nat), k + m = i + 1 → c ≤ k →
    (clash l out i k → r = 4) → (¬ clash l out i k → Ev (fun n => pintleref15_Check.l2 n l out (i : Int) ((c + opens l out i k m : Nat) : Int) ((i + 1 : Nat) : Int)) r) →
    Ev (fun n => pintleref15_Check.l2 n l out (i : Int) (c : Int) (k : Int)) r
  | 0, k, c, hk, hc, _, h2 => by
    obtain rfl : k = i + 1 := by omega
    exact h2 (by rintro ⟨_, k', a, b, _⟩; omega)
  | m + 1, k, c, hk, hc, h1, h2 => by
    have hw : wrap64 ((k : Int) + 1) = ((k + 1 : Nat) : Int) := w1 (by omega)
    have hc1 : wrap64 ((c : Int) + 1) = ((c + 1 : Nat) : Int) := w1 (by omega)
    rw [opens_succ] at h2
    refine Ev.step (fun n => by rw [pintleref15_Check.l2]) ?_
    simp only [if_pos (show (k : Int) ≤ (i : Int) by omega), if_pos (show (0 : Int) ≤ (k : Int) by omega), if_pos (show (k : Int) < (l.length : Int) by omega), f0_at]
    have key : ∀ t : Bool, (t = true ↔ ¬ isOpen l out i k) → Ev (fun n => pintleref15_Check.j3 n l out (i : Int) (c : Int) (k : Int) t) r := by
      intro t ht
      by_cases ho : isOpen l out i k
      · have ht' : ¬ t = true := fun h => ht.1 h ho
        rw [if_pos ho] at h2
        have go : (¬ (k < i ∧ (hasS (opAt l i)).1 = true ∧ dAt l i = dAt l k)) → Ev (fun n => pintleref15_Check.l2 n l out (i : Int) ((c + 1 : Nat) : Int) ((k + 1 : Nat) : Int)) r := fun hx => by
          refine inner_ev l hn out hl i hi r m (k + 1) (c + 1) (by omega) (by omega) (fun ⟨hd, k', a, b, d, e⟩ => h1 ⟨hd, k', by omega, b, d, e⟩) (fun hno => ?_)
          have := h2 (fun ⟨hd, k', a, b, d, e⟩ => by
            by_cases hk' : k' = k
            · subst hk'; exact hx ⟨b, hd, e⟩
            · exact hno ⟨hd, k', by omega, b, d, e⟩)
          rw [show c + (1 + opens l out i (k + 1) m) = c + 1 + opens l out i (k + 1) m by omega] at this
          exact this
        refine Ev.step (fun n => by rw [pintleref15_Check.j3]) ?_
        simp only [if_neg ht', if_pos (show (0 : Int) ≤ (i : Int) by omega), if_pos (show (i : Int) < (l.length : Int) by omega), has_eq, f0_at, Option.bind_some, f1_at, hw, hc1]
        by_cases hki : k < i
        · simp only [if_pos (show (k : Int) < (i : Int) by omega)]
          by_cases hd : (hasS (opAt l i)).1 = true
          · simp only [if_pos hd, if_pos (show (0 : Int) ≤ (k : Int) by omega), if_pos (show (k : Int) < (l.length : Int) by omega)]
            by_cases he : dAt l i = dAt l k
            · simp only [if_pos he]
              rw [h1 ⟨hd, k, Nat.le_refl _, hki, ho, he⟩]
              exact Ev.now _
            · simp only [if_neg he]
              exact go (fun h => he h.2.2)
          · simp only [if_neg hd]
            exact go (fun h => hd h.2.1)
        · simp only [if_neg (show ¬ (k : Int) < (i : Int) by omega)]
          exact go (fun h => hki h.1)
      · rw [if_neg ho] at h2
        refine Ev.step (fun n => by rw [pintleref15_Check.j3]) ?_
        simp only [if_pos (ht.2 ho), hw]
        refine inner_ev l hn out hl i hi r m (k + 1) c (by omega) (by omega) (fun ⟨hd, k', a, b, d, e⟩ => h1 ⟨hd, k', by omega, b, d, e⟩) (fun hno => ?_)
        have := h2 (fun ⟨hd, k', a, b, d, e⟩ => by
          by_cases hk' : k' = k
          · subst hk'; exact ho d
          · exact hno ⟨hd, k', by omega, b, d, e⟩)
        rw [show c + (0 + opens l out i (k + 1) m) = c + opens l out i (k + 1) m by omega] at this
        exact this
    by_cases h3 : opAt l k = 23
    · simp only [if_pos h3, if_pos (show (k : Int) < (out.length : Int) by omega), rdN]
      refine key _ ?_
      rw [decide_eq_true_eq]
      exact ⟨fun h ho => ho.2 h, fun h => Decidable.byContradiction fun hx => h ⟨h3, hx⟩⟩
    · simp only [if_neg h3]
      exact key true ⟨fun _ ho => h3 ho.1, fun _ => rfl⟩
theorem outer_ev (l : List S33) (hn : l.length < 100000000) (hop : ∀ i, i < l.length → 1 ≤ opAt l i ∧ opAt l i ≤ 24) (out : List Int) (hO : I l l.length out []) (hF : ¬ Fail l) : ∀ (m i : Nat) (st : List Nat), i + m = l.length → K l i st →
    (keptF l m i st → Ev (fun n => pintleref15_Check.l1 n l out (i : Int)) 0) ∧ (¬ keptF l m i st → Ev (fun n => pintleref15_Check.l1 n l out (i : Int)) 4)
  | 0, i, st, hi, hK => by
    refine ⟨fun _ => ?_, fun h => absurd trivial h⟩
    refine Ev.step (fun n => by rw [pintleref15_Check.l1]) ?_
    simp only [if_neg (show ¬ (i : Int) < (l.length : Int) by omega)]
    exact Ev.now _
  | m + 1, i, st, hi, hK => by
    have hil : i < l.length := by omega
    have hw : wrap64 ((i : Int) + 1) = ((i + 1 : Nat) : Int) := w1 (by omega)
    have hne := no_end hil hF hK
    have hd : (hasS (opAt l i)).1 = (ofS (opAt l i)).1 := by rw [(has_of _ (hop i hil)).1]
    have hcl : clash l out i 0 ↔ hits l i st := by
      unfold clash hits
      rw [hd]
      refine and_congr_right fun _ => ⟨fun ⟨k', _, hlt, ho, he⟩ => ⟨k', (open_iff hO hK hil hlt).1 ho, he.symm⟩, fun ⟨j, hj, he⟩ => ?_⟩
      have hlt : j < i := by
        obtain ⟨⟨o, hI⟩, _, _⟩ := hK
        exact (Open_mem hI.open_ j hj).2.1
      exact ⟨j, Nat.zero_le _, hlt, (open_iff hO hK hil hlt).2 hj, he.symm⟩
    have start : ∀ r : Int, (hits l i st → r = 4) → (¬ hits l i st → ((opAt l i = 23 ∧ st.length + 1 > 10) → r = 4) ∧ (¬ (opAt l i = 23 ∧ st.length + 1 > 10) → Ev (fun n => pintleref15_Check.l1 n l out ((i + 1 : Nat) : Int)) r)) → Ev (fun n => pintleref15_Check.l1 n l out (i : Int)) r := by
      intro r h1 h2
      refine Ev.step (fun n => by rw [pintleref15_Check.l1]) ?_
      simp only [if_pos (show (i : Int) < (l.length : Int) by omega)]
      refine inner_ev l hn out hO.len i hil r (i + 1) 0 0 (by omega) (by omega) (fun h => h1 (hcl.1 h)) (fun h => ?_)
      obtain ⟨ha, hb⟩ := h2 (fun hh => h (hcl.2 hh))
      refine Ev.step (fun n => by rw [pintleref15_Check.l2]) ?_
      simp only [if_neg (show ¬ ((i + 1 : Nat) : Int) ≤ (i : Int) by omega), if_pos (show (0 : Int) ≤ (i : Int) by omega), if_pos (show (i : Int) < (l.length : Int) by omega), f0_at, hw, Nat.zero_add]
      by_cases h3 : opAt l i = 23
      · rw [opens_all hO hK hil h3]
        simp only [if_pos h3]
        by_cases h10 : st.length + 1 > 10
        · simp only [if_pos (show ((st.length + 1 : Nat) : Int) > 10 by omega)]
          rw [ha ⟨h3, h10⟩]
          exact Ev.now _
        · simp only [if_neg (show ¬ ((st.length + 1 : Nat) : Int) > 10 by omega)]
          exact hb (fun h => h10 h.2)
      · simp only [if_neg h3]
        exact hb (fun h => h3 h.1)
    have hnx : (next l i st).length ≤ 10 ↔ ¬ (opAt l i = 23 ∧ st.length + 1 > 10) := by
      have := hK.few
      unfold next
      by_cases h3 : opAt l i = 23
      · rw [if_pos h3, List.length_cons]; omega
      · rw [if_neg h3]
        split
        · rw [List.length_tail]; omega
        · omega
    constructor
    · rintro ⟨a, b, c⟩
      refine start 0 (fun h => absurd h a) fun _ => ⟨fun h => absurd h (hnx.1 b), fun _ => ?_⟩
      exact (outer_ev l hn hop out hO hF m (i + 1) _ (by omega) (K_next hil hne hK b)).1 c
    · intro h
      refine start 4 (fun _ => rfl) fun hh => ⟨fun _ => rfl, fun hx => ?_⟩
      have b := hnx.2 hx
      exact (outer_ev l hn hop out hO hF m (i + 1) _ (by omega) (K_next hil hne hK b)).2 (fun c => h ⟨hh, b, c⟩)
/-! ### Which programs may be -/
def All32 (l : List S33) : Prop := ∀ x ∈ l, Fits32 x
theorem mem_at {l : List S33} {i : Nat} (hi : i < l.length) : l.getD i z33 ∈ l := by
  rw [List.getD_eq_getElem?_getD, List.getElem?_eq_getElem hi]
  exact List.getElem_mem _
theorem check_ev (l : List S33) (hn : l.length < 100000000) (h32 : All32 l) : ∃ r, Ev (fun k => lir_Check.f k l) r ∧ Ev (fun k => pintleref15_Check.f k l) r := by
  by_cases hlong : 20000 < l.length
  · refine ⟨2, ?_, ?_⟩
    · unfold lir_Check.f; simp only [if_pos (show (l.length : Int) > 20000 by omega)]; exact Ev.now _
    · unfold pintleref15_Check.f; simp only [if_pos (show (l.length : Int) > 20000 by omega)]; exact Ev.now _
  · unfold lir_Check.f pintleref15_Check.f
    simp only [if_neg (show ¬ (l.length : Int) > 20000 by omega)]
    obtain ⟨⟨e1, e2⟩, he, hor⟩ := endsf_ev l hn
    have hre := refEnds_ev l hn _ hor
    have rest : (∀ i, i < l.length → canB (l.getD i z33) = true) → ∃ r, Ev (fun k => ((lir_ends.f k l).bind fun bt172 => (if bt172.2 = true then ((lir_kept.f k l).bind fun t176 => (if t176 = true then (some 0) else (some 4))) else (some 4)) : Option Int)) r ∧
        Ev (fun k => ((pintleref15_Ends.f k l).bind fun bt206 => (if bt206.2 = true then (pintleref15_Check.l1 k l bt206.1 0) else (some 4)) : Option Int)) r := by
      intro hc
      rcases hor with ⟨out, heq, hO⟩ | ⟨heq, hF⟩
      · have hF : ¬ Fail l := by
          rintro (⟨j, hj, h3, hx⟩ | ⟨p, hp, h4, hx⟩)
          · obtain ⟨e, hE, _⟩ := hO.shut j hj h3 (by simp)
            rw [hx] at hE
            simp at hE
          · obtain ⟨j, _, h3, hE, _⟩ := hO.ends p hp h4
            exact hx j h3 hE
        have hK : K l 0 [] := ⟨⟨_, I_start l⟩, List.Pairwise.nil, by simp⟩
        obtain ⟨b, hb, hbk⟩ := kept_ev l hn hF l.length 0 [] (by omega) hK
        obtain ⟨g1, g2⟩ := outer_ev l hn (fun i hi => can_op (hc i hi)) out hO hF l.length 0 [] (by omega) hK
        injection heq with q1 q2
        subst q1 q2
        refine ⟨if b = true then 0 else 4, ?_, ?_⟩
        · refine Ev.bind he ?_
          simp only [if_true]
          refine Ev.bind (a := b) hb ?_
          cases b <;> exact Ev.now _
        · refine Ev.bind hre ?_
          simp only [if_true]
          cases b
          · exact g2 (fun h => by have := hbk.2 h; simp at this)
          · exact g1 (hbk.1 rfl)
      · injection heq with q1 q2
        subst q1 q2
        exact ⟨4, Ev.bind he (Ev.now _), Ev.bind hre (Ev.now _)⟩
    have scan : ∀ (m i : Nat), i + m = l.length → (∀ j, j < i → canB (l.getD j z33) = true) → ∃ r, Ev (fun k => lir_Check.l0 k l l (l.length : Int) (i : Int)) r ∧ Ev (fun k => pintleref15_Check.l0 k l (i : Int)) r := by
      intro m
      induction m with
      | zero =>
        intro i hi hj
        obtain ⟨r, a, b⟩ := rest (fun j hj' => hj j (by omega))
        refine ⟨r, Ev.step (fun k => by rw [lir_Check.l0]) ?_, Ev.step (fun k => by rw [pintleref15_Check.l0]) ?_⟩
        · simp only [if_neg (show ¬ (i : Int) < (l.length : Int) by omega)]
          exact a
        · simp only [if_neg (show ¬ (i : Int) < (l.length : Int) by omega)]
          exact b
      | succ m ih =>
        intro i hi hj
        have hil : i < l.length := by omega
        have hw : wrap64 ((i : Int) + 1) = ((i + 1 : Nat) : Int) := w1 (by omega)
        have c1 := can_ev (l.getD i z33)
        have c2 := rcan_ev (l.getD i z33) (h32 _ (mem_at hil))
        cases hc : canB (l.getD i z33) with
        | true =>
          obtain ⟨r, a, b⟩ := ih (i + 1) (by omega) (fun j hj' => by
            by_cases e : j = i
            · subst e; exact hc
            · exact hj j (by omega))
          rw [hc] at c1 c2
          refine ⟨r, Ev.step (fun k => by rw [lir_Check.l0]) ?_, Ev.step (fun k => by rw [pintleref15_Check.l0]) ?_⟩
          · simp only [if_pos (show (i : Int) < (l.length : Int) by omega), if_pos (show (0 : Int) ≤ (i : Int) by omega), rdT, hw]
            exact Ev.bind c1 a
          · simp only [if_pos (show (i : Int) < (l.length : Int) by omega), if_pos (show (0 : Int) ≤ (i : Int) by omega), rdT, hw]
            exact Ev.bind c2 b
        | false =>
          rw [hc] at c1 c2
          refine ⟨1, Ev.step (fun k => by rw [lir_Check.l0]) ?_, Ev.step (fun k => by rw [pintleref15_Check.l0]) ?_⟩
          · simp only [if_pos (show (i : Int) < (l.length : Int) by omega), if_pos (show (0 : Int) ≤ (i : Int) by omega), rdT, hw]
            exact Ev.bind c1 (Ev.now _)
          · simp only [if_pos (show (i : Int) < (l.length : Int) by omega), if_pos (show (0 : Int) ≤ (i : Int) by omega), rdT, hw]
            exact Ev.bind c2 (Ev.now _)
    exact scan l.length 0 (by omega) (fun j hj => by omega)
end Go.Proofs.Ytmmckdjbbbmdgaa.LirA
