/- load.load: a machine with an image. -/
import Derived.Test.YtioopcilcgebeaaImgF
set_option linter.unusedVariables false
set_option linter.unusedSimpArgs false
namespace Go.Proofs.Ytioopcilcgebeaa.CpuA
open Go.RowKit Go.Proofs.Ytioopcilcgebeaa.Base Go.Proofs.YtioopcilcgebeaaW.PrintWords

/-- A segment, put. -/
def puts1 (K : Bk) (X : List Int × List Int) (x : PCpu.S85) : List Int × List Int :=
  if InB K.f K.fn x.f0 x.f1.length then (spl X.1 (x.f0 - K.f).toNat x.f1, X.2) else (X.1, spl X.2 (x.f0 - K.r).toNat x.f1)
structure SegOk (K : Bk) (x : PCpu.S85) : Prop where
  some : 0 < x.f1.length
  a0 : 0 ≤ x.f0
  a1 : x.f0 < 4294967296
  bytes : ∀ c ∈ x.f1, 0 ≤ c ∧ c < 256
  lies : InB K.f K.fn x.f0 x.f1.length ∨ InB K.r K.rn x.f0 x.f1.length
theorem seg_put {b : Nat} {K : Bk} {F R : List Int} {w : World} (h : Mem b K F R w) (hn : K.fb ≠ K.rb) (x : PCpu.S85) (hx : SegOk K x) (A : Option Addr) (c : Nat) (hA : Kd.C (Kd.int .u8) w A x.f1.length x.f1) :
    Calls Try.prog 59 #[.pointer (some ⟨b, 0, none⟩), .int .u32 x.f0, .slice A x.f1.length c] w fun e w' => e = .returned (.bool true) ∧ Mem b K (puts1 K (F, R) x).1 (puts1 K (F, R) x).2 w' ∧ But [K.fb, K.rb] w w' := by
  obtain ⟨ad, rfl, _⟩ := Kd.at_int hA 0 (by omega) (by have := hx.some; omega)
  have hB : ∀ w1, Below w.heap.size w w1 → ∀ j v, (x.f1.map (Value.int .u8))[j]? = some v → w1.cell? (ad.add j) = some v := by
    intro w1 hb j v hv
    rw [List.getElem?_map] at hv
    cases hj : x.f1[j]? with
    | none => rw [hj] at hv; cases hv
    | some q =>
      rw [hj] at hv
      have hl := (List.getElem?_eq_some_iff.1 hj).1
      obtain ⟨ad', e, hc⟩ := Kd.at_int (Kd.C_below hA hb) (j : Int) (by omega) (by omega)
      cases e
      rw [Int.toNat_natCast] at hc
      rw [hc]
      unfold rd
      rw [Int.toNat_natCast, List.getD_eq_getElem?_getD, hj]
      exact hv
  unfold puts1
  by_cases hf : InB K.f K.fn x.f0 x.f1.length
  · rw [if_pos hf]
    exact (putf_calls h hn x.f0 ⟨hx.a0, hx.a1⟩ ad c x.f1 hB hx.bytes hx.some hf).mono fun e w' ⟨h1, h2, h3⟩ => ⟨h1, h2, h3.mono (by simp +contextual)⟩
  · rw [if_neg hf]
    exact (putr_calls h hn x.f0 ⟨hx.a0, hx.a1⟩ ad c x.f1 hB hx.bytes hx.some (hx.lies.resolve_left hf) hf).mono fun e w' ⟨h1, h2, h3⟩ => ⟨h1, h2, h3.mono (by simp +contextual)⟩
def putsS (K : Bk) (ss : List PCpu.S85) : List Int × List Int := ss.foldl (puts1 K) (List.replicate K.fn 0, List.replicate K.rn 0)
theorem puts1_bd (K K' : Bk) (h1 : K.f = K'.f) (h2 : K.fn = K'.fn) (h3 : K.r = K'.r) (X : List Int × List Int) (x : PCpu.S85) : puts1 K X x = puts1 K' X x := by unfold puts1; rw [h1, h2, h3]
theorem below_puts {w a b : World} {l : List Nat} (h : Below w.heap.size w a) (k : But l a b) (hl : ∀ g ∈ l, w.heap.size ≤ g) : Below w.heap.size w b :=
  ⟨k.os.trans h.os, k.tape.trans h.tape, k.output.trans h.output, Nat.le_trans h.size k.size, fun n hn => (k.block n (Nat.lt_of_lt_of_le hn h.size) (fun q => by have := hl n q; omega)).trans (h.block n hn)⟩
/-- A machine that was loaded. -/
def Loaded (f r en sa : Int) (fn rn : Nat) (ss : List PCpu.S85) (w : World) (e : Ending) (w' : World) : Prop :=
  ∃ b mb fb rb, e = .returned (.tuple #[.pointer (some ⟨b, 0, none⟩), .int .i64 0]) ∧ Box b mb ⟨f, fn, r, rn, fb, rb⟩ (putsS ⟨f, fn, r, rn, fb, rb⟩ ss).1 ⟨en, setR (List.replicate 32 0) 2 sa, (putsS ⟨f, fn, r, rn, fb, rb⟩ ss).2⟩ w' ∧
    w.heap.size ≤ b ∧ w.heap.size ≤ mb ∧ w.heap.size ≤ fb ∧ w.heap.size ≤ rb ∧ Below w.heap.size w w'
set_option maxHeartbeats 8000000 in
set_option maxRecDepth 100000 in
theorem load_no (k : Nat) (f r en tx tn sa sn rm fu ia il oa ol : Int) (fn rn : Nat) (A0 : Option Addr) (c0 : Nat) (ws : List PCpu.S73) (A1 : Option Addr) (c1 : Nat) (ss : List PCpu.S85) (w : World) (hr0 : Kd.C PCpu.k73 w A0 ws.length ws) (hc0 : ws.length ≤ c0) (hr1 : Kd.C PCpu.k85 w A1 ss.length ss) (hc1 : ss.length ≤ c1) (l1 : ss.length ≤ 1000) (c s : Bool) (hc : PCpu.mem_can.f f fn r rn = some c) (hs : c = true → PCpu.image_segs.f k f (fn : Int) r (rn : Int) en tx tn sa sn rm fu ia il oa ol ws ss = some s) (hv : (c && (s && (codeT en tx tn && dataT r rn sa sn rm ia il oa ol ws ss))) = false) :
    Calls Try.prog 71 #[.agg #[.int .u32 f, .int .u32 (fn : Int), .int .u32 r, .int .u32 (rn : Int), .int .u32 en, .int .u32 tx, .int .u32 tn, .int .u32 sa, .int .u32 sn, .int .u32 rm, .int .u64 fu, .int .u32 ia, .int .u32 il, .int .u32 oa, .int .u32 ol, .slice A0 ws.length c0, .slice A1 ss.length c1]] w fun e w' => e = .returned (.tuple #[.pointer none, .int .i64 6]) ∧ Below w.heap.size w w' := by
  have HV := Lib.hid (fun X (hX : Below w.heap.size w X) => Valid_calls k f (fn : Int) r (rn : Int) en tx tn sa sn rm fu ia il oa ol A0 c0 ws A1 c1 ss X (Kd.C_below hr0 hX) hc0 (Kd.C_below hr1 hX) hc1 l1 c s hc hs)
  rw [hv] at HV
  go_enter Try.func71, Try.ntmps71
  go_upto_region 1 with (fail)
  (try simp only [Act.put, List.setIfInBounds_toArray, List.set_cons_zero, List.set_cons_succ])
  refine wp_abs (fun W => W.heap[w.heap.size]? = some (.cells #[.int .u32 f, .int .u32 (fn : Int), .int .u32 r, .int .u32 (rn : Int), .int .u32 en, .int .u32 tx, .int .u32 tn, .int .u32 sa, .int .u32 sn, .int .u32 rm, .int .u64 fu, .int .u32 ia, .int .u32 il, .int .u32 oa, .int .u32 ol, .slice A0 ws.length c0, .slice A1 ss.length c1] 78 (0, 0)) ∧ Below w.heap.size w W) ⟨by (repeat' (first | (with_reducible first | assumption | exact hpA _ _ _ rfl | refine hpN ?_ | refine hpD ?_) | ((with_reducible first | refine hpP ?_ ?_ | refine hpT ?_ ?_); (focus (first | omega | (simp [zA, zS, zD, zQ] <;> omega)))) | ((with_reducible refine hpA _ _ _ ?_); (focus (first | omega | (simp [zA, zS, zD, zQ] <;> omega)))) | ((with_reducible refine hpB ?_ ?_); (focus assumption)) | (with_reducible apply hpS))), by (repeat' (first | (with_reducible first | exact Below.refl _ _ | refine blQ ?_ _ | refine Below.drew ?_ | refine blO ?_ (by assumption) | refine Below.alloc ?_ ?_ _ | refine Below.setCell ?_ ?_ _ | refine Below.frame ?_ _) | omega | (simp only [zA, zS, zD, zQ]; omega)))⟩ ?_
  intro W hW
  obtain ⟨b0, hB⟩ := hW
  have xL : ∀ W2 : World, (∃ i : Cls W, W2 = i.val) → W2.heap[w.heap.size]? = some (.cells #[.int .u32 f, .int .u32 (fn : Int), .int .u32 r, .int .u32 (rn : Int), .int .u32 en, .int .u32 tx, .int .u32 tn, .int .u32 sa, .int .u32 sn, .int .u32 rm, .int .u64 fu, .int .u32 ia, .int .u32 il, .int .u32 oa, .int .u32 ol, .slice A0 ws.length c0, .slice A1 ss.length c1] 78 (0, 0)) := fun W2 h => by obtain ⟨i, rfl⟩ := h; exact heap_below i.property b0
  refine region_cls_f ?_
  repeat (first | (go_big_quiet_want; (refine' quiet_loadI (.tmp 1) 9 rfl rfl rfl xL (by kernel_rfl) (by simp only [Act.put, List.setIfInBounds_toArray, List.set_cons_zero, List.set_cons_succ] <;> rfl) ?_); go_big_quiet_on) | go_big_quiet_step (first
    | (go_at_call 102; with_reducible exact cls_callB _ (fun X hX => HV.out X (below_on hB hX)))))
  refine wpQuiet_nil ?_
  intro i
  have hI := i.property
  go_wp2
  go_returns
  exact ⟨by simp, below_on hB hI⟩
set_option maxHeartbeats 8000000 in
set_option maxRecDepth 100000 in
theorem load_yes (k : Nat) (f r en tx tn sa sn rm fu ia il oa ol : Int) (fn rn : Nat) (A0 : Option Addr) (c0 : Nat) (ws : List PCpu.S73) (A1 : Option Addr) (c1 : Nat) (ss : List PCpu.S85) (w : World) (hr0 : Kd.C PCpu.k73 w A0 ws.length ws) (hc0 : ws.length ≤ c0) (hr1 : Kd.C PCpu.k85 w A1 ss.length ss) (hc1 : ss.length ≤ c1) (l1 : ss.length ≤ 1000) (c s : Bool) (hc : PCpu.mem_can.f f fn r rn = some c) (hs : c = true → PCpu.image_segs.f k f (fn : Int) r (rn : Int) en tx tn sa sn rm fu ia il oa ol ws ss = some s) (hv : (c && (s && (codeT en tx tn && dataT r rn sa sn rm ia il oa ol ws ss))) = true) (g0 : 0 ≤ f ∧ f < 4294967296) (g1 : 0 ≤ r ∧ r < 4294967296) (g2 : fn ≤ 1048576) (g3 : rn ≤ 1048576) (g4 : 0 ≤ en ∧ en < 4294967296) (g5 : 0 ≤ sa ∧ sa < 4294967296) (hseg : ∀ x ∈ ss, SegOk ⟨f, fn, r, rn, 0, 0⟩ x) :
    Calls Try.prog 71 #[.agg #[.int .u32 f, .int .u32 (fn : Int), .int .u32 r, .int .u32 (rn : Int), .int .u32 en, .int .u32 tx, .int .u32 tn, .int .u32 sa, .int .u32 sn, .int .u32 rm, .int .u64 fu, .int .u32 ia, .int .u32 il, .int .u32 oa, .int .u32 ol, .slice A0 ws.length c0, .slice A1 ss.length c1]] w (Loaded f r en sa fn rn ss w) := by
  have hct : c = true := by cases c; exact absurd hv (by simp); rfl
  have HN := Lib.hid (fun X => new_in f r fn rn (by rw [hc, hct]) g2 g3 g0.1 g0.2 g1.1 g1.2 X)
  have HR1 := Lib.hid hr1
  have HV := Lib.hid (fun X (hX : Below w.heap.size w X) => Valid_calls k f (fn : Int) r (rn : Int) en tx tn sa sn rm fu ia il oa ol A0 c0 ws A1 c1 ss X (Kd.C_below hr0 hX) hc0 (Kd.C_below hr1 hX) hc1 l1 c s hc hs)
  rw [hv] at HV
  go_enter Try.func71, Try.ntmps71
  go_upto_region 1 with (fail)
  (try simp only [Act.put, List.setIfInBounds_toArray, List.set_cons_zero, List.set_cons_succ])
  refine wp_abs (fun W => W.heap[w.heap.size]? = some (.cells #[.int .u32 f, .int .u32 (fn : Int), .int .u32 r, .int .u32 (rn : Int), .int .u32 en, .int .u32 tx, .int .u32 tn, .int .u32 sa, .int .u32 sn, .int .u32 rm, .int .u64 fu, .int .u32 ia, .int .u32 il, .int .u32 oa, .int .u32 ol, .slice A0 ws.length c0, .slice A1 ss.length c1] 78 (0, 0)) ∧ Below w.heap.size w W) ⟨by (repeat' (first | (with_reducible first | assumption | exact hpA _ _ _ rfl | refine hpN ?_ | refine hpD ?_) | ((with_reducible first | refine hpP ?_ ?_ | refine hpT ?_ ?_); (focus (first | omega | (simp [zA, zS, zD, zQ] <;> omega)))) | ((with_reducible refine hpA _ _ _ ?_); (focus (first | omega | (simp [zA, zS, zD, zQ] <;> omega)))) | ((with_reducible refine hpB ?_ ?_); (focus assumption)) | (with_reducible apply hpS))), by (repeat' (first | (with_reducible first | exact Below.refl _ _ | refine blQ ?_ _ | refine Below.drew ?_ | refine blO ?_ (by assumption) | refine Below.alloc ?_ ?_ _ | refine Below.setCell ?_ ?_ _ | refine Below.frame ?_ _) | omega | (simp only [zA, zS, zD, zQ]; omega)))⟩ ?_
  intro W hW
  obtain ⟨b0, hB⟩ := hW
  have xL : ∀ W2 : World, (∃ i : Cls W, W2 = i.val) → W2.heap[w.heap.size]? = some (.cells #[.int .u32 f, .int .u32 (fn : Int), .int .u32 r, .int .u32 (rn : Int), .int .u32 en, .int .u32 tx, .int .u32 tn, .int .u32 sa, .int .u32 sn, .int .u32 rm, .int .u64 fu, .int .u32 ia, .int .u32 il, .int .u32 oa, .int .u32 ol, .slice A0 ws.length c0, .slice A1 ss.length c1] 78 (0, 0)) := fun W2 h => by obtain ⟨i, rfl⟩ := h; exact heap_below i.property b0
  refine region_cls_f ?_
  repeat (first | (go_big_quiet_want; (refine' quiet_loadI (.tmp 1) 9 rfl rfl rfl xL (by kernel_rfl) (by simp only [Act.put, List.setIfInBounds_toArray, List.set_cons_zero, List.set_cons_succ] <;> rfl) ?_); go_big_quiet_on) | go_big_quiet_step (first
    | (go_at_call 102; with_reducible exact cls_callB _ (fun X hX => HV.out X (below_on hB hX)))))
  refine wpQuiet_nil ?_
  intro i
  have hI := i.property
  generalize i.val = W2 at *
  have b2 := heap_below hI b0
  clear xL HV
  have hB2 := below_on hB hI
  have q0 := lt_of_heap b2
  have x0 : W2.cell? ⟨w.heap.size, 0, none⟩ = some (.int .u32 f) := (cell_of_heap b2 0).trans rfl
  have x1 : W2.cell? ⟨w.heap.size, 1, none⟩ = some (.int .u32 (fn : Int)) := (cell_of_heap b2 1).trans rfl
  have x2 : W2.cell? ⟨w.heap.size, 2, none⟩ = some (.int .u32 r) := (cell_of_heap b2 2).trans rfl
  have x3 : W2.cell? ⟨w.heap.size, 3, none⟩ = some (.int .u32 (rn : Int)) := (cell_of_heap b2 3).trans rfl
  have B2 := Lib.hid b2
  have HB2 := Lib.hid hB2
  clear b0 b2 hB hB2 hI
  go_wp2_with (first
    | (go_at_call 15; (refine (HN.out _).mono ?_); rintro e wn ⟨mb, K, rfl, hK⟩; (have zn := hK.bel.size); (have x16 : wn.cell? ⟨w.heap.size, 16, none⟩ = some (.slice A1 ss.length c1) := (cell_of_heap (heap_below hK.bel B2.out) 16).trans rfl)))
  obtain ⟨kf, kfn, kr, krn, fb, rb⟩ := K
  obtain ⟨hMk, q1, q2, q3, q4, hf1, hf2, hf3, hn1, hn2, hbel⟩ := hK
  dsimp only at q1 q2 q3 q4 hf1 hf2 hf3 hn1 hn2
  replace q1 := q1.symm
  replace q2 := q2.symm
  replace q3 := q3.symm
  replace q4 := q4.symm
  subst q1 q2 q3 q4
  have hseg' : ∀ x ∈ ss, SegOk ⟨f, fn, r, rn, fb, rb⟩ x := fun x hx => ⟨(hseg x hx).some, (hseg x hx).a0, (hseg x hx).a1, (hseg x hx).bytes, (hseg x hx).lies⟩
  clear hseg
  generalize hK : (⟨f, fn, r, rn, fb, rb⟩ : Bk) = K at *
  have ek1 : K.fb = fb := by rw [← hK]
  have ek2 : K.rb = rb := by rw [← hK]
  have HMk := Lib.hid hMk
  have Hbel := Lib.hid hbel
  have q1 : w.heap.size < W2.heap.size := q0
  have p1 := hf1
  have p2 := hf2
  have p3 := hf3
  have hbw : ∀ X : World, But [fb, rb] wn X → Below w.heap.size w X := fun X h => below_puts (below_on HB2.out Hbel.out) h (by intro g hg; rcases List.mem_cons.1 hg with rfl | hg; omega; rw [List.mem_singleton] at hg; subst hg; omega)
  have hbi : ∀ X : World, But [fb, rb] wn X → X.heap[w.heap.size]? = some (.cells #[.int .u32 f, .int .u32 (fn : Int), .int .u32 r, .int .u32 (rn : Int), .int .u32 en, .int .u32 tx, .int .u32 tn, .int .u32 sa, .int .u32 sn, .int .u32 rm, .int .u64 fu, .int .u32 ia, .int .u32 il, .int .u32 oa, .int .u32 ol, .slice A0 ws.length c0, .slice A1 ss.length c1] 78 (0, 0)) := fun X h => h.heap (by simp; omega) (heap_below Hbel.out B2.out)
  have Hbw := Lib.hid hbw
  have Hbi := Lib.hid hbi
  clear hMk hbel hbw hbi
  go_loopw [23] (fun i wr => ∃ k : Nat, k ≤ ss.length ∧ i = .int .i64 (k : Int) ∧ Mem mb K ((ss.take k).foldl (puts1 K) (List.replicate K.fn 0, List.replicate K.rn 0)).1 ((ss.take k).foldl (puts1 K) (List.replicate K.fn 0, List.replicate K.rn 0)).2 wr ∧ But [fb, rb] wn wr) (fun i _ => ss.length - (intOf i).toNat)
  case atStart => exact ⟨0, by omega, rfl, by have := HMk.out; subst hK; simpa using this.below (by (repeat' (first | (with_reducible first | exact Below.refl _ _ | refine blQ ?_ _ | refine Below.drew ?_ | refine blO ?_ (by assumption) | refine Below.alloc ?_ ?_ _ | refine Below.setCell ?_ ?_ _ | refine Below.frame ?_ _) | omega | (simp only [zA, zS, zD, zQ]; omega)))), But.of_below (by (repeat' (first | (with_reducible first | exact Below.refl _ _ | refine blQ ?_ _ | refine Below.drew ?_ | refine blO ?_ (by assumption) | refine Below.alloc ?_ ?_ _ | refine Below.setCell ?_ ?_ _ | refine Below.frame ?_ _) | omega | (simp only [zA, zS, zD, zQ]; omega))))⟩
  case round =>
    obtain ⟨k, hk, rfl, hM, hBt⟩ := hrel
    have hzz := hBt.size
    by_cases q : k < ss.length
    · have hbw := Hbw.out wr hBt
      obtain ⟨ad, A5, c5, ea, c0', c1', hcl, hdat⟩ := PCpu.at_T85 (Kd.C_below HR1.out hbw) (k : Int) (by omega) (by omega)
      rw [Int.toNat_natCast] at c0' c1'
      have ex : ss.take (k + 1) = ss.take k ++ [PCpu.rd_T85 ss (k : Int)] := by
        unfold PCpu.rd_T85
        rw [List.take_succ_eq_append_getElem q, Int.toNat_natCast, List.getD_eq_getElem?_getD, List.getElem?_eq_getElem q]
        rfl
      have hxm : PCpu.rd_T85 ss (k : Int) ∈ ss := by
        unfold PCpu.rd_T85
        rw [Int.toNat_natCast, List.getD_eq_getElem?_getD, List.getElem?_eq_getElem q]
        exact List.getElem_mem q
      have hx := hseg' _ hxm
      generalize PCpu.rd_T85 ss (k : Int) = x at *
      generalize hX : (ss.take k).foldl (puts1 K) (List.replicate K.fn 0, List.replicate K.rn 0) = X at *
      have eX : (ss.take (k + 1)).foldl (puts1 K) (List.replicate K.fn 0, List.replicate K.rn 0) = puts1 K X x := by rw [ex, List.foldl_append, hX]; rfl
      obtain ⟨F, R⟩ := X
      dsimp only at hM
      have Hp := Lib.hid (fun (Y : World) (hb : Below wr.heap.size wr Y) => seg_put (hM.below hb) (by rw [ek1, ek2]; exact hn2) x hx A5 c5 (Kd.C_below hdat hb))
      have HBt := Lib.hid hBt
      have HeX := Lib.hid eX
      generalize x.f0 = xa at *
      generalize x.f1.length = xl at *
      subst ea
      clear hbw ex hxm hx hX eX hM hdat hcl hBt
      go_wp2_with (first
        | (go_at_call 59; (refine (Hp.out _ ?_).mono ?_); (focus (repeat' (first | (with_reducible first | exact Below.refl _ _ | refine blQ ?_ _ | refine Below.drew ?_ | refine blO ?_ (by assumption) | refine Below.alloc ?_ ?_ _ | refine Below.setCell ?_ ?_ _ | refine Below.frame ?_ _) | omega | (simp only [zA, zS, zD, zQ]; omega)))); rintro e w6 ⟨rfl, hM6, hB6⟩; (have z6 := hB6.size); (have HM6 := Lib.hid hM6); (have HB6 := Lib.hid hB6); clear hM6 hB6))
      go_roundw
      case rel =>
        refine ⟨k + 1, by omega, by go_num, by rw [HeX.out]; exact HM6.out, ?_⟩
        have hb6 := HB6.out
        rw [ek1, ek2] at hb6
        exact HBt.out.trans ((But.of_below (by (repeat' (first | (with_reducible first | exact Below.refl _ _ | refine blQ ?_ _ | refine Below.drew ?_ | refine blO ?_ (by assumption) | refine Below.alloc ?_ ?_ _ | refine Below.setCell ?_ ?_ _ | refine Below.frame ?_ _) | omega | (simp only [zA, zS, zD, zQ]; omega))))).trans hb6)
      case measure => simp [intOf]; omega
    · obtain rfl : k = ss.length := by omega
      rw [List.take_length] at hM
      have hbw := Hbw.out wr hBt
      have hbi := Hbi.out wr hBt
      have x4 : wr.cell? ⟨w.heap.size, 4, none⟩ = some (.int .u32 en) := (cell_of_heap hbi 4).trans rfl
      have qi := lt_of_heap hbi
      have HM := Lib.hid hM
      have Hbi2 := Lib.hid hbi
      have Hbw2 := Lib.hid hbw
      clear q hbw hbi hM x16
      go_wp2_with (first
        | (go_at_call 17; (refine (new_calls ⟨mb, 0, none⟩ en _).mono ?_); rintro e wc ⟨rfl, hMc, hBc⟩; (have zc := hBc.size); (have x7 : wc.cell? ⟨w.heap.size, 7, none⟩ = some (.int .u32 sa) := (cell_of_heap (heap_below hBc (by have := Hbi2.out; (repeat' (first | (with_reducible first | assumption | exact hpA _ _ _ rfl | refine hpN ?_ | refine hpD ?_) | ((with_reducible first | refine hpP ?_ ?_ | refine hpT ?_ ?_); (focus (first | omega | (simp [zA, zS, zD, zQ] <;> omega)))) | ((with_reducible refine hpA _ _ _ ?_); (focus (first | omega | (simp [zA, zS, zD, zQ] <;> omega)))) | ((with_reducible refine hpB ?_ ?_); (focus assumption)) | (with_reducible apply hpS))))) 7).trans rfl))
        | (go_at_call 19; (refine (Set_calls hMc _ _).mono ?_); rintro e wd ⟨rfl, hMd, hBd⟩; (have zd := hBd.size)))
      go_returns
      have hM := HM.out
      have m1 := lt_of_heap hM.mem
      have m2 := lt_of_heap hM.flash
      have m3 := lt_of_heap hM.ram
      have hc' : Below wr.heap.size wr wc := by (repeat' (first | (with_reducible first | exact Below.refl _ _ | refine blQ ?_ _ | refine Below.drew ?_ | refine blO ?_ (by assumption) | refine Below.alloc ?_ ?_ _ | refine Below.setCell ?_ ?_ _ | refine Below.frame ?_ _) | omega | (simp only [zA, zS, zD, zQ]; omega)))
      have hMc2 := hM.below hc'
      rw [ek1] at m2
      rw [ek2] at m3
      have hMd2 := hMc2.but hBd (by simp; omega) (by rw [ek1]; simp; omega) (by rw [ek2]; simp; omega)
      have hwd : Below w.heap.size w wd := below_puts (below_on Hbw2.out hc') hBd (by intro g hg; rw [List.mem_singleton] at hg; subst hg; have := Hbw2.out.size; simpa using this)
      refine ⟨wr.heap.size, mb, fb, rb, by simp, ?_, by have := Hbw2.out.size; omega, by omega, by omega, by omega, hwd⟩
      rw [hK]
      have hz : ∀ q ∈ List.replicate 32 (0 : Int), 0 ≤ q ∧ q < 4294967296 := fun q hq => by have h0 := List.eq_of_mem_replicate hq; omega
      refine ⟨hMd, hMd2, ⟨g4.1, g4.2, hMd.2, setR_regs hz 2 sa g5, hMd2.rl, hMd2.rbytes⟩, by omega, by rw [ek1]; omega, by rw [ek2]; omega, by rw [ek2]; exact hn1, by rw [ek1, ek2]; exact hn2⟩
end Go.Proofs.Ytioopcilcgebeaa.CpuA
