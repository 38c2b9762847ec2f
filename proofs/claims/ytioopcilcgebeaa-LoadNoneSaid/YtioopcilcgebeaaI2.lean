/- Functions as the kit's printer has written them. -/
import Derived.Test.YtioopcilcgebeaaI0
import Derived.Test.YtioopcilcgebeaaKP1
import Derived.Test.YtioopcilcgebeaaI1
set_option linter.unusedVariables false
set_option linter.unusedSimpArgs false
/-! #### PCpux120 -/
namespace Go.Proofs.Ytioopcilcgebeaa.PCpu
open Go.RowKit Go.Proofs.YtioopcilcgebeaaW.PrintWords Go.Proofs.YtioopcilcgebeaaW.PrintLast Go.Proofs.YtioopcilcgebeaaW.PrintMore
attribute [local go_sem] max2_int min2_int max_two min_two max_three min_three max_four min_four   -- for this text's walks alone

/-! ### image_segs: function 135 -/
mutual
def image_segs.j0 : Nat → Bool → Int → Int → Int → Int → Int → Int → Int → Int → Int → Int → Int → Int → Int → Int → Int → List (S73) → List (S85) → Int → Int → Int → Int → Option (Bool)
  | 0, _, _, _, _, _, _, _, _, _, _, _, _, _, _, _, _, _, _, _, _, _, _ => none
  | k + 1, x25, x485000, x485001, x485002, x485003, x485004, x485005, x485006, x485007, x485008, x485009, x485010, x485011, x485012, x485013, x485014, x485015, x485016, x490000, x490001, x491000, x491001 => if x25 = true then (some false) else (image_segs.l0 k false 0 x485016 (x485016.length : Int) 0 x485000 x485001 x485002 x485003 x485004 x485005 x485006 x485007 x485008 x485009 x485010 x485011 x485012 x485013 x485014 x485015 x485016 x490000 x490001 x491000 x491001)
def image_segs.l0 : Nat → Bool → Int → List (S85) → Int → Int → Int → Int → Int → Int → Int → Int → Int → Int → Int → Int → Int → Int → Int → Int → Int → List (S73) → List (S85) → Int → Int → Int → Int → Option (Bool)
  | 0, _, _, _, _, _, _, _, _, _, _, _, _, _, _, _, _, _, _, _, _, _, _, _, _, _, _ => none
  | k + 1, x5, x6, x27, x28, x29, x485000, x485001, x485002, x485003, x485004, x485005, x485006, x485007, x485008, x485009, x485010, x485011, x485012, x485013, x485014, x485015, x485016, x490000, x490001, x491000, x491001 => if x29 < x28 then (if 0 ≤ x29 then (if x29 < (x27.length : Int) then ((image_part.f ((rd_T85 x27 x29).f0) ((rd_T85 x27 x29).f1)).bind fun bt493 => ((image_span_empty.f bt493.1 bt493.2).bind fun t496 => (if t496 = true then (image_segs.j2 k x5 x27 x28 x29 true x485000 x485001 x485002 x485003 x485004 x485005 x485006 x485007 x485008 x485009 x485010 x485011 x485012 x485013 x485014 x485015 x485016 x490000 x490001 x491000 x491001 bt493.1 bt493.2) else (if bt493.1 < x6 then (image_segs.j2 k x5 x27 x28 x29 true x485000 x485001 x485002 x485003 x485004 x485005 x485006 x485007 x485008 x485009 x485010 x485011 x485012 x485013 x485014 x485015 x485016 x490000 x490001 x491000 x491001 bt493.1 bt493.2) else ((image_span_within.f bt493.1 bt493.2 x490000 x490001).bind fun t497 => (if t497 = true then (image_segs.j2 k x5 x27 x28 x29 false x485000 x485001 x485002 x485003 x485004 x485005 x485006 x485007 x485008 x485009 x485010 x485011 x485012 x485013 x485014 x485015 x485016 x490000 x490001 x491000 x491001 bt493.1 bt493.2) else ((image_span_within.f bt493.1 bt493.2 x491000 x491001).bind fun t498 => (image_segs.j2 k x5 x27 x28 x29 (!t498) x485000 x485001 x485002 x485003 x485004 x485005 x485006 x485007 x485008 x485009 x485010 x485011 x485012 x485013 x485014 x485015 x485016 x490000 x490001 x491000 x491001 bt493.1 bt493.2)))))))) else (none)) else (none)) else (some x5)
def image_segs.j2 : Nat → Bool → List (S85) → Int → Int → Bool → Int → Int → Int → Int → Int → Int → Int → Int → Int → Int → Int → Int → Int → Int → Int → List (S73) → List (S85) → Int → Int → Int → Int → Int → Int → Option (Bool)
  | 0, _, _, _, _, _, _, _, _, _, _, _, _, _, _, _, _, _, _, _, _, _, _, _, _, _, _, _, _ => none
  | k + 1, x5, x27, x28, x29, x54, x485000, x485001, x485002, x485003, x485004, x485005, x485006, x485007, x485008, x485009, x485010, x485011, x485012, x485013, x485014, x485015, x485016, x490000, x490001, x491000, x491001, x496000, x496001 => if x54 = true then (some false) else (if x5 = true then (image_segs.l0 k true x496001 x27 x28 (wrap64 (x29 + 1)) x485000 x485001 x485002 x485003 x485004 x485005 x485006 x485007 x485008 x485009 x485010 x485011 x485012 x485013 x485014 x485015 x485016 x490000 x490001 x491000 x491001) else ((image_span_within.f x496000 x496001 x490000 x490001).bind fun t499 => (if t499 = true then ((image_of.f x485005 x485006).bind fun bt500 => ((image_span_within.f bt500.1 bt500.2 x496000 x496001).bind fun t502 => (image_segs.l0 k t502 x496001 x27 x28 (wrap64 (x29 + 1)) x485000 x485001 x485002 x485003 x485004 x485005 x485006 x485007 x485008 x485009 x485010 x485011 x485012 x485013 x485014 x485015 x485016 x490000 x490001 x491000 x491001))) else (image_segs.l0 k false x496001 x27 x28 (wrap64 (x29 + 1)) x485000 x485001 x485002 x485003 x485004 x485005 x485006 x485007 x485008 x485009 x485010 x485011 x485012 x485013 x485014 x485015 x485016 x490000 x490001 x491000 x491001))))
end
def image_segs.f (k : Nat) (a0_0 : Int) (a0_1 : Int) (a0_2 : Int) (a0_3 : Int) (a0_4 : Int) (a0_5 : Int) (a0_6 : Int) (a0_7 : Int) (a0_8 : Int) (a0_9 : Int) (a0_10 : Int) (a0_11 : Int) (a0_12 : Int) (a0_13 : Int) (a0_14 : Int) (l0_15 : List (S73)) (l0_16 : List (S85)) : Option (Bool) := (image_banks.f a0_0 a0_1 a0_2 a0_3).bind fun bt485 => (if (l0_16.length : Int) < 1 then (image_segs.j0 k true a0_0 a0_1 a0_2 a0_3 a0_4 a0_5 a0_6 a0_7 a0_8 a0_9 a0_10 a0_11 a0_12 a0_13 a0_14 l0_15 l0_16 bt485.1 bt485.2.1 bt485.2.2.1 bt485.2.2.2) else (image_segs.j0 k (decide ((l0_16.length : Int) > 8)) a0_0 a0_1 a0_2 a0_3 a0_4 a0_5 a0_6 a0_7 a0_8 a0_9 a0_10 a0_11 a0_12 a0_13 a0_14 l0_15 l0_16 bt485.1 bt485.2.1 bt485.2.2.1 bt485.2.2.2))
theorem image_segs.mono_l : ∀ k, (∀ y0 y1 y2 y3 y4 y5 y6 y7 y8 y9 y10 y11 y12 y13 y14 y15 y16 y17 y18 y19 y20 y21, LeO (image_segs.j0 k y0 y1 y2 y3 y4 y5 y6 y7 y8 y9 y10 y11 y12 y13 y14 y15 y16 y17 y18 y19 y20 y21) (image_segs.j0 (k + 1) y0 y1 y2 y3 y4 y5 y6 y7 y8 y9 y10 y11 y12 y13 y14 y15 y16 y17 y18 y19 y20 y21)) ∧ (∀ y0 y1 y2 y3 y4 y5 y6 y7 y8 y9 y10 y11 y12 y13 y14 y15 y16 y17 y18 y19 y20 y21 y22 y23 y24 y25, LeO (image_segs.l0 k y0 y1 y2 y3 y4 y5 y6 y7 y8 y9 y10 y11 y12 y13 y14 y15 y16 y17 y18 y19 y20 y21 y22 y23 y24 y25) (image_segs.l0 (k + 1) y0 y1 y2 y3 y4 y5 y6 y7 y8 y9 y10 y11 y12 y13 y14 y15 y16 y17 y18 y19 y20 y21 y22 y23 y24 y25)) ∧ (∀ y0 y1 y2 y3 y4 y5 y6 y7 y8 y9 y10 y11 y12 y13 y14 y15 y16 y17 y18 y19 y20 y21 y22 y23 y24 y25 y26 y27, LeO (image_segs.j2 k y0 y1 y2 y3 y4 y5 y6 y7 y8 y9 y10 y11 y12 y13 y14 y15 y16 y17 y18 y19 y20 y21 y22 y23 y24 y25 y26 y27) (image_segs.j2 (k + 1) y0 y1 y2 y3 y4 y5 y6 y7 y8 y9 y10 y11 y12 y13 y14 y15 y16 y17 y18 y19 y20 y21 y22 y23 y24 y25 y26 y27))
  | 0 => ⟨fun _ _ _ _ _ _ _ _ _ _ _ _ _ _ _ _ _ _ _ _ _ _ r h => by simp [image_segs.j0] at h, fun _ _ _ _ _ _ _ _ _ _ _ _ _ _ _ _ _ _ _ _ _ _ _ _ _ _ r h => by simp [image_segs.l0] at h, fun _ _ _ _ _ _ _ _ _ _ _ _ _ _ _ _ _ _ _ _ _ _ _ _ _ _ _ _ r h => by simp [image_segs.j2] at h⟩
  | k + 1 => by
    obtain ⟨ih0, ih1, ih2⟩ := image_segs.mono_l k
    refine ⟨?_, ?_, ?_⟩
    · intro y0 y1 y2 y3 y4 y5 y6 y7 y8 y9 y10 y11 y12 y13 y14 y15 y16 y17 y18 y19 y20 y21
      unfold image_segs.j0
      repeat' first
      | (with_reducible exact ih0 _ _ _ _ _ _ _ _ _ _ _ _ _ _ _ _ _ _ _ _ _ _)
      | (with_reducible exact ih1 _ _ _ _ _ _ _ _ _ _ _ _ _ _ _ _ _ _ _ _ _ _ _ _ _ _)
      | (with_reducible exact ih2 _ _ _ _ _ _ _ _ _ _ _ _ _ _ _ _ _ _ _ _ _ _ _ _ _ _ _ _)
      | (with_reducible exact LeO.refl _)
      | (with_reducible exact LeO.none _)
      | (with_reducible refine LeO.ite ?_ ?_)
      | (with_reducible refine LeO.bind ?_ (fun _ => ?_))
      | exact ih0 _ _ _ _ _ _ _ _ _ _ _ _ _ _ _ _ _ _ _ _ _ _
      | exact ih1 _ _ _ _ _ _ _ _ _ _ _ _ _ _ _ _ _ _ _ _ _ _ _ _ _ _
      | exact ih2 _ _ _ _ _ _ _ _ _ _ _ _ _ _ _ _ _ _ _ _ _ _ _ _ _ _ _ _
      | exact LeO.none _
      | refine LeO.ite ?_ ?_
      | refine LeO.bind ?_ (fun _ => ?_)
    · intro y0 y1 y2 y3 y4 y5 y6 y7 y8 y9 y10 y11 y12 y13 y14 y15 y16 y17 y18 y19 y20 y21 y22 y23 y24 y25
      unfold image_segs.l0
      repeat' first
      | (with_reducible exact ih0 _ _ _ _ _ _ _ _ _ _ _ _ _ _ _ _ _ _ _ _ _ _)
      | (with_reducible exact ih1 _ _ _ _ _ _ _ _ _ _ _ _ _ _ _ _ _ _ _ _ _ _ _ _ _ _)
      | (with_reducible exact ih2 _ _ _ _ _ _ _ _ _ _ _ _ _ _ _ _ _ _ _ _ _ _ _ _ _ _ _ _)
      | (with_reducible exact LeO.refl _)
      | (with_reducible exact LeO.none _)
      | (with_reducible refine LeO.ite ?_ ?_)
      | (with_reducible refine LeO.bind ?_ (fun _ => ?_))
      | exact ih0 _ _ _ _ _ _ _ _ _ _ _ _ _ _ _ _ _ _ _ _ _ _
      | exact ih1 _ _ _ _ _ _ _ _ _ _ _ _ _ _ _ _ _ _ _ _ _ _ _ _ _ _
      | exact ih2 _ _ _ _ _ _ _ _ _ _ _ _ _ _ _ _ _ _ _ _ _ _ _ _ _ _ _ _
      | exact LeO.none _
      | refine LeO.ite ?_ ?_
      | refine LeO.bind ?_ (fun _ => ?_)
    · intro y0 y1 y2 y3 y4 y5 y6 y7 y8 y9 y10 y11 y12 y13 y14 y15 y16 y17 y18 y19 y20 y21 y22 y23 y24 y25 y26 y27
      unfold image_segs.j2
      repeat' first
      | (with_reducible exact ih0 _ _ _ _ _ _ _ _ _ _ _ _ _ _ _ _ _ _ _ _ _ _)
      | (with_reducible exact ih1 _ _ _ _ _ _ _ _ _ _ _ _ _ _ _ _ _ _ _ _ _ _ _ _ _ _)
      | (with_reducible exact ih2 _ _ _ _ _ _ _ _ _ _ _ _ _ _ _ _ _ _ _ _ _ _ _ _ _ _ _ _)
      | (with_reducible exact LeO.refl _)
      | (with_reducible exact LeO.none _)
      | (with_reducible refine LeO.ite ?_ ?_)
      | (with_reducible refine LeO.bind ?_ (fun _ => ?_))
      | exact ih0 _ _ _ _ _ _ _ _ _ _ _ _ _ _ _ _ _ _ _ _ _ _
      | exact ih1 _ _ _ _ _ _ _ _ _ _ _ _ _ _ _ _ _ _ _ _ _ _ _ _ _ _
      | exact ih2 _ _ _ _ _ _ _ _ _ _ _ _ _ _ _ _ _ _ _ _ _ _ _ _ _ _ _ _
      | exact LeO.none _
      | refine LeO.ite ?_ ?_
      | refine LeO.bind ?_ (fun _ => ?_)
theorem image_segs.mono : ∀ a0 a1 a2 a3 a4 a5 a6 a7 a8 a9 a10 a11 a12 a13 a14 a15 a16 k, LeO (image_segs.f k a0 a1 a2 a3 a4 a5 a6 a7 a8 a9 a10 a11 a12 a13 a14 a15 a16) (image_segs.f (k + 1) a0 a1 a2 a3 a4 a5 a6 a7 a8 a9 a10 a11 a12 a13 a14 a15 a16) := by
  intro a0 a1 a2 a3 a4 a5 a6 a7 a8 a9 a10 a11 a12 a13 a14 a15 a16 k
  obtain ⟨ih0, ih1, ih2⟩ := image_segs.mono_l k
  unfold image_segs.f
  repeat' first
      | (with_reducible exact ih0 _ _ _ _ _ _ _ _ _ _ _ _ _ _ _ _ _ _ _ _ _ _)
      | (with_reducible exact ih1 _ _ _ _ _ _ _ _ _ _ _ _ _ _ _ _ _ _ _ _ _ _ _ _ _ _)
      | (with_reducible exact ih2 _ _ _ _ _ _ _ _ _ _ _ _ _ _ _ _ _ _ _ _ _ _ _ _ _ _ _ _)
      | (with_reducible exact LeO.refl _)
      | (with_reducible exact LeO.none _)
      | (with_reducible refine LeO.ite ?_ ?_)
      | (with_reducible refine LeO.bind ?_ (fun _ => ?_))
      | exact ih0 _ _ _ _ _ _ _ _ _ _ _ _ _ _ _ _ _ _ _ _ _ _
      | exact ih1 _ _ _ _ _ _ _ _ _ _ _ _ _ _ _ _ _ _ _ _ _ _ _ _ _ _
      | exact ih2 _ _ _ _ _ _ _ _ _ _ _ _ _ _ _ _ _ _ _ _ _ _ _ _ _ _ _ _
      | exact LeO.none _
      | refine LeO.ite ?_ ?_
      | refine LeO.bind ?_ (fun _ => ?_)
def image_segs.T12 : Bool × List (List Nat × List Nat) := (true, [([], []), ([0], [0]), ([1], [1]), ([1], [1]), ([2, 3, 1, 1], [1, 2, 3]), ([4, 4, 1], [1, 4]), ([5], [5]), ([6, 5], [5, 6]), ([7, 5, 5], [5, 7]), ([5], [5]), ([8, 9, 8, 5], [5, 8, 9]), ([5, 10, 1], [1, 5, 10]), ([1, 11], [1, 11]), ([12, 10, 0, 1, 2, 3, 4, 5, 6, 7, 8, 9, 10, 11, 12], [0, 12])])
def image_segs.B12 : List Nat := [0, 1, 3, 3, 15, 31, 63, 127, 255, 63, 1023, 2047, 4095, 8191]
theorem image_segs.tab12 : rtab .any (opsOf Try.f135 12) = image_segs.T12 := by kernel_rfl
theorem image_segs.bits12 : waitsOk image_segs.T12.2 image_segs.B12 = true := by kernel_rfl
set_option maxHeartbeats 8000000 in
set_option maxRecDepth 100000 in
theorem image_segs.calls (k : Nat) (a0_0 : Int) (a0_1 : Int) (a0_2 : Int) (a0_3 : Int) (a0_4 : Int) (a0_5 : Int) (a0_6 : Int) (a0_7 : Int) (a0_8 : Int) (a0_9 : Int) (a0_10 : Int) (a0_11 : Int) (a0_12 : Int) (a0_13 : Int) (a0_14 : Int) (A0_15 : Option Addr) (c0_15 : Nat) (l0_15 : List (S73)) (A0_16 : Option Addr) (c0_16 : Nat) (l0_16 : List (S85)) (r : Bool) (w : World) (hr0_15 : Kd.C k73 w A0_15 l0_15.length l0_15) (hc0_15 : l0_15.length ≤ c0_15) (hr0_16 : Kd.C k85 w A0_16 l0_16.length l0_16) (hc0_16 : l0_16.length ≤ c0_16) (h : image_segs.f k a0_0 a0_1 a0_2 a0_3 a0_4 a0_5 a0_6 a0_7 a0_8 a0_9 a0_10 a0_11 a0_12 a0_13 a0_14 l0_15 l0_16 = some r) :
    Calls Try.prog 135 #[.agg #[.int .u32 a0_0, .int .u32 a0_1, .int .u32 a0_2, .int .u32 a0_3, .int .u32 a0_4, .int .u32 a0_5, .int .u32 a0_6, .int .u32 a0_7, .int .u32 a0_8, .int .u32 a0_9, .int .u64 a0_10, .int .u32 a0_11, .int .u32 a0_12, .int .u32 a0_13, .int .u32 a0_14, .slice A0_15 l0_15.length c0_15, .slice A0_16 l0_16.length c0_16]] w fun e w' => e = .returned (.bool r) ∧ Below w.heap.size w w' := by
  have hu78 := Try.underlying78
  have hu28 := Try.underlying28
  have hu196 := Try.underlying196
  have hu85 := Try.underlying85
  have hu73 := Try.underlying73
  have HR0_15 := Aside0.mk hr0_15
  have HC0_15 := Aside0.mk hc0_15
  clear hr0_15 hc0_15
  have HR0_16 := Aside0.mk hr0_16
  have HC0_16 := Aside0.mk hc0_16
  clear hr0_16 hc0_16
  have HB := Aside0.mk (Below.refl w.heap.size w)
  have H : ((image_banks.f a0_0 a0_1 a0_2 a0_3).bind fun bt485 => (if (l0_16.length : Int) < 1 then (image_segs.j0 k true a0_0 a0_1 a0_2 a0_3 a0_4 a0_5 a0_6 a0_7 a0_8 a0_9 a0_10 a0_11 a0_12 a0_13 a0_14 l0_15 l0_16 bt485.1 bt485.2.1 bt485.2.2.1 bt485.2.2.2) else (image_segs.j0 k (decide ((l0_16.length : Int) > 8)) a0_0 a0_1 a0_2 a0_3 a0_4 a0_5 a0_6 a0_7 a0_8 a0_9 a0_10 a0_11 a0_12 a0_13 a0_14 l0_15 l0_16 bt485.1 bt485.2.1 bt485.2.2.1 bt485.2.2.2))) = some r := h
  clear h
  replace H := Option.bind_eq_some_iff.mp H
  obtain ⟨⟨t485, t486, t487, t488⟩, A20, H⟩ := H
  replace H : (if (l0_16.length : Int) < 1 then (image_segs.j0 k true a0_0 a0_1 a0_2 a0_3 a0_4 a0_5 a0_6 a0_7 a0_8 a0_9 a0_10 a0_11 a0_12 a0_13 a0_14 l0_15 l0_16 t485 t486 t487 t488) else (image_segs.j0 k (decide ((l0_16.length : Int) > 8)) a0_0 a0_1 a0_2 a0_3 a0_4 a0_5 a0_6 a0_7 a0_8 a0_9 a0_10 a0_11 a0_12 a0_13 a0_14 l0_15 l0_16 t485 t486 t487 t488)) = some r := H
  have A2 := Aside0.mk A20
  clear A20
  have HC3 := Aside0.mk H
  clear H
  go_enter Try.func135, Try.ntmps135
  go_upto_region 2 with (first | ((with_reducible refine gate_dst (N := 1) rfl ?_); (try (refine gate_guard (by rfl) ?_; dsimp only)); refine box_event ?hg (N := 1) ?hd (cs := #[.int .u32 a0_0, .int .u32 a0_1, .int .u32 a0_2, .int .u32 a0_3, .int .u32 a0_4, .int .u32 a0_5, .int .u32 a0_6, .int .u32 a0_7, .int .u32 a0_8, .int .u32 a0_9, .int .u64 a0_10, .int .u32 a0_11, .int .u32 a0_12, .int .u32 a0_13, .int .u32 a0_14, .slice A0_15 l0_15.length c0_15, .slice A0_16 l0_16.length c0_16]) (t := 78) ?hr ?_; (case hd => rfl); (case hg => rfl); (case hr => first | (go_simp; done) | (go_simp; rfl)); intro gb484 hg w4 hbox hb; have n0_ := Aside0.mk (below_step (by repeat (first | (with_reducible first | exact HB.out | apply below_alloc | apply pw_below_drewN | apply below_drew1) | exact HB.out)) hb); have n1_ := Aside0.mk (hbox); have n2_ := Aside0.mk ((by rw [hg]; exact (below_size (by repeat (first | (with_reducible first | exact HB.out | apply below_alloc | apply pw_below_drewN | apply below_drew1) | exact HB.out))) : w.heap.size ≤ gb484)); have n3_ := Aside0.mk ((by rw [hg]; exact (below_size (by repeat (first | (with_reducible first | exact HB.out | apply below_alloc | apply pw_below_drewN | apply below_drew1) | exact HB.out))) : w.heap.size ≤ gb484)); clear HB; have HB := n0_; have BK484 := n1_; have GW484 := n2_; have GE484 := n3_; clear n0_ n1_ n2_ n3_; clear hb hbox hg; have hcz5_0 : w4.cell? ⟨gb484, 0, none⟩ = some (.int .u32 a0_0) := (blk_cell BK484.out 0).trans rfl; have hcz5_1 : w4.cell? ⟨gb484, 1, none⟩ = some (.int .u32 a0_1) := (blk_cell BK484.out 1).trans rfl; have hcz5_2 : w4.cell? ⟨gb484, 2, none⟩ = some (.int .u32 a0_2) := (blk_cell BK484.out 2).trans rfl; have hcz5_3 : w4.cell? ⟨gb484, 3, none⟩ = some (.int .u32 a0_3) := (blk_cell BK484.out 3).trans rfl; have hcz5_4 : w4.cell? ⟨gb484, 4, none⟩ = some (.int .u32 a0_4) := (blk_cell BK484.out 4).trans rfl; have hcz5_5 : w4.cell? ⟨gb484, 5, none⟩ = some (.int .u32 a0_5) := (blk_cell BK484.out 5).trans rfl; have hcz5_6 : w4.cell? ⟨gb484, 6, none⟩ = some (.int .u32 a0_6) := (blk_cell BK484.out 6).trans rfl; have hcz5_7 : w4.cell? ⟨gb484, 7, none⟩ = some (.int .u32 a0_7) := (blk_cell BK484.out 7).trans rfl; have hcz5_8 : w4.cell? ⟨gb484, 8, none⟩ = some (.int .u32 a0_8) := (blk_cell BK484.out 8).trans rfl; have hcz5_9 : w4.cell? ⟨gb484, 9, none⟩ = some (.int .u32 a0_9) := (blk_cell BK484.out 9).trans rfl; have hcz5_10 : w4.cell? ⟨gb484, 10, none⟩ = some (.int .u64 a0_10) := (blk_cell BK484.out 10).trans rfl; have hcz5_11 : w4.cell? ⟨gb484, 11, none⟩ = some (.int .u32 a0_11) := (blk_cell BK484.out 11).trans rfl; have hcz5_12 : w4.cell? ⟨gb484, 12, none⟩ = some (.int .u32 a0_12) := (blk_cell BK484.out 12).trans rfl; have hcz5_13 : w4.cell? ⟨gb484, 13, none⟩ = some (.int .u32 a0_13) := (blk_cell BK484.out 13).trans rfl; have hcz5_14 : w4.cell? ⟨gb484, 14, none⟩ = some (.int .u32 a0_14) := (blk_cell BK484.out 14).trans rfl; have hcz5_15 : w4.cell? ⟨gb484, 15, none⟩ = some (.slice A0_15 l0_15.length c0_15) := (blk_cell BK484.out 15).trans rfl; have hcz5_16 : w4.cell? ⟨gb484, 16, none⟩ = some (.slice A0_16 l0_16.length c0_16) := (blk_cell BK484.out 16).trans rfl; have hfz5_0 := blk_frozen BK484.out 0; have hfz5_1 := blk_frozen BK484.out 1; have hfz5_2 := blk_frozen BK484.out 2; have hfz5_3 := blk_frozen BK484.out 3; have hfz5_4 := blk_frozen BK484.out 4; have hfz5_5 := blk_frozen BK484.out 5; have hfz5_6 := blk_frozen BK484.out 6; have hfz5_7 := blk_frozen BK484.out 7; have hfz5_8 := blk_frozen BK484.out 8; have hfz5_9 := blk_frozen BK484.out 9; have hfz5_10 := blk_frozen BK484.out 10; have hfz5_11 := blk_frozen BK484.out 11; have hfz5_12 := blk_frozen BK484.out 12; have hfz5_13 := blk_frozen BK484.out 13; have hfz5_14 := blk_frozen BK484.out 14; have hfz5_15 := blk_frozen BK484.out 15; have hfz5_16 := blk_frozen BK484.out 16) | ((with_reducible refine gate_callee (f := 151) rfl ?_); refine goesL_ (some 13) rfl rfl Try.func151 (by kernel_rfl) rfl #[.agg #[.int .u32 a0_0, .int .u32 a0_1, .int .u32 a0_2, .int .u32 a0_3]] rfl (by (try simp only [List.map_toArray, List.map_cons, List.map_nil]); first | done | rfl | (simp only [List.length_drop, List.length_take]; rfl)) ?_; (with_reducible refine (image_banks.calls a0_0 a0_1 a0_2 a0_3 t485 t486 t487 t488 _ A2.out).mono ?_); rintro e w6 ⟨rfl, hb⟩; refine ⟨_, rfl, ?_⟩; have n0_ := Aside0.mk (blk_below (g := gb484) (o := .cells #[.int .u32 a0_0, .int .u32 a0_1, .int .u32 a0_2, .int .u32 a0_3, .int .u32 a0_4, .int .u32 a0_5, .int .u32 a0_6, .int .u32 a0_7, .int .u32 a0_8, .int .u32 a0_9, .int .u64 a0_10, .int .u32 a0_11, .int .u32 a0_12, .int .u32 a0_13, .int .u32 a0_14, .slice A0_15 l0_15.length c0_15, .slice A0_16 l0_16.length c0_16] 78 (0, 0)) (by (with_reducible repeat (first | refine blk_drewN ?_ _ | refine blk_drew ?_ | refine blk_alloc ?_ _)); exact BK484.out) hb); have n1_ := Aside0.mk (below_step (by repeat (first | (with_reducible first | exact HB.out | apply below_alloc | apply pw_below_drewN | apply below_drew1 | refine below_set ?_ GE484.out) | exact HB.out)) hb); clear BK484; clear HB; have BK484 := n0_; have HB := n1_; clear n0_ n1_; (try clear hb); (try clear hb2); (try clear hk); (try clear hi)) | ((with_reducible refine gate_dst (N := 3) rfl ?_); (try (refine gate_guard (by rfl) ?_; dsimp only)); refine box_event ?hg (N := 3) ?hd (cs := #[.int .u64 0, .int .u64 0]) (t := 196) ?hr ?_; (case hd => rfl); (case hg => rfl); (case hr => first | (go_simp; done) | (go_simp; rfl)); intro gb489 hg w7 hbox hb; have n0_ := Aside0.mk (blk_below (g := gb484) (o := .cells #[.int .u32 a0_0, .int .u32 a0_1, .int .u32 a0_2, .int .u32 a0_3, .int .u32 a0_4, .int .u32 a0_5, .int .u32 a0_6, .int .u32 a0_7, .int .u32 a0_8, .int .u32 a0_9, .int .u64 a0_10, .int .u32 a0_11, .int .u32 a0_12, .int .u32 a0_13, .int .u32 a0_14, .slice A0_15 l0_15.length c0_15, .slice A0_16 l0_16.length c0_16] 78 (0, 0)) (by (with_reducible repeat (first | refine blk_drewN ?_ _ | refine blk_drew ?_ | refine blk_alloc ?_ _)); exact BK484.out) hb); have n1_ := Aside0.mk (below_step (by repeat (first | (with_reducible first | exact HB.out | apply below_alloc | apply pw_below_drewN | apply below_drew1 | refine below_set ?_ GE484.out) | exact HB.out)) hb); have n2_ := Aside0.mk (hbox); have n3_ := Aside0.mk ((by rw [hg]; exact (below_size (by repeat (first | (with_reducible first | exact HB.out | apply below_alloc | apply pw_below_drewN | apply below_drew1 | refine below_set ?_ GE484.out) | exact HB.out))) : w.heap.size ≤ gb489)); have n4_ := Aside0.mk ((by rw [hg]; exact (below_size (by repeat (first | (with_reducible first | exact HB.out | apply below_alloc | apply pw_below_drewN | apply below_drew1 | refine below_set ?_ GE484.out) | exact HB.out))) : w.heap.size ≤ gb489)); have n5_ := Aside0.mk ((by rw [hg]; exact Nat.ne_of_lt (blk_lt (g := gb484) (o := .cells #[.int .u32 a0_0, .int .u32 a0_1, .int .u32 a0_2, .int .u32 a0_3, .int .u32 a0_4, .int .u32 a0_5, .int .u32 a0_6, .int .u32 a0_7, .int .u32 a0_8, .int .u32 a0_9, .int .u64 a0_10, .int .u32 a0_11, .int .u32 a0_12, .int .u32 a0_13, .int .u32 a0_14, .slice A0_15 l0_15.length c0_15, .slice A0_16 l0_16.length c0_16] 78 (0, 0)) (by (with_reducible repeat (first | refine blk_drewN ?_ _ | refine blk_drew ?_ | refine blk_alloc ?_ _)); exact BK484.out)) : gb484 ≠ gb489)); have n6_ := Aside0.mk ((by rw [hg]; exact Nat.ne_of_gt (blk_lt (g := gb484) (o := .cells #[.int .u32 a0_0, .int .u32 a0_1, .int .u32 a0_2, .int .u32 a0_3, .int .u32 a0_4, .int .u32 a0_5, .int .u32 a0_6, .int .u32 a0_7, .int .u32 a0_8, .int .u32 a0_9, .int .u64 a0_10, .int .u32 a0_11, .int .u32 a0_12, .int .u32 a0_13, .int .u32 a0_14, .slice A0_15 l0_15.length c0_15, .slice A0_16 l0_16.length c0_16] 78 (0, 0)) (by (with_reducible repeat (first | refine blk_drewN ?_ _ | refine blk_drew ?_ | refine blk_alloc ?_ _)); exact BK484.out)) : gb489 ≠ gb484)); clear BK484; clear HB; have BK484 := n0_; have HB := n1_; have BK489 := n2_; have GW489 := n3_; have GE489 := n4_; have NB484_489 := n5_; have NB489_484 := n6_; clear n0_ n1_ n2_ n3_ n4_ n5_ n6_; clear hb hbox hg) | ((with_reducible refine gate_dst (N := 4) rfl ?_); (try (refine gate_guard (by rfl) ?_; dsimp only)); refine box_event ?hg (N := 4) ?hd (cs := #[.int .u64 0, .int .u64 0]) (t := 196) ?hr ?_; (case hd => rfl); (case hg => rfl); (case hr => first | (go_simp; done) | (go_simp; rfl)); intro gb490 hg w8 hbox hb; have n0_ := Aside0.mk (blk_below (g := gb484) (o := .cells #[.int .u32 a0_0, .int .u32 a0_1, .int .u32 a0_2, .int .u32 a0_3, .int .u32 a0_4, .int .u32 a0_5, .int .u32 a0_6, .int .u32 a0_7, .int .u32 a0_8, .int .u32 a0_9, .int .u64 a0_10, .int .u32 a0_11, .int .u32 a0_12, .int .u32 a0_13, .int .u32 a0_14, .slice A0_15 l0_15.length c0_15, .slice A0_16 l0_16.length c0_16] 78 (0, 0)) (by (with_reducible repeat (first | refine blk_drewN ?_ _ | refine blk_drew ?_ | refine blk_alloc ?_ _)); exact BK484.out) hb); have n1_ := Aside0.mk (blk_below (g := gb489) (o := .cells #[.int .u64 0, .int .u64 0] 196 (0, 0)) (by (with_reducible repeat (first | refine blk_drewN ?_ _ | refine blk_drew ?_ | refine blk_alloc ?_ _)); exact BK489.out) hb); have n2_ := Aside0.mk (below_step (by repeat (first | (with_reducible first | exact HB.out | apply below_alloc | apply pw_below_drewN | apply below_drew1 | refine below_set ?_ GE484.out | refine below_set ?_ GE489.out) | exact HB.out)) hb); have n3_ := Aside0.mk (hbox); have n4_ := Aside0.mk ((by rw [hg]; exact (below_size (by repeat (first | (with_reducible first | exact HB.out | apply below_alloc | apply pw_below_drewN | apply below_drew1 | refine below_set ?_ GE484.out | refine below_set ?_ GE489.out) | exact HB.out))) : w.heap.size ≤ gb490)); have n5_ := Aside0.mk ((by rw [hg]; exact (below_size (by repeat (first | (with_reducible first | exact HB.out | apply below_alloc | apply pw_below_drewN | apply below_drew1 | refine below_set ?_ GE484.out | refine below_set ?_ GE489.out) | exact HB.out))) : w.heap.size ≤ gb490)); have n6_ := Aside0.mk ((by rw [hg]; exact Nat.ne_of_lt (blk_lt (g := gb484) (o := .cells #[.int .u32 a0_0, .int .u32 a0_1, .int .u32 a0_2, .int .u32 a0_3, .int .u32 a0_4, .int .u32 a0_5, .int .u32 a0_6, .int .u32 a0_7, .int .u32 a0_8, .int .u32 a0_9, .int .u64 a0_10, .int .u32 a0_11, .int .u32 a0_12, .int .u32 a0_13, .int .u32 a0_14, .slice A0_15 l0_15.length c0_15, .slice A0_16 l0_16.length c0_16] 78 (0, 0)) (by (with_reducible repeat (first | refine blk_drewN ?_ _ | refine blk_drew ?_ | refine blk_alloc ?_ _)); exact BK484.out)) : gb484 ≠ gb490)); have n7_ := Aside0.mk ((by rw [hg]; exact Nat.ne_of_gt (blk_lt (g := gb484) (o := .cells #[.int .u32 a0_0, .int .u32 a0_1, .int .u32 a0_2, .int .u32 a0_3, .int .u32 a0_4, .int .u32 a0_5, .int .u32 a0_6, .int .u32 a0_7, .int .u32 a0_8, .int .u32 a0_9, .int .u64 a0_10, .int .u32 a0_11, .int .u32 a0_12, .int .u32 a0_13, .int .u32 a0_14, .slice A0_15 l0_15.length c0_15, .slice A0_16 l0_16.length c0_16] 78 (0, 0)) (by (with_reducible repeat (first | refine blk_drewN ?_ _ | refine blk_drew ?_ | refine blk_alloc ?_ _)); exact BK484.out)) : gb490 ≠ gb484)); have n8_ := Aside0.mk ((by rw [hg]; exact Nat.ne_of_lt (blk_lt (g := gb489) (o := .cells #[.int .u64 0, .int .u64 0] 196 (0, 0)) (by (with_reducible repeat (first | refine blk_drewN ?_ _ | refine blk_drew ?_ | refine blk_alloc ?_ _)); exact BK489.out)) : gb489 ≠ gb490)); have n9_ := Aside0.mk ((by rw [hg]; exact Nat.ne_of_gt (blk_lt (g := gb489) (o := .cells #[.int .u64 0, .int .u64 0] 196 (0, 0)) (by (with_reducible repeat (first | refine blk_drewN ?_ _ | refine blk_drew ?_ | refine blk_alloc ?_ _)); exact BK489.out)) : gb490 ≠ gb489)); clear BK484; clear BK489; clear HB; have BK484 := n0_; have BK489 := n1_; have HB := n2_; have BK490 := n3_; have GW490 := n4_; have GE490 := n5_; have NB484_490 := n6_; have NB490_484 := n7_; have NB489_490 := n8_; have NB490_489 := n9_; clear n0_ n1_ n2_ n3_ n4_ n5_ n6_ n7_ n8_ n9_; clear hb hbox hg; have hnb9 := NB489_484.out; have hnc9 := NB484_489.out; have hnb10 := NB489_490.out; have hnc10 := NB490_489.out; have hcz11_0 : w8.cell? ⟨gb489, 0, none⟩ = some (.int .u64 0) := (blk_cell BK489.out 0).trans rfl; have hcz11_1 : w8.cell? ⟨gb489, 1, none⟩ = some (.int .u64 0) := (blk_cell BK489.out 1).trans rfl; have hfz11_0 := blk_frozen BK489.out 0; have hfz11_1 := blk_frozen BK489.out 1; have hnb12 := NB490_484.out; have hnc12 := NB484_490.out; have hcz13_0 : w8.cell? ⟨gb490, 0, none⟩ = some (.int .u64 0) := (blk_cell BK490.out 0).trans rfl; have hcz13_1 : w8.cell? ⟨gb490, 1, none⟩ = some (.int .u64 0) := (blk_cell BK490.out 1).trans rfl; have hfz13_0 := blk_frozen BK490.out 0; have hfz13_1 := blk_frozen BK490.out 1))
  (try simp only [Act.put, List.setIfInBounds_toArray, List.set_cons_zero, List.set_cons_succ])
  go_cut [25] (fun v25 wc => ∃ (kq : Nat) (x25_2 : Bool), v25 = .bool x25_2 ∧ Aside0 (image_segs.j0 kq x25_2 a0_0 a0_1 a0_2 a0_3 a0_4 a0_5 a0_6 a0_7 a0_8 a0_9 a0_10 a0_11 a0_12 a0_13 a0_14 l0_15 l0_16 t485 t486 t487 t488 = some r) ∧ Aside0 (kq ≤ k) ∧ Aside0 (wc.heap[gb484]? = some (.cells #[.int .u32 a0_0, .int .u32 a0_1, .int .u32 a0_2, .int .u32 a0_3, .int .u32 a0_4, .int .u32 a0_5, .int .u32 a0_6, .int .u32 a0_7, .int .u32 a0_8, .int .u32 a0_9, .int .u64 a0_10, .int .u32 a0_11, .int .u32 a0_12, .int .u32 a0_13, .int .u32 a0_14, (.slice A0_15 l0_15.length c0_15), (.slice A0_16 l0_16.length c0_16)] 78 (0, 0))) ∧ Aside0 (wc.heap[gb489]? = some (.cells #[.int .u64 t485, .int .u64 t486] 196 (0, 0))) ∧ Aside0 (wc.heap[gb490]? = some (.cells #[.int .u64 t487, .int .u64 t488] 196 (0, 0))) ∧ Aside0 (Below w.heap.size w wc))
  case first =>
    have H := HC3.out
    clear HC3
    by_cases c14 : (l0_16.length : Int) < 1
    · rw [if_pos c14] at H
      have c14b0 : decide ((l0_16.length : Int) < 1) = true := decide_eq_true c14
      have c14b1 : decide (l0_16.length < 1) = true := decide_eq_true (by omega)
      clear c14
      (first | rw [c14b0] | (simp only [i64_w, i32_w]; rw [c14b0]) | skip)
      have H' := Aside0.mk H
      clear H
      have hnb15 := NB484_489.out
      have hnc15 := NB489_484.out
      have hnb16 := NB484_490.out
      have hnc16 := NB490_484.out
      have hcz17_0 : w8.cell? ⟨gb484, 0, none⟩ = some (.int .u32 a0_0) := (blk_cell BK484.out 0).trans rfl
      have hcz17_1 : w8.cell? ⟨gb484, 1, none⟩ = some (.int .u32 a0_1) := (blk_cell BK484.out 1).trans rfl
      have hcz17_2 : w8.cell? ⟨gb484, 2, none⟩ = some (.int .u32 a0_2) := (blk_cell BK484.out 2).trans rfl
      have hcz17_3 : w8.cell? ⟨gb484, 3, none⟩ = some (.int .u32 a0_3) := (blk_cell BK484.out 3).trans rfl
      have hcz17_4 : w8.cell? ⟨gb484, 4, none⟩ = some (.int .u32 a0_4) := (blk_cell BK484.out 4).trans rfl
      have hcz17_5 : w8.cell? ⟨gb484, 5, none⟩ = some (.int .u32 a0_5) := (blk_cell BK484.out 5).trans rfl
      have hcz17_6 : w8.cell? ⟨gb484, 6, none⟩ = some (.int .u32 a0_6) := (blk_cell BK484.out 6).trans rfl
      have hcz17_7 : w8.cell? ⟨gb484, 7, none⟩ = some (.int .u32 a0_7) := (blk_cell BK484.out 7).trans rfl
      have hcz17_8 : w8.cell? ⟨gb484, 8, none⟩ = some (.int .u32 a0_8) := (blk_cell BK484.out 8).trans rfl
      have hcz17_9 : w8.cell? ⟨gb484, 9, none⟩ = some (.int .u32 a0_9) := (blk_cell BK484.out 9).trans rfl
      have hcz17_10 : w8.cell? ⟨gb484, 10, none⟩ = some (.int .u64 a0_10) := (blk_cell BK484.out 10).trans rfl
      have hcz17_11 : w8.cell? ⟨gb484, 11, none⟩ = some (.int .u32 a0_11) := (blk_cell BK484.out 11).trans rfl
      have hcz17_12 : w8.cell? ⟨gb484, 12, none⟩ = some (.int .u32 a0_12) := (blk_cell BK484.out 12).trans rfl
      have hcz17_13 : w8.cell? ⟨gb484, 13, none⟩ = some (.int .u32 a0_13) := (blk_cell BK484.out 13).trans rfl
      have hcz17_14 : w8.cell? ⟨gb484, 14, none⟩ = some (.int .u32 a0_14) := (blk_cell BK484.out 14).trans rfl
      have hcz17_15 : w8.cell? ⟨gb484, 15, none⟩ = some (.slice A0_15 l0_15.length c0_15) := (blk_cell BK484.out 15).trans rfl
      have hcz17_16 : w8.cell? ⟨gb484, 16, none⟩ = some (.slice A0_16 l0_16.length c0_16) := (blk_cell BK484.out 16).trans rfl
      have hfz17_0 := blk_frozen BK484.out 0
      have hfz17_1 := blk_frozen BK484.out 1
      have hfz17_2 := blk_frozen BK484.out 2
      have hfz17_3 := blk_frozen BK484.out 3
      have hfz17_4 := blk_frozen BK484.out 4
      have hfz17_5 := blk_frozen BK484.out 5
      have hfz17_6 := blk_frozen BK484.out 6
      have hfz17_7 := blk_frozen BK484.out 7
      have hfz17_8 := blk_frozen BK484.out 8
      have hfz17_9 := blk_frozen BK484.out 9
      have hfz17_10 := blk_frozen BK484.out 10
      have hfz17_11 := blk_frozen BK484.out 11
      have hfz17_12 := blk_frozen BK484.out 12
      have hfz17_13 := blk_frozen BK484.out 13
      have hfz17_14 := blk_frozen BK484.out 14
      have hfz17_15 := blk_frozen BK484.out 15
      have hfz17_16 := blk_frozen BK484.out 16
      go_wp2
      go_meet
      case rel => exact ⟨_, (true), (by first | rfl | (simp; done) | (simp [*]; done)), H', ⟨by first | omega | exact Nat.le_refl _⟩, ⟨by (with_reducible repeat (first | refine blk_drewN ?_ _ | refine blk_drew ?_ | refine blk_alloc ?_ _)); refine blk_far ?_ NB484_490.out _; (with_reducible repeat (first | refine blk_drewN ?_ _ | refine blk_drew ?_ | refine blk_alloc ?_ _)); refine blk_far ?_ NB484_490.out _; (with_reducible repeat (first | refine blk_drewN ?_ _ | refine blk_drew ?_ | refine blk_alloc ?_ _)); refine blk_far ?_ NB484_489.out _; (with_reducible repeat (first | refine blk_drewN ?_ _ | refine blk_drew ?_ | refine blk_alloc ?_ _)); refine blk_far ?_ NB484_489.out _; (with_reducible repeat (first | refine blk_drewN ?_ _ | refine blk_drew ?_ | refine blk_alloc ?_ _)); exact BK484.out⟩, ⟨by (with_reducible repeat (first | refine blk_drewN ?_ _ | refine blk_drew ?_ | refine blk_alloc ?_ _)); refine blk_far ?_ NB489_490.out _; (with_reducible repeat (first | refine blk_drewN ?_ _ | refine blk_drew ?_ | refine blk_alloc ?_ _)); refine blk_far ?_ NB489_490.out _; (with_reducible repeat (first | refine blk_drewN ?_ _ | refine blk_drew ?_ | refine blk_alloc ?_ _)); refine blk_put (cs := #[.int .u64 t485, .int .u64 0]) ?_ 1 _ rfl; (with_reducible repeat (first | refine blk_drewN ?_ _ | refine blk_drew ?_ | refine blk_alloc ?_ _)); refine blk_put (cs := #[.int .u64 0, .int .u64 0]) ?_ 0 _ rfl; (with_reducible repeat (first | refine blk_drewN ?_ _ | refine blk_drew ?_ | refine blk_alloc ?_ _)); exact BK489.out⟩, ⟨by (with_reducible repeat (first | refine blk_drewN ?_ _ | refine blk_drew ?_ | refine blk_alloc ?_ _)); refine blk_put (cs := #[.int .u64 t487, .int .u64 0]) ?_ 1 _ rfl; (with_reducible repeat (first | refine blk_drewN ?_ _ | refine blk_drew ?_ | refine blk_alloc ?_ _)); refine blk_put (cs := #[.int .u64 0, .int .u64 0]) ?_ 0 _ rfl; (with_reducible repeat (first | refine blk_drewN ?_ _ | refine blk_drew ?_ | refine blk_alloc ?_ _)); refine blk_far ?_ NB490_489.out _; (with_reducible repeat (first | refine blk_drewN ?_ _ | refine blk_drew ?_ | refine blk_alloc ?_ _)); refine blk_far ?_ NB490_489.out _; (with_reducible repeat (first | refine blk_drewN ?_ _ | refine blk_drew ?_ | refine blk_alloc ?_ _)); exact BK490.out⟩, ⟨by repeat (first | (with_reducible first | exact HB.out | apply below_alloc | apply pw_below_drewN | apply below_drew1 | refine below_set ?_ GE484.out | refine below_set ?_ GE489.out | refine below_set ?_ GE490.out) | exact HB.out)⟩⟩
    · rw [if_neg c14] at H
      have c14b0 : decide ((l0_16.length : Int) < 1) = false := decide_eq_false c14
      have c14b1 : decide (l0_16.length < 1) = false := decide_eq_false (by omega)
      clear c14
      (first | rw [c14b0] | (simp only [i64_w, i32_w]; rw [c14b0]) | skip)
      have H' := Aside0.mk H
      clear H
      have hnb18 := NB484_489.out
      have hnc18 := NB489_484.out
      have hnb19 := NB484_490.out
      have hnc19 := NB490_484.out
      have hcz20_0 : w8.cell? ⟨gb484, 0, none⟩ = some (.int .u32 a0_0) := (blk_cell BK484.out 0).trans rfl
      have hcz20_1 : w8.cell? ⟨gb484, 1, none⟩ = some (.int .u32 a0_1) := (blk_cell BK484.out 1).trans rfl
      have hcz20_2 : w8.cell? ⟨gb484, 2, none⟩ = some (.int .u32 a0_2) := (blk_cell BK484.out 2).trans rfl
      have hcz20_3 : w8.cell? ⟨gb484, 3, none⟩ = some (.int .u32 a0_3) := (blk_cell BK484.out 3).trans rfl
      have hcz20_4 : w8.cell? ⟨gb484, 4, none⟩ = some (.int .u32 a0_4) := (blk_cell BK484.out 4).trans rfl
      have hcz20_5 : w8.cell? ⟨gb484, 5, none⟩ = some (.int .u32 a0_5) := (blk_cell BK484.out 5).trans rfl
      have hcz20_6 : w8.cell? ⟨gb484, 6, none⟩ = some (.int .u32 a0_6) := (blk_cell BK484.out 6).trans rfl
      have hcz20_7 : w8.cell? ⟨gb484, 7, none⟩ = some (.int .u32 a0_7) := (blk_cell BK484.out 7).trans rfl
      have hcz20_8 : w8.cell? ⟨gb484, 8, none⟩ = some (.int .u32 a0_8) := (blk_cell BK484.out 8).trans rfl
      have hcz20_9 : w8.cell? ⟨gb484, 9, none⟩ = some (.int .u32 a0_9) := (blk_cell BK484.out 9).trans rfl
      have hcz20_10 : w8.cell? ⟨gb484, 10, none⟩ = some (.int .u64 a0_10) := (blk_cell BK484.out 10).trans rfl
      have hcz20_11 : w8.cell? ⟨gb484, 11, none⟩ = some (.int .u32 a0_11) := (blk_cell BK484.out 11).trans rfl
      have hcz20_12 : w8.cell? ⟨gb484, 12, none⟩ = some (.int .u32 a0_12) := (blk_cell BK484.out 12).trans rfl
      have hcz20_13 : w8.cell? ⟨gb484, 13, none⟩ = some (.int .u32 a0_13) := (blk_cell BK484.out 13).trans rfl
      have hcz20_14 : w8.cell? ⟨gb484, 14, none⟩ = some (.int .u32 a0_14) := (blk_cell BK484.out 14).trans rfl
      have hcz20_15 : w8.cell? ⟨gb484, 15, none⟩ = some (.slice A0_15 l0_15.length c0_15) := (blk_cell BK484.out 15).trans rfl
      have hcz20_16 : w8.cell? ⟨gb484, 16, none⟩ = some (.slice A0_16 l0_16.length c0_16) := (blk_cell BK484.out 16).trans rfl
      have hfz20_0 := blk_frozen BK484.out 0
      have hfz20_1 := blk_frozen BK484.out 1
      have hfz20_2 := blk_frozen BK484.out 2
      have hfz20_3 := blk_frozen BK484.out 3
      have hfz20_4 := blk_frozen BK484.out 4
      have hfz20_5 := blk_frozen BK484.out 5
      have hfz20_6 := blk_frozen BK484.out 6
      have hfz20_7 := blk_frozen BK484.out 7
      have hfz20_8 := blk_frozen BK484.out 8
      have hfz20_9 := blk_frozen BK484.out 9
      have hfz20_10 := blk_frozen BK484.out 10
      have hfz20_11 := blk_frozen BK484.out 11
      have hfz20_12 := blk_frozen BK484.out 12
      have hfz20_13 := blk_frozen BK484.out 13
      have hfz20_14 := blk_frozen BK484.out 14
      have hfz20_15 := blk_frozen BK484.out 15
      have hfz20_16 := blk_frozen BK484.out 16
      go_wp2
      go_meet
      case rel => exact ⟨_, (decide ((l0_16.length : Int) > 8)), (by first | rfl | (simp; done) | (simp [*]; done)), H', ⟨by first | omega | exact Nat.le_refl _⟩, ⟨by (with_reducible repeat (first | refine blk_drewN ?_ _ | refine blk_drew ?_ | refine blk_alloc ?_ _)); refine blk_far ?_ NB484_490.out _; (with_reducible repeat (first | refine blk_drewN ?_ _ | refine blk_drew ?_ | refine blk_alloc ?_ _)); refine blk_far ?_ NB484_490.out _; (with_reducible repeat (first | refine blk_drewN ?_ _ | refine blk_drew ?_ | refine blk_alloc ?_ _)); refine blk_far ?_ NB484_489.out _; (with_reducible repeat (first | refine blk_drewN ?_ _ | refine blk_drew ?_ | refine blk_alloc ?_ _)); refine blk_far ?_ NB484_489.out _; (with_reducible repeat (first | refine blk_drewN ?_ _ | refine blk_drew ?_ | refine blk_alloc ?_ _)); exact BK484.out⟩, ⟨by (with_reducible repeat (first | refine blk_drewN ?_ _ | refine blk_drew ?_ | refine blk_alloc ?_ _)); refine blk_far ?_ NB489_490.out _; (with_reducible repeat (first | refine blk_drewN ?_ _ | refine blk_drew ?_ | refine blk_alloc ?_ _)); refine blk_far ?_ NB489_490.out _; (with_reducible repeat (first | refine blk_drewN ?_ _ | refine blk_drew ?_ | refine blk_alloc ?_ _)); refine blk_put (cs := #[.int .u64 t485, .int .u64 0]) ?_ 1 _ rfl; (with_reducible repeat (first | refine blk_drewN ?_ _ | refine blk_drew ?_ | refine blk_alloc ?_ _)); refine blk_put (cs := #[.int .u64 0, .int .u64 0]) ?_ 0 _ rfl; (with_reducible repeat (first | refine blk_drewN ?_ _ | refine blk_drew ?_ | refine blk_alloc ?_ _)); exact BK489.out⟩, ⟨by (with_reducible repeat (first | refine blk_drewN ?_ _ | refine blk_drew ?_ | refine blk_alloc ?_ _)); refine blk_put (cs := #[.int .u64 t487, .int .u64 0]) ?_ 1 _ rfl; (with_reducible repeat (first | refine blk_drewN ?_ _ | refine blk_drew ?_ | refine blk_alloc ?_ _)); refine blk_put (cs := #[.int .u64 0, .int .u64 0]) ?_ 0 _ rfl; (with_reducible repeat (first | refine blk_drewN ?_ _ | refine blk_drew ?_ | refine blk_alloc ?_ _)); refine blk_far ?_ NB490_489.out _; (with_reducible repeat (first | refine blk_drewN ?_ _ | refine blk_drew ?_ | refine blk_alloc ?_ _)); refine blk_far ?_ NB490_489.out _; (with_reducible repeat (first | refine blk_drewN ?_ _ | refine blk_drew ?_ | refine blk_alloc ?_ _)); exact BK490.out⟩, ⟨by repeat (first | (with_reducible first | exact HB.out | apply below_alloc | apply pw_below_drewN | apply below_drew1 | refine below_set ?_ GE484.out | refine below_set ?_ GE489.out | refine below_set ?_ GE490.out) | exact HB.out)⟩⟩
  case rest =>
    clear HC3
    try clear c1
    try clear p2
    try clear c9
    try clear c10
    try clear c12
    try clear c13
    try clear c14
    try clear c14b0
    try clear c14b1
    try clear c15
    try clear c16
    try clear c18
    try clear c19
    try clear hcz11_0
    try clear hcz11_1
    try clear hcz13_0
    try clear hcz13_1
    try clear hcz17_0
    try clear hcz17_1
    try clear hcz17_10
    try clear hcz17_11
    try clear hcz17_12
    try clear hcz17_13
    try clear hcz17_14
    try clear hcz17_15
    try clear hcz17_16
    try clear hcz17_2
    try clear hcz17_3
    try clear hcz17_4
    try clear hcz17_5
    try clear hcz17_6
    try clear hcz17_7
    try clear hcz17_8
    try clear hcz17_9
    try clear hcz20_0
    try clear hcz20_1
    try clear hcz20_10
    try clear hcz20_11
    try clear hcz20_12
    try clear hcz20_13
    try clear hcz20_14
    try clear hcz20_15
    try clear hcz20_16
    try clear hcz20_2
    try clear hcz20_3
    try clear hcz20_4
    try clear hcz20_5
    try clear hcz20_6
    try clear hcz20_7
    try clear hcz20_8
    try clear hcz20_9
    try clear hcz5_0
    try clear hcz5_1
    try clear hcz5_10
    try clear hcz5_11
    try clear hcz5_12
    try clear hcz5_13
    try clear hcz5_14
    try clear hcz5_15
    try clear hcz5_16
    try clear hcz5_2
    try clear hcz5_3
    try clear hcz5_4
    try clear hcz5_5
    try clear hcz5_6
    try clear hcz5_7
    try clear hcz5_8
    try clear hcz5_9
    try clear hfz11_0
    try clear hfz11_1
    try clear hfz13_0
    try clear hfz13_1
    try clear hfz17_0
    try clear hfz17_1
    try clear hfz17_10
    try clear hfz17_11
    try clear hfz17_12
    try clear hfz17_13
    try clear hfz17_14
    try clear hfz17_15
    try clear hfz17_16
    try clear hfz17_2
    try clear hfz17_3
    try clear hfz17_4
    try clear hfz17_5
    try clear hfz17_6
    try clear hfz17_7
    try clear hfz17_8
    try clear hfz17_9
    try clear hfz20_0
    try clear hfz20_1
    try clear hfz20_10
    try clear hfz20_11
    try clear hfz20_12
    try clear hfz20_13
    try clear hfz20_14
    try clear hfz20_15
    try clear hfz20_16
    try clear hfz20_2
    try clear hfz20_3
    try clear hfz20_4
    try clear hfz20_5
    try clear hfz20_6
    try clear hfz20_7
    try clear hfz20_8
    try clear hfz20_9
    try clear hfz5_0
    try clear hfz5_1
    try clear hfz5_10
    try clear hfz5_11
    try clear hfz5_12
    try clear hfz5_13
    try clear hfz5_14
    try clear hfz5_15
    try clear hfz5_16
    try clear hfz5_2
    try clear hfz5_3
    try clear hfz5_4
    try clear hfz5_5
    try clear hfz5_6
    try clear hfz5_7
    try clear hfz5_8
    try clear hfz5_9
    obtain ⟨kq, x25_2, rfl, HA, HJ2, BK484, BK489, BK490, HB⟩ := hcut
    cases kq with
    | zero => exact absurd HA.out (by simp [image_segs.j0])
    | succ kj2 =>
      have H := HA.out
      clear HA
      simp only [image_segs.j0] at H
      by_cases c21 : x25_2 = true
      · subst c21
        have H1 : (some false) = some r := by rw [if_pos rfl] at H; exact H
        clear H
        have H := H1
        clear H1
        obtain rfl := Option.some.inj H
        go_wp2
        go_ret
        exact ⟨by first | rfl | (simp [errW_none, errW_some] <;> rfl) | (simp [*, errW_none, errW_some] <;> rfl), by repeat (first | (with_reducible first | exact HB.out | apply below_alloc | apply pw_below_drewN | apply below_drew1 | refine below_set ?_ GE484.out | refine below_set ?_ GE489.out | refine below_set ?_ GE490.out) | exact HB.out)⟩
      · replace c21 := Bool.eq_false_iff.mpr c21
        subst c21
        have H1 : (image_segs.l0 kj2 false 0 l0_16 (l0_16.length : Int) 0 a0_0 a0_1 a0_2 a0_3 a0_4 a0_5 a0_6 a0_7 a0_8 a0_9 a0_10 a0_11 a0_12 a0_13 a0_14 l0_15 l0_16 t485 t486 t487 t488) = some r := by rw [if_neg (show ¬ (false = true) by decide)] at H; exact H
        clear H
        have H := H1
        clear H1
        have H' := Aside0.mk H
        clear H
        have hnb22 := NB484_489.out
        have hnc22 := NB489_484.out
        have hnb23 := NB484_490.out
        have hnc23 := NB490_484.out
        have hcz24_0 : wc.cell? ⟨gb484, 0, none⟩ = some (.int .u32 a0_0) := (blk_cell BK484.out 0).trans rfl
        have hcz24_1 : wc.cell? ⟨gb484, 1, none⟩ = some (.int .u32 a0_1) := (blk_cell BK484.out 1).trans rfl
        have hcz24_2 : wc.cell? ⟨gb484, 2, none⟩ = some (.int .u32 a0_2) := (blk_cell BK484.out 2).trans rfl
        have hcz24_3 : wc.cell? ⟨gb484, 3, none⟩ = some (.int .u32 a0_3) := (blk_cell BK484.out 3).trans rfl
        have hcz24_4 : wc.cell? ⟨gb484, 4, none⟩ = some (.int .u32 a0_4) := (blk_cell BK484.out 4).trans rfl
        have hcz24_5 : wc.cell? ⟨gb484, 5, none⟩ = some (.int .u32 a0_5) := (blk_cell BK484.out 5).trans rfl
        have hcz24_6 : wc.cell? ⟨gb484, 6, none⟩ = some (.int .u32 a0_6) := (blk_cell BK484.out 6).trans rfl
        have hcz24_7 : wc.cell? ⟨gb484, 7, none⟩ = some (.int .u32 a0_7) := (blk_cell BK484.out 7).trans rfl
        have hcz24_8 : wc.cell? ⟨gb484, 8, none⟩ = some (.int .u32 a0_8) := (blk_cell BK484.out 8).trans rfl
        have hcz24_9 : wc.cell? ⟨gb484, 9, none⟩ = some (.int .u32 a0_9) := (blk_cell BK484.out 9).trans rfl
        have hcz24_10 : wc.cell? ⟨gb484, 10, none⟩ = some (.int .u64 a0_10) := (blk_cell BK484.out 10).trans rfl
        have hcz24_11 : wc.cell? ⟨gb484, 11, none⟩ = some (.int .u32 a0_11) := (blk_cell BK484.out 11).trans rfl
        have hcz24_12 : wc.cell? ⟨gb484, 12, none⟩ = some (.int .u32 a0_12) := (blk_cell BK484.out 12).trans rfl
        have hcz24_13 : wc.cell? ⟨gb484, 13, none⟩ = some (.int .u32 a0_13) := (blk_cell BK484.out 13).trans rfl
        have hcz24_14 : wc.cell? ⟨gb484, 14, none⟩ = some (.int .u32 a0_14) := (blk_cell BK484.out 14).trans rfl
        have hcz24_15 : wc.cell? ⟨gb484, 15, none⟩ = some (.slice A0_15 l0_15.length c0_15) := (blk_cell BK484.out 15).trans rfl
        have hcz24_16 : wc.cell? ⟨gb484, 16, none⟩ = some (.slice A0_16 l0_16.length c0_16) := (blk_cell BK484.out 16).trans rfl
        have hfz24_0 := blk_frozen BK484.out 0
        have hfz24_1 := blk_frozen BK484.out 1
        have hfz24_2 := blk_frozen BK484.out 2
        have hfz24_3 := blk_frozen BK484.out 3
        have hfz24_4 := blk_frozen BK484.out 4
        have hfz24_5 := blk_frozen BK484.out 5
        have hfz24_6 := blk_frozen BK484.out 6
        have hfz24_7 := blk_frozen BK484.out 7
        have hfz24_8 := blk_frozen BK484.out 8
        have hfz24_9 := blk_frozen BK484.out 9
        have hfz24_10 := blk_frozen BK484.out 10
        have hfz24_11 := blk_frozen BK484.out 11
        have hfz24_12 := blk_frozen BK484.out 12
        have hfz24_13 := blk_frozen BK484.out 13
        have hfz24_14 := blk_frozen BK484.out 14
        have hfz24_15 := blk_frozen BK484.out 15
        have hfz24_16 := blk_frozen BK484.out 16
        go_wp2
        go_loopg [5, 6, 29] kj2 (fun kq v5 v6 v29 w' => ∃ (x5_2 : Bool) (x6_2 : Int) (x29_2 : Int), v5 = .bool x5_2 ∧ v6 = .int .u64 x6_2 ∧ v29 = .int .i64 x29_2 ∧ Aside0 (image_segs.l0 kq x5_2 x6_2 l0_16 (l0_16.length : Int) x29_2 a0_0 a0_1 a0_2 a0_3 a0_4 a0_5 a0_6 a0_7 a0_8 a0_9 a0_10 a0_11 a0_12 a0_13 a0_14 l0_15 l0_16 t485 t486 t487 t488 = some r) ∧ Aside0 (kq ≤ kj2) ∧ Aside0 (w'.heap[gb484]? = some (.cells #[.int .u32 a0_0, .int .u32 a0_1, .int .u32 a0_2, .int .u32 a0_3, .int .u32 a0_4, .int .u32 a0_5, .int .u32 a0_6, .int .u32 a0_7, .int .u32 a0_8, .int .u32 a0_9, .int .u64 a0_10, .int .u32 a0_11, .int .u32 a0_12, .int .u32 a0_13, .int .u32 a0_14, (.slice A0_15 l0_15.length c0_15), (.slice A0_16 l0_16.length c0_16)] 78 (0, 0))) ∧ Aside0 (w'.heap[gb489]? = some (.cells #[.int .u64 t485, .int .u64 t486] 196 (0, 0))) ∧ Aside0 (w'.heap[gb490]? = some (.cells #[.int .u64 t487, .int .u64 t488] 196 (0, 0))) ∧ Aside0 (Below w.heap.size w w'))
        case atStart => exact ⟨(false), (0), (0), (by first | rfl | (simp; done) | (simp [*]; done)), (by first | rfl | (simp; done) | (simp [*]; done)), (by first | rfl | (simp; done) | (simp [*]; done)), H', ⟨Nat.le_refl _⟩, ⟨by (with_reducible repeat (first | refine blk_drewN ?_ _ | refine blk_drew ?_ | refine blk_alloc ?_ _)); exact BK484.out⟩, ⟨by (with_reducible repeat (first | refine blk_drewN ?_ _ | refine blk_drew ?_ | refine blk_alloc ?_ _)); exact BK489.out⟩, ⟨by (with_reducible repeat (first | refine blk_drewN ?_ _ | refine blk_drew ?_ | refine blk_alloc ?_ _)); exact BK490.out⟩, ⟨by repeat (first | (with_reducible first | exact HB.out | apply below_alloc | apply pw_below_drewN | apply below_drew1 | refine below_set ?_ GE484.out | refine below_set ?_ GE489.out | refine below_set ?_ GE490.out) | exact HB.out)⟩⟩
        case round =>
          clear H'
          try clear c1
          try clear c2
          try clear p2
          try clear c9
          try clear c10
          try clear c12
          try clear c13
          try clear c14
          try clear c14b0
          try clear c14b1
          try clear c15
          try clear c16
          try clear c18
          try clear c19
          try clear c21
          try clear c22
          try clear c23
          try clear hcz11_0
          try clear hcz11_1
          try clear hcz13_0
          try clear hcz13_1
          try clear hcz17_0
          try clear hcz17_1
          try clear hcz17_10
          try clear hcz17_11
          try clear hcz17_12
          try clear hcz17_13
          try clear hcz17_14
          try clear hcz17_15
          try clear hcz17_16
          try clear hcz17_2
          try clear hcz17_3
          try clear hcz17_4
          try clear hcz17_5
          try clear hcz17_6
          try clear hcz17_7
          try clear hcz17_8
          try clear hcz17_9
          try clear hcz20_0
          try clear hcz20_1
          try clear hcz20_10
          try clear hcz20_11
          try clear hcz20_12
          try clear hcz20_13
          try clear hcz20_14
          try clear hcz20_15
          try clear hcz20_16
          try clear hcz20_2
          try clear hcz20_3
          try clear hcz20_4
          try clear hcz20_5
          try clear hcz20_6
          try clear hcz20_7
          try clear hcz20_8
          try clear hcz20_9
          try clear hcz24_0
          try clear hcz24_1
          try clear hcz24_10
          try clear hcz24_11
          try clear hcz24_12
          try clear hcz24_13
          try clear hcz24_14
          try clear hcz24_15
          try clear hcz24_16
          try clear hcz24_2
          try clear hcz24_3
          try clear hcz24_4
          try clear hcz24_5
          try clear hcz24_6
          try clear hcz24_7
          try clear hcz24_8
          try clear hcz24_9
          try clear hcz5_0
          try clear hcz5_1
          try clear hcz5_10
          try clear hcz5_11
          try clear hcz5_12
          try clear hcz5_13
          try clear hcz5_14
          try clear hcz5_15
          try clear hcz5_16
          try clear hcz5_2
          try clear hcz5_3
          try clear hcz5_4
          try clear hcz5_5
          try clear hcz5_6
          try clear hcz5_7
          try clear hcz5_8
          try clear hcz5_9
          try clear hfz11_0
          try clear hfz11_1
          try clear hfz13_0
          try clear hfz13_1
          try clear hfz17_0
          try clear hfz17_1
          try clear hfz17_10
          try clear hfz17_11
          try clear hfz17_12
          try clear hfz17_13
          try clear hfz17_14
          try clear hfz17_15
          try clear hfz17_16
          try clear hfz17_2
          try clear hfz17_3
          try clear hfz17_4
          try clear hfz17_5
          try clear hfz17_6
          try clear hfz17_7
          try clear hfz17_8
          try clear hfz17_9
          try clear hfz20_0
          try clear hfz20_1
          try clear hfz20_10
          try clear hfz20_11
          try clear hfz20_12
          try clear hfz20_13
          try clear hfz20_14
          try clear hfz20_15
          try clear hfz20_16
          try clear hfz20_2
          try clear hfz20_3
          try clear hfz20_4
          try clear hfz20_5
          try clear hfz20_6
          try clear hfz20_7
          try clear hfz20_8
          try clear hfz20_9
          try clear hfz24_0
          try clear hfz24_1
          try clear hfz24_10
          try clear hfz24_11
          try clear hfz24_12
          try clear hfz24_13
          try clear hfz24_14
          try clear hfz24_15
          try clear hfz24_16
          try clear hfz24_2
          try clear hfz24_3
          try clear hfz24_4
          try clear hfz24_5
          try clear hfz24_6
          try clear hfz24_7
          try clear hfz24_8
          try clear hfz24_9
          try clear hfz5_0
          try clear hfz5_1
          try clear hfz5_10
          try clear hfz5_11
          try clear hfz5_12
          try clear hfz5_13
          try clear hfz5_14
          try clear hfz5_15
          try clear hfz5_16
          try clear hfz5_2
          try clear hfz5_3
          try clear hfz5_4
          try clear hfz5_5
          try clear hfz5_6
          try clear hfz5_7
          try clear hfz5_8
          try clear hfz5_9
          try clear p2
          obtain ⟨x5_2, x6_2, x29_2, rfl, rfl, rfl, HA, HK2, BK484, BK489, BK490, HB⟩ := hrel
          cases gk with
          | zero => exact absurd HA.out (by simp [image_segs.l0])
          | succ k2 =>
            have H := HA.out
            clear HA
            simp only [image_segs.l0] at H
            by_cases c25 : x29_2 < (l0_16.length : Int)
            · rw [if_pos c25] at H
              have c25b0 : decide (x29_2 < (l0_16.length : Int)) = true := decide_eq_true c25
              clear c25
              by_cases c26 : 0 ≤ x29_2
              · rw [if_pos c26] at H
                have c26b0 : decide (0 ≤ x29_2) = true := decide_eq_true c26
                clear c26
                by_cases c27 : x29_2 < (l0_16.length : Int)
                · rw [if_pos c27] at H
                  have c27b0 : decide (x29_2 < (l0_16.length : Int)) = true := decide_eq_true c27
                  clear c27
                  replace H := Option.bind_eq_some_iff.mp H
                  obtain ⟨⟨t493, t494⟩, A280, H⟩ := H
                  replace H : ((image_span_empty.f t493 t494).bind fun t496 => (if t496 = true then (image_segs.j2 k2 x5_2 l0_16 (l0_16.length : Int) x29_2 true a0_0 a0_1 a0_2 a0_3 a0_4 a0_5 a0_6 a0_7 a0_8 a0_9 a0_10 a0_11 a0_12 a0_13 a0_14 l0_15 l0_16 t485 t486 t487 t488 t493 t494) else (if t493 < x6_2 then (image_segs.j2 k2 x5_2 l0_16 (l0_16.length : Int) x29_2 true a0_0 a0_1 a0_2 a0_3 a0_4 a0_5 a0_6 a0_7 a0_8 a0_9 a0_10 a0_11 a0_12 a0_13 a0_14 l0_15 l0_16 t485 t486 t487 t488 t493 t494) else ((image_span_within.f t493 t494 t485 t486).bind fun t497 => (if t497 = true then (image_segs.j2 k2 x5_2 l0_16 (l0_16.length : Int) x29_2 false a0_0 a0_1 a0_2 a0_3 a0_4 a0_5 a0_6 a0_7 a0_8 a0_9 a0_10 a0_11 a0_12 a0_13 a0_14 l0_15 l0_16 t485 t486 t487 t488 t493 t494) else ((image_span_within.f t493 t494 t487 t488).bind fun t498 => (image_segs.j2 k2 x5_2 l0_16 (l0_16.length : Int) x29_2 (!t498) a0_0 a0_1 a0_2 a0_3 a0_4 a0_5 a0_6 a0_7 a0_8 a0_9 a0_10 a0_11 a0_12 a0_13 a0_14 l0_15 l0_16 t485 t486 t487 t488 t493 t494))))))) = some r := H
                  have A28 := Aside0.mk A280
                  clear A280
                  have HC29 := Aside0.mk H
                  clear H
                  have p491 : 0 ≤ (x29_2 : Int) := of_decide_eq_true (by first | (with_reducible assumption) | assumption)
                  have q491 : x29_2 < (l0_16.length : Int) := of_decide_eq_true (by first | (with_reducible assumption) | assumption)
                  obtain ⟨ad491, A491_1, c491_1, e491, hx491_0, hx491_1, hl491_1, hi491_1⟩ := at_T85 HR0_16.out x29_2 p491 q491
                  cases e491
                  replace hx491_0 := (HB.out.cell (World.block_lt_of_cell? w _ hx491_0)).trans hx491_0
                  replace hx491_1 := (HB.out.cell (World.block_lt_of_cell? w _ hx491_1)).trans hx491_1
                  have HR491_1 := Aside0.mk hi491_1
                  have HC491_1 := Aside0.mk hl491_1
                  clear hi491_1 hl491_1
                  replace p491 := eq_true p491
                  replace q491 := eq_true q491
                  go_upto_region 9 with (first | ((with_reducible refine gate_dst (N := 8) rfl ?_); (try (refine gate_guard (by rfl) ?_; dsimp only)); refine box_event ?hg (N := 8) ?hd (cs := #[.int .u32 0, .slice none 0 0]) (t := 85) ?hr ?_; (case hd => rfl); (case hg => rfl); (case hr => first | (go_simp; done) | (go_simp; rfl)); intro gb492 hg w30 hbox hb; have n0_ := Aside0.mk (blk_below (g := gb484) (o := .cells #[.int .u32 a0_0, .int .u32 a0_1, .int .u32 a0_2, .int .u32 a0_3, .int .u32 a0_4, .int .u32 a0_5, .int .u32 a0_6, .int .u32 a0_7, .int .u32 a0_8, .int .u32 a0_9, .int .u64 a0_10, .int .u32 a0_11, .int .u32 a0_12, .int .u32 a0_13, .int .u32 a0_14, .slice A0_15 l0_15.length c0_15, .slice (some ad491) l0_16.length c0_16] 78 (0, 0)) (by (with_reducible repeat (first | refine blk_drewN ?_ _ | refine blk_drew ?_ | refine blk_alloc ?_ _)); exact BK484.out) hb); have n1_ := Aside0.mk (blk_below (g := gb489) (o := .cells #[.int .u64 t485, .int .u64 t486] 196 (0, 0)) (by (with_reducible repeat (first | refine blk_drewN ?_ _ | refine blk_drew ?_ | refine blk_alloc ?_ _)); exact BK489.out) hb); have n2_ := Aside0.mk (blk_below (g := gb490) (o := .cells #[.int .u64 t487, .int .u64 t488] 196 (0, 0)) (by (with_reducible repeat (first | refine blk_drewN ?_ _ | refine blk_drew ?_ | refine blk_alloc ?_ _)); exact BK490.out) hb); have n3_ := Aside0.mk (below_step (by repeat (first | (with_reducible first | exact HB.out | apply below_alloc | apply pw_below_drewN | apply below_drew1 | refine below_set ?_ GE484.out | refine below_set ?_ GE489.out | refine below_set ?_ GE490.out) | exact HB.out)) hb); have n4_ := Aside0.mk (hbox); have n5_ := Aside0.mk ((by rw [hg]; exact (below_size (by repeat (first | (with_reducible first | exact HB.out | apply below_alloc | apply pw_below_drewN | apply below_drew1 | refine below_set ?_ GE484.out | refine below_set ?_ GE489.out | refine below_set ?_ GE490.out) | exact HB.out))) : w.heap.size ≤ gb492)); have n6_ := Aside0.mk ((by rw [hg]; exact (below_size (by repeat (first | (with_reducible first | exact HB.out | apply below_alloc | apply pw_below_drewN | apply below_drew1 | refine below_set ?_ GE484.out | refine below_set ?_ GE489.out | refine below_set ?_ GE490.out) | exact HB.out))) : w.heap.size ≤ gb492)); have n7_ := Aside0.mk ((by rw [hg]; exact Nat.ne_of_lt (blk_lt (g := gb484) (o := .cells #[.int .u32 a0_0, .int .u32 a0_1, .int .u32 a0_2, .int .u32 a0_3, .int .u32 a0_4, .int .u32 a0_5, .int .u32 a0_6, .int .u32 a0_7, .int .u32 a0_8, .int .u32 a0_9, .int .u64 a0_10, .int .u32 a0_11, .int .u32 a0_12, .int .u32 a0_13, .int .u32 a0_14, .slice A0_15 l0_15.length c0_15, .slice (some ad491) l0_16.length c0_16] 78 (0, 0)) (by (with_reducible repeat (first | refine blk_drewN ?_ _ | refine blk_drew ?_ | refine blk_alloc ?_ _)); exact BK484.out)) : gb484 ≠ gb492)); have n8_ := Aside0.mk ((by rw [hg]; exact Nat.ne_of_gt (blk_lt (g := gb484) (o := .cells #[.int .u32 a0_0, .int .u32 a0_1, .int .u32 a0_2, .int .u32 a0_3, .int .u32 a0_4, .int .u32 a0_5, .int .u32 a0_6, .int .u32 a0_7, .int .u32 a0_8, .int .u32 a0_9, .int .u64 a0_10, .int .u32 a0_11, .int .u32 a0_12, .int .u32 a0_13, .int .u32 a0_14, .slice A0_15 l0_15.length c0_15, .slice (some ad491) l0_16.length c0_16] 78 (0, 0)) (by (with_reducible repeat (first | refine blk_drewN ?_ _ | refine blk_drew ?_ | refine blk_alloc ?_ _)); exact BK484.out)) : gb492 ≠ gb484)); have n9_ := Aside0.mk ((by rw [hg]; exact Nat.ne_of_lt (blk_lt (g := gb489) (o := .cells #[.int .u64 t485, .int .u64 t486] 196 (0, 0)) (by (with_reducible repeat (first | refine blk_drewN ?_ _ | refine blk_drew ?_ | refine blk_alloc ?_ _)); exact BK489.out)) : gb489 ≠ gb492)); have n10_ := Aside0.mk ((by rw [hg]; exact Nat.ne_of_gt (blk_lt (g := gb489) (o := .cells #[.int .u64 t485, .int .u64 t486] 196 (0, 0)) (by (with_reducible repeat (first | refine blk_drewN ?_ _ | refine blk_drew ?_ | refine blk_alloc ?_ _)); exact BK489.out)) : gb492 ≠ gb489)); have n11_ := Aside0.mk ((by rw [hg]; exact Nat.ne_of_lt (blk_lt (g := gb490) (o := .cells #[.int .u64 t487, .int .u64 t488] 196 (0, 0)) (by (with_reducible repeat (first | refine blk_drewN ?_ _ | refine blk_drew ?_ | refine blk_alloc ?_ _)); exact BK490.out)) : gb490 ≠ gb492)); have n12_ := Aside0.mk ((by rw [hg]; exact Nat.ne_of_gt (blk_lt (g := gb490) (o := .cells #[.int .u64 t487, .int .u64 t488] 196 (0, 0)) (by (with_reducible repeat (first | refine blk_drewN ?_ _ | refine blk_drew ?_ | refine blk_alloc ?_ _)); exact BK490.out)) : gb492 ≠ gb490)); clear BK484; clear BK489; clear BK490; clear HB; have BK484 := n0_; have BK489 := n1_; have BK490 := n2_; have HB := n3_; have BK492 := n4_; have GW492 := n5_; have GE492 := n6_; have NB484_492 := n7_; have NB492_484 := n8_; have NB489_492 := n9_; have NB492_489 := n10_; have NB490_492 := n11_; have NB492_490 := n12_; clear n0_ n1_ n2_ n3_ n4_ n5_ n6_ n7_ n8_ n9_ n10_ n11_ n12_; clear hb hbox hg; have hnb31 := NB492_484.out; have hnc31 := NB484_492.out; have hnb32 := NB492_489.out; have hnc32 := NB489_492.out; have hnb33 := NB492_490.out; have hnc33 := NB490_492.out; have hcz34_0 : w30.cell? ⟨gb492, 0, none⟩ = some (.int .u32 0) := (blk_cell BK492.out 0).trans rfl; have hcz34_1 : w30.cell? ⟨gb492, 1, none⟩ = some (.slice none 0 0) := (blk_cell BK492.out 1).trans rfl; have hfz34_0 := blk_frozen BK492.out 0; have hfz34_1 := blk_frozen BK492.out 1) | ((with_reducible refine gate_callee (f := 152) rfl ?_); refine goesL_ (some 34) rfl rfl Try.func152 (by kernel_rfl) rfl #[.agg #[.int .u32 ((rd_T85 l0_16 x29_2).f0), .slice A491_1 ((rd_T85 l0_16 x29_2).f1).length c491_1]] rfl (by (try simp only [List.map_toArray, List.map_cons, List.map_nil]); first | done | rfl | (simp only [List.length_drop, List.length_take]; rfl)) ?_; (with_reducible refine (image_part.calls ((rd_T85 l0_16 x29_2).f0) _ _ ((rd_T85 l0_16 x29_2).f1) t493 t494 _ ?side1 ?side2 A28.out).mono ?_); (case side1 => exact Kd.C_below HR491_1.out (by repeat (first | (with_reducible first | exact HB.out | apply below_alloc | apply pw_below_drewN | apply below_drew1 | refine below_set ?_ GE484.out | refine below_set ?_ GE489.out | refine below_set ?_ GE490.out | refine below_set ?_ GE492.out) | exact HB.out))); (case side2 => exact HC491_1.out); rintro e w35 ⟨rfl, hb⟩; refine ⟨_, rfl, ?_⟩; have n0_ := Aside0.mk (blk_below (g := gb484) (o := .cells #[.int .u32 a0_0, .int .u32 a0_1, .int .u32 a0_2, .int .u32 a0_3, .int .u32 a0_4, .int .u32 a0_5, .int .u32 a0_6, .int .u32 a0_7, .int .u32 a0_8, .int .u32 a0_9, .int .u64 a0_10, .int .u32 a0_11, .int .u32 a0_12, .int .u32 a0_13, .int .u32 a0_14, .slice A0_15 l0_15.length c0_15, .slice (some ad491) l0_16.length c0_16] 78 (0, 0)) (by (with_reducible repeat (first | refine blk_drewN ?_ _ | refine blk_drew ?_ | refine blk_alloc ?_ _)); refine blk_far ?_ NB484_492.out _; (with_reducible repeat (first | refine blk_drewN ?_ _ | refine blk_drew ?_ | refine blk_alloc ?_ _)); refine blk_far ?_ NB484_492.out _; (with_reducible repeat (first | refine blk_drewN ?_ _ | refine blk_drew ?_ | refine blk_alloc ?_ _)); exact BK484.out) hb); have n1_ := Aside0.mk (blk_below (g := gb489) (o := .cells #[.int .u64 t485, .int .u64 t486] 196 (0, 0)) (by (with_reducible repeat (first | refine blk_drewN ?_ _ | refine blk_drew ?_ | refine blk_alloc ?_ _)); refine blk_far ?_ NB489_492.out _; (with_reducible repeat (first | refine blk_drewN ?_ _ | refine blk_drew ?_ | refine blk_alloc ?_ _)); refine blk_far ?_ NB489_492.out _; (with_reducible repeat (first | refine blk_drewN ?_ _ | refine blk_drew ?_ | refine blk_alloc ?_ _)); exact BK489.out) hb); have n2_ := Aside0.mk (blk_below (g := gb490) (o := .cells #[.int .u64 t487, .int .u64 t488] 196 (0, 0)) (by (with_reducible repeat (first | refine blk_drewN ?_ _ | refine blk_drew ?_ | refine blk_alloc ?_ _)); refine blk_far ?_ NB490_492.out _; (with_reducible repeat (first | refine blk_drewN ?_ _ | refine blk_drew ?_ | refine blk_alloc ?_ _)); refine blk_far ?_ NB490_492.out _; (with_reducible repeat (first | refine blk_drewN ?_ _ | refine blk_drew ?_ | refine blk_alloc ?_ _)); exact BK490.out) hb); have n3_ := Aside0.mk (blk_below (g := gb492) (o := .cells #[.int .u32 ((rd_T85 l0_16 x29_2).f0), .slice A491_1 ((rd_T85 l0_16 x29_2).f1).length c491_1] 85 (0, 0)) (by (with_reducible repeat (first | refine blk_drewN ?_ _ | refine blk_drew ?_ | refine blk_alloc ?_ _)); refine blk_put (cs := #[.int .u32 ((rd_T85 l0_16 x29_2).f0), .slice none 0 0]) ?_ 1 _ rfl; (with_reducible repeat (first | refine blk_drewN ?_ _ | refine blk_drew ?_ | refine blk_alloc ?_ _)); refine blk_put (cs := #[.int .u32 0, .slice none 0 0]) ?_ 0 _ rfl; (with_reducible repeat (first | refine blk_drewN ?_ _ | refine blk_drew ?_ | refine blk_alloc ?_ _)); exact BK492.out) hb); have n4_ := Aside0.mk (below_step (by repeat (first | (with_reducible first | exact HB.out | apply below_alloc | apply pw_below_drewN | apply below_drew1 | refine below_set ?_ GE484.out | refine below_set ?_ GE489.out | refine below_set ?_ GE490.out | refine below_set ?_ GE492.out) | exact HB.out)) hb); clear BK484; clear BK489; clear BK490; clear BK492; clear HB; have BK484 := n0_; have BK489 := n1_; have BK490 := n2_; have BK492 := n3_; have HB := n4_; clear n0_ n1_ n2_ n3_ n4_; (try clear hb); (try clear hb2); (try clear hk); (try clear hi)) | ((with_reducible refine gate_dst (N := 9) rfl ?_); (try (refine gate_guard (by rfl) ?_; dsimp only)); refine box_event ?hg (N := 9) ?hd (cs := #[.int .u64 0, .int .u64 0]) (t := 196) ?hr ?_; (case hd => rfl); (case hg => rfl); (case hr => first | (go_simp; done) | (go_simp; rfl)); intro gb495 hg w36 hbox hb; have n0_ := Aside0.mk (blk_below (g := gb484) (o := .cells #[.int .u32 a0_0, .int .u32 a0_1, .int .u32 a0_2, .int .u32 a0_3, .int .u32 a0_4, .int .u32 a0_5, .int .u32 a0_6, .int .u32 a0_7, .int .u32 a0_8, .int .u32 a0_9, .int .u64 a0_10, .int .u32 a0_11, .int .u32 a0_12, .int .u32 a0_13, .int .u32 a0_14, .slice A0_15 l0_15.length c0_15, .slice (some ad491) l0_16.length c0_16] 78 (0, 0)) (by (with_reducible repeat (first | refine blk_drewN ?_ _ | refine blk_drew ?_ | refine blk_alloc ?_ _)); exact BK484.out) hb); have n1_ := Aside0.mk (blk_below (g := gb489) (o := .cells #[.int .u64 t485, .int .u64 t486] 196 (0, 0)) (by (with_reducible repeat (first | refine blk_drewN ?_ _ | refine blk_drew ?_ | refine blk_alloc ?_ _)); exact BK489.out) hb); have n2_ := Aside0.mk (blk_below (g := gb490) (o := .cells #[.int .u64 t487, .int .u64 t488] 196 (0, 0)) (by (with_reducible repeat (first | refine blk_drewN ?_ _ | refine blk_drew ?_ | refine blk_alloc ?_ _)); exact BK490.out) hb); have n3_ := Aside0.mk (blk_below (g := gb492) (o := .cells #[.int .u32 ((rd_T85 l0_16 x29_2).f0), .slice A491_1 ((rd_T85 l0_16 x29_2).f1).length c491_1] 85 (0, 0)) (by (with_reducible repeat (first | refine blk_drewN ?_ _ | refine blk_drew ?_ | refine blk_alloc ?_ _)); exact BK492.out) hb); have n4_ := Aside0.mk (below_step (by repeat (first | (with_reducible first | exact HB.out | apply below_alloc | apply pw_below_drewN | apply below_drew1 | refine below_set ?_ GE484.out | refine below_set ?_ GE489.out | refine below_set ?_ GE490.out | refine below_set ?_ GE492.out) | exact HB.out)) hb); have n5_ := Aside0.mk (hbox); have n6_ := Aside0.mk ((by rw [hg]; exact (below_size (by repeat (first | (with_reducible first | exact HB.out | apply below_alloc | apply pw_below_drewN | apply below_drew1 | refine below_set ?_ GE484.out | refine below_set ?_ GE489.out | refine below_set ?_ GE490.out | refine below_set ?_ GE492.out) | exact HB.out))) : w.heap.size ≤ gb495)); have n7_ := Aside0.mk ((by rw [hg]; exact (below_size (by repeat (first | (with_reducible first | exact HB.out | apply below_alloc | apply pw_below_drewN | apply below_drew1 | refine below_set ?_ GE484.out | refine below_set ?_ GE489.out | refine below_set ?_ GE490.out | refine below_set ?_ GE492.out) | exact HB.out))) : w.heap.size ≤ gb495)); have n8_ := Aside0.mk ((by rw [hg]; exact Nat.ne_of_lt (blk_lt (g := gb484) (o := .cells #[.int .u32 a0_0, .int .u32 a0_1, .int .u32 a0_2, .int .u32 a0_3, .int .u32 a0_4, .int .u32 a0_5, .int .u32 a0_6, .int .u32 a0_7, .int .u32 a0_8, .int .u32 a0_9, .int .u64 a0_10, .int .u32 a0_11, .int .u32 a0_12, .int .u32 a0_13, .int .u32 a0_14, .slice A0_15 l0_15.length c0_15, .slice (some ad491) l0_16.length c0_16] 78 (0, 0)) (by (with_reducible repeat (first | refine blk_drewN ?_ _ | refine blk_drew ?_ | refine blk_alloc ?_ _)); exact BK484.out)) : gb484 ≠ gb495)); have n9_ := Aside0.mk ((by rw [hg]; exact Nat.ne_of_gt (blk_lt (g := gb484) (o := .cells #[.int .u32 a0_0, .int .u32 a0_1, .int .u32 a0_2, .int .u32 a0_3, .int .u32 a0_4, .int .u32 a0_5, .int .u32 a0_6, .int .u32 a0_7, .int .u32 a0_8, .int .u32 a0_9, .int .u64 a0_10, .int .u32 a0_11, .int .u32 a0_12, .int .u32 a0_13, .int .u32 a0_14, .slice A0_15 l0_15.length c0_15, .slice (some ad491) l0_16.length c0_16] 78 (0, 0)) (by (with_reducible repeat (first | refine blk_drewN ?_ _ | refine blk_drew ?_ | refine blk_alloc ?_ _)); exact BK484.out)) : gb495 ≠ gb484)); have n10_ := Aside0.mk ((by rw [hg]; exact Nat.ne_of_lt (blk_lt (g := gb489) (o := .cells #[.int .u64 t485, .int .u64 t486] 196 (0, 0)) (by (with_reducible repeat (first | refine blk_drewN ?_ _ | refine blk_drew ?_ | refine blk_alloc ?_ _)); exact BK489.out)) : gb489 ≠ gb495)); have n11_ := Aside0.mk ((by rw [hg]; exact Nat.ne_of_gt (blk_lt (g := gb489) (o := .cells #[.int .u64 t485, .int .u64 t486] 196 (0, 0)) (by (with_reducible repeat (first | refine blk_drewN ?_ _ | refine blk_drew ?_ | refine blk_alloc ?_ _)); exact BK489.out)) : gb495 ≠ gb489)); have n12_ := Aside0.mk ((by rw [hg]; exact Nat.ne_of_lt (blk_lt (g := gb490) (o := .cells #[.int .u64 t487, .int .u64 t488] 196 (0, 0)) (by (with_reducible repeat (first | refine blk_drewN ?_ _ | refine blk_drew ?_ | refine blk_alloc ?_ _)); exact BK490.out)) : gb490 ≠ gb495)); have n13_ := Aside0.mk ((by rw [hg]; exact Nat.ne_of_gt (blk_lt (g := gb490) (o := .cells #[.int .u64 t487, .int .u64 t488] 196 (0, 0)) (by (with_reducible repeat (first | refine blk_drewN ?_ _ | refine blk_drew ?_ | refine blk_alloc ?_ _)); exact BK490.out)) : gb495 ≠ gb490)); have n14_ := Aside0.mk ((by rw [hg]; exact Nat.ne_of_lt (blk_lt (g := gb492) (o := .cells #[.int .u32 ((rd_T85 l0_16 x29_2).f0), .slice A491_1 ((rd_T85 l0_16 x29_2).f1).length c491_1] 85 (0, 0)) (by (with_reducible repeat (first | refine blk_drewN ?_ _ | refine blk_drew ?_ | refine blk_alloc ?_ _)); exact BK492.out)) : gb492 ≠ gb495)); have n15_ := Aside0.mk ((by rw [hg]; exact Nat.ne_of_gt (blk_lt (g := gb492) (o := .cells #[.int .u32 ((rd_T85 l0_16 x29_2).f0), .slice A491_1 ((rd_T85 l0_16 x29_2).f1).length c491_1] 85 (0, 0)) (by (with_reducible repeat (first | refine blk_drewN ?_ _ | refine blk_drew ?_ | refine blk_alloc ?_ _)); exact BK492.out)) : gb495 ≠ gb492)); clear BK484; clear BK489; clear BK490; clear BK492; clear HB; have BK484 := n0_; have BK489 := n1_; have BK490 := n2_; have BK492 := n3_; have HB := n4_; have BK495 := n5_; have GW495 := n6_; have GE495 := n7_; have NB484_495 := n8_; have NB495_484 := n9_; have NB489_495 := n10_; have NB495_489 := n11_; have NB490_495 := n12_; have NB495_490 := n13_; have NB492_495 := n14_; have NB495_492 := n15_; clear n0_ n1_ n2_ n3_ n4_ n5_ n6_ n7_ n8_ n9_ n10_ n11_ n12_ n13_ n14_ n15_; clear hb hbox hg; have hnb37 := NB495_484.out; have hnc37 := NB484_495.out; have hnb38 := NB495_489.out; have hnc38 := NB489_495.out; have hnb39 := NB495_490.out; have hnc39 := NB490_495.out; have hnb40 := NB495_492.out; have hnc40 := NB492_495.out; have hcz41_0 : w36.cell? ⟨gb495, 0, none⟩ = some (.int .u64 0) := (blk_cell BK495.out 0).trans rfl; have hcz41_1 : w36.cell? ⟨gb495, 1, none⟩ = some (.int .u64 0) := (blk_cell BK495.out 1).trans rfl; have hfz41_0 := blk_frozen BK495.out 0; have hfz41_1 := blk_frozen BK495.out 1))
                  (try simp only [Act.put, List.setIfInBounds_toArray, List.set_cons_zero, List.set_cons_succ])
                  go_cut [54] (fun v54 wc => ∃ (kq : Nat) (x54_28 : Bool), v54 = .bool x54_28 ∧ Aside0 (image_segs.j2 kq x5_2 l0_16 (l0_16.length : Int) x29_2 x54_28 a0_0 a0_1 a0_2 a0_3 a0_4 a0_5 a0_6 a0_7 a0_8 a0_9 a0_10 a0_11 a0_12 a0_13 a0_14 l0_15 l0_16 t485 t486 t487 t488 t493 t494 = some r) ∧ Aside0 (kq ≤ k2) ∧ Aside0 (wc.heap[gb484]? = some (.cells #[.int .u32 a0_0, .int .u32 a0_1, .int .u32 a0_2, .int .u32 a0_3, .int .u32 a0_4, .int .u32 a0_5, .int .u32 a0_6, .int .u32 a0_7, .int .u32 a0_8, .int .u32 a0_9, .int .u64 a0_10, .int .u32 a0_11, .int .u32 a0_12, .int .u32 a0_13, .int .u32 a0_14, (.slice A0_15 l0_15.length c0_15), (.slice (some ad491) l0_16.length c0_16)] 78 (0, 0))) ∧ Aside0 (wc.heap[gb489]? = some (.cells #[.int .u64 t485, .int .u64 t486] 196 (0, 0))) ∧ Aside0 (wc.heap[gb490]? = some (.cells #[.int .u64 t487, .int .u64 t488] 196 (0, 0))) ∧ Aside0 (wc.heap[gb492]? = some (.cells #[.int .u32 ((rd_T85 l0_16 x29_2).f0), (.slice A491_1 ((rd_T85 l0_16 x29_2).f1).length c491_1)] 85 (0, 0))) ∧ Aside0 (wc.heap[gb495]? = some (.cells #[.int .u64 t493, .int .u64 t494] 196 (0, 0))) ∧ Aside0 (Below w.heap.size w wc))
                  case first =>
                    have H := HC29.out
                    clear HC29
                    replace H := Option.bind_eq_some_iff.mp H
                    obtain ⟨t496, A420, H⟩ := H
                    replace H : (if t496 = true then (image_segs.j2 k2 x5_2 l0_16 (l0_16.length : Int) x29_2 true a0_0 a0_1 a0_2 a0_3 a0_4 a0_5 a0_6 a0_7 a0_8 a0_9 a0_10 a0_11 a0_12 a0_13 a0_14 l0_15 l0_16 t485 t486 t487 t488 t493 t494) else (if t493 < x6_2 then (image_segs.j2 k2 x5_2 l0_16 (l0_16.length : Int) x29_2 true a0_0 a0_1 a0_2 a0_3 a0_4 a0_5 a0_6 a0_7 a0_8 a0_9 a0_10 a0_11 a0_12 a0_13 a0_14 l0_15 l0_16 t485 t486 t487 t488 t493 t494) else ((image_span_within.f t493 t494 t485 t486).bind fun t497 => (if t497 = true then (image_segs.j2 k2 x5_2 l0_16 (l0_16.length : Int) x29_2 false a0_0 a0_1 a0_2 a0_3 a0_4 a0_5 a0_6 a0_7 a0_8 a0_9 a0_10 a0_11 a0_12 a0_13 a0_14 l0_15 l0_16 t485 t486 t487 t488 t493 t494) else ((image_span_within.f t493 t494 t487 t488).bind fun t498 => (image_segs.j2 k2 x5_2 l0_16 (l0_16.length : Int) x29_2 (!t498) a0_0 a0_1 a0_2 a0_3 a0_4 a0_5 a0_6 a0_7 a0_8 a0_9 a0_10 a0_11 a0_12 a0_13 a0_14 l0_15 l0_16 t485 t486 t487 t488 t493 t494)))))) = some r := H
                    have A42 := Aside0.mk A420
                    clear A420
                    by_cases c43 : t496 = true
                    · subst c43
                      have H1 : (image_segs.j2 k2 x5_2 l0_16 (l0_16.length : Int) x29_2 true a0_0 a0_1 a0_2 a0_3 a0_4 a0_5 a0_6 a0_7 a0_8 a0_9 a0_10 a0_11 a0_12 a0_13 a0_14 l0_15 l0_16 t485 t486 t487 t488 t493 t494) = some r := by rw [if_pos rfl] at H; exact H
                      clear H
                      have H := H1
                      clear H1
                      have H' := Aside0.mk H
                      clear H
                      have hnb44 := NB495_484.out
                      have hnc44 := NB484_495.out
                      have hnb45 := NB495_489.out
                      have hnc45 := NB489_495.out
                      have hnb46 := NB495_490.out
                      have hnc46 := NB490_495.out
                      have hnb47 := NB495_492.out
                      have hnc47 := NB492_495.out
                      have hcz48_0 : w36.cell? ⟨gb495, 0, none⟩ = some (.int .u64 0) := (blk_cell BK495.out 0).trans rfl
                      have hcz48_1 : w36.cell? ⟨gb495, 1, none⟩ = some (.int .u64 0) := (blk_cell BK495.out 1).trans rfl
                      have hfz48_0 := blk_frozen BK495.out 0
                      have hfz48_1 := blk_frozen BK495.out 1
                      go_wp2_with (first | ((with_reducible refine gate_callee (f := 153) rfl ?_); refine goesL_ (some 36) rfl rfl Try.func153 (by kernel_rfl) rfl #[.agg #[.int .u64 t493, .int .u64 t494]] rfl (by (try simp only [List.map_toArray, List.map_cons, List.map_nil]); first | done | rfl | (simp only [List.length_drop, List.length_take]; rfl)) ?_; (with_reducible refine (image_span_empty.calls t493 t494 true _ A42.out).mono ?_); rintro e w49 ⟨rfl, hb⟩; refine ⟨_, rfl, ?_⟩; have n0_ := Aside0.mk (blk_below (g := gb484) (o := .cells #[.int .u32 a0_0, .int .u32 a0_1, .int .u32 a0_2, .int .u32 a0_3, .int .u32 a0_4, .int .u32 a0_5, .int .u32 a0_6, .int .u32 a0_7, .int .u32 a0_8, .int .u32 a0_9, .int .u64 a0_10, .int .u32 a0_11, .int .u32 a0_12, .int .u32 a0_13, .int .u32 a0_14, .slice A0_15 l0_15.length c0_15, .slice (some ad491) l0_16.length c0_16] 78 (0, 0)) (by (with_reducible repeat (first | refine blk_drewN ?_ _ | refine blk_drew ?_ | refine blk_alloc ?_ _)); refine blk_far ?_ NB484_495.out _; (with_reducible repeat (first | refine blk_drewN ?_ _ | refine blk_drew ?_ | refine blk_alloc ?_ _)); refine blk_far ?_ NB484_495.out _; (with_reducible repeat (first | refine blk_drewN ?_ _ | refine blk_drew ?_ | refine blk_alloc ?_ _)); exact BK484.out) hb); have n1_ := Aside0.mk (blk_below (g := gb489) (o := .cells #[.int .u64 t485, .int .u64 t486] 196 (0, 0)) (by (with_reducible repeat (first | refine blk_drewN ?_ _ | refine blk_drew ?_ | refine blk_alloc ?_ _)); refine blk_far ?_ NB489_495.out _; (with_reducible repeat (first | refine blk_drewN ?_ _ | refine blk_drew ?_ | refine blk_alloc ?_ _)); refine blk_far ?_ NB489_495.out _; (with_reducible repeat (first | refine blk_drewN ?_ _ | refine blk_drew ?_ | refine blk_alloc ?_ _)); exact BK489.out) hb); have n2_ := Aside0.mk (blk_below (g := gb490) (o := .cells #[.int .u64 t487, .int .u64 t488] 196 (0, 0)) (by (with_reducible repeat (first | refine blk_drewN ?_ _ | refine blk_drew ?_ | refine blk_alloc ?_ _)); refine blk_far ?_ NB490_495.out _; (with_reducible repeat (first | refine blk_drewN ?_ _ | refine blk_drew ?_ | refine blk_alloc ?_ _)); refine blk_far ?_ NB490_495.out _; (with_reducible repeat (first | refine blk_drewN ?_ _ | refine blk_drew ?_ | refine blk_alloc ?_ _)); exact BK490.out) hb); have n3_ := Aside0.mk (blk_below (g := gb492) (o := .cells #[.int .u32 ((rd_T85 l0_16 x29_2).f0), .slice A491_1 ((rd_T85 l0_16 x29_2).f1).length c491_1] 85 (0, 0)) (by (with_reducible repeat (first | refine blk_drewN ?_ _ | refine blk_drew ?_ | refine blk_alloc ?_ _)); refine blk_far ?_ NB492_495.out _; (with_reducible repeat (first | refine blk_drewN ?_ _ | refine blk_drew ?_ | refine blk_alloc ?_ _)); refine blk_far ?_ NB492_495.out _; (with_reducible repeat (first | refine blk_drewN ?_ _ | refine blk_drew ?_ | refine blk_alloc ?_ _)); exact BK492.out) hb); have n4_ := Aside0.mk (blk_below (g := gb495) (o := .cells #[.int .u64 t493, .int .u64 t494] 196 (0, 0)) (by (with_reducible repeat (first | refine blk_drewN ?_ _ | refine blk_drew ?_ | refine blk_alloc ?_ _)); refine blk_put (cs := #[.int .u64 t493, .int .u64 0]) ?_ 1 _ rfl; (with_reducible repeat (first | refine blk_drewN ?_ _ | refine blk_drew ?_ | refine blk_alloc ?_ _)); refine blk_put (cs := #[.int .u64 0, .int .u64 0]) ?_ 0 _ rfl; (with_reducible repeat (first | refine blk_drewN ?_ _ | refine blk_drew ?_ | refine blk_alloc ?_ _)); exact BK495.out) hb); have n5_ := Aside0.mk (below_step (by repeat (first | (with_reducible first | exact HB.out | apply below_alloc | apply pw_below_drewN | apply below_drew1 | refine below_set ?_ GE484.out | refine below_set ?_ GE489.out | refine below_set ?_ GE490.out | refine below_set ?_ GE492.out | refine below_set ?_ GE495.out) | exact HB.out)) hb); clear BK484; clear BK489; clear BK490; clear BK492; clear BK495; clear HB; have BK484 := n0_; have BK489 := n1_; have BK490 := n2_; have BK492 := n3_; have BK495 := n4_; have HB := n5_; clear n0_ n1_ n2_ n3_ n4_ n5_; (try clear hb); (try clear hb2); (try clear hk); (try clear hi)))
                      go_meet
                      case rel => exact ⟨_, (true), (by first | rfl | (simp; done) | (simp [*]; done)), H', ⟨by have := HJ2.out; have := HK2.out; first | omega | exact Nat.le_refl _⟩, ⟨by (with_reducible repeat (first | refine blk_drewN ?_ _ | refine blk_drew ?_ | refine blk_alloc ?_ _)); exact BK484.out⟩, ⟨by (with_reducible repeat (first | refine blk_drewN ?_ _ | refine blk_drew ?_ | refine blk_alloc ?_ _)); exact BK489.out⟩, ⟨by (with_reducible repeat (first | refine blk_drewN ?_ _ | refine blk_drew ?_ | refine blk_alloc ?_ _)); exact BK490.out⟩, ⟨by (with_reducible repeat (first | refine blk_drewN ?_ _ | refine blk_drew ?_ | refine blk_alloc ?_ _)); exact BK492.out⟩, ⟨by (with_reducible repeat (first | refine blk_drewN ?_ _ | refine blk_drew ?_ | refine blk_alloc ?_ _)); exact BK495.out⟩, ⟨by repeat (first | (with_reducible first | exact HB.out | apply below_alloc | apply pw_below_drewN | apply below_drew1 | refine below_set ?_ GE484.out | refine below_set ?_ GE489.out | refine below_set ?_ GE490.out | refine below_set ?_ GE492.out | refine below_set ?_ GE495.out) | exact HB.out)⟩⟩
                    · replace c43 := Bool.eq_false_iff.mpr c43
                      subst c43
                      have H1 : (if t493 < x6_2 then (image_segs.j2 k2 x5_2 l0_16 (l0_16.length : Int) x29_2 true a0_0 a0_1 a0_2 a0_3 a0_4 a0_5 a0_6 a0_7 a0_8 a0_9 a0_10 a0_11 a0_12 a0_13 a0_14 l0_15 l0_16 t485 t486 t487 t488 t493 t494) else ((image_span_within.f t493 t494 t485 t486).bind fun t497 => (if t497 = true then (image_segs.j2 k2 x5_2 l0_16 (l0_16.length : Int) x29_2 false a0_0 a0_1 a0_2 a0_3 a0_4 a0_5 a0_6 a0_7 a0_8 a0_9 a0_10 a0_11 a0_12 a0_13 a0_14 l0_15 l0_16 t485 t486 t487 t488 t493 t494) else ((image_span_within.f t493 t494 t487 t488).bind fun t498 => (image_segs.j2 k2 x5_2 l0_16 (l0_16.length : Int) x29_2 (!t498) a0_0 a0_1 a0_2 a0_3 a0_4 a0_5 a0_6 a0_7 a0_8 a0_9 a0_10 a0_11 a0_12 a0_13 a0_14 l0_15 l0_16 t485 t486 t487 t488 t493 t494))))) = some r := by rw [if_neg (show ¬ (false = true) by decide)] at H; exact H
                      clear H
                      have H := H1
                      clear H1
                      by_cases c50 : t493 < x6_2
                      · rw [if_pos c50] at H
                        have c50b0 : decide (t493 < x6_2) = true := decide_eq_true c50
                        clear c50
                        (first | rw [c50b0] | (simp only [i64_w, i32_w]; rw [c50b0]) | skip)
                        have H' := Aside0.mk H
                        clear H
                        have hnb51 := NB495_484.out
                        have hnc51 := NB484_495.out
                        have hnb52 := NB495_489.out
                        have hnc52 := NB489_495.out
                        have hnb53 := NB495_490.out
                        have hnc53 := NB490_495.out
                        have hnb54 := NB495_492.out
                        have hnc54 := NB492_495.out
                        have hcz55_0 : w36.cell? ⟨gb495, 0, none⟩ = some (.int .u64 0) := (blk_cell BK495.out 0).trans rfl
                        have hcz55_1 : w36.cell? ⟨gb495, 1, none⟩ = some (.int .u64 0) := (blk_cell BK495.out 1).trans rfl
                        have hfz55_0 := blk_frozen BK495.out 0
                        have hfz55_1 := blk_frozen BK495.out 1
                        go_wp2_with (first | ((with_reducible refine gate_callee (f := 153) rfl ?_); refine goesL_ (some 36) rfl rfl Try.func153 (by kernel_rfl) rfl #[.agg #[.int .u64 t493, .int .u64 t494]] rfl (by (try simp only [List.map_toArray, List.map_cons, List.map_nil]); first | done | rfl | (simp only [List.length_drop, List.length_take]; rfl)) ?_; (with_reducible refine (image_span_empty.calls t493 t494 false _ A42.out).mono ?_); rintro e w56 ⟨rfl, hb⟩; refine ⟨_, rfl, ?_⟩; have n0_ := Aside0.mk (blk_below (g := gb484) (o := .cells #[.int .u32 a0_0, .int .u32 a0_1, .int .u32 a0_2, .int .u32 a0_3, .int .u32 a0_4, .int .u32 a0_5, .int .u32 a0_6, .int .u32 a0_7, .int .u32 a0_8, .int .u32 a0_9, .int .u64 a0_10, .int .u32 a0_11, .int .u32 a0_12, .int .u32 a0_13, .int .u32 a0_14, .slice A0_15 l0_15.length c0_15, .slice (some ad491) l0_16.length c0_16] 78 (0, 0)) (by (with_reducible repeat (first | refine blk_drewN ?_ _ | refine blk_drew ?_ | refine blk_alloc ?_ _)); refine blk_far ?_ NB484_495.out _; (with_reducible repeat (first | refine blk_drewN ?_ _ | refine blk_drew ?_ | refine blk_alloc ?_ _)); refine blk_far ?_ NB484_495.out _; (with_reducible repeat (first | refine blk_drewN ?_ _ | refine blk_drew ?_ | refine blk_alloc ?_ _)); exact BK484.out) hb); have n1_ := Aside0.mk (blk_below (g := gb489) (o := .cells #[.int .u64 t485, .int .u64 t486] 196 (0, 0)) (by (with_reducible repeat (first | refine blk_drewN ?_ _ | refine blk_drew ?_ | refine blk_alloc ?_ _)); refine blk_far ?_ NB489_495.out _; (with_reducible repeat (first | refine blk_drewN ?_ _ | refine blk_drew ?_ | refine blk_alloc ?_ _)); refine blk_far ?_ NB489_495.out _; (with_reducible repeat (first | refine blk_drewN ?_ _ | refine blk_drew ?_ | refine blk_alloc ?_ _)); exact BK489.out) hb); have n2_ := Aside0.mk (blk_below (g := gb490) (o := .cells #[.int .u64 t487, .int .u64 t488] 196 (0, 0)) (by (with_reducible repeat (first | refine blk_drewN ?_ _ | refine blk_drew ?_ | refine blk_alloc ?_ _)); refine blk_far ?_ NB490_495.out _; (with_reducible repeat (first | refine blk_drewN ?_ _ | refine blk_drew ?_ | refine blk_alloc ?_ _)); refine blk_far ?_ NB490_495.out _; (with_reducible repeat (first | refine blk_drewN ?_ _ | refine blk_drew ?_ | refine blk_alloc ?_ _)); exact BK490.out) hb); have n3_ := Aside0.mk (blk_below (g := gb492) (o := .cells #[.int .u32 ((rd_T85 l0_16 x29_2).f0), .slice A491_1 ((rd_T85 l0_16 x29_2).f1).length c491_1] 85 (0, 0)) (by (with_reducible repeat (first | refine blk_drewN ?_ _ | refine blk_drew ?_ | refine blk_alloc ?_ _)); refine blk_far ?_ NB492_495.out _; (with_reducible repeat (first | refine blk_drewN ?_ _ | refine blk_drew ?_ | refine blk_alloc ?_ _)); refine blk_far ?_ NB492_495.out _; (with_reducible repeat (first | refine blk_drewN ?_ _ | refine blk_drew ?_ | refine blk_alloc ?_ _)); exact BK492.out) hb); have n4_ := Aside0.mk (blk_below (g := gb495) (o := .cells #[.int .u64 t493, .int .u64 t494] 196 (0, 0)) (by (with_reducible repeat (first | refine blk_drewN ?_ _ | refine blk_drew ?_ | refine blk_alloc ?_ _)); refine blk_put (cs := #[.int .u64 t493, .int .u64 0]) ?_ 1 _ rfl; (with_reducible repeat (first | refine blk_drewN ?_ _ | refine blk_drew ?_ | refine blk_alloc ?_ _)); refine blk_put (cs := #[.int .u64 0, .int .u64 0]) ?_ 0 _ rfl; (with_reducible repeat (first | refine blk_drewN ?_ _ | refine blk_drew ?_ | refine blk_alloc ?_ _)); exact BK495.out) hb); have n5_ := Aside0.mk (below_step (by repeat (first | (with_reducible first | exact HB.out | apply below_alloc | apply pw_below_drewN | apply below_drew1 | refine below_set ?_ GE484.out | refine below_set ?_ GE489.out | refine below_set ?_ GE490.out | refine below_set ?_ GE492.out | refine below_set ?_ GE495.out) | exact HB.out)) hb); clear BK484; clear BK489; clear BK490; clear BK492; clear BK495; clear HB; have BK484 := n0_; have BK489 := n1_; have BK490 := n2_; have BK492 := n3_; have BK495 := n4_; have HB := n5_; clear n0_ n1_ n2_ n3_ n4_ n5_; (try clear hb); (try clear hb2); (try clear hk); (try clear hi); have hcz57_0 : w56.cell? ⟨gb495, 0, none⟩ = some (.int .u64 t493) := (blk_cell BK495.out 0).trans rfl; have hcz57_1 : w56.cell? ⟨gb495, 1, none⟩ = some (.int .u64 t494) := (blk_cell BK495.out 1).trans rfl; have hfz57_0 := blk_frozen BK495.out 0; have hfz57_1 := blk_frozen BK495.out 1))
                        go_meet
                        case rel => exact ⟨_, (true), (by first | rfl | (simp; done) | (simp [*]; done)), H', ⟨by have := HJ2.out; have := HK2.out; first | omega | exact Nat.le_refl _⟩, ⟨by (with_reducible repeat (first | refine blk_drewN ?_ _ | refine blk_drew ?_ | refine blk_alloc ?_ _)); exact BK484.out⟩, ⟨by (with_reducible repeat (first | refine blk_drewN ?_ _ | refine blk_drew ?_ | refine blk_alloc ?_ _)); exact BK489.out⟩, ⟨by (with_reducible repeat (first | refine blk_drewN ?_ _ | refine blk_drew ?_ | refine blk_alloc ?_ _)); exact BK490.out⟩, ⟨by (with_reducible repeat (first | refine blk_drewN ?_ _ | refine blk_drew ?_ | refine blk_alloc ?_ _)); exact BK492.out⟩, ⟨by (with_reducible repeat (first | refine blk_drewN ?_ _ | refine blk_drew ?_ | refine blk_alloc ?_ _)); exact BK495.out⟩, ⟨by repeat (first | (with_reducible first | exact HB.out | apply below_alloc | apply pw_below_drewN | apply below_drew1 | refine below_set ?_ GE484.out | refine below_set ?_ GE489.out | refine below_set ?_ GE490.out | refine below_set ?_ GE492.out | refine below_set ?_ GE495.out) | exact HB.out)⟩⟩
                      · rw [if_neg c50] at H
                        have c50b0 : decide (t493 < x6_2) = false := decide_eq_false c50
                        clear c50
                        (first | rw [c50b0] | (simp only [i64_w, i32_w]; rw [c50b0]) | skip)
                        replace H := Option.bind_eq_some_iff.mp H
                        obtain ⟨t497, A580, H⟩ := H
                        replace H : (if t497 = true then (image_segs.j2 k2 x5_2 l0_16 (l0_16.length : Int) x29_2 false a0_0 a0_1 a0_2 a0_3 a0_4 a0_5 a0_6 a0_7 a0_8 a0_9 a0_10 a0_11 a0_12 a0_13 a0_14 l0_15 l0_16 t485 t486 t487 t488 t493 t494) else ((image_span_within.f t493 t494 t487 t488).bind fun t498 => (image_segs.j2 k2 x5_2 l0_16 (l0_16.length : Int) x29_2 (!t498) a0_0 a0_1 a0_2 a0_3 a0_4 a0_5 a0_6 a0_7 a0_8 a0_9 a0_10 a0_11 a0_12 a0_13 a0_14 l0_15 l0_16 t485 t486 t487 t488 t493 t494))) = some r := H
                        have A58 := Aside0.mk A580
                        clear A580
                        by_cases c59 : t497 = true
                        · subst c59
                          have H1 : (image_segs.j2 k2 x5_2 l0_16 (l0_16.length : Int) x29_2 false a0_0 a0_1 a0_2 a0_3 a0_4 a0_5 a0_6 a0_7 a0_8 a0_9 a0_10 a0_11 a0_12 a0_13 a0_14 l0_15 l0_16 t485 t486 t487 t488 t493 t494) = some r := by rw [if_pos rfl] at H; exact H
                          clear H
                          have H := H1
                          clear H1
                          have H' := Aside0.mk H
                          clear H
                          have hnb60 := NB495_484.out
                          have hnc60 := NB484_495.out
                          have hnb61 := NB495_489.out
                          have hnc61 := NB489_495.out
                          have hnb62 := NB495_490.out
                          have hnc62 := NB490_495.out
                          have hnb63 := NB495_492.out
                          have hnc63 := NB492_495.out
                          have hcz64_0 : w36.cell? ⟨gb495, 0, none⟩ = some (.int .u64 0) := (blk_cell BK495.out 0).trans rfl
                          have hcz64_1 : w36.cell? ⟨gb495, 1, none⟩ = some (.int .u64 0) := (blk_cell BK495.out 1).trans rfl
                          have hfz64_0 := blk_frozen BK495.out 0
                          have hfz64_1 := blk_frozen BK495.out 1
                          go_wp2_with (first | ((with_reducible refine gate_callee (f := 153) rfl ?_); refine goesL_ (some 36) rfl rfl Try.func153 (by kernel_rfl) rfl #[.agg #[.int .u64 t493, .int .u64 t494]] rfl (by (try simp only [List.map_toArray, List.map_cons, List.map_nil]); first | done | rfl | (simp only [List.length_drop, List.length_take]; rfl)) ?_; (with_reducible refine (image_span_empty.calls t493 t494 false _ A42.out).mono ?_); rintro e w65 ⟨rfl, hb⟩; refine ⟨_, rfl, ?_⟩; have n0_ := Aside0.mk (blk_below (g := gb484) (o := .cells #[.int .u32 a0_0, .int .u32 a0_1, .int .u32 a0_2, .int .u32 a0_3, .int .u32 a0_4, .int .u32 a0_5, .int .u32 a0_6, .int .u32 a0_7, .int .u32 a0_8, .int .u32 a0_9, .int .u64 a0_10, .int .u32 a0_11, .int .u32 a0_12, .int .u32 a0_13, .int .u32 a0_14, .slice A0_15 l0_15.length c0_15, .slice (some ad491) l0_16.length c0_16] 78 (0, 0)) (by (with_reducible repeat (first | refine blk_drewN ?_ _ | refine blk_drew ?_ | refine blk_alloc ?_ _)); refine blk_far ?_ NB484_495.out _; (with_reducible repeat (first | refine blk_drewN ?_ _ | refine blk_drew ?_ | refine blk_alloc ?_ _)); refine blk_far ?_ NB484_495.out _; (with_reducible repeat (first | refine blk_drewN ?_ _ | refine blk_drew ?_ | refine blk_alloc ?_ _)); exact BK484.out) hb); have n1_ := Aside0.mk (blk_below (g := gb489) (o := .cells #[.int .u64 t485, .int .u64 t486] 196 (0, 0)) (by (with_reducible repeat (first | refine blk_drewN ?_ _ | refine blk_drew ?_ | refine blk_alloc ?_ _)); refine blk_far ?_ NB489_495.out _; (with_reducible repeat (first | refine blk_drewN ?_ _ | refine blk_drew ?_ | refine blk_alloc ?_ _)); refine blk_far ?_ NB489_495.out _; (with_reducible repeat (first | refine blk_drewN ?_ _ | refine blk_drew ?_ | refine blk_alloc ?_ _)); exact BK489.out) hb); have n2_ := Aside0.mk (blk_below (g := gb490) (o := .cells #[.int .u64 t487, .int .u64 t488] 196 (0, 0)) (by (with_reducible repeat (first | refine blk_drewN ?_ _ | refine blk_drew ?_ | refine blk_alloc ?_ _)); refine blk_far ?_ NB490_495.out _; (with_reducible repeat (first | refine blk_drewN ?_ _ | refine blk_drew ?_ | refine blk_alloc ?_ _)); refine blk_far ?_ NB490_495.out _; (with_reducible repeat (first | refine blk_drewN ?_ _ | refine blk_drew ?_ | refine blk_alloc ?_ _)); exact BK490.out) hb); have n3_ := Aside0.mk (blk_below (g := gb492) (o := .cells #[.int .u32 ((rd_T85 l0_16 x29_2).f0), .slice A491_1 ((rd_T85 l0_16 x29_2).f1).length c491_1] 85 (0, 0)) (by (with_reducible repeat (first | refine blk_drewN ?_ _ | refine blk_drew ?_ | refine blk_alloc ?_ _)); refine blk_far ?_ NB492_495.out _; (with_reducible repeat (first | refine blk_drewN ?_ _ | refine blk_drew ?_ | refine blk_alloc ?_ _)); refine blk_far ?_ NB492_495.out _; (with_reducible repeat (first | refine blk_drewN ?_ _ | refine blk_drew ?_ | refine blk_alloc ?_ _)); exact BK492.out) hb); have n4_ := Aside0.mk (blk_below (g := gb495) (o := .cells #[.int .u64 t493, .int .u64 t494] 196 (0, 0)) (by (with_reducible repeat (first | refine blk_drewN ?_ _ | refine blk_drew ?_ | refine blk_alloc ?_ _)); refine blk_put (cs := #[.int .u64 t493, .int .u64 0]) ?_ 1 _ rfl; (with_reducible repeat (first | refine blk_drewN ?_ _ | refine blk_drew ?_ | refine blk_alloc ?_ _)); refine blk_put (cs := #[.int .u64 0, .int .u64 0]) ?_ 0 _ rfl; (with_reducible repeat (first | refine blk_drewN ?_ _ | refine blk_drew ?_ | refine blk_alloc ?_ _)); exact BK495.out) hb); have n5_ := Aside0.mk (below_step (by repeat (first | (with_reducible first | exact HB.out | apply below_alloc | apply pw_below_drewN | apply below_drew1 | refine below_set ?_ GE484.out | refine below_set ?_ GE489.out | refine below_set ?_ GE490.out | refine below_set ?_ GE492.out | refine below_set ?_ GE495.out) | exact HB.out)) hb); clear BK484; clear BK489; clear BK490; clear BK492; clear BK495; clear HB; have BK484 := n0_; have BK489 := n1_; have BK490 := n2_; have BK492 := n3_; have BK495 := n4_; have HB := n5_; clear n0_ n1_ n2_ n3_ n4_ n5_; (try clear hb); (try clear hb2); (try clear hk); (try clear hi); have hcz66_0 : w65.cell? ⟨gb495, 0, none⟩ = some (.int .u64 t493) := (blk_cell BK495.out 0).trans rfl; have hcz66_1 : w65.cell? ⟨gb495, 1, none⟩ = some (.int .u64 t494) := (blk_cell BK495.out 1).trans rfl; have hfz66_0 := blk_frozen BK495.out 0; have hfz66_1 := blk_frozen BK495.out 1; have hnb67 := NB489_484.out; have hnc67 := NB484_489.out; have hnb68 := NB489_490.out; have hnc68 := NB490_489.out; have hnb69 := NB489_492.out; have hnc69 := NB492_489.out; have hcz70_0 : w65.cell? ⟨gb489, 0, none⟩ = some (.int .u64 t485) := (blk_cell BK489.out 0).trans rfl; have hcz70_1 : w65.cell? ⟨gb489, 1, none⟩ = some (.int .u64 t486) := (blk_cell BK489.out 1).trans rfl; have hfz70_0 := blk_frozen BK489.out 0; have hfz70_1 := blk_frozen BK489.out 1) | (go_at_call 154; (with_reducible refine (image_span_within.calls t493 t494 t485 t486 true _ A58.out).mono ?_); rintro e w71 ⟨rfl, hb⟩; have n0_ := Aside0.mk (blk_below (g := gb484) (o := .cells #[.int .u32 a0_0, .int .u32 a0_1, .int .u32 a0_2, .int .u32 a0_3, .int .u32 a0_4, .int .u32 a0_5, .int .u32 a0_6, .int .u32 a0_7, .int .u32 a0_8, .int .u32 a0_9, .int .u64 a0_10, .int .u32 a0_11, .int .u32 a0_12, .int .u32 a0_13, .int .u32 a0_14, .slice A0_15 l0_15.length c0_15, .slice (some ad491) l0_16.length c0_16] 78 (0, 0)) (by (with_reducible repeat (first | refine blk_drewN ?_ _ | refine blk_drew ?_ | refine blk_alloc ?_ _)); exact BK484.out) hb); have n1_ := Aside0.mk (blk_below (g := gb489) (o := .cells #[.int .u64 t485, .int .u64 t486] 196 (0, 0)) (by (with_reducible repeat (first | refine blk_drewN ?_ _ | refine blk_drew ?_ | refine blk_alloc ?_ _)); exact BK489.out) hb); have n2_ := Aside0.mk (blk_below (g := gb490) (o := .cells #[.int .u64 t487, .int .u64 t488] 196 (0, 0)) (by (with_reducible repeat (first | refine blk_drewN ?_ _ | refine blk_drew ?_ | refine blk_alloc ?_ _)); exact BK490.out) hb); have n3_ := Aside0.mk (blk_below (g := gb492) (o := .cells #[.int .u32 ((rd_T85 l0_16 x29_2).f0), .slice A491_1 ((rd_T85 l0_16 x29_2).f1).length c491_1] 85 (0, 0)) (by (with_reducible repeat (first | refine blk_drewN ?_ _ | refine blk_drew ?_ | refine blk_alloc ?_ _)); exact BK492.out) hb); have n4_ := Aside0.mk (blk_below (g := gb495) (o := .cells #[.int .u64 t493, .int .u64 t494] 196 (0, 0)) (by (with_reducible repeat (first | refine blk_drewN ?_ _ | refine blk_drew ?_ | refine blk_alloc ?_ _)); exact BK495.out) hb); have n5_ := Aside0.mk (below_step (by repeat (first | (with_reducible first | exact HB.out | apply below_alloc | apply pw_below_drewN | apply below_drew1 | refine below_set ?_ GE484.out | refine below_set ?_ GE489.out | refine below_set ?_ GE490.out | refine below_set ?_ GE492.out | refine below_set ?_ GE495.out) | exact HB.out)) hb); clear BK484; clear BK489; clear BK490; clear BK492; clear BK495; clear HB; have BK484 := n0_; have BK489 := n1_; have BK490 := n2_; have BK492 := n3_; have BK495 := n4_; have HB := n5_; clear n0_ n1_ n2_ n3_ n4_ n5_; (try clear hb); (try clear hb2); (try clear hk); (try clear hi)))
                          go_meet
                          case rel => exact ⟨_, (false), (by first | rfl | (simp; done) | (simp [*]; done)), H', ⟨by have := HJ2.out; have := HK2.out; first | omega | exact Nat.le_refl _⟩, ⟨by (with_reducible repeat (first | refine blk_drewN ?_ _ | refine blk_drew ?_ | refine blk_alloc ?_ _)); exact BK484.out⟩, ⟨by (with_reducible repeat (first | refine blk_drewN ?_ _ | refine blk_drew ?_ | refine blk_alloc ?_ _)); exact BK489.out⟩, ⟨by (with_reducible repeat (first | refine blk_drewN ?_ _ | refine blk_drew ?_ | refine blk_alloc ?_ _)); exact BK490.out⟩, ⟨by (with_reducible repeat (first | refine blk_drewN ?_ _ | refine blk_drew ?_ | refine blk_alloc ?_ _)); exact BK492.out⟩, ⟨by (with_reducible repeat (first | refine blk_drewN ?_ _ | refine blk_drew ?_ | refine blk_alloc ?_ _)); exact BK495.out⟩, ⟨by repeat (first | (with_reducible first | exact HB.out | apply below_alloc | apply pw_below_drewN | apply below_drew1 | refine below_set ?_ GE484.out | refine below_set ?_ GE489.out | refine below_set ?_ GE490.out | refine below_set ?_ GE492.out | refine below_set ?_ GE495.out) | exact HB.out)⟩⟩
                        · replace c59 := Bool.eq_false_iff.mpr c59
                          subst c59
                          have H1 : ((image_span_within.f t493 t494 t487 t488).bind fun t498 => (image_segs.j2 k2 x5_2 l0_16 (l0_16.length : Int) x29_2 (!t498) a0_0 a0_1 a0_2 a0_3 a0_4 a0_5 a0_6 a0_7 a0_8 a0_9 a0_10 a0_11 a0_12 a0_13 a0_14 l0_15 l0_16 t485 t486 t487 t488 t493 t494)) = some r := by rw [if_neg (show ¬ (false = true) by decide)] at H; exact H
                          clear H
                          have H := H1
                          clear H1
                          replace H := Option.bind_eq_some_iff.mp H
                          obtain ⟨t498, A720, H⟩ := H
                          replace H : (image_segs.j2 k2 x5_2 l0_16 (l0_16.length : Int) x29_2 (!t498) a0_0 a0_1 a0_2 a0_3 a0_4 a0_5 a0_6 a0_7 a0_8 a0_9 a0_10 a0_11 a0_12 a0_13 a0_14 l0_15 l0_16 t485 t486 t487 t488 t493 t494) = some r := H
                          have A72 := Aside0.mk A720
                          clear A720
                          have H' := Aside0.mk H
                          clear H
                          have hnb73 := NB495_484.out
                          have hnc73 := NB484_495.out
                          have hnb74 := NB495_489.out
                          have hnc74 := NB489_495.out
                          have hnb75 := NB495_490.out
                          have hnc75 := NB490_495.out
                          have hnb76 := NB495_492.out
                          have hnc76 := NB492_495.out
                          have hcz77_0 : w36.cell? ⟨gb495, 0, none⟩ = some (.int .u64 0) := (blk_cell BK495.out 0).trans rfl
                          have hcz77_1 : w36.cell? ⟨gb495, 1, none⟩ = some (.int .u64 0) := (blk_cell BK495.out 1).trans rfl
                          have hfz77_0 := blk_frozen BK495.out 0
                          have hfz77_1 := blk_frozen BK495.out 1
                          go_wp2_with (first | ((with_reducible refine gate_callee (f := 153) rfl ?_); refine goesL_ (some 36) rfl rfl Try.func153 (by kernel_rfl) rfl #[.agg #[.int .u64 t493, .int .u64 t494]] rfl (by (try simp only [List.map_toArray, List.map_cons, List.map_nil]); first | done | rfl | (simp only [List.length_drop, List.length_take]; rfl)) ?_; (with_reducible refine (image_span_empty.calls t493 t494 false _ A42.out).mono ?_); rintro e w78 ⟨rfl, hb⟩; refine ⟨_, rfl, ?_⟩; have n0_ := Aside0.mk (blk_below (g := gb484) (o := .cells #[.int .u32 a0_0, .int .u32 a0_1, .int .u32 a0_2, .int .u32 a0_3, .int .u32 a0_4, .int .u32 a0_5, .int .u32 a0_6, .int .u32 a0_7, .int .u32 a0_8, .int .u32 a0_9, .int .u64 a0_10, .int .u32 a0_11, .int .u32 a0_12, .int .u32 a0_13, .int .u32 a0_14, .slice A0_15 l0_15.length c0_15, .slice (some ad491) l0_16.length c0_16] 78 (0, 0)) (by (with_reducible repeat (first | refine blk_drewN ?_ _ | refine blk_drew ?_ | refine blk_alloc ?_ _)); refine blk_far ?_ NB484_495.out _; (with_reducible repeat (first | refine blk_drewN ?_ _ | refine blk_drew ?_ | refine blk_alloc ?_ _)); refine blk_far ?_ NB484_495.out _; (with_reducible repeat (first | refine blk_drewN ?_ _ | refine blk_drew ?_ | refine blk_alloc ?_ _)); exact BK484.out) hb); have n1_ := Aside0.mk (blk_below (g := gb489) (o := .cells #[.int .u64 t485, .int .u64 t486] 196 (0, 0)) (by (with_reducible repeat (first | refine blk_drewN ?_ _ | refine blk_drew ?_ | refine blk_alloc ?_ _)); refine blk_far ?_ NB489_495.out _; (with_reducible repeat (first | refine blk_drewN ?_ _ | refine blk_drew ?_ | refine blk_alloc ?_ _)); refine blk_far ?_ NB489_495.out _; (with_reducible repeat (first | refine blk_drewN ?_ _ | refine blk_drew ?_ | refine blk_alloc ?_ _)); exact BK489.out) hb); have n2_ := Aside0.mk (blk_below (g := gb490) (o := .cells #[.int .u64 t487, .int .u64 t488] 196 (0, 0)) (by (with_reducible repeat (first | refine blk_drewN ?_ _ | refine blk_drew ?_ | refine blk_alloc ?_ _)); refine blk_far ?_ NB490_495.out _; (with_reducible repeat (first | refine blk_drewN ?_ _ | refine blk_drew ?_ | refine blk_alloc ?_ _)); refine blk_far ?_ NB490_495.out _; (with_reducible repeat (first | refine blk_drewN ?_ _ | refine blk_drew ?_ | refine blk_alloc ?_ _)); exact BK490.out) hb); have n3_ := Aside0.mk (blk_below (g := gb492) (o := .cells #[.int .u32 ((rd_T85 l0_16 x29_2).f0), .slice A491_1 ((rd_T85 l0_16 x29_2).f1).length c491_1] 85 (0, 0)) (by (with_reducible repeat (first | refine blk_drewN ?_ _ | refine blk_drew ?_ | refine blk_alloc ?_ _)); refine blk_far ?_ NB492_495.out _; (with_reducible repeat (first | refine blk_drewN ?_ _ | refine blk_drew ?_ | refine blk_alloc ?_ _)); refine blk_far ?_ NB492_495.out _; (with_reducible repeat (first | refine blk_drewN ?_ _ | refine blk_drew ?_ | refine blk_alloc ?_ _)); exact BK492.out) hb); have n4_ := Aside0.mk (blk_below (g := gb495) (o := .cells #[.int .u64 t493, .int .u64 t494] 196 (0, 0)) (by (with_reducible repeat (first | refine blk_drewN ?_ _ | refine blk_drew ?_ | refine blk_alloc ?_ _)); refine blk_put (cs := #[.int .u64 t493, .int .u64 0]) ?_ 1 _ rfl; (with_reducible repeat (first | refine blk_drewN ?_ _ | refine blk_drew ?_ | refine blk_alloc ?_ _)); refine blk_put (cs := #[.int .u64 0, .int .u64 0]) ?_ 0 _ rfl; (with_reducible repeat (first | refine blk_drewN ?_ _ | refine blk_drew ?_ | refine blk_alloc ?_ _)); exact BK495.out) hb); have n5_ := Aside0.mk (below_step (by repeat (first | (with_reducible first | exact HB.out | apply below_alloc | apply pw_below_drewN | apply below_drew1 | refine below_set ?_ GE484.out | refine below_set ?_ GE489.out | refine below_set ?_ GE490.out | refine below_set ?_ GE492.out | refine below_set ?_ GE495.out) | exact HB.out)) hb); clear BK484; clear BK489; clear BK490; clear BK492; clear BK495; clear HB; have BK484 := n0_; have BK489 := n1_; have BK490 := n2_; have BK492 := n3_; have BK495 := n4_; have HB := n5_; clear n0_ n1_ n2_ n3_ n4_ n5_; (try clear hb); (try clear hb2); (try clear hk); (try clear hi); have hcz79_0 : w78.cell? ⟨gb495, 0, none⟩ = some (.int .u64 t493) := (blk_cell BK495.out 0).trans rfl; have hcz79_1 : w78.cell? ⟨gb495, 1, none⟩ = some (.int .u64 t494) := (blk_cell BK495.out 1).trans rfl; have hfz79_0 := blk_frozen BK495.out 0; have hfz79_1 := blk_frozen BK495.out 1; have hnb80 := NB489_484.out; have hnc80 := NB484_489.out; have hnb81 := NB489_490.out; have hnc81 := NB490_489.out; have hnb82 := NB489_492.out; have hnc82 := NB492_489.out; have hcz83_0 : w78.cell? ⟨gb489, 0, none⟩ = some (.int .u64 t485) := (blk_cell BK489.out 0).trans rfl; have hcz83_1 : w78.cell? ⟨gb489, 1, none⟩ = some (.int .u64 t486) := (blk_cell BK489.out 1).trans rfl; have hfz83_0 := blk_frozen BK489.out 0; have hfz83_1 := blk_frozen BK489.out 1) | (go_at_call 154; (with_reducible refine (image_span_within.calls t493 t494 t485 t486 false _ A58.out).mono ?_); rintro e w84 ⟨rfl, hb⟩; have n0_ := Aside0.mk (blk_below (g := gb484) (o := .cells #[.int .u32 a0_0, .int .u32 a0_1, .int .u32 a0_2, .int .u32 a0_3, .int .u32 a0_4, .int .u32 a0_5, .int .u32 a0_6, .int .u32 a0_7, .int .u32 a0_8, .int .u32 a0_9, .int .u64 a0_10, .int .u32 a0_11, .int .u32 a0_12, .int .u32 a0_13, .int .u32 a0_14, .slice A0_15 l0_15.length c0_15, .slice (some ad491) l0_16.length c0_16] 78 (0, 0)) (by (with_reducible repeat (first | refine blk_drewN ?_ _ | refine blk_drew ?_ | refine blk_alloc ?_ _)); exact BK484.out) hb); have n1_ := Aside0.mk (blk_below (g := gb489) (o := .cells #[.int .u64 t485, .int .u64 t486] 196 (0, 0)) (by (with_reducible repeat (first | refine blk_drewN ?_ _ | refine blk_drew ?_ | refine blk_alloc ?_ _)); exact BK489.out) hb); have n2_ := Aside0.mk (blk_below (g := gb490) (o := .cells #[.int .u64 t487, .int .u64 t488] 196 (0, 0)) (by (with_reducible repeat (first | refine blk_drewN ?_ _ | refine blk_drew ?_ | refine blk_alloc ?_ _)); exact BK490.out) hb); have n3_ := Aside0.mk (blk_below (g := gb492) (o := .cells #[.int .u32 ((rd_T85 l0_16 x29_2).f0), .slice A491_1 ((rd_T85 l0_16 x29_2).f1).length c491_1] 85 (0, 0)) (by (with_reducible repeat (first | refine blk_drewN ?_ _ | refine blk_drew ?_ | refine blk_alloc ?_ _)); exact BK492.out) hb); have n4_ := Aside0.mk (blk_below (g := gb495) (o := .cells #[.int .u64 t493, .int .u64 t494] 196 (0, 0)) (by (with_reducible repeat (first | refine blk_drewN ?_ _ | refine blk_drew ?_ | refine blk_alloc ?_ _)); exact BK495.out) hb); have n5_ := Aside0.mk (below_step (by repeat (first | (with_reducible first | exact HB.out | apply below_alloc | apply pw_below_drewN | apply below_drew1 | refine below_set ?_ GE484.out | refine below_set ?_ GE489.out | refine below_set ?_ GE490.out | refine below_set ?_ GE492.out | refine below_set ?_ GE495.out) | exact HB.out)) hb); clear BK484; clear BK489; clear BK490; clear BK492; clear BK495; clear HB; have BK484 := n0_; have BK489 := n1_; have BK490 := n2_; have BK492 := n3_; have BK495 := n4_; have HB := n5_; clear n0_ n1_ n2_ n3_ n4_ n5_; (try clear hb); (try clear hb2); (try clear hk); (try clear hi); have hcz85_0 : w84.cell? ⟨gb495, 0, none⟩ = some (.int .u64 t493) := (blk_cell BK495.out 0).trans rfl; have hcz85_1 : w84.cell? ⟨gb495, 1, none⟩ = some (.int .u64 t494) := (blk_cell BK495.out 1).trans rfl; have hfz85_0 := blk_frozen BK495.out 0; have hfz85_1 := blk_frozen BK495.out 1; have hnb86 := NB490_484.out; have hnc86 := NB484_490.out; have hnb87 := NB490_492.out; have hnc87 := NB492_490.out; have hcz88_0 : w84.cell? ⟨gb490, 0, none⟩ = some (.int .u64 t487) := (blk_cell BK490.out 0).trans rfl; have hcz88_1 : w84.cell? ⟨gb490, 1, none⟩ = some (.int .u64 t488) := (blk_cell BK490.out 1).trans rfl; have hfz88_0 := blk_frozen BK490.out 0; have hfz88_1 := blk_frozen BK490.out 1) | (go_at_call 154; (with_reducible refine (image_span_within.calls t493 t494 t487 t488 t498 _ A72.out).mono ?_); rintro e w89 ⟨rfl, hb⟩; have n0_ := Aside0.mk (blk_below (g := gb484) (o := .cells #[.int .u32 a0_0, .int .u32 a0_1, .int .u32 a0_2, .int .u32 a0_3, .int .u32 a0_4, .int .u32 a0_5, .int .u32 a0_6, .int .u32 a0_7, .int .u32 a0_8, .int .u32 a0_9, .int .u64 a0_10, .int .u32 a0_11, .int .u32 a0_12, .int .u32 a0_13, .int .u32 a0_14, .slice A0_15 l0_15.length c0_15, .slice (some ad491) l0_16.length c0_16] 78 (0, 0)) (by (with_reducible repeat (first | refine blk_drewN ?_ _ | refine blk_drew ?_ | refine blk_alloc ?_ _)); exact BK484.out) hb); have n1_ := Aside0.mk (blk_below (g := gb489) (o := .cells #[.int .u64 t485, .int .u64 t486] 196 (0, 0)) (by (with_reducible repeat (first | refine blk_drewN ?_ _ | refine blk_drew ?_ | refine blk_alloc ?_ _)); exact BK489.out) hb); have n2_ := Aside0.mk (blk_below (g := gb490) (o := .cells #[.int .u64 t487, .int .u64 t488] 196 (0, 0)) (by (with_reducible repeat (first | refine blk_drewN ?_ _ | refine blk_drew ?_ | refine blk_alloc ?_ _)); exact BK490.out) hb); have n3_ := Aside0.mk (blk_below (g := gb492) (o := .cells #[.int .u32 ((rd_T85 l0_16 x29_2).f0), .slice A491_1 ((rd_T85 l0_16 x29_2).f1).length c491_1] 85 (0, 0)) (by (with_reducible repeat (first | refine blk_drewN ?_ _ | refine blk_drew ?_ | refine blk_alloc ?_ _)); exact BK492.out) hb); have n4_ := Aside0.mk (blk_below (g := gb495) (o := .cells #[.int .u64 t493, .int .u64 t494] 196 (0, 0)) (by (with_reducible repeat (first | refine blk_drewN ?_ _ | refine blk_drew ?_ | refine blk_alloc ?_ _)); exact BK495.out) hb); have n5_ := Aside0.mk (below_step (by repeat (first | (with_reducible first | exact HB.out | apply below_alloc | apply pw_below_drewN | apply below_drew1 | refine below_set ?_ GE484.out | refine below_set ?_ GE489.out | refine below_set ?_ GE490.out | refine below_set ?_ GE492.out | refine below_set ?_ GE495.out) | exact HB.out)) hb); clear BK484; clear BK489; clear BK490; clear BK492; clear BK495; clear HB; have BK484 := n0_; have BK489 := n1_; have BK490 := n2_; have BK492 := n3_; have BK495 := n4_; have HB := n5_; clear n0_ n1_ n2_ n3_ n4_ n5_; (try clear hb); (try clear hb2); (try clear hk); (try clear hi)))
                          go_meet
                          case rel => exact ⟨_, (!t498), (by first | rfl | (simp; done) | (simp [*]; done)), H', ⟨by have := HJ2.out; have := HK2.out; first | omega | exact Nat.le_refl _⟩, ⟨by (with_reducible repeat (first | refine blk_drewN ?_ _ | refine blk_drew ?_ | refine blk_alloc ?_ _)); exact BK484.out⟩, ⟨by (with_reducible repeat (first | refine blk_drewN ?_ _ | refine blk_drew ?_ | refine blk_alloc ?_ _)); exact BK489.out⟩, ⟨by (with_reducible repeat (first | refine blk_drewN ?_ _ | refine blk_drew ?_ | refine blk_alloc ?_ _)); exact BK490.out⟩, ⟨by (with_reducible repeat (first | refine blk_drewN ?_ _ | refine blk_drew ?_ | refine blk_alloc ?_ _)); exact BK492.out⟩, ⟨by (with_reducible repeat (first | refine blk_drewN ?_ _ | refine blk_drew ?_ | refine blk_alloc ?_ _)); exact BK495.out⟩, ⟨by repeat (first | (with_reducible first | exact HB.out | apply below_alloc | apply pw_below_drewN | apply below_drew1 | refine below_set ?_ GE484.out | refine below_set ?_ GE489.out | refine below_set ?_ GE490.out | refine below_set ?_ GE492.out | refine below_set ?_ GE495.out) | exact HB.out)⟩⟩
                  case rest =>
                    clear HC29
                    try clear c1
                    try clear c2
                    try clear p2
                    try clear c3
                    try clear c4
                    try clear p4
                    try clear q4
                    try clear hx4
                    try clear c5
                    try clear c6
                    try clear c7
                    try clear c8
                    try clear c9
                    try clear c10
                    try clear c12
                    try clear c13
                    try clear c14
                    try clear c14b0
                    try clear c14b1
                    try clear c15
                    try clear c16
                    try clear c18
                    try clear c19
                    try clear c21
                    try clear c22
                    try clear c23
                    try clear c25
                    try clear c25b0
                    try clear c26
                    try clear c26b0
                    try clear c27
                    try clear c27b0
                    try clear c31
                    try clear c32
                    try clear c33
                    try clear c37
                    try clear c38
                    try clear c39
                    try clear c40
                    try clear c43
                    try clear c44
                    try clear c45
                    try clear c46
                    try clear c47
                    try clear c49
                    try clear p49
                    try clear q49
                    try clear hx49
                    try clear c50
                    try clear c50b0
                    try clear c51
                    try clear c52
                    try clear c53
                    try clear c54
                    try clear c59
                    try clear c60
                    try clear c61
                    try clear c62
                    try clear c63
                    try clear c67
                    try clear c68
                    try clear c69
                    try clear c73
                    try clear c74
                    try clear c75
                    try clear c76
                    try clear c80
                    try clear c81
                    try clear c82
                    try clear c86
                    try clear c87
                    try clear hcz11_0
                    try clear hcz11_1
                    try clear hcz13_0
                    try clear hcz13_1
                    try clear hcz17_0
                    try clear hcz17_1
                    try clear hcz17_10
                    try clear hcz17_11
                    try clear hcz17_12
                    try clear hcz17_13
                    try clear hcz17_14
                    try clear hcz17_15
                    try clear hcz17_16
                    try clear hcz17_2
                    try clear hcz17_3
                    try clear hcz17_4
                    try clear hcz17_5
                    try clear hcz17_6
                    try clear hcz17_7
                    try clear hcz17_8
                    try clear hcz17_9
                    try clear hcz20_0
                    try clear hcz20_1
                    try clear hcz20_10
                    try clear hcz20_11
                    try clear hcz20_12
                    try clear hcz20_13
                    try clear hcz20_14
                    try clear hcz20_15
                    try clear hcz20_16
                    try clear hcz20_2
                    try clear hcz20_3
                    try clear hcz20_4
                    try clear hcz20_5
                    try clear hcz20_6
                    try clear hcz20_7
                    try clear hcz20_8
                    try clear hcz20_9
                    try clear hcz24_0
                    try clear hcz24_1
                    try clear hcz24_10
                    try clear hcz24_11
                    try clear hcz24_12
                    try clear hcz24_13
                    try clear hcz24_14
                    try clear hcz24_15
                    try clear hcz24_16
                    try clear hcz24_2
                    try clear hcz24_3
                    try clear hcz24_4
                    try clear hcz24_5
                    try clear hcz24_6
                    try clear hcz24_7
                    try clear hcz24_8
                    try clear hcz24_9
                    try clear hcz34_0
                    try clear hcz34_1
                    try clear hcz41_0
                    try clear hcz41_1
                    try clear hcz48_0
                    try clear hcz48_1
                    try clear hcz55_0
                    try clear hcz55_1
                    try clear hcz57_0
                    try clear hcz57_1
                    try clear hcz5_0
                    try clear hcz5_1
                    try clear hcz5_10
                    try clear hcz5_11
                    try clear hcz5_12
                    try clear hcz5_13
                    try clear hcz5_14
                    try clear hcz5_15
                    try clear hcz5_16
                    try clear hcz5_2
                    try clear hcz5_3
                    try clear hcz5_4
                    try clear hcz5_5
                    try clear hcz5_6
                    try clear hcz5_7
                    try clear hcz5_8
                    try clear hcz5_9
                    try clear hcz64_0
                    try clear hcz64_1
                    try clear hcz66_0
                    try clear hcz66_1
                    try clear hcz70_0
                    try clear hcz70_1
                    try clear hcz77_0
                    try clear hcz77_1
                    try clear hcz79_0
                    try clear hcz79_1
                    try clear hcz83_0
                    try clear hcz83_1
                    try clear hcz85_0
                    try clear hcz85_1
                    try clear hcz88_0
                    try clear hcz88_1
                    try clear hfz11_0
                    try clear hfz11_1
                    try clear hfz13_0
                    try clear hfz13_1
                    try clear hfz17_0
                    try clear hfz17_1
                    try clear hfz17_10
                    try clear hfz17_11
                    try clear hfz17_12
                    try clear hfz17_13
                    try clear hfz17_14
                    try clear hfz17_15
                    try clear hfz17_16
                    try clear hfz17_2
                    try clear hfz17_3
                    try clear hfz17_4
                    try clear hfz17_5
                    try clear hfz17_6
                    try clear hfz17_7
                    try clear hfz17_8
                    try clear hfz17_9
                    try clear hfz20_0
                    try clear hfz20_1
                    try clear hfz20_10
                    try clear hfz20_11
                    try clear hfz20_12
                    try clear hfz20_13
                    try clear hfz20_14
                    try clear hfz20_15
                    try clear hfz20_16
                    try clear hfz20_2
                    try clear hfz20_3
                    try clear hfz20_4
                    try clear hfz20_5
                    try clear hfz20_6
                    try clear hfz20_7
                    try clear hfz20_8
                    try clear hfz20_9
                    try clear hfz24_0
                    try clear hfz24_1
                    try clear hfz24_10
                    try clear hfz24_11
                    try clear hfz24_12
                    try clear hfz24_13
                    try clear hfz24_14
                    try clear hfz24_15
                    try clear hfz24_16
                    try clear hfz24_2
                    try clear hfz24_3
                    try clear hfz24_4
                    try clear hfz24_5
                    try clear hfz24_6
                    try clear hfz24_7
                    try clear hfz24_8
                    try clear hfz24_9
                    try clear hfz34_0
                    try clear hfz34_1
                    try clear hfz41_0
                    try clear hfz41_1
                    try clear hfz48_0
                    try clear hfz48_1
                    try clear hfz55_0
                    try clear hfz55_1
                    try clear hfz57_0
                    try clear hfz57_1
                    try clear hfz5_0
                    try clear hfz5_1
                    try clear hfz5_10
                    try clear hfz5_11
                    try clear hfz5_12
                    try clear hfz5_13
                    try clear hfz5_14
                    try clear hfz5_15
                    try clear hfz5_16
                    try clear hfz5_2
                    try clear hfz5_3
                    try clear hfz5_4
                    try clear hfz5_5
                    try clear hfz5_6
                    try clear hfz5_7
                    try clear hfz5_8
                    try clear hfz5_9
                    try clear hfz64_0
                    try clear hfz64_1
                    try clear hfz66_0
                    try clear hfz66_1
                    try clear hfz70_0
                    try clear hfz70_1
                    try clear hfz77_0
                    try clear hfz77_1
                    try clear hfz79_0
                    try clear hfz79_1
                    try clear hfz83_0
                    try clear hfz83_1
                    try clear hfz85_0
                    try clear hfz85_1
                    try clear hfz88_0
                    try clear hfz88_1
                    try clear hx491_0
                    try clear hx491_1
                    try clear p2
                    try clear p491
                    try clear q491
                    obtain ⟨kq, x54_28, rfl, HA, HJ28, BK484, BK489, BK490, BK492, BK495, HB⟩ := hcut
                    cases kq with
                    | zero => exact absurd HA.out (by simp [image_segs.j2])
                    | succ kj28 =>
                      have H := HA.out
                      clear HA
                      simp only [image_segs.j2] at H
                      by_cases c90 : x54_28 = true
                      · subst c90
                        have H1 : (some false) = some r := by rw [if_pos rfl] at H; exact H
                        clear H
                        have H := H1
                        clear H1
                        obtain rfl := Option.some.inj H
                        go_wp2
                        go_ret
                        exact ⟨by first | rfl | (simp [errW_none, errW_some] <;> rfl) | (simp [*, errW_none, errW_some] <;> rfl), by repeat (first | (with_reducible first | exact HB.out | apply below_alloc | apply pw_below_drewN | apply below_drew1 | refine below_set ?_ GE484.out | refine below_set ?_ GE489.out | refine below_set ?_ GE490.out | refine below_set ?_ GE492.out | refine below_set ?_ GE495.out) | exact HB.out)⟩
                      · replace c90 := Bool.eq_false_iff.mpr c90
                        subst c90
                        have H1 : (if x5_2 = true then (image_segs.l0 kj28 true t494 l0_16 (l0_16.length : Int) (wrap64 (x29_2 + 1)) a0_0 a0_1 a0_2 a0_3 a0_4 a0_5 a0_6 a0_7 a0_8 a0_9 a0_10 a0_11 a0_12 a0_13 a0_14 l0_15 l0_16 t485 t486 t487 t488) else ((image_span_within.f t493 t494 t485 t486).bind fun t499 => (if t499 = true then ((image_of.f a0_5 a0_6).bind fun bt500 => ((image_span_within.f bt500.1 bt500.2 t493 t494).bind fun t502 => (image_segs.l0 kj28 t502 t494 l0_16 (l0_16.length : Int) (wrap64 (x29_2 + 1)) a0_0 a0_1 a0_2 a0_3 a0_4 a0_5 a0_6 a0_7 a0_8 a0_9 a0_10 a0_11 a0_12 a0_13 a0_14 l0_15 l0_16 t485 t486 t487 t488))) else (image_segs.l0 kj28 false t494 l0_16 (l0_16.length : Int) (wrap64 (x29_2 + 1)) a0_0 a0_1 a0_2 a0_3 a0_4 a0_5 a0_6 a0_7 a0_8 a0_9 a0_10 a0_11 a0_12 a0_13 a0_14 l0_15 l0_16 t485 t486 t487 t488)))) = some r := by rw [if_neg (show ¬ (false = true) by decide)] at H; exact H
                        clear H
                        have H := H1
                        clear H1
                        by_cases c91 : x5_2 = true
                        · subst c91
                          have H1 : (image_segs.l0 kj28 true t494 l0_16 (l0_16.length : Int) (wrap64 (x29_2 + 1)) a0_0 a0_1 a0_2 a0_3 a0_4 a0_5 a0_6 a0_7 a0_8 a0_9 a0_10 a0_11 a0_12 a0_13 a0_14 l0_15 l0_16 t485 t486 t487 t488) = some r := by rw [if_pos rfl] at H; exact H
                          clear H
                          have H := H1
                          clear H1
                          have H' := Aside0.mk H
                          clear H
                          have hnb92 := NB495_484.out
                          have hnc92 := NB484_495.out
                          have hnb93 := NB495_489.out
                          have hnc93 := NB489_495.out
                          have hnb94 := NB495_490.out
                          have hnc94 := NB490_495.out
                          have hnb95 := NB495_492.out
                          have hnc95 := NB492_495.out
                          have hcz96_0 : wc.cell? ⟨gb495, 0, none⟩ = some (.int .u64 t493) := (blk_cell BK495.out 0).trans rfl
                          have hcz96_1 : wc.cell? ⟨gb495, 1, none⟩ = some (.int .u64 t494) := (blk_cell BK495.out 1).trans rfl
                          have hfz96_0 := blk_frozen BK495.out 0
                          have hfz96_1 := blk_frozen BK495.out 1
                          try go_wp2
                          have n0_ := Aside0.mk (blk_drew BK484.out)
                          have n1_ := Aside0.mk (blk_drew BK489.out)
                          have n2_ := Aside0.mk (blk_drew BK490.out)
                          have n3_ := Aside0.mk (blk_drew BK492.out)
                          have n4_ := Aside0.mk (blk_drew BK495.out)
                          have n5_ := Aside0.mk (below_drew1 HB.out)
                          clear BK484
                          clear BK489
                          clear BK490
                          clear BK492
                          clear BK495
                          clear HB
                          have BK484 := n0_
                          have BK489 := n1_
                          have BK490 := n2_
                          have BK492 := n3_
                          have BK495 := n4_
                          have HB := n5_
                          clear n0_ n1_ n2_ n3_ n4_ n5_
                          refine start_ (n := 14) (S := fun w' => True) (ds := []) #[false, false, false, false, false, false, false, false, false, false, false, false, false, false] (by kernel_rfl) rfl rfl trivial (fun hHeld => ?_); refine with_tabW image_segs.tab12 image_segs.bits12 (fun HT_ HW_ => ?_)
                          generalize wc.drew = w97 at BK484 BK489 BK490 BK492 BK495 HB hHeld ⊢
                          refine pure_ (i := 0) (N := some 57) (v := ?_) (a' := ?_) #[true, false, false, false, false, false, false, false, false, false, false, false, false, false] rfl rfl (any_of HT_.out (by kernel_rfl)) (fun _ _ _ h => h) (Or.inl ⟨by rfl, ?_⟩) ?_ ?_
                          rotate_left
                          · intro w'
                            go_simp
                            with_reducible rfl
                          rotate_left
                          · simp only [Act.put, List.setIfInBounds_toArray, List.set_cons_zero, List.set_cons_succ, i64_w, i32_w]
                            rfl
                          refine pure_ (i := 1) (N := some 58) (v := ?_) (a' := ?_) #[true, true, false, false, false, false, false, false, false, false, false, false, false, false] rfl rfl (any_of HT_.out (by kernel_rfl)) (fun _ _ _ h => h) (Or.inl ⟨by rfl, ?_⟩) ?_ ?_
                          rotate_left
                          · intro w'
                            go_simp
                            with_reducible rfl
                          rotate_left
                          · simp only [Act.put, List.setIfInBounds_toArray, List.set_cons_zero, List.set_cons_succ, i64_w, i32_w]
                            rfl
                          refine pure_ (i := 2) (N := some 59) (v := undef) (a' := ?_) #[true, true, true, false, false, false, false, false, false, false, false, false, false, false] rfl rfl (any_of HT_.out (by kernel_rfl)) (fun _ _ _ h => h) (Or.inr ⟨by rfl, rfl⟩) ?_ ?_
                          rotate_left
                          · simp only [Act.put, List.setIfInBounds_toArray, List.set_cons_zero, List.set_cons_succ, i64_w, i32_w]
                            rfl
                          refine pure_ (i := 3) (N := some 60) (v := undef) (a' := ?_) #[true, true, true, true, false, false, false, false, false, false, false, false, false, false] rfl rfl (any_of HT_.out (by kernel_rfl)) (fun _ _ _ h => h) (Or.inr ⟨by rfl, rfl⟩) ?_ ?_
                          rotate_left
                          · simp only [Act.put, List.setIfInBounds_toArray, List.set_cons_zero, List.set_cons_succ, i64_w, i32_w]
                            rfl
                          refine pure_ (i := 4) (N := some 61) (v := undef) (a' := ?_) #[true, true, true, true, true, false, false, false, false, false, false, false, false, false] rfl rfl (any_of HT_.out (by kernel_rfl)) (fun _ _ _ h => h) (Or.inr ⟨by rfl, rfl⟩) ?_ ?_
                          rotate_left
                          · simp only [Act.put, List.setIfInBounds_toArray, List.set_cons_zero, List.set_cons_succ, i64_w, i32_w]
                            rfl
                          refine pure_ (i := 5) (N := some 62) (v := undef) (a' := ?_) #[true, true, true, true, true, true, false, false, false, false, false, false, false, false] rfl rfl (any_of HT_.out (by kernel_rfl)) (fun _ _ _ h => h) (Or.inr ⟨by rfl, rfl⟩) ?_ ?_
                          rotate_left
                          · simp only [Act.put, List.setIfInBounds_toArray, List.set_cons_zero, List.set_cons_succ, i64_w, i32_w]
                            rfl
                          refine pure_ (i := 6) (N := some 63) (v := undef) (a' := ?_) #[true, true, true, true, true, true, true, false, false, false, false, false, false, false] rfl rfl (any_of HT_.out (by kernel_rfl)) (fun _ _ _ h => h) (Or.inr ⟨by rfl, rfl⟩) ?_ ?_
                          rotate_left
                          · simp only [Act.put, List.setIfInBounds_toArray, List.set_cons_zero, List.set_cons_succ, i64_w, i32_w]
                            rfl
                          refine pure_ (i := 7) (N := some 64) (v := undef) (a' := ?_) #[true, true, true, true, true, true, true, true, false, false, false, false, false, false] rfl rfl (any_of HT_.out (by kernel_rfl)) (fun _ _ _ h => h) (Or.inr ⟨by rfl, rfl⟩) ?_ ?_
                          rotate_left
                          · simp only [Act.put, List.setIfInBounds_toArray, List.set_cons_zero, List.set_cons_succ, i64_w, i32_w]
                            rfl
                          refine pure_ (i := 8) (N := some 65) (v := undef) (a' := ?_) #[true, true, true, true, true, true, true, true, true, false, false, false, false, false] rfl rfl (any_of HT_.out (by kernel_rfl)) (fun _ _ _ h => h) (Or.inr ⟨by rfl, rfl⟩) ?_ ?_
                          rotate_left
                          · simp only [Act.put, List.setIfInBounds_toArray, List.set_cons_zero, List.set_cons_succ, i64_w, i32_w]
                            rfl
                          refine pure_ (i := 9) (N := some 66) (v := undef) (a' := ?_) #[true, true, true, true, true, true, true, true, true, true, false, false, false, false] rfl rfl (any_of HT_.out (by kernel_rfl)) (fun _ _ _ h => h) (Or.inr ⟨by rfl, rfl⟩) ?_ ?_
                          rotate_left
                          · simp only [Act.put, List.setIfInBounds_toArray, List.set_cons_zero, List.set_cons_succ, i64_w, i32_w]
                            rfl
                          refine pure_ (i := 10) (N := some 67) (v := undef) (a' := ?_) #[true, true, true, true, true, true, true, true, true, true, true, false, false, false] rfl rfl (any_of HT_.out (by kernel_rfl)) (fun _ _ _ h => h) (Or.inr ⟨by rfl, rfl⟩) ?_ ?_
                          rotate_left
                          · simp only [Act.put, List.setIfInBounds_toArray, List.set_cons_zero, List.set_cons_succ, i64_w, i32_w]
                            rfl
                          refine pure_ (i := 11) (N := some 68) (v := undef) (a' := ?_) #[true, true, true, true, true, true, true, true, true, true, true, true, false, false] rfl rfl (any_of HT_.out (by kernel_rfl)) (fun _ _ _ h => h) (Or.inr ⟨by rfl, rfl⟩) ?_ ?_
                          rotate_left
                          · simp only [Act.put, List.setIfInBounds_toArray, List.set_cons_zero, List.set_cons_succ, i64_w, i32_w]
                            rfl
                          refine pure_ (i := 12) (N := some 69) (v := ?_) (a' := ?_) #[true, true, true, true, true, true, true, true, true, true, true, true, true, false] rfl rfl (any_of HT_.out (by kernel_rfl)) (fun _ _ _ h => h) (Or.inl ⟨by rfl, ?_⟩) ?_ ?_
                          rotate_left
                          · intro w'
                            go_simp
                            with_reducible rfl
                          rotate_left
                          · simp only [Act.put, List.setIfInBounds_toArray, List.set_cons_zero, List.set_cons_succ, i64_w, i32_w]
                            rfl
                          refine pure_ (i := 13) (N := some 5) (v := ?_) (a' := ?_) #[true, true, true, true, true, true, true, true, true, true, true, true, true, true] rfl rfl (any_of HT_.out (by kernel_rfl)) (fun _ _ _ h => h) (Or.inl ⟨by rfl, ?_⟩) ?_ ?_
                          rotate_left
                          · intro w'
                            go_simp
                            with_reducible rfl
                          rotate_left
                          · simp only [Act.put, List.setIfInBounds_toArray, List.set_cons_zero, List.set_cons_succ, i64_w, i32_w]
                            rfl
                          refine done_ (done_of HT_.out (by kernel_rfl)) ?_
                          try go_wp2
                          go_roundg kj28
                          case measure => have := HJ2.out; have := HK2.out; have := HJ28.out; omega
                          case rel => exact ⟨(true), (t494), (wrap64 (x29_2 + 1)), (by first | rfl | (simp; done) | (simp [*]; done)), (by first | rfl | (simp; done) | (simp [*]; done)), (by first | rfl | (simp; done) | (simp [*]; done)), H', ⟨by have := HJ2.out; have := HK2.out; have := HJ28.out; omega⟩, ⟨by (with_reducible repeat (first | refine blk_drewN ?_ _ | refine blk_drew ?_ | refine blk_alloc ?_ _)); exact BK484.out⟩, ⟨by (with_reducible repeat (first | refine blk_drewN ?_ _ | refine blk_drew ?_ | refine blk_alloc ?_ _)); exact BK489.out⟩, ⟨by (with_reducible repeat (first | refine blk_drewN ?_ _ | refine blk_drew ?_ | refine blk_alloc ?_ _)); exact BK490.out⟩, ⟨by repeat (first | (with_reducible first | exact HB.out | apply below_alloc | apply pw_below_drewN | apply below_drew1 | refine below_set ?_ GE484.out | refine below_set ?_ GE489.out | refine below_set ?_ GE490.out | refine below_set ?_ GE492.out | refine below_set ?_ GE495.out) | exact HB.out)⟩⟩
                        · replace c91 := Bool.eq_false_iff.mpr c91
                          subst c91
                          have H1 : ((image_span_within.f t493 t494 t485 t486).bind fun t499 => (if t499 = true then ((image_of.f a0_5 a0_6).bind fun bt500 => ((image_span_within.f bt500.1 bt500.2 t493 t494).bind fun t502 => (image_segs.l0 kj28 t502 t494 l0_16 (l0_16.length : Int) (wrap64 (x29_2 + 1)) a0_0 a0_1 a0_2 a0_3 a0_4 a0_5 a0_6 a0_7 a0_8 a0_9 a0_10 a0_11 a0_12 a0_13 a0_14 l0_15 l0_16 t485 t486 t487 t488))) else (image_segs.l0 kj28 false t494 l0_16 (l0_16.length : Int) (wrap64 (x29_2 + 1)) a0_0 a0_1 a0_2 a0_3 a0_4 a0_5 a0_6 a0_7 a0_8 a0_9 a0_10 a0_11 a0_12 a0_13 a0_14 l0_15 l0_16 t485 t486 t487 t488))) = some r := by rw [if_neg (show ¬ (false = true) by decide)] at H; exact H
                          clear H
                          have H := H1
                          clear H1
                          replace H := Option.bind_eq_some_iff.mp H
                          obtain ⟨t499, A980, H⟩ := H
                          replace H : (if t499 = true then ((image_of.f a0_5 a0_6).bind fun bt500 => ((image_span_within.f bt500.1 bt500.2 t493 t494).bind fun t502 => (image_segs.l0 kj28 t502 t494 l0_16 (l0_16.length : Int) (wrap64 (x29_2 + 1)) a0_0 a0_1 a0_2 a0_3 a0_4 a0_5 a0_6 a0_7 a0_8 a0_9 a0_10 a0_11 a0_12 a0_13 a0_14 l0_15 l0_16 t485 t486 t487 t488))) else (image_segs.l0 kj28 false t494 l0_16 (l0_16.length : Int) (wrap64 (x29_2 + 1)) a0_0 a0_1 a0_2 a0_3 a0_4 a0_5 a0_6 a0_7 a0_8 a0_9 a0_10 a0_11 a0_12 a0_13 a0_14 l0_15 l0_16 t485 t486 t487 t488)) = some r := H
                          have A98 := Aside0.mk A980
                          clear A980
                          by_cases c99 : t499 = true
                          · subst c99
                            have H1 : ((image_of.f a0_5 a0_6).bind fun bt500 => ((image_span_within.f bt500.1 bt500.2 t493 t494).bind fun t502 => (image_segs.l0 kj28 t502 t494 l0_16 (l0_16.length : Int) (wrap64 (x29_2 + 1)) a0_0 a0_1 a0_2 a0_3 a0_4 a0_5 a0_6 a0_7 a0_8 a0_9 a0_10 a0_11 a0_12 a0_13 a0_14 l0_15 l0_16 t485 t486 t487 t488))) = some r := by rw [if_pos rfl] at H; exact H
                            clear H
                            have H := H1
                            clear H1
                            replace H := Option.bind_eq_some_iff.mp H
                            obtain ⟨⟨t500, t501⟩, A1000, H⟩ := H
                            replace H : ((image_span_within.f t500 t501 t493 t494).bind fun t502 => (image_segs.l0 kj28 t502 t494 l0_16 (l0_16.length : Int) (wrap64 (x29_2 + 1)) a0_0 a0_1 a0_2 a0_3 a0_4 a0_5 a0_6 a0_7 a0_8 a0_9 a0_10 a0_11 a0_12 a0_13 a0_14 l0_15 l0_16 t485 t486 t487 t488)) = some r := H
                            have A100 := Aside0.mk A1000
                            clear A1000
                            replace H := Option.bind_eq_some_iff.mp H
                            obtain ⟨t502, A1010, H⟩ := H
                            replace H : (image_segs.l0 kj28 t502 t494 l0_16 (l0_16.length : Int) (wrap64 (x29_2 + 1)) a0_0 a0_1 a0_2 a0_3 a0_4 a0_5 a0_6 a0_7 a0_8 a0_9 a0_10 a0_11 a0_12 a0_13 a0_14 l0_15 l0_16 t485 t486 t487 t488) = some r := H
                            have A101 := Aside0.mk A1010
                            clear A1010
                            have H' := Aside0.mk H
                            clear H
                            have hnb102 := NB495_484.out
                            have hnc102 := NB484_495.out
                            have hnb103 := NB495_489.out
                            have hnc103 := NB489_495.out
                            have hnb104 := NB495_490.out
                            have hnc104 := NB490_495.out
                            have hnb105 := NB495_492.out
                            have hnc105 := NB492_495.out
                            have hcz106_0 : wc.cell? ⟨gb495, 0, none⟩ = some (.int .u64 t493) := (blk_cell BK495.out 0).trans rfl
                            have hcz106_1 : wc.cell? ⟨gb495, 1, none⟩ = some (.int .u64 t494) := (blk_cell BK495.out 1).trans rfl
                            have hfz106_0 := blk_frozen BK495.out 0
                            have hfz106_1 := blk_frozen BK495.out 1
                            try go_wp2
                            have n0_ := Aside0.mk (blk_drew BK484.out)
                            have n1_ := Aside0.mk (blk_drew BK489.out)
                            have n2_ := Aside0.mk (blk_drew BK490.out)
                            have n3_ := Aside0.mk (blk_drew BK492.out)
                            have n4_ := Aside0.mk (blk_drew BK495.out)
                            have n5_ := Aside0.mk (below_drew1 HB.out)
                            clear BK484
                            clear BK489
                            clear BK490
                            clear BK492
                            clear BK495
                            clear HB
                            have BK484 := n0_
                            have BK489 := n1_
                            have BK490 := n2_
                            have BK492 := n3_
                            have BK495 := n4_
                            have HB := n5_
                            clear n0_ n1_ n2_ n3_ n4_ n5_
                            refine start_ (n := 14) (S := fun w' => w'.cell? ⟨gb495, 0, none⟩ = some (.int .u64 t493) ∧ w'.cell? ⟨gb495, 1, none⟩ = some (.int .u64 t494) ∧ w'.cell? ⟨gb489, 0, none⟩ = some (.int .u64 t485) ∧ w'.cell? ⟨gb489, 1, none⟩ = some (.int .u64 t486) ∧ w'.cell? ⟨gb484, 0, none⟩ = some (.int .u32 a0_0) ∧ w'.cell? ⟨gb484, 1, none⟩ = some (.int .u32 a0_1) ∧ w'.cell? ⟨gb484, 2, none⟩ = some (.int .u32 a0_2) ∧ w'.cell? ⟨gb484, 3, none⟩ = some (.int .u32 a0_3) ∧ w'.cell? ⟨gb484, 4, none⟩ = some (.int .u32 a0_4) ∧ w'.cell? ⟨gb484, 5, none⟩ = some (.int .u32 a0_5) ∧ w'.cell? ⟨gb484, 6, none⟩ = some (.int .u32 a0_6) ∧ w'.cell? ⟨gb484, 7, none⟩ = some (.int .u32 a0_7) ∧ w'.cell? ⟨gb484, 8, none⟩ = some (.int .u32 a0_8) ∧ w'.cell? ⟨gb484, 9, none⟩ = some (.int .u32 a0_9) ∧ w'.cell? ⟨gb484, 10, none⟩ = some (.int .u64 a0_10) ∧ w'.cell? ⟨gb484, 11, none⟩ = some (.int .u32 a0_11) ∧ w'.cell? ⟨gb484, 12, none⟩ = some (.int .u32 a0_12) ∧ w'.cell? ⟨gb484, 13, none⟩ = some (.int .u32 a0_13) ∧ w'.cell? ⟨gb484, 14, none⟩ = some (.int .u32 a0_14) ∧ w'.cell? ⟨gb484, 15, none⟩ = some (.slice A0_15 l0_15.length c0_15) ∧ w'.cell? ⟨gb484, 16, none⟩ = some (.slice (some ad491) l0_16.length c0_16)) (ds := []) #[false, false, false, false, false, false, false, false, false, false, false, false, false, false] (by kernel_rfl) rfl rfl ⟨(blk_cell BK495.out 0).trans rfl, (blk_cell BK495.out 1).trans rfl, (blk_cell BK489.out 0).trans rfl, (blk_cell BK489.out 1).trans rfl, (blk_cell BK484.out 0).trans rfl, (blk_cell BK484.out 1).trans rfl, (blk_cell BK484.out 2).trans rfl, (blk_cell BK484.out 3).trans rfl, (blk_cell BK484.out 4).trans rfl, (blk_cell BK484.out 5).trans rfl, (blk_cell BK484.out 6).trans rfl, (blk_cell BK484.out 7).trans rfl, (blk_cell BK484.out 8).trans rfl, (blk_cell BK484.out 9).trans rfl, (blk_cell BK484.out 10).trans rfl, (blk_cell BK484.out 11).trans rfl, (blk_cell BK484.out 12).trans rfl, (blk_cell BK484.out 13).trans rfl, (blk_cell BK484.out 14).trans rfl, (blk_cell BK484.out 15).trans rfl, (blk_cell BK484.out 16).trans rfl⟩ (fun hHeld => ?_); refine with_tabW image_segs.tab12 image_segs.bits12 (fun HT_ HW_ => ?_)
                            generalize wc.drew = w107 at BK484 BK489 BK490 BK492 BK495 HB hHeld ⊢
                            refine pure_ (i := 0) (N := some 57) (v := ?_) (a' := ?_) #[true, false, false, false, false, false, false, false, false, false, false, false, false, false] rfl rfl (any_of HT_.out (by kernel_rfl)) (fun _ _ _ h => h) (Or.inl ⟨by rfl, ?_⟩) ?_ ?_
                            rotate_left
                            · intro w'
                              go_simp
                              with_reducible rfl
                            rotate_left
                            · simp only [Act.put, List.setIfInBounds_toArray, List.set_cons_zero, List.set_cons_succ, i64_w, i32_w]
                              rfl
                            refine pure_ (i := 1) (N := some 58) (v := ?_) (a' := ?_) #[true, true, false, false, false, false, false, false, false, false, false, false, false, false] rfl rfl (any_of HT_.out (by kernel_rfl)) (fun _ _ _ h => h) (Or.inl ⟨by rfl, ?_⟩) ?_ ?_
                            rotate_left
                            · intro w'
                              go_simp
                              with_reducible rfl
                            rotate_left
                            · simp only [Act.put, List.setIfInBounds_toArray, List.set_cons_zero, List.set_cons_succ, i64_w, i32_w]
                              rfl
                            refine take_ (i := 2) (N := some 59) (v := ?_) (a' := ?_) #[true, true, true, false, false, false, false, false, false, false, false, false, false, false] rfl rfl (take_ofW HT_.out HW_.out (by kernel_rfl)) (fun _ _ _ h => h) (Or.inl ⟨by rfl, ?_⟩) hHeld ?_ ?_
                            rotate_left
                            · rintro w' ⟨s0, s1, s2, s3, s4, s5, s6, s7, s8, s9, s10, s11, s12, s13, s14, s15, s16, s17, s18, s19, s20⟩
                              go_simp
                              with_reducible rfl
                            rotate_left
                            · simp only [Act.put, List.setIfInBounds_toArray, List.set_cons_zero, List.set_cons_succ, i64_w, i32_w]
                              rfl
                            refine take_ (i := 3) (N := some 60) (v := ?_) (a' := ?_) #[true, true, true, true, false, false, false, false, false, false, false, false, false, false] rfl rfl (take_ofW HT_.out HW_.out (by kernel_rfl)) (fun _ _ _ h => h) (Or.inl ⟨by rfl, ?_⟩) hHeld ?_ ?_
                            rotate_left
                            · rintro w' ⟨s0, s1, s2, s3, s4, s5, s6, s7, s8, s9, s10, s11, s12, s13, s14, s15, s16, s17, s18, s19, s20⟩
                              go_simp
                              with_reducible rfl
                            rotate_left
                            · simp only [Act.put, List.setIfInBounds_toArray, List.set_cons_zero, List.set_cons_succ, i64_w, i32_w]
                              rfl
                            refine one_ (i := 4) (N := some 61) #[true, true, true, true, true, false, false, false, false, false, false, false, false, false] rfl rfl (one_of HT_.out (by kernel_rfl)) (by decide) (fun K hK => ?_)
                            refine goes_ Try.func154 (by kernel_rfl) rfl #[.agg #[.int .u64 t493, .int .u64 t494], .agg #[.int .u64 t485, .int .u64 t486]] (by rfl) rfl rfl (by (try simp only [List.map_toArray, List.map_cons, List.map_nil]); first | done | rfl | (simp only [List.length_drop, List.length_take]; rfl)) ?_
                            with_reducible refine (image_span_within.calls t493 t494 t485 t486 true _ A98.out).mono ?_
                            rintro e w108 ⟨rfl, hb⟩
                            refine ⟨_, rfl, ?_⟩
                            have n0_ := Aside0.mk (blk_below (g := gb484) (o := .cells #[.int .u32 a0_0, .int .u32 a0_1, .int .u32 a0_2, .int .u32 a0_3, .int .u32 a0_4, .int .u32 a0_5, .int .u32 a0_6, .int .u32 a0_7, .int .u32 a0_8, .int .u32 a0_9, .int .u64 a0_10, .int .u32 a0_11, .int .u32 a0_12, .int .u32 a0_13, .int .u32 a0_14, .slice A0_15 l0_15.length c0_15, .slice (some ad491) l0_16.length c0_16] 78 (0, 0)) (by (with_reducible repeat (first | refine blk_drewN ?_ _ | refine blk_drew ?_ | refine blk_alloc ?_ _)); exact BK484.out) hb)
                            have n1_ := Aside0.mk (blk_below (g := gb489) (o := .cells #[.int .u64 t485, .int .u64 t486] 196 (0, 0)) (by (with_reducible repeat (first | refine blk_drewN ?_ _ | refine blk_drew ?_ | refine blk_alloc ?_ _)); exact BK489.out) hb)
                            have n2_ := Aside0.mk (blk_below (g := gb490) (o := .cells #[.int .u64 t487, .int .u64 t488] 196 (0, 0)) (by (with_reducible repeat (first | refine blk_drewN ?_ _ | refine blk_drew ?_ | refine blk_alloc ?_ _)); exact BK490.out) hb)
                            have n3_ := Aside0.mk (blk_below (g := gb492) (o := .cells #[.int .u32 ((rd_T85 l0_16 x29_2).f0), .slice A491_1 ((rd_T85 l0_16 x29_2).f1).length c491_1] 85 (0, 0)) (by (with_reducible repeat (first | refine blk_drewN ?_ _ | refine blk_drew ?_ | refine blk_alloc ?_ _)); exact BK492.out) hb)
                            have n4_ := Aside0.mk (blk_below (g := gb495) (o := .cells #[.int .u64 t493, .int .u64 t494] 196 (0, 0)) (by (with_reducible repeat (first | refine blk_drewN ?_ _ | refine blk_drew ?_ | refine blk_alloc ?_ _)); exact BK495.out) hb)
                            have n5_ := Aside0.mk (below_step (by repeat (first | (with_reducible first | exact HB.out | apply below_alloc | apply pw_below_drewN | apply below_drew1 | refine below_set ?_ GE484.out | refine below_set ?_ GE489.out | refine below_set ?_ GE490.out | refine below_set ?_ GE492.out | refine below_set ?_ GE495.out) | exact HB.out)) hb)
                            clear BK484
                            clear BK489
                            clear BK490
                            clear BK492
                            clear BK495
                            clear HB
                            have BK484 := n0_
                            have BK489 := n1_
                            have BK490 := n2_
                            have BK492 := n3_
                            have BK495 := n4_
                            have HB := n5_
                            clear n0_ n1_ n2_ n3_ n4_ n5_
                            (try clear hb)
                            (try clear hb2)
                            (try clear hk)
                            (try clear hi)
                            refine hK.out _ _ ⟨(blk_cell BK495.out 0).trans rfl, (blk_cell BK495.out 1).trans rfl, (blk_cell BK489.out 0).trans rfl, (blk_cell BK489.out 1).trans rfl, (blk_cell BK484.out 0).trans rfl, (blk_cell BK484.out 1).trans rfl, (blk_cell BK484.out 2).trans rfl, (blk_cell BK484.out 3).trans rfl, (blk_cell BK484.out 4).trans rfl, (blk_cell BK484.out 5).trans rfl, (blk_cell BK484.out 6).trans rfl, (blk_cell BK484.out 7).trans rfl, (blk_cell BK484.out 8).trans rfl, (blk_cell BK484.out 9).trans rfl, (blk_cell BK484.out 10).trans rfl, (blk_cell BK484.out 11).trans rfl, (blk_cell BK484.out 12).trans rfl, (blk_cell BK484.out 13).trans rfl, (blk_cell BK484.out 14).trans rfl, (blk_cell BK484.out 15).trans rfl, (blk_cell BK484.out 16).trans rfl⟩ (fun hHeld => ?_)
                            clear hK K
                            refine norm_ (a' := ?_) ?_ ?_
                            rotate_left
                            · show Act.put _ (some 61) _ = _
                              simp only [Act.put, List.setIfInBounds_toArray, List.set_cons_zero, List.set_cons_succ, i64_w, i32_w]
                              rfl
                            refine pure_ (i := 5) (N := some 62) (v := ?_) (a' := ?_) #[true, true, true, true, true, true, false, false, false, false, false, false, false, false] rfl rfl (any_of HT_.out (by kernel_rfl)) (fun _ _ _ h => h) (Or.inl ⟨by rfl, ?_⟩) ?_ ?_
                            rotate_left
                            · intro w'
                              go_simp
                              with_reducible rfl
                            rotate_left
                            · simp only [Act.put, List.setIfInBounds_toArray, List.set_cons_zero, List.set_cons_succ, i64_w, i32_w]
                              rfl
                            refine pure_ (i := 6) (N := some 63) (v := ?_) (a' := ?_) #[true, true, true, true, true, true, true, false, false, false, false, false, false, false] rfl rfl (any_of HT_.out (by kernel_rfl)) (fun _ _ _ h => h) (Or.inl ⟨by rfl, ?_⟩) ?_ ?_
                            rotate_left
                            · intro w'
                              go_simp
                              with_reducible rfl
                            rotate_left
                            · simp only [Act.put, List.setIfInBounds_toArray, List.set_cons_zero, List.set_cons_succ, i64_w, i32_w]
                              rfl
                            refine take_ (i := 7) (N := some 64) (v := ?_) (a' := ?_) #[true, true, true, true, true, true, true, true, false, false, false, false, false, false] rfl rfl (take_ofW HT_.out HW_.out (by kernel_rfl)) (fun _ _ _ h => h) (Or.inl ⟨by rfl, ?_⟩) hHeld ?_ ?_
                            rotate_left
                            · rintro w' ⟨s0, s1, s2, s3, s4, s5, s6, s7, s8, s9, s10, s11, s12, s13, s14, s15, s16, s17, s18, s19, s20⟩
                              go_simp
                              with_reducible rfl
                            rotate_left
                            · simp only [Act.put, List.setIfInBounds_toArray, List.set_cons_zero, List.set_cons_succ, i64_w, i32_w]
                              rfl
                            refine take_ (i := 9) (N := some 66) (v := ?_) (a' := ?_) #[true, true, true, true, true, true, true, true, false, true, false, false, false, false] rfl rfl (take_ofW HT_.out HW_.out (by kernel_rfl)) (fun _ _ _ h => h) (Or.inl ⟨by rfl, ?_⟩) hHeld ?_ ?_
                            rotate_left
                            · rintro w' ⟨s0, s1, s2, s3, s4, s5, s6, s7, s8, s9, s10, s11, s12, s13, s14, s15, s16, s17, s18, s19, s20⟩
                              go_simp
                              with_reducible rfl
                            rotate_left
                            · simp only [Act.put, List.setIfInBounds_toArray, List.set_cons_zero, List.set_cons_succ, i64_w, i32_w]
                              rfl
                            refine one_ (i := 8) (N := some 65) #[true, true, true, true, true, true, true, true, true, true, false, false, false, false] rfl rfl (one_of HT_.out (by kernel_rfl)) (by decide) (fun K hK => ?_)
                            refine goes_ Try.func155 (by kernel_rfl) rfl #[.agg #[.int .u32 a0_5, .int .u32 a0_6]] (by rfl) rfl rfl (by (try simp only [List.map_toArray, List.map_cons, List.map_nil]); first | done | rfl | (simp only [List.length_drop, List.length_take]; rfl)) ?_
                            with_reducible refine (image_of.calls a0_5 a0_6 t500 t501 _ A100.out).mono ?_
                            rintro e w109 ⟨rfl, hb⟩
                            refine ⟨_, rfl, ?_⟩
                            have n0_ := Aside0.mk (blk_below (g := gb484) (o := .cells #[.int .u32 a0_0, .int .u32 a0_1, .int .u32 a0_2, .int .u32 a0_3, .int .u32 a0_4, .int .u32 a0_5, .int .u32 a0_6, .int .u32 a0_7, .int .u32 a0_8, .int .u32 a0_9, .int .u64 a0_10, .int .u32 a0_11, .int .u32 a0_12, .int .u32 a0_13, .int .u32 a0_14, .slice A0_15 l0_15.length c0_15, .slice (some ad491) l0_16.length c0_16] 78 (0, 0)) (by (with_reducible repeat (first | refine blk_drewN ?_ _ | refine blk_drew ?_ | refine blk_alloc ?_ _)); exact BK484.out) hb)
                            have n1_ := Aside0.mk (blk_below (g := gb489) (o := .cells #[.int .u64 t485, .int .u64 t486] 196 (0, 0)) (by (with_reducible repeat (first | refine blk_drewN ?_ _ | refine blk_drew ?_ | refine blk_alloc ?_ _)); exact BK489.out) hb)
                            have n2_ := Aside0.mk (blk_below (g := gb490) (o := .cells #[.int .u64 t487, .int .u64 t488] 196 (0, 0)) (by (with_reducible repeat (first | refine blk_drewN ?_ _ | refine blk_drew ?_ | refine blk_alloc ?_ _)); exact BK490.out) hb)
                            have n3_ := Aside0.mk (blk_below (g := gb492) (o := .cells #[.int .u32 ((rd_T85 l0_16 x29_2).f0), .slice A491_1 ((rd_T85 l0_16 x29_2).f1).length c491_1] 85 (0, 0)) (by (with_reducible repeat (first | refine blk_drewN ?_ _ | refine blk_drew ?_ | refine blk_alloc ?_ _)); exact BK492.out) hb)
                            have n4_ := Aside0.mk (blk_below (g := gb495) (o := .cells #[.int .u64 t493, .int .u64 t494] 196 (0, 0)) (by (with_reducible repeat (first | refine blk_drewN ?_ _ | refine blk_drew ?_ | refine blk_alloc ?_ _)); exact BK495.out) hb)
                            have n5_ := Aside0.mk (below_step (by repeat (first | (with_reducible first | exact HB.out | apply below_alloc | apply pw_below_drewN | apply below_drew1 | refine below_set ?_ GE484.out | refine below_set ?_ GE489.out | refine below_set ?_ GE490.out | refine below_set ?_ GE492.out | refine below_set ?_ GE495.out) | exact HB.out)) hb)
                            clear BK484
                            clear BK489
                            clear BK490
                            clear BK492
                            clear BK495
                            clear HB
                            have BK484 := n0_
                            have BK489 := n1_
                            have BK490 := n2_
                            have BK492 := n3_
                            have BK495 := n4_
                            have HB := n5_
                            clear n0_ n1_ n2_ n3_ n4_ n5_
                            (try clear hb)
                            (try clear hb2)
                            (try clear hk)
                            (try clear hi)
                            refine hK.out _ _ ⟨(blk_cell BK495.out 0).trans rfl, (blk_cell BK495.out 1).trans rfl, (blk_cell BK489.out 0).trans rfl, (blk_cell BK489.out 1).trans rfl, (blk_cell BK484.out 0).trans rfl, (blk_cell BK484.out 1).trans rfl, (blk_cell BK484.out 2).trans rfl, (blk_cell BK484.out 3).trans rfl, (blk_cell BK484.out 4).trans rfl, (blk_cell BK484.out 5).trans rfl, (blk_cell BK484.out 6).trans rfl, (blk_cell BK484.out 7).trans rfl, (blk_cell BK484.out 8).trans rfl, (blk_cell BK484.out 9).trans rfl, (blk_cell BK484.out 10).trans rfl, (blk_cell BK484.out 11).trans rfl, (blk_cell BK484.out 12).trans rfl, (blk_cell BK484.out 13).trans rfl, (blk_cell BK484.out 14).trans rfl, (blk_cell BK484.out 15).trans rfl, (blk_cell BK484.out 16).trans rfl⟩ (fun hHeld => ?_)
                            clear hK K
                            refine norm_ (a' := ?_) ?_ ?_
                            rotate_left
                            · show Act.put _ (some 65) _ = _
                              simp only [Act.put, List.setIfInBounds_toArray, List.set_cons_zero, List.set_cons_succ, i64_w, i32_w]
                              rfl
                            refine one_ (i := 10) (N := some 67) #[true, true, true, true, true, true, true, true, true, true, true, false, false, false] rfl rfl (one_of HT_.out (by kernel_rfl)) (by decide) (fun K hK => ?_)
                            refine goes_ Try.func154 (by kernel_rfl) rfl #[.agg #[.int .u64 t500, .int .u64 t501], .agg #[.int .u64 t493, .int .u64 t494]] (by rfl) rfl rfl (by (try simp only [List.map_toArray, List.map_cons, List.map_nil]); first | done | rfl | (simp only [List.length_drop, List.length_take]; rfl)) ?_
                            with_reducible refine (image_span_within.calls t500 t501 t493 t494 t502 _ A101.out).mono ?_
                            rintro e w110 ⟨rfl, hb⟩
                            refine ⟨_, rfl, ?_⟩
                            have n0_ := Aside0.mk (blk_below (g := gb484) (o := .cells #[.int .u32 a0_0, .int .u32 a0_1, .int .u32 a0_2, .int .u32 a0_3, .int .u32 a0_4, .int .u32 a0_5, .int .u32 a0_6, .int .u32 a0_7, .int .u32 a0_8, .int .u32 a0_9, .int .u64 a0_10, .int .u32 a0_11, .int .u32 a0_12, .int .u32 a0_13, .int .u32 a0_14, .slice A0_15 l0_15.length c0_15, .slice (some ad491) l0_16.length c0_16] 78 (0, 0)) (by (with_reducible repeat (first | refine blk_drewN ?_ _ | refine blk_drew ?_ | refine blk_alloc ?_ _)); exact BK484.out) hb)
                            have n1_ := Aside0.mk (blk_below (g := gb489) (o := .cells #[.int .u64 t485, .int .u64 t486] 196 (0, 0)) (by (with_reducible repeat (first | refine blk_drewN ?_ _ | refine blk_drew ?_ | refine blk_alloc ?_ _)); exact BK489.out) hb)
                            have n2_ := Aside0.mk (blk_below (g := gb490) (o := .cells #[.int .u64 t487, .int .u64 t488] 196 (0, 0)) (by (with_reducible repeat (first | refine blk_drewN ?_ _ | refine blk_drew ?_ | refine blk_alloc ?_ _)); exact BK490.out) hb)
                            have n3_ := Aside0.mk (blk_below (g := gb492) (o := .cells #[.int .u32 ((rd_T85 l0_16 x29_2).f0), .slice A491_1 ((rd_T85 l0_16 x29_2).f1).length c491_1] 85 (0, 0)) (by (with_reducible repeat (first | refine blk_drewN ?_ _ | refine blk_drew ?_ | refine blk_alloc ?_ _)); exact BK492.out) hb)
                            have n4_ := Aside0.mk (blk_below (g := gb495) (o := .cells #[.int .u64 t493, .int .u64 t494] 196 (0, 0)) (by (with_reducible repeat (first | refine blk_drewN ?_ _ | refine blk_drew ?_ | refine blk_alloc ?_ _)); exact BK495.out) hb)
                            have n5_ := Aside0.mk (below_step (by repeat (first | (with_reducible first | exact HB.out | apply below_alloc | apply pw_below_drewN | apply below_drew1 | refine below_set ?_ GE484.out | refine below_set ?_ GE489.out | refine below_set ?_ GE490.out | refine below_set ?_ GE492.out | refine below_set ?_ GE495.out) | exact HB.out)) hb)
                            clear BK484
                            clear BK489
                            clear BK490
                            clear BK492
                            clear BK495
                            clear HB
                            have BK484 := n0_
                            have BK489 := n1_
                            have BK490 := n2_
                            have BK492 := n3_
                            have BK495 := n4_
                            have HB := n5_
                            clear n0_ n1_ n2_ n3_ n4_ n5_
                            (try clear hb)
                            (try clear hb2)
                            (try clear hk)
                            (try clear hi)
                            refine hK.out _ _ ⟨(blk_cell BK495.out 0).trans rfl, (blk_cell BK495.out 1).trans rfl, (blk_cell BK489.out 0).trans rfl, (blk_cell BK489.out 1).trans rfl, (blk_cell BK484.out 0).trans rfl, (blk_cell BK484.out 1).trans rfl, (blk_cell BK484.out 2).trans rfl, (blk_cell BK484.out 3).trans rfl, (blk_cell BK484.out 4).trans rfl, (blk_cell BK484.out 5).trans rfl, (blk_cell BK484.out 6).trans rfl, (blk_cell BK484.out 7).trans rfl, (blk_cell BK484.out 8).trans rfl, (blk_cell BK484.out 9).trans rfl, (blk_cell BK484.out 10).trans rfl, (blk_cell BK484.out 11).trans rfl, (blk_cell BK484.out 12).trans rfl, (blk_cell BK484.out 13).trans rfl, (blk_cell BK484.out 14).trans rfl, (blk_cell BK484.out 15).trans rfl, (blk_cell BK484.out 16).trans rfl⟩ (fun hHeld => ?_)
                            clear hK K
                            refine norm_ (a' := ?_) ?_ ?_
                            rotate_left
                            · show Act.put _ (some 67) _ = _
                              simp only [Act.put, List.setIfInBounds_toArray, List.set_cons_zero, List.set_cons_succ, i64_w, i32_w]
                              rfl
                            refine pure_ (i := 11) (N := some 68) (v := ?_) (a' := ?_) #[true, true, true, true, true, true, true, true, true, true, true, true, false, false] rfl rfl (any_of HT_.out (by kernel_rfl)) (fun _ _ _ h => h) (Or.inl ⟨by rfl, ?_⟩) ?_ ?_
                            rotate_left
                            · intro w'
                              go_simp
                              with_reducible rfl
                            rotate_left
                            · simp only [Act.put, List.setIfInBounds_toArray, List.set_cons_zero, List.set_cons_succ, i64_w, i32_w]
                              rfl
                            refine pure_ (i := 12) (N := some 69) (v := ?_) (a' := ?_) #[true, true, true, true, true, true, true, true, true, true, true, true, true, false] rfl rfl (any_of HT_.out (by kernel_rfl)) (fun _ _ _ h => h) (Or.inl ⟨by rfl, ?_⟩) ?_ ?_
                            rotate_left
                            · intro w'
                              go_simp
                              with_reducible rfl
                            rotate_left
                            · simp only [Act.put, List.setIfInBounds_toArray, List.set_cons_zero, List.set_cons_succ, i64_w, i32_w]
                              rfl
                            refine pure_ (i := 13) (N := some 5) (v := ?_) (a' := ?_) #[true, true, true, true, true, true, true, true, true, true, true, true, true, true] rfl rfl (any_of HT_.out (by kernel_rfl)) (fun _ _ _ h => h) (Or.inl ⟨by rfl, ?_⟩) ?_ ?_
                            rotate_left
                            · intro w'
                              go_simp
                              with_reducible rfl
                            rotate_left
                            · simp only [Act.put, List.setIfInBounds_toArray, List.set_cons_zero, List.set_cons_succ, i64_w, i32_w]
                              rfl
                            refine done_ (done_of HT_.out (by kernel_rfl)) ?_
                            try go_wp2
                            go_roundg kj28
                            case measure => have := HJ2.out; have := HK2.out; have := HJ28.out; omega
                            case rel => exact ⟨(t502), (t494), (wrap64 (x29_2 + 1)), (by first | rfl | (simp; done) | (simp [*]; done)), (by first | rfl | (simp; done) | (simp [*]; done)), (by first | rfl | (simp; done) | (simp [*]; done)), H', ⟨by have := HJ2.out; have := HK2.out; have := HJ28.out; omega⟩, ⟨by (with_reducible repeat (first | refine blk_drewN ?_ _ | refine blk_drew ?_ | refine blk_alloc ?_ _)); exact BK484.out⟩, ⟨by (with_reducible repeat (first | refine blk_drewN ?_ _ | refine blk_drew ?_ | refine blk_alloc ?_ _)); exact BK489.out⟩, ⟨by (with_reducible repeat (first | refine blk_drewN ?_ _ | refine blk_drew ?_ | refine blk_alloc ?_ _)); exact BK490.out⟩, ⟨by repeat (first | (with_reducible first | exact HB.out | apply below_alloc | apply pw_below_drewN | apply below_drew1 | refine below_set ?_ GE484.out | refine below_set ?_ GE489.out | refine below_set ?_ GE490.out | refine below_set ?_ GE492.out | refine below_set ?_ GE495.out) | exact HB.out)⟩⟩
                          · replace c99 := Bool.eq_false_iff.mpr c99
                            subst c99
                            have H1 : (image_segs.l0 kj28 false t494 l0_16 (l0_16.length : Int) (wrap64 (x29_2 + 1)) a0_0 a0_1 a0_2 a0_3 a0_4 a0_5 a0_6 a0_7 a0_8 a0_9 a0_10 a0_11 a0_12 a0_13 a0_14 l0_15 l0_16 t485 t486 t487 t488) = some r := by rw [if_neg (show ¬ (false = true) by decide)] at H; exact H
                            clear H
                            have H := H1
                            clear H1
                            have H' := Aside0.mk H
                            clear H
                            have hnb111 := NB495_484.out
                            have hnc111 := NB484_495.out
                            have hnb112 := NB495_489.out
                            have hnc112 := NB489_495.out
                            have hnb113 := NB495_490.out
                            have hnc113 := NB490_495.out
                            have hnb114 := NB495_492.out
                            have hnc114 := NB492_495.out
                            have hcz115_0 : wc.cell? ⟨gb495, 0, none⟩ = some (.int .u64 t493) := (blk_cell BK495.out 0).trans rfl
                            have hcz115_1 : wc.cell? ⟨gb495, 1, none⟩ = some (.int .u64 t494) := (blk_cell BK495.out 1).trans rfl
                            have hfz115_0 := blk_frozen BK495.out 0
                            have hfz115_1 := blk_frozen BK495.out 1
                            try go_wp2
                            have n0_ := Aside0.mk (blk_drew BK484.out)
                            have n1_ := Aside0.mk (blk_drew BK489.out)
                            have n2_ := Aside0.mk (blk_drew BK490.out)
                            have n3_ := Aside0.mk (blk_drew BK492.out)
                            have n4_ := Aside0.mk (blk_drew BK495.out)
                            have n5_ := Aside0.mk (below_drew1 HB.out)
                            clear BK484
                            clear BK489
                            clear BK490
                            clear BK492
                            clear BK495
                            clear HB
                            have BK484 := n0_
                            have BK489 := n1_
                            have BK490 := n2_
                            have BK492 := n3_
                            have BK495 := n4_
                            have HB := n5_
                            clear n0_ n1_ n2_ n3_ n4_ n5_
                            refine start_ (n := 14) (S := fun w' => w'.cell? ⟨gb495, 0, none⟩ = some (.int .u64 t493) ∧ w'.cell? ⟨gb495, 1, none⟩ = some (.int .u64 t494) ∧ w'.cell? ⟨gb489, 0, none⟩ = some (.int .u64 t485) ∧ w'.cell? ⟨gb489, 1, none⟩ = some (.int .u64 t486)) (ds := []) #[false, false, false, false, false, false, false, false, false, false, false, false, false, false] (by kernel_rfl) rfl rfl ⟨(blk_cell BK495.out 0).trans rfl, (blk_cell BK495.out 1).trans rfl, (blk_cell BK489.out 0).trans rfl, (blk_cell BK489.out 1).trans rfl⟩ (fun hHeld => ?_); refine with_tabW image_segs.tab12 image_segs.bits12 (fun HT_ HW_ => ?_)
                            generalize wc.drew = w116 at BK484 BK489 BK490 BK492 BK495 HB hHeld ⊢
                            refine pure_ (i := 0) (N := some 57) (v := ?_) (a' := ?_) #[true, false, false, false, false, false, false, false, false, false, false, false, false, false] rfl rfl (any_of HT_.out (by kernel_rfl)) (fun _ _ _ h => h) (Or.inl ⟨by rfl, ?_⟩) ?_ ?_
                            rotate_left
                            · intro w'
                              go_simp
                              with_reducible rfl
                            rotate_left
                            · simp only [Act.put, List.setIfInBounds_toArray, List.set_cons_zero, List.set_cons_succ, i64_w, i32_w]
                              rfl
                            refine pure_ (i := 1) (N := some 58) (v := ?_) (a' := ?_) #[true, true, false, false, false, false, false, false, false, false, false, false, false, false] rfl rfl (any_of HT_.out (by kernel_rfl)) (fun _ _ _ h => h) (Or.inl ⟨by rfl, ?_⟩) ?_ ?_
                            rotate_left
                            · intro w'
                              go_simp
                              with_reducible rfl
                            rotate_left
                            · simp only [Act.put, List.setIfInBounds_toArray, List.set_cons_zero, List.set_cons_succ, i64_w, i32_w]
                              rfl
                            refine take_ (i := 2) (N := some 59) (v := ?_) (a' := ?_) #[true, true, true, false, false, false, false, false, false, false, false, false, false, false] rfl rfl (take_ofW HT_.out HW_.out (by kernel_rfl)) (fun _ _ _ h => h) (Or.inl ⟨by rfl, ?_⟩) hHeld ?_ ?_
                            rotate_left
                            · rintro w' ⟨s0, s1, s2, s3⟩
                              go_simp
                              with_reducible rfl
                            rotate_left
                            · simp only [Act.put, List.setIfInBounds_toArray, List.set_cons_zero, List.set_cons_succ, i64_w, i32_w]
                              rfl
                            refine take_ (i := 3) (N := some 60) (v := ?_) (a' := ?_) #[true, true, true, true, false, false, false, false, false, false, false, false, false, false] rfl rfl (take_ofW HT_.out HW_.out (by kernel_rfl)) (fun _ _ _ h => h) (Or.inl ⟨by rfl, ?_⟩) hHeld ?_ ?_
                            rotate_left
                            · rintro w' ⟨s0, s1, s2, s3⟩
                              go_simp
                              with_reducible rfl
                            rotate_left
                            · simp only [Act.put, List.setIfInBounds_toArray, List.set_cons_zero, List.set_cons_succ, i64_w, i32_w]
                              rfl
                            refine one_ (i := 4) (N := some 61) #[true, true, true, true, true, false, false, false, false, false, false, false, false, false] rfl rfl (one_of HT_.out (by kernel_rfl)) (by decide) (fun K hK => ?_)
                            refine goes_ Try.func154 (by kernel_rfl) rfl #[.agg #[.int .u64 t493, .int .u64 t494], .agg #[.int .u64 t485, .int .u64 t486]] (by rfl) rfl rfl (by (try simp only [List.map_toArray, List.map_cons, List.map_nil]); first | done | rfl | (simp only [List.length_drop, List.length_take]; rfl)) ?_
                            with_reducible refine (image_span_within.calls t493 t494 t485 t486 false _ A98.out).mono ?_
                            rintro e w117 ⟨rfl, hb⟩
                            refine ⟨_, rfl, ?_⟩
                            have n0_ := Aside0.mk (blk_below (g := gb484) (o := .cells #[.int .u32 a0_0, .int .u32 a0_1, .int .u32 a0_2, .int .u32 a0_3, .int .u32 a0_4, .int .u32 a0_5, .int .u32 a0_6, .int .u32 a0_7, .int .u32 a0_8, .int .u32 a0_9, .int .u64 a0_10, .int .u32 a0_11, .int .u32 a0_12, .int .u32 a0_13, .int .u32 a0_14, .slice A0_15 l0_15.length c0_15, .slice (some ad491) l0_16.length c0_16] 78 (0, 0)) (by (with_reducible repeat (first | refine blk_drewN ?_ _ | refine blk_drew ?_ | refine blk_alloc ?_ _)); exact BK484.out) hb)
                            have n1_ := Aside0.mk (blk_below (g := gb489) (o := .cells #[.int .u64 t485, .int .u64 t486] 196 (0, 0)) (by (with_reducible repeat (first | refine blk_drewN ?_ _ | refine blk_drew ?_ | refine blk_alloc ?_ _)); exact BK489.out) hb)
                            have n2_ := Aside0.mk (blk_below (g := gb490) (o := .cells #[.int .u64 t487, .int .u64 t488] 196 (0, 0)) (by (with_reducible repeat (first | refine blk_drewN ?_ _ | refine blk_drew ?_ | refine blk_alloc ?_ _)); exact BK490.out) hb)
                            have n3_ := Aside0.mk (blk_below (g := gb492) (o := .cells #[.int .u32 ((rd_T85 l0_16 x29_2).f0), .slice A491_1 ((rd_T85 l0_16 x29_2).f1).length c491_1] 85 (0, 0)) (by (with_reducible repeat (first | refine blk_drewN ?_ _ | refine blk_drew ?_ | refine blk_alloc ?_ _)); exact BK492.out) hb)
                            have n4_ := Aside0.mk (blk_below (g := gb495) (o := .cells #[.int .u64 t493, .int .u64 t494] 196 (0, 0)) (by (with_reducible repeat (first | refine blk_drewN ?_ _ | refine blk_drew ?_ | refine blk_alloc ?_ _)); exact BK495.out) hb)
                            have n5_ := Aside0.mk (below_step (by repeat (first | (with_reducible first | exact HB.out | apply below_alloc | apply pw_below_drewN | apply below_drew1 | refine below_set ?_ GE484.out | refine below_set ?_ GE489.out | refine below_set ?_ GE490.out | refine below_set ?_ GE492.out | refine below_set ?_ GE495.out) | exact HB.out)) hb)
                            clear BK484
                            clear BK489
                            clear BK490
                            clear BK492
                            clear BK495
                            clear HB
                            have BK484 := n0_
                            have BK489 := n1_
                            have BK490 := n2_
                            have BK492 := n3_
                            have BK495 := n4_
                            have HB := n5_
                            clear n0_ n1_ n2_ n3_ n4_ n5_
                            (try clear hb)
                            (try clear hb2)
                            (try clear hk)
                            (try clear hi)
                            refine hK.out _ _ ⟨(blk_cell BK495.out 0).trans rfl, (blk_cell BK495.out 1).trans rfl, (blk_cell BK489.out 0).trans rfl, (blk_cell BK489.out 1).trans rfl⟩ (fun hHeld => ?_)
                            clear hK K
                            refine norm_ (a' := ?_) ?_ ?_
                            rotate_left
                            · show Act.put _ (some 61) _ = _
                              simp only [Act.put, List.setIfInBounds_toArray, List.set_cons_zero, List.set_cons_succ, i64_w, i32_w]
                              rfl
                            refine pure_ (i := 5) (N := some 62) (v := ?_) (a' := ?_) #[true, true, true, true, true, true, false, false, false, false, false, false, false, false] rfl rfl (any_of HT_.out (by kernel_rfl)) (fun _ _ _ h => h) (Or.inl ⟨by rfl, ?_⟩) ?_ ?_
                            rotate_left
                            · intro w'
                              go_simp
                              with_reducible rfl
                            rotate_left
                            · simp only [Act.put, List.setIfInBounds_toArray, List.set_cons_zero, List.set_cons_succ, i64_w, i32_w]
                              rfl
                            refine pure_ (i := 6) (N := some 63) (v := undef) (a' := ?_) #[true, true, true, true, true, true, true, false, false, false, false, false, false, false] rfl rfl (any_of HT_.out (by kernel_rfl)) (fun _ _ _ h => h) (Or.inr ⟨by rfl, rfl⟩) ?_ ?_
                            rotate_left
                            · simp only [Act.put, List.setIfInBounds_toArray, List.set_cons_zero, List.set_cons_succ, i64_w, i32_w]
                              rfl
                            refine pure_ (i := 7) (N := some 64) (v := undef) (a' := ?_) #[true, true, true, true, true, true, true, true, false, false, false, false, false, false] rfl rfl (any_of HT_.out (by kernel_rfl)) (fun _ _ _ h => h) (Or.inr ⟨by rfl, rfl⟩) ?_ ?_
                            rotate_left
                            · simp only [Act.put, List.setIfInBounds_toArray, List.set_cons_zero, List.set_cons_succ, i64_w, i32_w]
                              rfl
                            refine pure_ (i := 8) (N := some 65) (v := undef) (a' := ?_) #[true, true, true, true, true, true, true, true, true, false, false, false, false, false] rfl rfl (any_of HT_.out (by kernel_rfl)) (fun _ _ _ h => h) (Or.inr ⟨by rfl, rfl⟩) ?_ ?_
                            rotate_left
                            · simp only [Act.put, List.setIfInBounds_toArray, List.set_cons_zero, List.set_cons_succ, i64_w, i32_w]
                              rfl
                            refine pure_ (i := 9) (N := some 66) (v := undef) (a' := ?_) #[true, true, true, true, true, true, true, true, true, true, false, false, false, false] rfl rfl (any_of HT_.out (by kernel_rfl)) (fun _ _ _ h => h) (Or.inr ⟨by rfl, rfl⟩) ?_ ?_
                            rotate_left
                            · simp only [Act.put, List.setIfInBounds_toArray, List.set_cons_zero, List.set_cons_succ, i64_w, i32_w]
                              rfl
                            refine pure_ (i := 10) (N := some 67) (v := undef) (a' := ?_) #[true, true, true, true, true, true, true, true, true, true, true, false, false, false] rfl rfl (any_of HT_.out (by kernel_rfl)) (fun _ _ _ h => h) (Or.inr ⟨by rfl, rfl⟩) ?_ ?_
                            rotate_left
                            · simp only [Act.put, List.setIfInBounds_toArray, List.set_cons_zero, List.set_cons_succ, i64_w, i32_w]
                              rfl
                            refine pure_ (i := 11) (N := some 68) (v := ?_) (a' := ?_) #[true, true, true, true, true, true, true, true, true, true, true, true, false, false] rfl rfl (any_of HT_.out (by kernel_rfl)) (fun _ _ _ h => h) (Or.inl ⟨by rfl, ?_⟩) ?_ ?_
                            rotate_left
                            · intro w'
                              go_simp
                              with_reducible rfl
                            rotate_left
                            · simp only [Act.put, List.setIfInBounds_toArray, List.set_cons_zero, List.set_cons_succ, i64_w, i32_w]
                              rfl
                            refine pure_ (i := 12) (N := some 69) (v := ?_) (a' := ?_) #[true, true, true, true, true, true, true, true, true, true, true, true, true, false] rfl rfl (any_of HT_.out (by kernel_rfl)) (fun _ _ _ h => h) (Or.inl ⟨by rfl, ?_⟩) ?_ ?_
                            rotate_left
                            · intro w'
                              go_simp
                              with_reducible rfl
                            rotate_left
                            · simp only [Act.put, List.setIfInBounds_toArray, List.set_cons_zero, List.set_cons_succ, i64_w, i32_w]
                              rfl
                            refine pure_ (i := 13) (N := some 5) (v := ?_) (a' := ?_) #[true, true, true, true, true, true, true, true, true, true, true, true, true, true] rfl rfl (any_of HT_.out (by kernel_rfl)) (fun _ _ _ h => h) (Or.inl ⟨by rfl, ?_⟩) ?_ ?_
                            rotate_left
                            · intro w'
                              go_simp
                              with_reducible rfl
                            rotate_left
                            · simp only [Act.put, List.setIfInBounds_toArray, List.set_cons_zero, List.set_cons_succ, i64_w, i32_w]
                              rfl
                            refine done_ (done_of HT_.out (by kernel_rfl)) ?_
                            try go_wp2
                            go_roundg kj28
                            case measure => have := HJ2.out; have := HK2.out; have := HJ28.out; omega
                            case rel => exact ⟨(false), (t494), (wrap64 (x29_2 + 1)), (by first | rfl | (simp; done) | (simp [*]; done)), (by first | rfl | (simp; done) | (simp [*]; done)), (by first | rfl | (simp; done) | (simp [*]; done)), H', ⟨by have := HJ2.out; have := HK2.out; have := HJ28.out; omega⟩, ⟨by (with_reducible repeat (first | refine blk_drewN ?_ _ | refine blk_drew ?_ | refine blk_alloc ?_ _)); exact BK484.out⟩, ⟨by (with_reducible repeat (first | refine blk_drewN ?_ _ | refine blk_drew ?_ | refine blk_alloc ?_ _)); exact BK489.out⟩, ⟨by (with_reducible repeat (first | refine blk_drewN ?_ _ | refine blk_drew ?_ | refine blk_alloc ?_ _)); exact BK490.out⟩, ⟨by repeat (first | (with_reducible first | exact HB.out | apply below_alloc | apply pw_below_drewN | apply below_drew1 | refine below_set ?_ GE484.out | refine below_set ?_ GE489.out | refine below_set ?_ GE490.out | refine below_set ?_ GE492.out | refine below_set ?_ GE495.out) | exact HB.out)⟩⟩
                · rw [if_neg c27] at H
                  exact absurd H (by simp)
              · rw [if_neg c26] at H
                exact absurd H (by simp)
            · rw [if_neg c25] at H
              have c25b0 : decide (x29_2 < (l0_16.length : Int)) = false := decide_eq_false c25
              clear c25
              obtain rfl := Option.some.inj H
              go_wp2
              go_ret
              exact ⟨by first | rfl | (simp [errW_none, errW_some] <;> rfl) | (simp [*, errW_none, errW_some] <;> rfl), by repeat (first | (with_reducible first | exact HB.out | apply below_alloc | apply pw_below_drewN | apply below_drew1 | refine below_set ?_ GE484.out | refine below_set ?_ GE489.out | refine below_set ?_ GE490.out) | exact HB.out)⟩

end Go.Proofs.Ytioopcilcgebeaa.PCpu
