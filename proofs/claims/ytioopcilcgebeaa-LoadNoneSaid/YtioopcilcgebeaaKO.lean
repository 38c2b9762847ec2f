/- Proofs of this claim's family, merged: CpuC, CpuD. -/
import Derived.Test.YtioopcilcgebeaaKN
import Derived.Test.YtioopcilcgebeaaKP4
import Derived.StillTailTactics
import Derived.Deep.RegionHeld3
set_option linter.unusedVariables false
set_option linter.unusedSimpArgs false
/-! #### CpuC -/
namespace Go.Proofs.Ytioopcilcgebeaa.CpuA
open Go.RowKit Go.Proofs.Ytioopcilcgebeaa.Base Go.Proofs.Ytioopcilcgebeaa.InstS Go.Proofs.Ytioopcilcgebeaa.InstA Go.Proofs.Ytioopcilcgebeaa.AluP Go.Proofs.YtioopcilcgebeaaW.PrintWords

/-- A machine over its memory. -/
structure Box (b mb : Nat) (K : Bk) (F : List Int) (s : St) (w : World) : Prop where
  m : IsM b ⟨mb, 0, none⟩ s.pc s.R w
  mem : Mem mb K F s.M w
  ok : StOk K s
  n1 : b ≠ mb
  n2 : b ≠ K.fb
  n3 : b ≠ K.rb
  n4 : mb ≠ K.rb
  n5 : K.fb ≠ K.rb
theorem Box.below {b mb : Nat} {K : Bk} {F : List Int} {s : St} {w w' : World} (h : Box b mb K F s w) (hb : Below w.heap.size w w') : Box b mb K F s w' :=
  ⟨⟨heap_below hb h.m.1, h.m.2⟩, h.mem.below hb, h.ok, h.n1, h.n2, h.n3, h.n4, h.n5⟩
/-- Another block was written, or blocks made. -/
theorem Mem.but {b : Nat} {K : Bk} {F R : List Int} {l : List Nat} {w w' : World} (h : Mem b K F R w) (hb : But l w w') (n1 : b ∉ l) (n2 : K.fb ∉ l) (n3 : K.rb ∉ l) : Mem b K F R w' :=
  ⟨h.ok, hb.heap n1 h.mem, hb.heap n2 h.flash, hb.heap n3 h.ram, h.fl, h.rl, h.fbytes, h.rbytes⟩
theorem Box.but {b mb : Nat} {K : Bk} {F : List Int} {s : St} {l : List Nat} {w w' : World} (h : Box b mb K F s w) (hb : But l w w') (n0 : b ∉ l) (n1 : mb ∉ l) (n2 : K.fb ∉ l) (n3 : K.rb ∉ l) : Box b mb K F s w' :=
  ⟨⟨hb.heap n0 h.m.1, h.m.2⟩, h.mem.but hb n1 n2 n3, h.ok, h.n1, h.n2, h.n3, h.n4, h.n5⟩
def ecells (pc word : Int) (d : Did) : Array Value := #[.int .u32 pc, .int .u32 word, .int .i64 d.kind, .int .u32 d.addr, .int .i64 d.size]
def IsE (eb : Nat) (pc word : Int) (d : Did) (w : World) : Prop := w.heap[eb]? = some (.cells (ecells pc word d) 35 (0, 0))
/-- Behind an instruction. -/
def DPost (b mb : Nat) (K : Bk) (F : List Int) (eb : Nat) (pc word : Int) (r : Did × Int × St) (w : World) (e : Ending) (w' : World) : Prop :=
  e = .returned (.int .i64 r.2.1) ∧ Box b mb K F r.2.2 w' ∧ IsE eb pc word r.1 w' ∧ But [b, K.rb, eb] w w'
theorem size_calls (op : Int) (w : World) : Calls Try.prog 125 #[.int .i64 op] w fun e w' => e = .returned (.int .i64 (szS op : Int)) ∧ ∃ n, w' = w.drewN n := by
  refine (PCpu.cpu_size.calls 5 op (szS op) w ?_).mono fun e w' h => ⟨h.1, h.2.out⟩
  have j : ∀ x b, PCpu.cpu_size.j0 5 x b = if b = true then some 1 else if x = 29 then some 2 else if x = 32 then some 2 else if x = 34 then some 2 else some 4 := fun _ _ => rfl
  unfold PCpu.cpu_size.f szS
  simp only [j]
  by_cases a : op = 28
  · subst a; rfl
  · by_cases b : op = 31
    · subst b; rfl
    · by_cases c : op = 33
      · subst c; rfl
      · by_cases d : op = 29
        · subst d; rfl
        · by_cases e : op = 32
          · subst e; rfl
          · by_cases f : op = 34
            · subst f; rfl
            · simp [a, b, c, d, e, f]
theorem sext8 (w : Int) (h0 : 0 ≤ w) (h : w < 4294967296) : PCpu.num_Sext.f w 8 = some ((if w % 256 ≥ 128 then w % 256 - 256 else w % 256) % 4294967296) := by
  unfold PCpu.num_Sext.f
  rw [if_neg (by omega), if_neg (by omega), show wrap64 (32 - 8) = ((24 : Nat) : Int) by unfold wrap64; decide, if_pos (by omega), BitsP.shl32 _ 24 (by omega)]
  have e : shr .i32 (wrap32 (w * 2 ^ 24 % 4294967296)) ((24 : Nat) : Int) = wrap32 (w * 2 ^ 24 % 4294967296) / 2 ^ 24 := rfl
  rw [e]
  simp only [Int.reducePow]
  congr 1
  unfold wrap32
  split <;> omega
theorem sext16 (w : Int) (h0 : 0 ≤ w) (h : w < 4294967296) : PCpu.num_Sext.f w 16 = some ((if w % 65536 ≥ 32768 then w % 65536 - 65536 else w % 65536) % 4294967296) := by
  unfold PCpu.num_Sext.f
  rw [if_neg (by omega), if_neg (by omega), show wrap64 (32 - 16) = ((16 : Nat) : Int) by unfold wrap64; decide, if_pos (by omega), BitsP.shl32 _ 16 (by omega)]
  have e : shr .i32 (wrap32 (w * 2 ^ 16 % 4294967296)) ((16 : Nat) : Int) = wrap32 (w * 2 ^ 16 % 4294967296) / 2 ^ 16 := rfl
  rw [e]
  simp only [Int.reducePow]
  congr 1
  unfold wrap32
  split <;> omega
theorem sext_calls (op w : Int) (h0 : 0 ≤ w) (h : w < 4294967296) (ho : op = 28 ∨ op = 29) (W : World) :
    Calls Try.prog 126 #[.int .u32 w, .int .i64 (8 * (szS op : Int))] W fun e w' => e = .returned (.int .u32 (sextS op w)) ∧ ∃ n, w' = W.drewN n := by
  rcases ho with rfl | rfl
  · exact (PCpu.num_Sext.calls w 8 _ W (sext8 w h0 h)).mono fun e w' h => ⟨h.1, h.2.out⟩
  · exact (PCpu.num_Sext.calls w 16 _ W (sext16 w h0 h)).mono fun e w' h => ⟨h.1, h.2.out⟩
theorem e_set {eb : Nat} {pc word : Int} {d : Did} {w : World} (h : IsE eb pc word d w) (k a n : Int) :
    IsE eb pc word ⟨k, a, n⟩ (((w.setCell ⟨eb, 2, none⟩ (.int .i64 k)).setCell ⟨eb, 3, none⟩ (.int .u32 a)).setCell ⟨eb, 4, none⟩ (.int .i64 n)) := heap_set (heap_set (heap_set h))
theorem IsE.below {eb : Nat} {pc word : Int} {d : Did} {w w' : World} (h : IsE eb pc word d w) (hb : Below w.heap.size w w') : IsE eb pc word d w' := heap_below hb h
theorem IsE.but {eb : Nat} {pc word : Int} {d : Did} {l : List Nat} {w w' : World} (h : IsE eb pc word d w) (hb : But l w w') (n : eb ∉ l) : IsE eb pc word d w' := hb.heap n h
/-- Behind a put: the event was written in X, the machine behind it. -/
theorem dpost_of {b mb eb : Nat} {K : Bk} {F : List Int} {s s' : St} {pc word : Int} {d : Did} {e : Ending} {w X w' : World} (hee : e = .returned (.int .i64 0)) (h : Box b mb K F s w) (e0 : eb ≠ b) (e1 : eb ≠ mb) (e2 : eb ≠ K.fb) (e3 : eb ≠ K.rb)
    (hX : But [eb] w X) (hE : IsE eb pc word d X) (hm : IsM b ⟨mb, 0, none⟩ s'.pc s'.R w') (hB : But [b] X w') (ok : StOk K s') (hs : s'.M = s.M) : DPost b mb K F eb pc word (d, 0, s') w e w' := by
  have n1 := h.n1
  have n2 := h.n2
  have n3 := h.n3
  have m1 := h.mem.but hX (by simpa using Ne.symm e1) (by simpa using Ne.symm e2) (by simpa using Ne.symm e3)
  have m2 := m1.but hB (by simpa using Ne.symm n1) (by simpa using Ne.symm n2) (by simpa using Ne.symm n3)
  refine ⟨hee, ⟨hm, ?_, ok, n1, n2, n3, h.n4, h.n5⟩, hE.but hB (by simpa using e0), (hX.mono (by simp +contextual)).trans (hB.mono (by simp +contextual))⟩
  rw [hs]; exact m2
theorem dpost_trap {b mb eb : Nat} {K : Bk} {F : List Int} {s : St} {pc word t : Int} {e : Ending} {w w' : World} (hee : e = .returned (.int .i64 t)) (h : Box b mb K F s w) (he : IsE eb pc word no w) (hB : Below w.heap.size w w') : DPost b mb K F eb pc word (no, t, s) w e w' :=
  ⟨hee, h.below hB, he.below hB, But.of_below hB⟩
theorem sextS_bd (op w : Int) (h0 : 0 ≤ w) (h : w < 4294967296) : 0 ≤ sextS op w ∧ sextS op w < 4294967296 := by
  unfold sextS
  split
  · omega
  · split
    · omega
    · exact ⟨h0, h⟩
set_option maxHeartbeats 8000000 in
set_option maxRecDepth 100000 in
theorem loads_calls {b mb eb : Nat} {K : Bk} {F : List Int} {s : St} {pc word : Int} {w : World} (h : Box b mb K F s w) (i : Ins) (hi : InsOk i) (hop : 28 ≤ i.op ∧ i.op ≤ 32) (he : IsE eb pc word no w)
    (e0 : eb ≠ b) (e1 : eb ≠ mb) (e2 : eb ≠ K.fb) (e3 : eb ≠ K.rb) :
    Calls Try.prog 90 #[.pointer (some ⟨b, 0, none⟩), iv i, .pointer (some ⟨eb, 0, none⟩)] w (DPost b mb K F eb pc word (loadsT K F i s) w) := by
  obtain ⟨op, rd, rs1, rs2, imm⟩ := i
  have hr := h.ok.reg rs1
  have c := cell_of_heap h.m.1 (2 + rs1.toNat)
  rw [mcells_reg _ _ _ _ (by rw [h.m.2]; have := hi.a0; have := hi.a1; dsimp only at *; omega)] at c
  have c0 := cell_of_heap h.m.1 0
  rw [mcells_mem] at c0
  have q1 := hi.a0
  have q2 := hi.a1
  dsimp only at q1 q2 hop
  have d1 : decide (rs1 < 0) = false := decide_eq_false (by omega)
  have d2 : decide (32 ≤ rs1) = false := decide_eq_false (by omega)
  have Hs := Lib.hid (size_calls op)
  have hlb := lt_of_heap h.m.1
  have hle := lt_of_heap he
  have nb : ¬ w.heap.size = b := by omega
  unfold iv
  have ea : s.R.getD rs1.toNat 0 = s.reg rs1 := rfl
  rw [ea] at c
  have H := Lib.hid h
  have Hl := Lib.hid (fun (W : World) (hM : Mem mb K F s.M W) => load_calls hM ((s.reg rs1 + imm) % 4294967296) (by omega) (szS op) (szS_in op))
  have HE := Lib.hid he
  have he' : w.heap[eb]? = some (.cells (ecells pc word no) 35 (0, 0)) := he
  have hb' : w.heap[b]? = some (.cells (mcells ⟨mb, 0, none⟩ s.pc s.R) 112 (0, 0)) := h.m.1
  have hbd := loadS_bd h.mem.fl h.mem.rl h.mem.fbytes h.mem.rbytes ((s.reg rs1 + imm) % 4294967296) (szS op) (szS_in op)
  have hbd2 : 0 ≤ (loadS K F s.M ((s.reg rs1 + imm) % 4294967296) (szS op)).1 ∧ (loadS K F s.M ((s.reg rs1 + imm) % 4294967296) (szS op)).1 < 4294967296 := by
    refine ⟨hbd.1, Int.lt_of_lt_of_le hbd.2 ?_⟩
    rcases szS_in op with e | e | e <;> rw [e] <;> decide
  clear hbd
  have Hx := Lib.hid (fun (ho : op = 28 ∨ op = 29) (W : World) => sext_calls op _ hbd2.1 hbd2.2 ho W)
  have hR : loadsT K F ⟨op, rd, rs1, rs2, imm⟩ s = if (loadS K F s.M ((s.reg rs1 + imm) % 4294967296) (szS op)).2 = 0 then (⟨1, (s.reg rs1 + imm) % 4294967296, szS op⟩, 0, s.put rd (sextS op (loadS K F s.M ((s.reg rs1 + imm) % 4294967296) (szS op)).1)) else (no, (loadS K F s.M ((s.reg rs1 + imm) % 4294967296) (szS op)).2, s) := rfl
  rw [hR]
  generalize loadS K F s.M ((s.reg rs1 + imm) % 4294967296) (szS op) = vt at *
  obtain ⟨v, t⟩ := vt
  dsimp only at *
  generalize s.reg rs1 = a at *
  clear hR
  by_cases q : t = 0
  · subst q
    rw [if_pos rfl]
    have H4 : Hid (0 ≤ sextS op v ∧ sextS op v < 4294967296) := Lib.hid (sextS_bd op v hbd2.1 hbd2.2)
    have Hv := Lib.hid (show op ≠ 28 → op ≠ 29 → sextS op v = v from fun x y => by unfold sextS; rw [if_neg x, if_neg y])
    have hk4 : (szS op : Int) ≤ 4 := by have := szS_in op; omega
    have hk0 : 0 ≤ (szS op : Int) := by omega
    generalize sextS op v = z at *
    generalize szS op = k at *
    obtain ⟨r, hr'⟩ : ∃ r : Did × Int × St, (⟨⟨1, (a + imm) % 4294967296, (k : Int)⟩, 0, s.put rd z⟩ : Did × Int × St) = r := ⟨_, rfl⟩
    rw [hr']
    have Hr := Lib.hid hr'
    clear hr' h hop hbd2 he
    have fin : op = 28 ∨ op = 29 ∨ (op ≠ 28 ∧ op ≠ 29) := by omega
    rcases fin with rfl | rfl | ⟨o1, o2⟩
    · have o3 : ((28 : Int) == 28) = true := rfl
      replace Hx := Lib.hid (Hx.out (.inl rfl))
      go_enter Try.func90, Try.ntmps90
      go_wp2_with fail
      go_quiet ((go_at_call 125; exact Calls.quiet_of (Hs.out _)))
      go_wp2_with (first
        | (go_at_call 43; (refine (Hl.out _ (H.out.mem.below (by (repeat' (first | (with_reducible first | exact Below.refl _ _ | refine blQ ?_ _ | refine Below.drew ?_ | refine blO ?_ (by assumption) | refine Below.alloc ?_ ?_ _ | refine Below.setCell ?_ ?_ _ | refine Below.frame ?_ _) | omega | (simp only [zA, zS, zD, zQ]; omega)))))).mono ?_); rintro e w' ⟨rfl, hB⟩; apply kept_block hB (n := w.heap.size); (focus (repeat' (first | (with_reducible first | assumption | exact hpA _ _ _ rfl | refine hpN ?_ | refine hpD ?_) | ((with_reducible first | refine hpP ?_ ?_ | refine hpT ?_ ?_); (focus (first | omega | (simp [zA, zS, zD, zQ] <;> omega)))) | ((with_reducible refine hpA _ _ _ ?_); (focus (first | omega | (simp [zA, zS, zD, zQ] <;> omega)))) | ((with_reducible refine hpB ?_ ?_); (focus assumption)) | (with_reducible apply hpS)))); intro cr fr hr2 hz; simp at cr; apply kept_block hB (n := eb); (focus (repeat' (first | (with_reducible first | assumption | exact hpA _ _ _ rfl | refine hpN ?_ | refine hpD ?_) | ((with_reducible first | refine hpP ?_ ?_ | refine hpT ?_ ?_); (focus (first | omega | (simp [zA, zS, zD, zQ] <;> omega)))) | ((with_reducible refine hpA _ _ _ ?_); (focus (first | omega | (simp [zA, zS, zD, zQ] <;> omega)))) | ((with_reducible refine hpB ?_ ?_); (focus assumption)) | (with_reducible apply hpS)))); intro ce fe he2 hze; (have x2 : w'.cell? ⟨eb, 2, none⟩ = some (.int .i64 0) := ce 2); (have x3 : w'.cell? ⟨eb, 3, none⟩ = some (.int .u32 0) := ce 3); (have x4 : w'.cell? ⟨eb, 4, none⟩ = some (.int .i64 0) := ce 4); clear ce; apply kept_block hB (n := b); (focus (repeat' (first | (with_reducible first | assumption | exact hpA _ _ _ rfl | refine hpN ?_ | refine hpD ?_) | ((with_reducible first | refine hpP ?_ ?_ | refine hpT ?_ ?_); (focus (first | omega | (simp [zA, zS, zD, zQ] <;> omega)))) | ((with_reducible refine hpA _ _ _ ?_); (focus (first | omega | (simp [zA, zS, zD, zQ] <;> omega)))) | ((with_reducible refine hpB ?_ ?_); (focus assumption)) | (with_reducible apply hpS)))); intro cb fb hb2 hzb; clear cb fb)
        | (go_at_call 126; (with_reducible refine (Hx.out _).mono ?_); rintro e w' ⟨rfl, nx, rfl⟩)
        | (go_at_call 88; (refine (puts_calls (b := b) (m := ⟨mb, 0, none⟩) (pc := s.pc) (R := s.R) ⟨?_, H.out.m.2⟩ _ _).mono ?_); (focus (repeat' (first | (with_reducible first | assumption | exact hpA _ _ _ rfl | refine hpN ?_ | refine hpD ?_) | ((with_reducible first | refine hpP ?_ ?_ | refine hpT ?_ ?_); (focus (first | omega | (simp [zA, zS, zD, zQ] <;> omega)))) | ((with_reducible refine hpA _ _ _ ?_); (focus (first | omega | (simp [zA, zS, zD, zQ] <;> omega)))) | ((with_reducible refine hpB ?_ ?_); (focus assumption)) | (with_reducible apply hpS)))); rintro e w3 ⟨rfl, hM3, hB3⟩))
      go_returns
      rw [← Hr.out]
      exact dpost_of (by simp) H.out e0 e1 e2 e3 ((((But.of_below (by (repeat' (first | (with_reducible first | exact Below.refl _ _ | refine blQ ?_ _ | refine Below.drew ?_ | refine blO ?_ (by assumption) | refine Below.alloc ?_ ?_ _ | refine Below.setCell ?_ ?_ _ | refine Below.frame ?_ _) | omega | (simp only [zA, zS, zD, zQ]; omega))))).set _ _ (.inl (by simp))).set _ _ (.inl (by simp))).set _ _ (.inl (by simp))) (e_set (HE.out.below (by (repeat' (first | (with_reducible first | exact Below.refl _ _ | refine blQ ?_ _ | refine Below.drew ?_ | refine blO ?_ (by assumption) | refine Below.alloc ?_ ?_ _ | refine Below.setCell ?_ ?_ _ | refine Below.frame ?_ _) | omega | (simp only [zA, zS, zD, zQ]; omega))))) _ _ _) hM3 hB3 (H.out.ok.put _ _ H4.out) rfl
    · have o3 : ((29 : Int) == 28) = false := rfl
      have o4 : ((29 : Int) == 29) = true := rfl
      replace Hx := Lib.hid (Hx.out (.inr rfl))
      go_enter Try.func90, Try.ntmps90
      go_wp2_with fail
      go_quiet ((go_at_call 125; exact Calls.quiet_of (Hs.out _)))
      go_wp2_with (first
        | (go_at_call 43; (refine (Hl.out _ (H.out.mem.below (by (repeat' (first | (with_reducible first | exact Below.refl _ _ | refine blQ ?_ _ | refine Below.drew ?_ | refine blO ?_ (by assumption) | refine Below.alloc ?_ ?_ _ | refine Below.setCell ?_ ?_ _ | refine Below.frame ?_ _) | omega | (simp only [zA, zS, zD, zQ]; omega)))))).mono ?_); rintro e w' ⟨rfl, hB⟩; apply kept_block hB (n := w.heap.size); (focus (repeat' (first | (with_reducible first | assumption | exact hpA _ _ _ rfl | refine hpN ?_ | refine hpD ?_) | ((with_reducible first | refine hpP ?_ ?_ | refine hpT ?_ ?_); (focus (first | omega | (simp [zA, zS, zD, zQ] <;> omega)))) | ((with_reducible refine hpA _ _ _ ?_); (focus (first | omega | (simp [zA, zS, zD, zQ] <;> omega)))) | ((with_reducible refine hpB ?_ ?_); (focus assumption)) | (with_reducible apply hpS)))); intro cr fr hr2 hz; simp at cr; apply kept_block hB (n := eb); (focus (repeat' (first | (with_reducible first | assumption | exact hpA _ _ _ rfl | refine hpN ?_ | refine hpD ?_) | ((with_reducible first | refine hpP ?_ ?_ | refine hpT ?_ ?_); (focus (first | omega | (simp [zA, zS, zD, zQ] <;> omega)))) | ((with_reducible refine hpA _ _ _ ?_); (focus (first | omega | (simp [zA, zS, zD, zQ] <;> omega)))) | ((with_reducible refine hpB ?_ ?_); (focus assumption)) | (with_reducible apply hpS)))); intro ce fe he2 hze; (have x2 : w'.cell? ⟨eb, 2, none⟩ = some (.int .i64 0) := ce 2); (have x3 : w'.cell? ⟨eb, 3, none⟩ = some (.int .u32 0) := ce 3); (have x4 : w'.cell? ⟨eb, 4, none⟩ = some (.int .i64 0) := ce 4); clear ce; apply kept_block hB (n := b); (focus (repeat' (first | (with_reducible first | assumption | exact hpA _ _ _ rfl | refine hpN ?_ | refine hpD ?_) | ((with_reducible first | refine hpP ?_ ?_ | refine hpT ?_ ?_); (focus (first | omega | (simp [zA, zS, zD, zQ] <;> omega)))) | ((with_reducible refine hpA _ _ _ ?_); (focus (first | omega | (simp [zA, zS, zD, zQ] <;> omega)))) | ((with_reducible refine hpB ?_ ?_); (focus assumption)) | (with_reducible apply hpS)))); intro cb fb hb2 hzb; clear cb fb)
        | (go_at_call 126; (with_reducible refine (Hx.out _).mono ?_); rintro e w' ⟨rfl, nx, rfl⟩)
        | (go_at_call 88; (refine (puts_calls (b := b) (m := ⟨mb, 0, none⟩) (pc := s.pc) (R := s.R) ⟨?_, H.out.m.2⟩ _ _).mono ?_); (focus (repeat' (first | (with_reducible first | assumption | exact hpA _ _ _ rfl | refine hpN ?_ | refine hpD ?_) | ((with_reducible first | refine hpP ?_ ?_ | refine hpT ?_ ?_); (focus (first | omega | (simp [zA, zS, zD, zQ] <;> omega)))) | ((with_reducible refine hpA _ _ _ ?_); (focus (first | omega | (simp [zA, zS, zD, zQ] <;> omega)))) | ((with_reducible refine hpB ?_ ?_); (focus assumption)) | (with_reducible apply hpS)))); rintro e w3 ⟨rfl, hM3, hB3⟩))
      go_returns
      rw [← Hr.out]
      exact dpost_of (by simp) H.out e0 e1 e2 e3 ((((But.of_below (by (repeat' (first | (with_reducible first | exact Below.refl _ _ | refine blQ ?_ _ | refine Below.drew ?_ | refine blO ?_ (by assumption) | refine Below.alloc ?_ ?_ _ | refine Below.setCell ?_ ?_ _ | refine Below.frame ?_ _) | omega | (simp only [zA, zS, zD, zQ]; omega))))).set _ _ (.inl (by simp))).set _ _ (.inl (by simp))).set _ _ (.inl (by simp))) (e_set (HE.out.below (by (repeat' (first | (with_reducible first | exact Below.refl _ _ | refine blQ ?_ _ | refine Below.drew ?_ | refine blO ?_ (by assumption) | refine Below.alloc ?_ ?_ _ | refine Below.setCell ?_ ?_ _ | refine Below.frame ?_ _) | omega | (simp only [zA, zS, zD, zQ]; omega))))) _ _ _) hM3 hB3 (H.out.ok.put _ _ H4.out) rfl
    · obtain rfl := Hv.out o1 o2
      have o3 : (op == 28) = false := by simpa using o1
      have o4 : (op == 29) = false := by simpa using o2
      clear Hx o1 o2
      go_enter Try.func90, Try.ntmps90
      go_wp2_with fail
      go_quiet ((go_at_call 125; exact Calls.quiet_of (Hs.out _)))
      go_wp2_with (first
        | (go_at_call 43; (refine (Hl.out _ (H.out.mem.below (by (repeat' (first | (with_reducible first | exact Below.refl _ _ | refine blQ ?_ _ | refine Below.drew ?_ | refine blO ?_ (by assumption) | refine Below.alloc ?_ ?_ _ | refine Below.setCell ?_ ?_ _ | refine Below.frame ?_ _) | omega | (simp only [zA, zS, zD, zQ]; omega)))))).mono ?_); rintro e w' ⟨rfl, hB⟩; apply kept_block hB (n := w.heap.size); (focus (repeat' (first | (with_reducible first | assumption | exact hpA _ _ _ rfl | refine hpN ?_ | refine hpD ?_) | ((with_reducible first | refine hpP ?_ ?_ | refine hpT ?_ ?_); (focus (first | omega | (simp [zA, zS, zD, zQ] <;> omega)))) | ((with_reducible refine hpA _ _ _ ?_); (focus (first | omega | (simp [zA, zS, zD, zQ] <;> omega)))) | ((with_reducible refine hpB ?_ ?_); (focus assumption)) | (with_reducible apply hpS)))); intro cr fr hr2 hz; simp at cr; apply kept_block hB (n := eb); (focus (repeat' (first | (with_reducible first | assumption | exact hpA _ _ _ rfl | refine hpN ?_ | refine hpD ?_) | ((with_reducible first | refine hpP ?_ ?_ | refine hpT ?_ ?_); (focus (first | omega | (simp [zA, zS, zD, zQ] <;> omega)))) | ((with_reducible refine hpA _ _ _ ?_); (focus (first | omega | (simp [zA, zS, zD, zQ] <;> omega)))) | ((with_reducible refine hpB ?_ ?_); (focus assumption)) | (with_reducible apply hpS)))); intro ce fe he2 hze; (have x2 : w'.cell? ⟨eb, 2, none⟩ = some (.int .i64 0) := ce 2); (have x3 : w'.cell? ⟨eb, 3, none⟩ = some (.int .u32 0) := ce 3); (have x4 : w'.cell? ⟨eb, 4, none⟩ = some (.int .i64 0) := ce 4); clear ce; apply kept_block hB (n := b); (focus (repeat' (first | (with_reducible first | assumption | exact hpA _ _ _ rfl | refine hpN ?_ | refine hpD ?_) | ((with_reducible first | refine hpP ?_ ?_ | refine hpT ?_ ?_); (focus (first | omega | (simp [zA, zS, zD, zQ] <;> omega)))) | ((with_reducible refine hpA _ _ _ ?_); (focus (first | omega | (simp [zA, zS, zD, zQ] <;> omega)))) | ((with_reducible refine hpB ?_ ?_); (focus assumption)) | (with_reducible apply hpS)))); intro cb fb hb2 hzb; clear cb fb)
        | (go_at_call 88; (refine (puts_calls (b := b) (m := ⟨mb, 0, none⟩) (pc := s.pc) (R := s.R) ⟨?_, H.out.m.2⟩ _ _).mono ?_); (focus (repeat' (first | (with_reducible first | assumption | exact hpA _ _ _ rfl | refine hpN ?_ | refine hpD ?_) | ((with_reducible first | refine hpP ?_ ?_ | refine hpT ?_ ?_); (focus (first | omega | (simp [zA, zS, zD, zQ] <;> omega)))) | ((with_reducible refine hpA _ _ _ ?_); (focus (first | omega | (simp [zA, zS, zD, zQ] <;> omega)))) | ((with_reducible refine hpB ?_ ?_); (focus assumption)) | (with_reducible apply hpS)))); rintro e w3 ⟨rfl, hM3, hB3⟩))
      go_returns
      rw [← Hr.out]
      exact dpost_of (by simp) H.out e0 e1 e2 e3 ((((But.of_below (by (repeat' (first | (with_reducible first | exact Below.refl _ _ | refine blQ ?_ _ | refine Below.drew ?_ | refine blO ?_ (by assumption) | refine Below.alloc ?_ ?_ _ | refine Below.setCell ?_ ?_ _ | refine Below.frame ?_ _) | omega | (simp only [zA, zS, zD, zQ]; omega))))).set _ _ (.inl (by simp))).set _ _ (.inl (by simp))).set _ _ (.inl (by simp))) (e_set (HE.out.below (by (repeat' (first | (with_reducible first | exact Below.refl _ _ | refine blQ ?_ _ | refine Below.drew ?_ | refine blO ?_ (by assumption) | refine Below.alloc ?_ ?_ _ | refine Below.setCell ?_ ?_ _ | refine Below.frame ?_ _) | omega | (simp only [zA, zS, zD, zQ]; omega))))) _ _ _) hM3 hB3 (H.out.ok.put _ _ H4.out) rfl
  · rw [if_neg q]
    have q1 : (t != 0) = true := by simpa using q
    obtain ⟨r, hr'⟩ : ∃ r : Did × Int × St, (⟨no, t, s⟩ : Did × Int × St) = r := ⟨_, rfl⟩
    rw [hr']
    have Hr := Lib.hid hr'
    clear hr' h hop hbd2 he q
    generalize szS op = k at *
    go_enter Try.func90, Try.ntmps90
    go_wp2_with fail
    go_quiet ((go_at_call 125; exact Calls.quiet_of (Hs.out _)))
    go_wp2_with (first
      | (go_at_call 43; (refine (Hl.out _ (H.out.mem.below (by (repeat' (first | (with_reducible first | exact Below.refl _ _ | refine blQ ?_ _ | refine Below.drew ?_ | refine blO ?_ (by assumption) | refine Below.alloc ?_ ?_ _ | refine Below.setCell ?_ ?_ _ | refine Below.frame ?_ _) | omega | (simp only [zA, zS, zD, zQ]; omega)))))).mono ?_); rintro e w' ⟨rfl, hB⟩))
    go_returns
    rw [← Hr.out]
    exact dpost_trap (by simp) H.out HE.out (by (repeat' (first | (with_reducible first | exact Below.refl _ _ | refine blQ ?_ _ | refine Below.drew ?_ | refine blO ?_ (by assumption) | refine Below.alloc ?_ ?_ _ | refine Below.setCell ?_ ?_ _ | refine Below.frame ?_ _) | omega | (simp only [zA, zS, zD, zQ]; omega))))
end Go.Proofs.Ytioopcilcgebeaa.CpuA
/-! #### CpuD -/
namespace Go.Proofs.Ytioopcilcgebeaa.CpuA
open Go.RowKit Go.Proofs.Ytioopcilcgebeaa.Base Go.Proofs.Ytioopcilcgebeaa.InstS Go.Proofs.Ytioopcilcgebeaa.InstA Go.Proofs.Ytioopcilcgebeaa.AluP Go.Proofs.YtioopcilcgebeaaW.PrintWords

theorem But.cell {l : List Nat} {a b : World} {p : Nat} {i : Nat} (h : But l a b) (hl : p ∉ l) (hp : p < a.heap.size) : b.cell? ⟨p, i, none⟩ = a.cell? ⟨p, i, none⟩ := by
  have e := h.block p hp hl
  simp [World.cell?, e]
theorem dpost_store {b mb eb : Nat} {K : Bk} {F : List Int} {s s' : St} {pc word : Int} {d : Did} {e : Ending} {w X w' : World} (hee : e = .returned (.int .i64 0)) (h : Box b mb K F s w) (e0 : eb ≠ b) 
    (hX : But [K.rb, eb] w X) (hMX : Mem mb K F s'.M X) (hE : IsE eb pc word d X) (hm : IsM b ⟨mb, 0, none⟩ s'.pc s'.R w') (hB : But [b] X w') (ok : StOk K s') : DPost b mb K F eb pc word (d, 0, s') w e w' := by
  have n1 := h.n1
  have n2 := h.n2
  have n3 := h.n3
  have m2 := hMX.but hB (by simpa using Ne.symm n1) (by simpa using Ne.symm n2) (by simpa using Ne.symm n3)
  exact ⟨hee, ⟨hm, m2, ok, n1, n2, n3, h.n4, h.n5⟩, hE.but hB (by simpa using e0), (hX.mono (by simp +contextual)).trans (hB.mono (by simp +contextual))⟩
set_option maxHeartbeats 8000000 in
set_option maxRecDepth 100000 in
theorem stores_calls {b mb eb : Nat} {K : Bk} {F : List Int} {s : St} {pc word : Int} {w : World} (h : Box b mb K F s w) (i : Ins) (hi : InsOk i) (he : IsE eb pc word no w)
    (e0 : eb ≠ b) (e1 : eb ≠ mb) (e2 : eb ≠ K.fb) (e3 : eb ≠ K.rb) :
    Calls Try.prog 91 #[.pointer (some ⟨b, 0, none⟩), iv i, .pointer (some ⟨eb, 0, none⟩)] w (DPost b mb K F eb pc word (storesT K i s) w) := by
  obtain ⟨op, rd, rs1, rs2, imm⟩ := i
  have hr := h.ok.reg rs1
  have hr2 := h.ok.reg rs2
  have q1 := hi.a0
  have q2 := hi.a1
  have q3 := hi.b0
  have q4 := hi.b1
  dsimp only at q1 q2 q3 q4
  have c := cell_of_heap h.m.1 (2 + rs1.toNat)
  rw [mcells_reg _ _ _ _ (by rw [h.m.2]; omega)] at c
  have c2 := cell_of_heap h.m.1 (2 + rs2.toNat)
  rw [mcells_reg _ _ _ _ (by rw [h.m.2]; omega)] at c2
  have c0 := cell_of_heap h.m.1 0
  rw [mcells_mem] at c0
  have d1 : decide (rs1 < 0) = false := decide_eq_false (by omega)
  have d2 : decide (32 ≤ rs1) = false := decide_eq_false (by omega)
  have d3 : decide (rs2 < 0) = false := decide_eq_false (by omega)
  have d4 : decide (32 ≤ rs2) = false := decide_eq_false (by omega)
  have Hs := Lib.hid (size_calls op)
  have hlb := lt_of_heap h.m.1
  have hle := lt_of_heap he
  have hlr := lt_of_heap h.mem.ram
  have nb : ¬ w.heap.size = b := by omega
  unfold iv
  have ea : s.R.getD rs1.toNat 0 = s.reg rs1 := rfl
  rw [ea] at c
  have ea2 : s.R.getD rs2.toNat 0 = s.reg rs2 := rfl
  rw [ea2] at c2
  clear ea ea2
  have H := Lib.hid h
  have Hl := Lib.hid (fun (W : World) (hM : Mem mb K F s.M W) => store_calls hM ⟨h.n4, h.n5⟩ ((s.reg rs1 + imm) % 4294967296) (s.reg rs2) (by omega) (szS op) (szS_in op) hr2)
  have HE := Lib.hid he
  have he' : w.heap[eb]? = some (.cells (ecells pc word no) 35 (0, 0)) := he
  have hb' : w.heap[b]? = some (.cells (mcells ⟨mb, 0, none⟩ s.pc s.R) 112 (0, 0)) := h.m.1
  have hok := Lib.hid (h.ok.mem ((s.reg rs1 + imm) % 4294967296) (s.reg rs2) (szS op))
  have hR : storesT K ⟨op, rd, rs1, rs2, imm⟩ s = if (storeS K s.M ((s.reg rs1 + imm) % 4294967296) (s.reg rs2) (szS op)).1 = 0 then (⟨2, (s.reg rs1 + imm) % 4294967296, szS op⟩, 0, St.put ⟨s.pc, s.R, (storeS K s.M ((s.reg rs1 + imm) % 4294967296) (s.reg rs2) (szS op)).2⟩ 0 0) else (no, (storeS K s.M ((s.reg rs1 + imm) % 4294967296) (s.reg rs2) (szS op)).1, s) := rfl
  rw [hR]
  have hk4 : (szS op : Int) ≤ 4 := by have := szS_in op; omega
  have hk0 : 0 ≤ (szS op : Int) := by omega
  have hM' : (storeS K s.M ((s.reg rs1 + imm) % 4294967296) (s.reg rs2) (szS op)).1 ≠ 0 → (storeS K s.M ((s.reg rs1 + imm) % 4294967296) (s.reg rs2) (szS op)).2 = s.M := by
    unfold storeS
    split
    · split
      · exact fun h => absurd rfl h
      · exact fun _ => rfl
    · exact fun _ => rfl
  generalize storeS K s.M ((s.reg rs1 + imm) % 4294967296) (s.reg rs2) (szS op) = vt at *
  obtain ⟨t, M'⟩ := vt
  dsimp only at *
  generalize s.reg rs1 = a at *
  generalize s.reg rs2 = z at *
  generalize szS op = k at *
  clear hR
  by_cases q : t = 0
  · subst q
    rw [if_pos rfl]
    obtain ⟨r, hr'⟩ : ∃ r : Did × Int × St, (⟨⟨2, (a + imm) % 4294967296, (k : Int)⟩, 0, St.put ⟨s.pc, s.R, M'⟩ 0 0⟩ : Did × Int × St) = r := ⟨_, rfl⟩
    rw [hr']
    have Hr := Lib.hid hr'
    clear hr' h he hM'
    go_enter Try.func91, Try.ntmps91
    go_wp2_with fail
    go_quiet ((go_at_call 125; exact Calls.quiet_of (Hs.out _)))
    go_wp2_with fail
    refine region_tail (fun n => (w.alloc _).drewN n) 13 rfl (by kernel_rfl) ⟨nq + 1, rfl⟩ ?_
    simp only [List.take_succ_cons, List.take_zero, List.drop_succ_cons, List.drop_zero]
    repeat (go_big_quiet_step (fail))
    refine wpQuiet_nil ?_
    intro n2
    go_wp2_with (first
      | (go_at_call 127; (refine (Hl.out _ (H.out.mem.below (by (repeat' (first | (with_reducible first | exact Below.refl _ _ | refine blQ ?_ _ | refine Below.drew ?_ | refine blO ?_ (by assumption) | refine Below.alloc ?_ ?_ _ | refine Below.setCell ?_ ?_ _ | refine Below.frame ?_ _) | omega | (simp only [zA, zS, zD, zQ]; omega)))))).mono ?_); rintro e w' ⟨rfl, hM, hB⟩; have HM := Lib.hid hM; clear hM; have xe := hB.heap (n := eb) (by simpa using e3) (by (repeat' (first | (with_reducible first | assumption | exact hpA _ _ _ rfl | refine hpN ?_ | refine hpD ?_) | ((with_reducible first | refine hpP ?_ ?_ | refine hpT ?_ ?_); (focus (first | omega | (simp [zA, zS, zD, zQ] <;> omega)))) | ((with_reducible refine hpA _ _ _ ?_); (focus (first | omega | (simp [zA, zS, zD, zQ] <;> omega)))) | ((with_reducible refine hpB ?_ ?_); (focus assumption)) | (with_reducible apply hpS))) : _ = some (Obj.cells (ecells pc word no) 35 (0, 0))); have xb := hB.heap (n := b) (by simpa using H.out.n3) (by (repeat' (first | (with_reducible first | assumption | exact hpA _ _ _ rfl | refine hpN ?_ | refine hpD ?_) | ((with_reducible first | refine hpP ?_ ?_ | refine hpT ?_ ?_); (focus (first | omega | (simp [zA, zS, zD, zQ] <;> omega)))) | ((with_reducible refine hpA _ _ _ ?_); (focus (first | omega | (simp [zA, zS, zD, zQ] <;> omega)))) | ((with_reducible refine hpB ?_ ?_); (focus assumption)) | (with_reducible apply hpS))) : _ = some (Obj.cells (mcells ⟨mb, 0, none⟩ s.pc s.R) 112 (0, 0))); (have x2 : w'.cell? ⟨eb, 2, none⟩ = some (.int .i64 0) := cell_of_heap xe 2); (have x3 : w'.cell? ⟨eb, 3, none⟩ = some (.int .u32 0) := cell_of_heap xe 3); (have x4 : w'.cell? ⟨eb, 4, none⟩ = some (.int .i64 0) := cell_of_heap xe 4); have fe := frozen_of_heap xe)
      | (go_at_call 88; (refine (puts_calls (b := b) (m := ⟨mb, 0, none⟩) (pc := s.pc) (R := s.R) ⟨?_, H.out.m.2⟩ _ _).mono ?_); (focus (repeat' (first | (with_reducible first | assumption | exact hpA _ _ _ rfl | refine hpN ?_ | refine hpD ?_) | ((with_reducible first | refine hpP ?_ ?_ | refine hpT ?_ ?_); (focus (first | omega | (simp [zA, zS, zD, zQ] <;> omega)))) | ((with_reducible refine hpA _ _ _ ?_); (focus (first | omega | (simp [zA, zS, zD, zQ] <;> omega)))) | ((with_reducible refine hpB ?_ ?_); (focus assumption)) | (with_reducible apply hpS)))); rintro e w3 ⟨rfl, hM3, hB3⟩))
    go_returns
    rw [← Hr.out]
    have b1 : But [K.rb] w w' := (But.of_below (by (repeat' (first | (with_reducible first | exact Below.refl _ _ | refine blQ ?_ _ | refine Below.drew ?_ | refine blO ?_ (by assumption) | refine Below.alloc ?_ ?_ _ | refine Below.setCell ?_ ?_ _ | refine Below.frame ?_ _) | omega | (simp only [zA, zS, zD, zQ]; omega))))).trans hB
    have b2 : ∀ {X : World}, But [K.rb] w X → But [K.rb, eb] w X := fun h => h.mono (by simp +contextual)
    have b3 : But [eb] w' (((w'.setCell ⟨eb, 2, none⟩ (.int .i64 2)).setCell ⟨eb, 3, none⟩ (.int .u32 ((a + imm) % 4294967296))).setCell ⟨eb, 4, none⟩ (.int .i64 k)) := (((But.refl _ _).set _ _ (.inl (by simp))).set _ _ (.inl (by simp))).set _ _ (.inl (by simp))
    exact dpost_store (by simp) H.out e0 ((b2 b1).trans (b3.mono (by simp +contextual))) (HM.out.but b3 (by simpa using Ne.symm e1) (by simpa using Ne.symm e2) (by simpa using Ne.symm e3)) (e_set (HE.out.but b1 (by simpa using e3)) _ _ _) hM3 hB3 (hok.out.put _ _ (by omega))
  · rw [if_neg q]
    have q1 : (t != 0) = true := by simpa using q
    obtain ⟨r, hr'⟩ : ∃ r : Did × Int × St, (⟨no, t, s⟩ : Did × Int × St) = r := ⟨_, rfl⟩
    rw [hr']
    have Hr := Lib.hid hr'
    have HM' := Lib.hid (show M' = s.M from hM' q)
    clear hr' h he q hM'
    go_enter Try.func91, Try.ntmps91
    go_wp2_with fail
    go_quiet ((go_at_call 125; exact Calls.quiet_of (Hs.out _)))
    go_wp2_with fail
    refine region_tail (fun n => (w.alloc _).drewN n) 13 rfl (by kernel_rfl) ⟨nq + 1, rfl⟩ ?_
    simp only [List.take_succ_cons, List.take_zero, List.drop_succ_cons, List.drop_zero]
    repeat (go_big_quiet_step (fail))
    refine wpQuiet_nil ?_
    intro n2
    go_wp2_with (first
      | (go_at_call 127; (refine (Hl.out _ (H.out.mem.below (by (repeat' (first | (with_reducible first | exact Below.refl _ _ | refine blQ ?_ _ | refine Below.drew ?_ | refine blO ?_ (by assumption) | refine Below.alloc ?_ ?_ _ | refine Below.setCell ?_ ?_ _ | refine Below.frame ?_ _) | omega | (simp only [zA, zS, zD, zQ]; omega)))))).mono ?_); rintro e w' ⟨rfl, hM, hB⟩; have HM := Lib.hid hM; clear hM))
    go_returns
    rw [← Hr.out]
    have b1 : But [K.rb] w w' := (But.of_below (by (repeat' (first | (with_reducible first | exact Below.refl _ _ | refine blQ ?_ _ | refine Below.drew ?_ | refine blO ?_ (by assumption) | refine Below.alloc ?_ ?_ _ | refine Below.setCell ?_ ?_ _ | refine Below.frame ?_ _) | omega | (simp only [zA, zS, zD, zQ]; omega))))).trans hB
    refine ⟨by simp, ⟨⟨b1.heap (by simpa using H.out.n3) H.out.m.1, H.out.m.2⟩, ?_, H.out.ok, H.out.n1, H.out.n2, H.out.n3, H.out.n4, H.out.n5⟩, HE.out.but b1 (by simpa using e3), b1.mono (by simp +contextual)⟩
    rw [← HM'.out]
    exact HM.out
end Go.Proofs.Ytioopcilcgebeaa.CpuA
