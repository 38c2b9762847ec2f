/- Proofs of this claim's family, merged: CpuE. -/
import Derived.Test.YtioopcilcgebeaaKO
set_option linter.unusedVariables false
set_option linter.unusedSimpArgs false
/-! #### CpuE -/
namespace Go.Proofs.Ytioopcilcgebeaa.CpuA
open Go.RowKit Go.Proofs.Ytioopcilcgebeaa.Base Go.Proofs.Ytioopcilcgebeaa.InstS Go.Proofs.Ytioopcilcgebeaa.InstA Go.Proofs.Ytioopcilcgebeaa.AluP Go.Proofs.YtioopcilcgebeaaW.PrintWords

theorem Alu_calls (op a b : Int) (hop : 1 ≤ op ∧ op ≤ 18) (h0 : 0 ≤ a ∧ a < 4294967296) (k0 : 0 ≤ b ∧ b < 4294967296) (w : World) :
    Calls Try.prog 87 #[.int .i64 op, .int .u32 a, .int .u32 b] w fun e w' => e = .returned (.tuple #[.int .u32 (aluS op a b), .bool true]) ∧ ∃ n, w' = w.drewN n :=
  (PCpu.num_Alu.calls 3 op a b _ _ w (Alu_eq 0 op a b hop h0.1 h0.2 k0.1 k0.2)).mono fun e w' h => ⟨h.1, h.2.out⟩
theorem plain_calls (op : Int) (w : World) : Calls Try.prog 89 #[.int .i64 op] w fun e w' => e = .returned (.int .i64 (plainS op)) ∧ ∃ n, w' = w.drewN n := by
  refine (PCpu.cpu_plain.calls op (plainS op) w ?_).mono fun e w' h => ⟨h.1, h.2.out⟩
  unfold PCpu.cpu_plain.f plainS
  split <;> (try rfl)
  split <;> (try rfl)
  split <;> (try rfl)
  split <;> (try rfl)
  split <;> (try rfl)
  split <;> (try rfl)
  split <;> (try rfl)
  split <;> rfl
theorem takes_calls (op a b : Int) (h0 : 0 ≤ a ∧ a < 4294967296) (k0 : 0 ≤ b ∧ b < 4294967296) (w : World) : Calls Try.prog 92 #[.int .i64 op, .int .u32 a, .int .u32 b] w fun e w' => e = .returned (.bool (takesS op a b)) ∧ ∃ n, w' = w.drewN n := by
  refine (PCpu.cpu_takes.calls op a b (takesS op a b) w ?_).mono fun e w' h => ⟨h.1, h.2.out⟩
  unfold PCpu.cpu_takes.f takesS
  rw [w32 a h0.1 h0.2, w32 b k0.1 k0.2]
  have e1 : (a == b) = decide (a = b) := by by_cases h : a = b <;> simp [h]
  have e2 : (a != b) = !decide (a = b) := by by_cases h : a = b <;> simp [h]
  rw [e1, e2]
  split <;> (try rfl)
  split <;> (try rfl)
  split <;> (try rfl)
  split <;> (try rfl)
  split <;> rfl
theorem goes_yes {b : Nat} {m : Addr} {pc : Int} {R : List Int} {w : World} (h : IsM b m pc R w) (dst n : Int) (h0 : 0 ≤ dst) (h4 : dst % 4 = 0) : Calls Try.prog 93 #[.pointer (some ⟨b, 0, none⟩), .int .u32 dst, .int .i64 n] w fun e w' => e = .returned (.int .i64 0) ∧ IsM b m dst (setR R n ((pc + 4) % 4294967296)) w' ∧ But [b] w w' := by
  refine (goes_calls h dst n h0).mono fun e w' hh => ?_
  rw [if_pos h4] at hh; exact hh
theorem goes_no {b : Nat} {m : Addr} {pc : Int} {R : List Int} {w : World} (h : IsM b m pc R w) (dst n : Int) (h0 : 0 ≤ dst) (h4 : ¬ dst % 4 = 0) : Calls Try.prog 93 #[.pointer (some ⟨b, 0, none⟩), .int .u32 dst, .int .i64 n] w fun e w' => e = .returned (.int .i64 1) ∧ w' = w := by
  refine (goes_calls h dst n h0).mono fun e w' hh => ?_
  rw [if_neg h4] at hh; exact hh
theorem andnot1 (x : Int) (h0 : 0 ≤ x) (h : x < 4294967296) : Go.bits .andNot .u32 x 1 = x / 2 * 2 := by
  rw [u32_andNot x 1 h0 h (by omega) (by omega)]
  show ((x.toNat &&& (4294967295 - 1) : Nat) : Int) = _
  have hd : (x.toNat &&& 4294967294) / 2 = x.toNat / 2 := by
    rw [Nat.and_div_two, show 4294967294 / 2 = 2 ^ 31 - 1 from rfl, Nat.and_two_pow_sub_one_eq_mod, Nat.mod_eq_of_lt (by omega)]
  have hm : (x.toNat &&& 4294967294) % 2 = 0 := by
    have e := Nat.and_mod_two_eq_one (a := x.toNat) (b := 4294967294)
    rcases Nat.mod_two_eq_zero_or_one (x.toNat &&& 4294967294) with z | z
    · exact z
    · have := (e.1 z).2; omega
  show ((x.toNat &&& 4294967294 : Nat) : Int) = _
  omega
theorem dpost_trans {b mb eb : Nat} {K : Bk} {F : List Int} {pc word : Int} {r : Did × Int × St} {e : Ending} {w X w' : World} (hB : Below w.heap.size w X) (h : DPost b mb K F eb pc word r X e w') : DPost b mb K F eb pc word r w e w' :=
  ⟨h.1, h.2.1, h.2.2.1, (But.of_below hB).trans h.2.2.2⟩
set_option maxHeartbeats 8000000 in
set_option maxRecDepth 100000 in
theorem does_calls {b mb eb : Nat} {K : Bk} {F : List Int} {s : St} {pc word : Int} {w : World} (h : Box b mb K F s w) (i : Ins) (hi : InsOk i) (he : IsE eb pc word no w)
    (e0 : eb ≠ b) (e1 : eb ≠ mb) (e2 : eb ≠ K.fb) (e3 : eb ≠ K.rb) :
    Calls Try.prog 58 #[.pointer (some ⟨b, 0, none⟩), iv i, .pointer (some ⟨eb, 0, none⟩)] w (DPost b mb K F eb pc word (doesT K F i s) w) := by
  obtain ⟨op, rd, rs1, rs2, imm⟩ := i
  have hr := h.ok.reg rs1
  have hr2 := h.ok.reg rs2
  have hp0 := h.ok.pc0
  have hp1 := h.ok.pc1
  have q1 := hi.a0
  have q2 := hi.a1
  have q3 := hi.b0
  have q4 := hi.b1
  have o1 := hi.op0
  have o2 := hi.op1
  dsimp only at q1 q2 q3 q4 o1 o2
  have c := cell_of_heap h.m.1 (2 + rs1.toNat)
  rw [mcells_reg _ _ _ _ (by rw [h.m.2]; omega)] at c
  have c2 := cell_of_heap h.m.1 (2 + rs2.toNat)
  rw [mcells_reg _ _ _ _ (by rw [h.m.2]; omega)] at c2
  have c0 := cell_of_heap h.m.1 0
  rw [mcells_mem] at c0
  have c1 := cell_of_heap h.m.1 1
  rw [mcells_pc] at c1
  have d1 : decide (rs1 < 0) = false := decide_eq_false (by omega)
  have d2 : decide (32 ≤ rs1) = false := decide_eq_false (by omega)
  have d3 : decide (rs2 < 0) = false := decide_eq_false (by omega)
  have d4 : decide (32 ≤ rs2) = false := decide_eq_false (by omega)
  have hlb := lt_of_heap h.m.1
  have hle := lt_of_heap he
  have hlr := lt_of_heap h.mem.ram
  have nb : ¬ w.heap.size = b := by omega
  have ea : s.R.getD rs1.toNat 0 = s.reg rs1 := rfl
  rw [ea] at c
  have ea2 : s.R.getD rs2.toNat 0 = s.reg rs2 := rfl
  rw [ea2] at c2
  clear ea ea2
  have H := Lib.hid h
  have HE := Lib.hid he
  have hb' : w.heap[b]? = some (.cells (mcells ⟨mb, 0, none⟩ s.pc s.R) 112 (0, 0)) := h.m.1
  by_cases g1 : op ≤ 18
  · have hR : doesT K F ⟨op, rd, rs1, rs2, imm⟩ s = (no, 0, s.put rd (aluS op (s.reg rs1) (s.reg rs2))) := if_pos g1
    rw [hR]
    clear hR
    have hz := aluS_bd op _ _ ⟨o1, g1⟩ hr.1 hr.2 hr2.1 hr2.2
    have Ha := Lib.hid (Alu_calls op _ _ ⟨o1, g1⟩ hr hr2)
    have t1 : decide (op ≤ 18) = true := decide_eq_true g1
    generalize aluS op (s.reg rs1) (s.reg rs2) = z at *
    generalize s.reg rs1 = a at *
    generalize s.reg rs2 = a2 at *
    obtain ⟨r, hr'⟩ : ∃ r : Did × Int × St, (no, 0, s.put rd z) = r := ⟨_, rfl⟩
    rw [hr']
    have Hr := Lib.hid hr'
    clear hr' h he g1
    unfold iv
    go_enter Try.func58, Try.ntmps58
    go_wp2_with fail
    go_quiet (fail)
    go_wp2_with (first
      | (go_at_call 87; (with_reducible refine (Ha.out _).mono ?_); rintro e w' ⟨rfl, nx, rfl⟩)
      | (go_at_call 88; (refine (puts_calls (b := b) (m := ⟨mb, 0, none⟩) (pc := s.pc) (R := s.R) ⟨?_, H.out.m.2⟩ _ _).mono ?_); (focus (repeat' (first | (with_reducible first | assumption | exact hpA _ _ _ rfl | refine hpN ?_ | refine hpD ?_) | ((with_reducible first | refine hpP ?_ ?_ | refine hpT ?_ ?_); (focus (first | omega | (simp [zA, zS, zD, zQ] <;> omega)))) | ((with_reducible refine hpA _ _ _ ?_); (focus (first | omega | (simp [zA, zS, zD, zQ] <;> omega)))) | ((with_reducible refine hpB ?_ ?_); (focus assumption)) | (with_reducible apply hpS)))); rintro e w3 ⟨rfl, hM3, hB3⟩))
    go_returns
    rw [← Hr.out]
    have Y := Lib.hid hz
    exact dpost_of (by simp) H.out e0 e1 e2 e3 (But.of_below (by (repeat' (first | (with_reducible first | exact Below.refl _ _ | refine blQ ?_ _ | refine Below.drew ?_ | refine blO ?_ (by assumption) | refine Below.alloc ?_ ?_ _ | refine Below.setCell ?_ ?_ _ | refine Below.frame ?_ _) | omega | (simp only [zA, zS, zD, zQ]; omega))))) (HE.out.below (by (repeat' (first | (with_reducible first | exact Below.refl _ _ | refine blQ ?_ _ | refine Below.drew ?_ | refine blO ?_ (by assumption) | refine Below.alloc ?_ ?_ _ | refine Below.setCell ?_ ?_ _ | refine Below.frame ?_ _) | omega | (simp only [zA, zS, zD, zQ]; omega))))) hM3 hB3 (H.out.ok.put _ _ hz) rfl
  have t1 : decide (op ≤ 18) = false := decide_eq_false g1
  by_cases g2 : op ≤ 27
  · have hR : doesT K F ⟨op, rd, rs1, rs2, imm⟩ s = (no, 0, s.put rd (aluS (plainS op) (s.reg rs1) (imm % 4294967296))) := by unfold doesT; rw [if_neg g1, if_pos g2]
    rw [hR]
    clear hR
    have hpl : 1 ≤ plainS op ∧ plainS op ≤ 18 := by unfold plainS; (repeat' split) <;> omega
    have hn : 0 ≤ imm % 4294967296 ∧ imm % 4294967296 < 4294967296 := by omega
    have hz := aluS_bd (plainS op) _ _ hpl hr.1 hr.2 hn.1 hn.2
    have Ha := Lib.hid (Alu_calls (plainS op) _ _ hpl hr hn)
    have Hp := Lib.hid (plain_calls op)
    have t2 : decide (op ≤ 27) = true := decide_eq_true g2
    generalize aluS (plainS op) (s.reg rs1) (imm % 4294967296) = z at *
    generalize plainS op = po at *
    clear hn hpl
    generalize s.reg rs1 = a at *
    generalize s.reg rs2 = a2 at *
    obtain ⟨r, hr'⟩ : ∃ r : Did × Int × St, (no, 0, s.put rd z) = r := ⟨_, rfl⟩
    rw [hr']
    have Hr := Lib.hid hr'
    clear hr' h he g1 g2
    unfold iv
    go_enter Try.func58, Try.ntmps58
    go_wp2_with fail
    go_quiet (fail)
    go_wp2_with (first
      | (go_at_call 87; (with_reducible refine (Ha.out _).mono ?_); rintro e w' ⟨rfl, nx, rfl⟩)
      | (go_at_call 89; (with_reducible refine (Hp.out _).mono ?_); rintro e w' ⟨rfl, np, rfl⟩)
      | (go_at_call 88; (refine (puts_calls (b := b) (m := ⟨mb, 0, none⟩) (pc := s.pc) (R := s.R) ⟨?_, H.out.m.2⟩ _ _).mono ?_); (focus (repeat' (first | (with_reducible first | assumption | exact hpA _ _ _ rfl | refine hpN ?_ | refine hpD ?_) | ((with_reducible first | refine hpP ?_ ?_ | refine hpT ?_ ?_); (focus (first | omega | (simp [zA, zS, zD, zQ] <;> omega)))) | ((with_reducible refine hpA _ _ _ ?_); (focus (first | omega | (simp [zA, zS, zD, zQ] <;> omega)))) | ((with_reducible refine hpB ?_ ?_); (focus assumption)) | (with_reducible apply hpS)))); rintro e w3 ⟨rfl, hM3, hB3⟩))
    go_returns
    rw [← Hr.out]
    exact dpost_of (by simp) H.out e0 e1 e2 e3 (But.of_below (by (repeat' (first | (with_reducible first | exact Below.refl _ _ | refine blQ ?_ _ | refine Below.drew ?_ | refine blO ?_ (by assumption) | refine Below.alloc ?_ ?_ _ | refine Below.setCell ?_ ?_ _ | refine Below.frame ?_ _) | omega | (simp only [zA, zS, zD, zQ]; omega))))) (HE.out.below (by (repeat' (first | (with_reducible first | exact Below.refl _ _ | refine blQ ?_ _ | refine Below.drew ?_ | refine blO ?_ (by assumption) | refine Below.alloc ?_ ?_ _ | refine Below.setCell ?_ ?_ _ | refine Below.frame ?_ _) | omega | (simp only [zA, zS, zD, zQ]; omega))))) hM3 hB3 (H.out.ok.put _ _ hz) rfl
  have t2 : decide (op ≤ 27) = false := decide_eq_false g2
  by_cases g3 : op ≤ 32
  · have hR : doesT K F ⟨op, rd, rs1, rs2, imm⟩ s = loadsT K F ⟨op, rd, rs1, rs2, imm⟩ s := by unfold doesT; rw [if_neg g1, if_neg g2, if_pos g3]
    rw [hR]
    clear hR
    have t3 : decide (op ≤ 32) = true := decide_eq_true g3
    have Hl := Lib.hid (fun W (hB : Below w.heap.size w W) => loads_calls (h.below hB) ⟨op, rd, rs1, rs2, imm⟩ hi ⟨by dsimp only; omega, g3⟩ (he.below hB) e0 e1 e2 e3)
    generalize loadsT K F ⟨op, rd, rs1, rs2, imm⟩ s = r at *
    generalize s.reg rs1 = a at *
    generalize s.reg rs2 = a2 at *
    clear h he g1 g2 g3
    unfold iv at *
    go_enter Try.func58, Try.ntmps58
    go_wp2_with fail
    go_quiet (fail)
    go_wp2_with (first
      | (go_at_call 90; (with_reducible refine (Hl.out _ ?_).mono ?_); (focus (repeat' (first | (with_reducible first | exact Below.refl _ _ | refine blQ ?_ _ | refine Below.drew ?_ | refine blO ?_ (by assumption) | refine Below.alloc ?_ ?_ _ | refine Below.setCell ?_ ?_ _ | refine Below.frame ?_ _) | omega | (simp only [zA, zS, zD, zQ]; omega)))); rintro e w' ⟨rfl, hD⟩))
    go_returns
    exact dpost_trans (by (repeat' (first | (with_reducible first | exact Below.refl _ _ | refine blQ ?_ _ | refine Below.drew ?_ | refine blO ?_ (by assumption) | refine Below.alloc ?_ ?_ _ | refine Below.setCell ?_ ?_ _ | refine Below.frame ?_ _) | omega | (simp only [zA, zS, zD, zQ]; omega)))) ⟨by simp, hD⟩
  have t3 : decide (op ≤ 32) = false := decide_eq_false g3
  by_cases g4 : op ≤ 35
  · have hR : doesT K F ⟨op, rd, rs1, rs2, imm⟩ s = storesT K ⟨op, rd, rs1, rs2, imm⟩ s := by unfold doesT; rw [if_neg g1, if_neg g2, if_neg g3, if_pos g4]
    rw [hR]
    clear hR
    have t4 : decide (op ≤ 35) = true := decide_eq_true g4
    have Hl := Lib.hid (fun W (hB : Below w.heap.size w W) => stores_calls (h.below hB) ⟨op, rd, rs1, rs2, imm⟩ hi (he.below hB) e0 e1 e2 e3)
    generalize storesT K ⟨op, rd, rs1, rs2, imm⟩ s = r at *
    generalize s.reg rs1 = a at *
    generalize s.reg rs2 = a2 at *
    clear h he g1 g2 g3 g4
    unfold iv at *
    go_enter Try.func58, Try.ntmps58
    go_wp2_with fail
    go_quiet (fail)
    go_wp2_with (first
      | (go_at_call 91; (with_reducible refine (Hl.out _ ?_).mono ?_); (focus (repeat' (first | (with_reducible first | exact Below.refl _ _ | refine blQ ?_ _ | refine Below.drew ?_ | refine blO ?_ (by assumption) | refine Below.alloc ?_ ?_ _ | refine Below.setCell ?_ ?_ _ | refine Below.frame ?_ _) | omega | (simp only [zA, zS, zD, zQ]; omega)))); rintro e w' ⟨rfl, hD⟩))
    go_returns
    exact dpost_trans (by (repeat' (first | (with_reducible first | exact Below.refl _ _ | refine blQ ?_ _ | refine Below.drew ?_ | refine blO ?_ (by assumption) | refine Below.alloc ?_ ?_ _ | refine Below.setCell ?_ ?_ _ | refine Below.frame ?_ _) | omega | (simp only [zA, zS, zD, zQ]; omega)))) ⟨by simp, hD⟩
  have t4 : decide (op ≤ 35) = false := decide_eq_false g4
  by_cases g5 : op ≤ 41
  · have t5 : decide (op ≤ 41) = true := decide_eq_true g5
    have Ht := Lib.hid (takes_calls op _ _ hr hr2)
    have hR : doesT K F ⟨op, rd, rs1, rs2, imm⟩ s = if takesS op (s.reg rs1) (s.reg rs2) = true then (no, s.go ((s.pc + imm) % 4294967296) 0) else (no, 0, s.put 0 0) := by unfold doesT; rw [if_neg g1, if_neg g2, if_neg g3, if_neg g4, if_pos g5]
    rw [hR]
    clear hR
    generalize takesS op (s.reg rs1) (s.reg rs2) = tk at *
    generalize s.reg rs1 = a at *
    generalize s.reg rs2 = a2 at *
    cases tk with
    | false =>
      rw [if_neg (by decide)]
      obtain ⟨r, hr'⟩ : ∃ r : Did × Int × St, (no, 0, s.put 0 0) = r := ⟨_, rfl⟩
      rw [hr']
      have Hr := Lib.hid hr'
      clear hr' h he g1 g2 g3 g4 g5
      unfold iv
      go_enter Try.func58, Try.ntmps58
      go_wp2_with fail
      go_quiet (fail)
      go_wp2_with (first
        | (go_at_call 92; (with_reducible refine (Ht.out _).mono ?_); rintro e w' ⟨rfl, nt, rfl⟩)
        | (go_at_call 88; (refine (puts_calls (b := b) (m := ⟨mb, 0, none⟩) (pc := s.pc) (R := s.R) ⟨?_, H.out.m.2⟩ _ _).mono ?_); (focus (repeat' (first | (with_reducible first | assumption | exact hpA _ _ _ rfl | refine hpN ?_ | refine hpD ?_) | ((with_reducible first | refine hpP ?_ ?_ | refine hpT ?_ ?_); (focus (first | omega | (simp [zA, zS, zD, zQ] <;> omega)))) | ((with_reducible refine hpA _ _ _ ?_); (focus (first | omega | (simp [zA, zS, zD, zQ] <;> omega)))) | ((with_reducible refine hpB ?_ ?_); (focus assumption)) | (with_reducible apply hpS)))); rintro e w3 ⟨rfl, hM3, hB3⟩))
      go_returns
      rw [← Hr.out]
      exact dpost_of (by simp) H.out e0 e1 e2 e3 (But.of_below (by (repeat' (first | (with_reducible first | exact Below.refl _ _ | refine blQ ?_ _ | refine Below.drew ?_ | refine blO ?_ (by assumption) | refine Below.alloc ?_ ?_ _ | refine Below.setCell ?_ ?_ _ | refine Below.frame ?_ _) | omega | (simp only [zA, zS, zD, zQ]; omega))))) (HE.out.below (by (repeat' (first | (with_reducible first | exact Below.refl _ _ | refine blQ ?_ _ | refine Below.drew ?_ | refine blO ?_ (by assumption) | refine Below.alloc ?_ ?_ _ | refine Below.setCell ?_ ?_ _ | refine Below.frame ?_ _) | omega | (simp only [zA, zS, zD, zQ]; omega))))) hM3 hB3 (H.out.ok.put _ _ (by omega)) rfl
    | true =>
      rw [if_pos rfl]
      obtain ⟨r, hr'⟩ : ∃ r : Did × Int × St, (no, s.go ((s.pc + imm) % 4294967296) 0) = r := ⟨_, rfl⟩
      rw [hr']
      have Hr := Lib.hid hr'
      clear hr' h he g1 g2 g3 g4 g5
      unfold iv
      have hd : 0 ≤ ((s.pc + imm) % 4294967296) ∧ ((s.pc + imm) % 4294967296) < 4294967296 := by omega
      have Hd := Lib.hid hd
      by_cases ga : ((s.pc + imm) % 4294967296) % 4 = 0
      · have Hg := Lib.hid (show s.go ((s.pc + imm) % 4294967296) 0 = (0, ⟨((s.pc + imm) % 4294967296), setR s.R 0 ((s.pc + 4) % 4294967296), s.M⟩) from if_pos ga)
        have Hk := Lib.hid (show StOk K ⟨((s.pc + imm) % 4294967296), setR s.R 0 ((s.pc + 4) % 4294967296), s.M⟩ from by have x := H.out.ok.go ((s.pc + imm) % 4294967296) 0 hd; unfold St.go at x; rw [if_pos ga] at x; exact x)
        have Hga := Lib.hid ga
        clear ga hd
        go_enter Try.func58, Try.ntmps58
        go_wp2_with fail
        go_quiet (fail)
        go_wp2_with (first
          | (go_at_call 92; (with_reducible refine (Ht.out _).mono ?_); rintro e w' ⟨rfl, nt, rfl⟩)
          | (go_at_call 93; (refine (goes_yes (b := b) (m := ⟨mb, 0, none⟩) (pc := s.pc) (R := s.R) ⟨?_, H.out.m.2⟩ _ _ ?_ ?_).mono ?_); (focus (repeat' (first | (with_reducible first | assumption | exact hpA _ _ _ rfl | refine hpN ?_ | refine hpD ?_) | ((with_reducible first | refine hpP ?_ ?_ | refine hpT ?_ ?_); (focus (first | omega | (simp [zA, zS, zD, zQ] <;> omega)))) | ((with_reducible refine hpA _ _ _ ?_); (focus (first | omega | (simp [zA, zS, zD, zQ] <;> omega)))) | ((with_reducible refine hpB ?_ ?_); (focus assumption)) | (with_reducible apply hpS)))); (focus (exact Hd.out.1)); (focus (exact Hga.out)); rintro e w3 ⟨rfl, hM3, hB3⟩))
        go_returns
        rw [← Hr.out, Hg.out]
        exact dpost_of (by simp) H.out e0 e1 e2 e3 (But.of_below (by (repeat' (first | (with_reducible first | exact Below.refl _ _ | refine blQ ?_ _ | refine Below.drew ?_ | refine blO ?_ (by assumption) | refine Below.alloc ?_ ?_ _ | refine Below.setCell ?_ ?_ _ | refine Below.frame ?_ _) | omega | (simp only [zA, zS, zD, zQ]; omega))))) (HE.out.below (by (repeat' (first | (with_reducible first | exact Below.refl _ _ | refine blQ ?_ _ | refine Below.drew ?_ | refine blO ?_ (by assumption) | refine Below.alloc ?_ ?_ _ | refine Below.setCell ?_ ?_ _ | refine Below.frame ?_ _) | omega | (simp only [zA, zS, zD, zQ]; omega))))) hM3 hB3 Hk.out rfl
      · have Hg := Lib.hid (show s.go ((s.pc + imm) % 4294967296) 0 = (1, s) from if_neg ga)
        have Hga := Lib.hid ga
        clear ga hd
        go_enter Try.func58, Try.ntmps58
        go_wp2_with fail
        go_quiet (fail)
        go_wp2_with (first
          | (go_at_call 92; (with_reducible refine (Ht.out _).mono ?_); rintro e w' ⟨rfl, nt, rfl⟩)
          | (go_at_call 93; (refine (goes_no (b := b) (m := ⟨mb, 0, none⟩) (pc := s.pc) (R := s.R) ⟨?_, H.out.m.2⟩ _ _ ?_ ?_).mono ?_); (focus (repeat' (first | (with_reducible first | assumption | exact hpA _ _ _ rfl | refine hpN ?_ | refine hpD ?_) | ((with_reducible first | refine hpP ?_ ?_ | refine hpT ?_ ?_); (focus (first | omega | (simp [zA, zS, zD, zQ] <;> omega)))) | ((with_reducible refine hpA _ _ _ ?_); (focus (first | omega | (simp [zA, zS, zD, zQ] <;> omega)))) | ((with_reducible refine hpB ?_ ?_); (focus assumption)) | (with_reducible apply hpS)))); (focus (exact Hd.out.1)); (focus (exact Hga.out)); rintro e w3 ⟨rfl, rfl⟩))
        go_returns
        rw [← Hr.out, Hg.out]
        exact dpost_trap (by simp) H.out HE.out (by (repeat' (first | (with_reducible first | exact Below.refl _ _ | refine blQ ?_ _ | refine Below.drew ?_ | refine blO ?_ (by assumption) | refine Below.alloc ?_ ?_ _ | refine Below.setCell ?_ ?_ _ | refine Below.frame ?_ _) | omega | (simp only [zA, zS, zD, zQ]; omega))))
  have t5 : decide (op ≤ 41) = false := decide_eq_false g5
  have hc : op = 42 ∨ op = 43 ∨ op = 44 ∨ op = 45 ∨ op = 46 ∨ op = 47 ∨ op = 48 := by omega
  have hN := H.out.ok
  clear g1 g2 g3 g4 g5 t1 t2 t3 t4 t5
  rcases hc with rfl | rfl | rfl | rfl | rfl | rfl | rfl
  · have hz : 0 ≤ imm % 4294967296 ∧ imm % 4294967296 < 4294967296 := by omega
    show Calls _ _ _ _ (DPost b mb K F eb pc word (no, 0, s.put rd (imm % 4294967296)) w)
    generalize s.reg rs1 = a at *
    generalize s.reg rs2 = a2 at *
    obtain ⟨r, hr'⟩ : ∃ r : Did × Int × St, (no, 0, s.put rd (imm % 4294967296)) = r := ⟨_, rfl⟩
    rw [hr']
    have Hr := Lib.hid hr'
    have HZ := Lib.hid hz
    clear hz hr' h he hN
    unfold iv
    go_enter Try.func58, Try.ntmps58
    go_wp2_with fail
    go_quiet (fail)
    go_wp2_with (first
      | (go_at_call 88; (refine (puts_calls (b := b) (m := ⟨mb, 0, none⟩) (pc := s.pc) (R := s.R) ⟨?_, H.out.m.2⟩ _ _).mono ?_); (focus (repeat' (first | (with_reducible first | assumption | exact hpA _ _ _ rfl | refine hpN ?_ | refine hpD ?_) | ((with_reducible first | refine hpP ?_ ?_ | refine hpT ?_ ?_); (focus (first | omega | (simp [zA, zS, zD, zQ] <;> omega)))) | ((with_reducible refine hpA _ _ _ ?_); (focus (first | omega | (simp [zA, zS, zD, zQ] <;> omega)))) | ((with_reducible refine hpB ?_ ?_); (focus assumption)) | (with_reducible apply hpS)))); rintro e w3 ⟨rfl, hM3, hB3⟩))
    go_returns
    rw [← Hr.out]
    exact dpost_of (by simp) H.out e0 e1 e2 e3 (But.of_below (by (repeat' (first | (with_reducible first | exact Below.refl _ _ | refine blQ ?_ _ | refine Below.drew ?_ | refine blO ?_ (by assumption) | refine Below.alloc ?_ ?_ _ | refine Below.setCell ?_ ?_ _ | refine Below.frame ?_ _) | omega | (simp only [zA, zS, zD, zQ]; omega))))) (HE.out.below (by (repeat' (first | (with_reducible first | exact Below.refl _ _ | refine blQ ?_ _ | refine Below.drew ?_ | refine blO ?_ (by assumption) | refine Below.alloc ?_ ?_ _ | refine Below.setCell ?_ ?_ _ | refine Below.frame ?_ _) | omega | (simp only [zA, zS, zD, zQ]; omega))))) hM3 hB3 (H.out.ok.put _ _ HZ.out) rfl
  · have hz : 0 ≤ (s.pc + imm) % 4294967296 ∧ (s.pc + imm) % 4294967296 < 4294967296 := by omega
    show Calls _ _ _ _ (DPost b mb K F eb pc word (no, 0, s.put rd ((s.pc + imm) % 4294967296)) w)
    generalize s.reg rs1 = a at *
    generalize s.reg rs2 = a2 at *
    obtain ⟨r, hr'⟩ : ∃ r : Did × Int × St, (no, 0, s.put rd ((s.pc + imm) % 4294967296)) = r := ⟨_, rfl⟩
    rw [hr']
    have Hr := Lib.hid hr'
    have HZ := Lib.hid hz
    clear hz hr' h he hN
    unfold iv
    go_enter Try.func58, Try.ntmps58
    go_wp2_with fail
    go_quiet (fail)
    go_wp2_with fail
    refine region_tail (fun n => (w.alloc _).drewN n) 9 rfl (by kernel_rfl) ⟨nq + 1, rfl⟩ ?_
    simp only [List.take_succ_cons, List.take_zero, List.drop_succ_cons, List.drop_zero]
    repeat (go_big_quiet_step (fail))
    refine wpQuiet_nil ?_
    intro n2
    go_wp2_with (first
      | (go_at_call 88; (refine (puts_calls (b := b) (m := ⟨mb, 0, none⟩) (pc := s.pc) (R := s.R) ⟨?_, H.out.m.2⟩ _ _).mono ?_); (focus (repeat' (first | (with_reducible first | assumption | exact hpA _ _ _ rfl | refine hpN ?_ | refine hpD ?_) | ((with_reducible first | refine hpP ?_ ?_ | refine hpT ?_ ?_); (focus (first | omega | (simp [zA, zS, zD, zQ] <;> omega)))) | ((with_reducible refine hpA _ _ _ ?_); (focus (first | omega | (simp [zA, zS, zD, zQ] <;> omega)))) | ((with_reducible refine hpB ?_ ?_); (focus assumption)) | (with_reducible apply hpS)))); rintro e w3 ⟨rfl, hM3, hB3⟩))
    go_returns
    rw [← Hr.out]
    exact dpost_of (by simp) H.out e0 e1 e2 e3 (But.of_below (by (repeat' (first | (with_reducible first | exact Below.refl _ _ | refine blQ ?_ _ | refine Below.drew ?_ | refine blO ?_ (by assumption) | refine Below.alloc ?_ ?_ _ | refine Below.setCell ?_ ?_ _ | refine Below.frame ?_ _) | omega | (simp only [zA, zS, zD, zQ]; omega))))) (HE.out.below (by (repeat' (first | (with_reducible first | exact Below.refl _ _ | refine blQ ?_ _ | refine Below.drew ?_ | refine blO ?_ (by assumption) | refine Below.alloc ?_ ?_ _ | refine Below.setCell ?_ ?_ _ | refine Below.frame ?_ _) | omega | (simp only [zA, zS, zD, zQ]; omega))))) hM3 hB3 (H.out.ok.put _ _ HZ.out) rfl
  · show Calls _ _ _ _ (DPost b mb K F eb pc word (no, s.go ((s.pc + imm) % 4294967296) rd) w)
    generalize s.reg rs1 = a at *
    generalize s.reg rs2 = a2 at *
    obtain ⟨r, hr'⟩ : ∃ r : Did × Int × St, (no, s.go ((s.pc + imm) % 4294967296) rd) = r := ⟨_, rfl⟩
    rw [hr']
    have Hr := Lib.hid hr'
    clear hr' h he hN
    unfold iv
    have hd : 0 ≤ ((s.pc + imm) % 4294967296) ∧ ((s.pc + imm) % 4294967296) < 4294967296 := by omega
    have Hd := Lib.hid hd
    by_cases ga : ((s.pc + imm) % 4294967296) % 4 = 0
    · have Hg := Lib.hid (show s.go ((s.pc + imm) % 4294967296) rd = (0, ⟨((s.pc + imm) % 4294967296), setR s.R rd ((s.pc + 4) % 4294967296), s.M⟩) from if_pos ga)
      have Hk := Lib.hid (show StOk K ⟨((s.pc + imm) % 4294967296), setR s.R rd ((s.pc + 4) % 4294967296), s.M⟩ from by have x := H.out.ok.go ((s.pc + imm) % 4294967296) rd hd; unfold St.go at x; rw [if_pos ga] at x; exact x)
      have Hga := Lib.hid ga
      clear ga hd
      go_enter Try.func58, Try.ntmps58
      go_wp2_with fail
      go_quiet (fail)
      go_wp2_with fail
      refine region_tail (fun n => (w.alloc _).drewN n) 9 rfl (by kernel_rfl) ⟨nq + 1, rfl⟩ ?_
      simp only [List.take_succ_cons, List.take_zero, List.drop_succ_cons, List.drop_zero]
      repeat (go_big_quiet_step (fail))
      refine wpQuiet_nil ?_
      intro n2
      go_wp2_with (first
        | (go_at_call 93; (refine (goes_yes (b := b) (m := ⟨mb, 0, none⟩) (pc := s.pc) (R := s.R) ⟨?_, H.out.m.2⟩ _ _ ?_ ?_).mono ?_); (focus (repeat' (first | (with_reducible first | assumption | exact hpA _ _ _ rfl | refine hpN ?_ | refine hpD ?_) | ((with_reducible first | refine hpP ?_ ?_ | refine hpT ?_ ?_); (focus (first | omega | (simp [zA, zS, zD, zQ] <;> omega)))) | ((with_reducible refine hpA _ _ _ ?_); (focus (first | omega | (simp [zA, zS, zD, zQ] <;> omega)))) | ((with_reducible refine hpB ?_ ?_); (focus assumption)) | (with_reducible apply hpS)))); (focus (exact Hd.out.1)); (focus (exact Hga.out)); rintro e w3 ⟨rfl, hM3, hB3⟩))
      go_returns
      rw [← Hr.out, Hg.out]
      exact dpost_of (by simp) H.out e0 e1 e2 e3 (But.of_below (by (repeat' (first | (with_reducible first | exact Below.refl _ _ | refine blQ ?_ _ | refine Below.drew ?_ | refine blO ?_ (by assumption) | refine Below.alloc ?_ ?_ _ | refine Below.setCell ?_ ?_ _ | refine Below.frame ?_ _) | omega | (simp only [zA, zS, zD, zQ]; omega))))) (HE.out.below (by (repeat' (first | (with_reducible first | exact Below.refl _ _ | refine blQ ?_ _ | refine Below.drew ?_ | refine blO ?_ (by assumption) | refine Below.alloc ?_ ?_ _ | refine Below.setCell ?_ ?_ _ | refine Below.frame ?_ _) | omega | (simp only [zA, zS, zD, zQ]; omega))))) hM3 hB3 Hk.out rfl
    · have Hg := Lib.hid (show s.go ((s.pc + imm) % 4294967296) rd = (1, s) from if_neg ga)
      have Hga := Lib.hid ga
      clear ga hd
      go_enter Try.func58, Try.ntmps58
      go_wp2_with fail
      go_quiet (fail)
      go_wp2_with fail
      refine region_tail (fun n => (w.alloc _).drewN n) 9 rfl (by kernel_rfl) ⟨nq + 1, rfl⟩ ?_
      simp only [List.take_succ_cons, List.take_zero, List.drop_succ_cons, List.drop_zero]
      repeat (go_big_quiet_step (fail))
      refine wpQuiet_nil ?_
      intro n2
      go_wp2_with (first
        | (go_at_call 93; (refine (goes_no (b := b) (m := ⟨mb, 0, none⟩) (pc := s.pc) (R := s.R) ⟨?_, H.out.m.2⟩ _ _ ?_ ?_).mono ?_); (focus (repeat' (first | (with_reducible first | assumption | exact hpA _ _ _ rfl | refine hpN ?_ | refine hpD ?_) | ((with_reducible first | refine hpP ?_ ?_ | refine hpT ?_ ?_); (focus (first | omega | (simp [zA, zS, zD, zQ] <;> omega)))) | ((with_reducible refine hpA _ _ _ ?_); (focus (first | omega | (simp [zA, zS, zD, zQ] <;> omega)))) | ((with_reducible refine hpB ?_ ?_); (focus assumption)) | (with_reducible apply hpS)))); (focus (exact Hd.out.1)); (focus (exact Hga.out)); rintro e w3 ⟨rfl, rfl⟩))
      go_returns
      rw [← Hr.out, Hg.out]
      exact dpost_trap (by simp) H.out HE.out (by (repeat' (first | (with_reducible first | exact Below.refl _ _ | refine blQ ?_ _ | refine Below.drew ?_ | refine blO ?_ (by assumption) | refine Below.alloc ?_ ?_ _ | refine Below.setCell ?_ ?_ _ | refine Below.frame ?_ _) | omega | (simp only [zA, zS, zD, zQ]; omega))))
  · show Calls _ _ _ _ (DPost b mb K F eb pc word (no, s.go ((s.reg rs1 + imm) % 4294967296 / 2 * 2) rd) w)
    generalize s.reg rs1 = a at *
    generalize s.reg rs2 = a2 at *
    obtain ⟨r, hr'⟩ : ∃ r : Did × Int × St, (no, s.go ((a + imm) % 4294967296 / 2 * 2) rd) = r := ⟨_, rfl⟩
    rw [hr']
    have Hr := Lib.hid hr'
    clear hr' h he hN
    unfold iv
    have Han := Lib.hid (andnot1 ((a + imm) % 4294967296) (by omega) (by omega))
    have hd : 0 ≤ ((a + imm) % 4294967296 / 2 * 2) ∧ ((a + imm) % 4294967296 / 2 * 2) < 4294967296 := by omega
    have Hd := Lib.hid hd
    by_cases ga : ((a + imm) % 4294967296 / 2 * 2) % 4 = 0
    · have Hg := Lib.hid (show s.go ((a + imm) % 4294967296 / 2 * 2) rd = (0, ⟨((a + imm) % 4294967296 / 2 * 2), setR s.R rd ((s.pc + 4) % 4294967296), s.M⟩) from if_pos ga)
      have Hk := Lib.hid (show StOk K ⟨((a + imm) % 4294967296 / 2 * 2), setR s.R rd ((s.pc + 4) % 4294967296), s.M⟩ from by have x := H.out.ok.go ((a + imm) % 4294967296 / 2 * 2) rd hd; unfold St.go at x; rw [if_pos ga] at x; exact x)
      have Hga := Lib.hid ga
      clear ga hd
      go_enter Try.func58, Try.ntmps58
      go_wp2_with fail
      go_quiet (fail)
      go_wp2_with (first
        | (go_at_call 93; rw [Han.out]; (refine (goes_yes (b := b) (m := ⟨mb, 0, none⟩) (pc := s.pc) (R := s.R) ⟨?_, H.out.m.2⟩ _ _ ?_ ?_).mono ?_); (focus (repeat' (first | (with_reducible first | assumption | exact hpA _ _ _ rfl | refine hpN ?_ | refine hpD ?_) | ((with_reducible first | refine hpP ?_ ?_ | refine hpT ?_ ?_); (focus (first | omega | (simp [zA, zS, zD, zQ] <;> omega)))) | ((with_reducible refine hpA _ _ _ ?_); (focus (first | omega | (simp [zA, zS, zD, zQ] <;> omega)))) | ((with_reducible refine hpB ?_ ?_); (focus assumption)) | (with_reducible apply hpS)))); (focus (exact Hd.out.1)); (focus (exact Hga.out)); rintro e w3 ⟨rfl, hM3, hB3⟩))
      go_returns
      rw [← Hr.out, Hg.out]
      exact dpost_of (by simp) H.out e0 e1 e2 e3 (But.of_below (by (repeat' (first | (with_reducible first | exact Below.refl _ _ | refine blQ ?_ _ | refine Below.drew ?_ | refine blO ?_ (by assumption) | refine Below.alloc ?_ ?_ _ | refine Below.setCell ?_ ?_ _ | refine Below.frame ?_ _) | omega | (simp only [zA, zS, zD, zQ]; omega))))) (HE.out.below (by (repeat' (first | (with_reducible first | exact Below.refl _ _ | refine blQ ?_ _ | refine Below.drew ?_ | refine blO ?_ (by assumption) | refine Below.alloc ?_ ?_ _ | refine Below.setCell ?_ ?_ _ | refine Below.frame ?_ _) | omega | (simp only [zA, zS, zD, zQ]; omega))))) hM3 hB3 Hk.out rfl
    · have Hg := Lib.hid (show s.go ((a + imm) % 4294967296 / 2 * 2) rd = (1, s) from if_neg ga)
      have Hga := Lib.hid ga
      clear ga hd
      go_enter Try.func58, Try.ntmps58
      go_wp2_with fail
      go_quiet (fail)
      go_wp2_with (first
        | (go_at_call 93; rw [Han.out]; (refine (goes_no (b := b) (m := ⟨mb, 0, none⟩) (pc := s.pc) (R := s.R) ⟨?_, H.out.m.2⟩ _ _ ?_ ?_).mono ?_); (focus (repeat' (first | (with_reducible first | assumption | exact hpA _ _ _ rfl | refine hpN ?_ | refine hpD ?_) | ((with_reducible first | refine hpP ?_ ?_ | refine hpT ?_ ?_); (focus (first | omega | (simp [zA, zS, zD, zQ] <;> omega)))) | ((with_reducible refine hpA _ _ _ ?_); (focus (first | omega | (simp [zA, zS, zD, zQ] <;> omega)))) | ((with_reducible refine hpB ?_ ?_); (focus assumption)) | (with_reducible apply hpS)))); (focus (exact Hd.out.1)); (focus (exact Hga.out)); rintro e w3 ⟨rfl, rfl⟩))
      go_returns
      rw [← Hr.out, Hg.out]
      exact dpost_trap (by simp) H.out HE.out (by (repeat' (first | (with_reducible first | exact Below.refl _ _ | refine blQ ?_ _ | refine Below.drew ?_ | refine blO ?_ (by assumption) | refine Below.alloc ?_ ?_ _ | refine Below.setCell ?_ ?_ _ | refine Below.frame ?_ _) | omega | (simp only [zA, zS, zD, zQ]; omega))))
  · show Calls _ _ _ _ (DPost b mb K F eb pc word (no, 0, s.put 0 0) w)
    generalize s.reg rs1 = a at *
    generalize s.reg rs2 = a2 at *
    obtain ⟨r, hr'⟩ : ∃ r : Did × Int × St, (no, 0, s.put 0 0) = r := ⟨_, rfl⟩
    rw [hr']
    have Hr := Lib.hid hr'
    clear hr' h he hN
    unfold iv
    go_enter Try.func58, Try.ntmps58
    go_wp2_with fail
    go_quiet (fail)
    go_wp2_with (first
      | (go_at_call 88; (refine (puts_calls (b := b) (m := ⟨mb, 0, none⟩) (pc := s.pc) (R := s.R) ⟨?_, H.out.m.2⟩ _ _).mono ?_); (focus (repeat' (first | (with_reducible first | assumption | exact hpA _ _ _ rfl | refine hpN ?_ | refine hpD ?_) | ((with_reducible first | refine hpP ?_ ?_ | refine hpT ?_ ?_); (focus (first | omega | (simp [zA, zS, zD, zQ] <;> omega)))) | ((with_reducible refine hpA _ _ _ ?_); (focus (first | omega | (simp [zA, zS, zD, zQ] <;> omega)))) | ((with_reducible refine hpB ?_ ?_); (focus assumption)) | (with_reducible apply hpS)))); rintro e w3 ⟨rfl, hM3, hB3⟩))
    go_returns
    rw [← Hr.out]
    exact dpost_of (by simp) H.out e0 e1 e2 e3 (But.of_below (by (repeat' (first | (with_reducible first | exact Below.refl _ _ | refine blQ ?_ _ | refine Below.drew ?_ | refine blO ?_ (by assumption) | refine Below.alloc ?_ ?_ _ | refine Below.setCell ?_ ?_ _ | refine Below.frame ?_ _) | omega | (simp only [zA, zS, zD, zQ]; omega))))) (HE.out.below (by (repeat' (first | (with_reducible first | exact Below.refl _ _ | refine blQ ?_ _ | refine Below.drew ?_ | refine blO ?_ (by assumption) | refine Below.alloc ?_ ?_ _ | refine Below.setCell ?_ ?_ _ | refine Below.frame ?_ _) | omega | (simp only [zA, zS, zD, zQ]; omega))))) hM3 hB3 (H.out.ok.put _ _ (by omega)) rfl
  · show Calls _ _ _ _ (DPost b mb K F eb pc word (no, 6, s) w)
    generalize s.reg rs1 = a at *
    generalize s.reg rs2 = a2 at *
    obtain ⟨r, hr'⟩ : ∃ r : Did × Int × St, (no, 6, s) = r := ⟨_, rfl⟩
    rw [hr']
    have Hr := Lib.hid hr'
    clear hr' h he hN
    unfold iv
    go_enter Try.func58, Try.ntmps58
    go_wp2_with fail
    go_quiet (fail)
    go_wp2
    go_returns
    rw [← Hr.out]
    exact dpost_trap (by simp) H.out HE.out (by (repeat' (first | (with_reducible first | exact Below.refl _ _ | refine blQ ?_ _ | refine Below.drew ?_ | refine blO ?_ (by assumption) | refine Below.alloc ?_ ?_ _ | refine Below.setCell ?_ ?_ _ | refine Below.frame ?_ _) | omega | (simp only [zA, zS, zD, zQ]; omega))))
  · show Calls _ _ _ _ (DPost b mb K F eb pc word (no, 7, s) w)
    generalize s.reg rs1 = a at *
    generalize s.reg rs2 = a2 at *
    obtain ⟨r, hr'⟩ : ∃ r : Did × Int × St, (no, 7, s) = r := ⟨_, rfl⟩
    rw [hr']
    have Hr := Lib.hid hr'
    clear hr' h he hN
    unfold iv
    go_enter Try.func58, Try.ntmps58
    go_wp2_with fail
    go_quiet (fail)
    go_wp2
    go_returns
    rw [← Hr.out]
    exact dpost_trap (by simp) H.out HE.out (by (repeat' (first | (with_reducible first | exact Below.refl _ _ | refine blQ ?_ _ | refine Below.drew ?_ | refine blO ?_ (by assumption) | refine Below.alloc ?_ ?_ _ | refine Below.setCell ?_ ?_ _ | refine Below.frame ?_ _) | omega | (simp only [zA, zS, zD, zQ]; omega))))
end Go.Proofs.Ytioopcilcgebeaa.CpuA
