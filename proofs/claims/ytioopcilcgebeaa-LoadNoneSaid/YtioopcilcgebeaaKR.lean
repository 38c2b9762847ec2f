/- Proofs of this claim's family, merged: CpuF. -/
import Derived.Test.YtioopcilcgebeaaKQ
import Derived.Test.YtioopcilcgebeaaKFn
set_option linter.unusedVariables false
set_option linter.unusedSimpArgs false
/-! #### CpuF -/
namespace Go.Proofs.Ytioopcilcgebeaa.CpuA
open Go.RowKit Go.Proofs.Ytioopcilcgebeaa.Base Go.Proofs.Ytioopcilcgebeaa.InstS Go.Proofs.Ytioopcilcgebeaa.InstA Go.Proofs.Ytioopcilcgebeaa.AluP Go.Proofs.YtioopcilcgebeaaW.PrintWords

theorem But.drop {l m : List Nat} {a b : World} (h : But l a b) (hs : ∀ k ∈ l, k ∈ m ∨ a.heap.size ≤ k) : But m a b :=
  ⟨h.os, h.tape, h.output, h.size, fun n hn hm => h.block n hn (fun hl => (hs n hl).elim hm (fun hk => absurd hn (Nat.not_lt.2 hk)))⟩
def evV (v : Evt) : Value := .agg #[.int .u32 v.pc, .int .u32 v.word, .int .i64 v.did.kind, .int .u32 v.did.addr, .int .i64 v.did.size]
def SPost (b mb : Nat) (K : Bk) (F : List Int) (r : Evt × Int × St) (w : World) (e : Ending) (w' : World) : Prop :=
  e = .returned (.tuple #[evV r.1, .int .i64 r.2.1]) ∧ Box b mb K F r.2.2 w' ∧ But [b, K.rb] w w'
theorem spost_trap {b mb : Nat} {K : Bk} {F : List Int} {s : St} {v : Evt} {t : Int} {e : Ending} {w w' : World} (hee : e = .returned (.tuple #[evV v, .int .i64 t])) (h : Box b mb K F s w) (hB : Below w.heap.size w w') : SPost b mb K F (v, t, s) w e w' :=
  ⟨hee, h.below hB, But.of_below hB⟩
theorem mach2 {W : World} {b : Nat} {m : Addr} {pc : Int} {R : List Int} {t : TypeId} {fr : Nat × Nat} (h : W.heap[b]? = some (.cells (mcells m pc R) t fr)) :
    W.cell? ⟨b, 0, none⟩ = some (.pointer (some m)) ∧ W.cell? ⟨b, 1, none⟩ = some (.int .u32 pc) := ⟨(cell_of_heap h 0).trans rfl, (cell_of_heap h 1).trans rfl⟩
set_option maxHeartbeats 8000000 in
set_option maxRecDepth 100000 in
theorem step_calls {b mb : Nat} {K : Bk} {F : List Int} {s : St} {w : World} (h : Box b mb K F s w) :
    Calls Try.prog 20 #[.pointer (some ⟨b, 0, none⟩)] w (SPost b mb K F (stepT K F s) w) := by
  have hp0 := h.ok.pc0
  have hp1 := h.ok.pc1
  have c0 := cell_of_heap h.m.1 0
  rw [mcells_mem] at c0
  have c1 := cell_of_heap h.m.1 1
  rw [mcells_pc] at c1
  have hlb := lt_of_heap h.m.1
  have nb : ¬ w.heap.size = b := by omega
  have nb2 : ¬ w.heap.size + 1 = b := by omega
  have H := Lib.hid h
  have Hf := Lib.hid (fun (W : World) (hM : Mem mb K F s.M W) => fetch_calls hM s.pc ⟨hp0, hp1⟩)
  have hx : 0 ≤ (fetchS K F s.M s.pc).1 ∧ (fetchS K F s.M s.pc).1 < 4294967296 := by
    unfold fetchS
    split
    · split
      · rename_i l hl
        obtain ⟨h1, h2⟩ := bytesAt_ok hl h.mem.fl h.mem.rl h.mem.fbytes h.mem.rbytes
        have := leS_bd l h2
        rw [h1] at this
        exact this
      · omega
    · omega
  have hb' : w.heap[b]? = some (.cells (mcells ⟨mb, 0, none⟩ s.pc s.R) 112 (0, 0)) := h.m.1
  have hR : stepT K F s = if (fetchS K F s.M s.pc).2 = 0 then (match dec (fetchS K F s.M s.pc).1 with
    | some i => let d := doesT K F i s; (⟨s.pc, (fetchS K F s.M s.pc).1, d.1⟩, d.2.1, d.2.2)
    | none => (⟨s.pc, (fetchS K F s.M s.pc).1, no⟩, 5, s))
  else (⟨s.pc, 0, no⟩, (fetchS K F s.M s.pc).2, s) := rfl
  rw [hR]
  clear hR
  generalize fetchS K F s.M s.pc = ft at *
  obtain ⟨x, t⟩ := ft
  dsimp only at *
  by_cases q : t = 0
  · subst q
    rw [if_pos rfl]
    have Hd := Lib.hid (decode_calls x hx.1 hx.2)
    cases hdec : dec x with
    | none =>
      rw [hdec] at Hd
      clear hdec h
      obtain ⟨r, hr'⟩ : ∃ r : Evt × Int × St, (⟨s.pc, x, no⟩, 5, s) = r := ⟨_, rfl⟩
      simp only
      rw [hr']
      have Hr := Lib.hid hr'
      clear hr'
      unfold decV iv at Hd
      go_enter Try.func20, Try.ntmps20
      go_wp2_with fail
      go_region_held3 (fun u => u.cell? ⟨b, 0, none⟩ = some (.pointer (some ⟨mb, 0, none⟩)) ∧ u.cell? ⟨b, 1, none⟩ = some (.int .u32 s.pc)) (first | (go_keep; done) | (apply mach2; (repeat' (first | (with_reducible first | assumption | exact hpA _ _ _ rfl | refine hpN ?_ | refine hpD ?_) | ((with_reducible first | refine hpP ?_ ?_ | refine hpT ?_ ?_); (focus (first | omega | (simp [zA, zS, zD, zQ] <;> omega)))) | ((with_reducible refine hpA _ _ _ ?_); (focus (first | omega | (simp [zA, zS, zD, zQ] <;> omega)))) | ((with_reducible refine hpB ?_ ?_); (focus assumption)) | (with_reducible apply hpS)))))
        (first
        | (go_at_call 56; (refine (Hf.out _ (H.out.mem.below (by (repeat' (first | (with_reducible first | exact Below.refl _ _ | refine blQ ?_ _ | refine Below.drew ?_ | refine blO ?_ (by assumption) | refine Below.alloc ?_ ?_ _ | refine Below.setCell ?_ ?_ _ | refine Below.frame ?_ _) | omega | (simp only [zA, zS, zD, zQ]; omega)))))).mono ?_); rintro e w' ⟨rfl, hB⟩; apply kept_block hB (n := w.heap.size); (focus (repeat' (first | (with_reducible first | assumption | exact hpA _ _ _ rfl | refine hpN ?_ | refine hpD ?_) | ((with_reducible first | refine hpP ?_ ?_ | refine hpT ?_ ?_); (focus (first | omega | (simp [zA, zS, zD, zQ] <;> omega)))) | ((with_reducible refine hpA _ _ _ ?_); (focus (first | omega | (simp [zA, zS, zD, zQ] <;> omega)))) | ((with_reducible refine hpB ?_ ?_); (focus assumption)) | (with_reducible apply hpS)))); intro cr fr hr2 hz; simp at cr; apply kept_block hB (n := w.heap.size + 1); (focus (repeat' (first | (with_reducible first | assumption | exact hpA _ _ _ rfl | refine hpN ?_ | refine hpD ?_) | ((with_reducible first | refine hpP ?_ ?_ | refine hpT ?_ ?_); (focus (first | omega | (simp [zA, zS, zD, zQ] <;> omega)))) | ((with_reducible refine hpA _ _ _ ?_); (focus (first | omega | (simp [zA, zS, zD, zQ] <;> omega)))) | ((with_reducible refine hpB ?_ ?_); (focus assumption)) | (with_reducible apply hpS)))); intro ce fe he2 hze; simp at ce; apply kept_block hB (n := b); (focus (repeat' (first | (with_reducible first | assumption | exact hpA _ _ _ rfl | refine hpN ?_ | refine hpD ?_) | ((with_reducible first | refine hpP ?_ ?_ | refine hpT ?_ ?_); (focus (first | omega | (simp [zA, zS, zD, zQ] <;> omega)))) | ((with_reducible refine hpA _ _ _ ?_); (focus (first | omega | (simp [zA, zS, zD, zQ] <;> omega)))) | ((with_reducible refine hpB ?_ ?_); (focus assumption)) | (with_reducible apply hpS)))); intro cb fb hb2 hzb; clear cb))
      go_wp2_with (first
        | (go_at_call 57; (refine (Hd.out _).mono ?_); rintro e w2 ⟨rfl, hB2⟩; apply kept_block hB2 (n := w.heap.size); (focus (repeat' (first | (with_reducible first | assumption | exact hpA _ _ _ rfl | refine hpN ?_ | refine hpD ?_) | ((with_reducible first | refine hpP ?_ ?_ | refine hpT ?_ ?_); (focus (first | omega | (simp [zA, zS, zD, zQ] <;> omega)))) | ((with_reducible refine hpA _ _ _ ?_); (focus (first | omega | (simp [zA, zS, zD, zQ] <;> omega)))) | ((with_reducible refine hpB ?_ ?_); (focus assumption)) | (with_reducible apply hpS)))); intro cr9 fr9 hr9 hz9; simp at cr9; apply kept_block hB2 (n := w.heap.size + 1); (focus (repeat' (first | (with_reducible first | assumption | exact hpA _ _ _ rfl | refine hpN ?_ | refine hpD ?_) | ((with_reducible first | refine hpP ?_ ?_ | refine hpT ?_ ?_); (focus (first | omega | (simp [zA, zS, zD, zQ] <;> omega)))) | ((with_reducible refine hpA _ _ _ ?_); (focus (first | omega | (simp [zA, zS, zD, zQ] <;> omega)))) | ((with_reducible refine hpB ?_ ?_); (focus assumption)) | (with_reducible apply hpS)))); intro ce9 fe9 he9 hze9; simp at ce9; apply kept_block hB2 (n := b); (focus (repeat' (first | (with_reducible first | assumption | exact hpA _ _ _ rfl | refine hpN ?_ | refine hpD ?_) | ((with_reducible first | refine hpP ?_ ?_ | refine hpT ?_ ?_); (focus (first | omega | (simp [zA, zS, zD, zQ] <;> omega)))) | ((with_reducible refine hpA _ _ _ ?_); (focus (first | omega | (simp [zA, zS, zD, zQ] <;> omega)))) | ((with_reducible refine hpB ?_ ?_); (focus assumption)) | (with_reducible apply hpS)))); intro cb9 fb9 hb9 hzb9; clear cb9))
      show bodyPost _ _ (fun e w' => e = .returned (.tuple #[evV r.1, .int .i64 r.2.1]) ∧ (Box b mb K F r.2.2 w' ∧ But [b, K.rb] w w')) _ _ _
      refine post_res (B := fun w' => Box b mb K F r.2.2 w' ∧ But [b, K.rb] w w') ?_ rfl ?_
      · rw [← Hr.out]
        exact ⟨H.out.below (by (repeat' (first | (with_reducible first | exact Below.refl _ _ | refine blQ ?_ _ | refine Below.drew ?_ | refine blO ?_ (by assumption) | refine Below.alloc ?_ ?_ _ | refine Below.setCell ?_ ?_ _ | refine Below.frame ?_ _) | omega | (simp only [zA, zS, zD, zQ]; omega)))), But.of_below (by (repeat' (first | (with_reducible first | exact Below.refl _ _ | refine blQ ?_ _ | refine Below.drew ?_ | refine blO ?_ (by assumption) | refine Below.alloc ?_ ?_ _ | refine Below.setCell ?_ ?_ _ | refine Below.frame ?_ _) | omega | (simp only [zA, zS, zD, zQ]; omega))))⟩
      · rw [← Hr.out]
        apply res_at (n := w.heap.size)
        (focus (repeat' (first | (with_reducible first | assumption | exact hpA _ _ _ rfl | refine hpN ?_ | refine hpD ?_) | ((with_reducible first | refine hpP ?_ ?_ | refine hpT ?_ ?_); (focus (first | omega | (simp [zA, zS, zD, zQ] <;> omega)))) | ((with_reducible refine hpA _ _ _ ?_); (focus (first | omega | (simp [zA, zS, zD, zQ] <;> omega)))) | ((with_reducible refine hpB ?_ ?_); (focus assumption)) | (with_reducible apply hpS))))
        intro W' cw
        simp at cw
        simp [results, Try.results20, go_sem, evV, no, cw]
    | some i =>
      have hi := dec_ok hdec
      rw [hdec] at Hd
      clear hdec
      have Hx := Lib.hid (fun (W : World) (hB : Below w.heap.size w W) (eb : Nat) (hE : IsE eb s.pc x no W) (hn : w.heap.size ≤ eb) => does_calls (h.below hB) i hi hE (fun z => by have := lt_of_heap h.m.1; omega) (fun z => by have := lt_of_heap h.mem.mem; omega) (fun z => by have := lt_of_heap h.mem.flash; omega) (fun z => by have := lt_of_heap h.mem.ram; omega))
      simp only
      generalize doesT K F i s = d at *
      obtain ⟨dd, t, s'⟩ := d
      obtain ⟨op, rd, rs1, rs2, imm⟩ := i
      clear h
      obtain ⟨r, hr'⟩ : ∃ r : Evt × Int × St, (⟨s.pc, x, dd⟩, t, s') = r := ⟨_, rfl⟩
      rw [hr']
      have Hr := Lib.hid hr'
      clear hr' hi
      unfold decV at Hd
      unfold iv at Hd Hx
      have hlm := lt_of_heap H.out.mem.mem
      have hlf := lt_of_heap H.out.mem.flash
      have hlr := lt_of_heap H.out.mem.ram
      go_enter Try.func20, Try.ntmps20
      go_wp2_with fail
      go_region_held3 (fun u => u.cell? ⟨b, 0, none⟩ = some (.pointer (some ⟨mb, 0, none⟩)) ∧ u.cell? ⟨b, 1, none⟩ = some (.int .u32 s.pc)) (first | (go_keep; done) | (apply mach2; (repeat' (first | (with_reducible first | assumption | exact hpA _ _ _ rfl | refine hpN ?_ | refine hpD ?_) | ((with_reducible first | refine hpP ?_ ?_ | refine hpT ?_ ?_); (focus (first | omega | (simp [zA, zS, zD, zQ] <;> omega)))) | ((with_reducible refine hpA _ _ _ ?_); (focus (first | omega | (simp [zA, zS, zD, zQ] <;> omega)))) | ((with_reducible refine hpB ?_ ?_); (focus assumption)) | (with_reducible apply hpS)))))
        (first
        | (go_at_call 56; (refine (Hf.out _ (H.out.mem.below (by (repeat' (first | (with_reducible first | exact Below.refl _ _ | refine blQ ?_ _ | refine Below.drew ?_ | refine blO ?_ (by assumption) | refine Below.alloc ?_ ?_ _ | refine Below.setCell ?_ ?_ _ | refine Below.frame ?_ _) | omega | (simp only [zA, zS, zD, zQ]; omega)))))).mono ?_); rintro e w' ⟨rfl, hB⟩; apply kept_block hB (n := w.heap.size); (focus (repeat' (first | (with_reducible first | assumption | exact hpA _ _ _ rfl | refine hpN ?_ | refine hpD ?_) | ((with_reducible first | refine hpP ?_ ?_ | refine hpT ?_ ?_); (focus (first | omega | (simp [zA, zS, zD, zQ] <;> omega)))) | ((with_reducible refine hpA _ _ _ ?_); (focus (first | omega | (simp [zA, zS, zD, zQ] <;> omega)))) | ((with_reducible refine hpB ?_ ?_); (focus assumption)) | (with_reducible apply hpS)))); intro cr fr hr2 hz; simp at cr; apply kept_block hB (n := w.heap.size + 1); (focus (repeat' (first | (with_reducible first | assumption | exact hpA _ _ _ rfl | refine hpN ?_ | refine hpD ?_) | ((with_reducible first | refine hpP ?_ ?_ | refine hpT ?_ ?_); (focus (first | omega | (simp [zA, zS, zD, zQ] <;> omega)))) | ((with_reducible refine hpA _ _ _ ?_); (focus (first | omega | (simp [zA, zS, zD, zQ] <;> omega)))) | ((with_reducible refine hpB ?_ ?_); (focus assumption)) | (with_reducible apply hpS)))); intro ce fe he2 hze; simp at ce; apply kept_block hB (n := b); (focus (repeat' (first | (with_reducible first | assumption | exact hpA _ _ _ rfl | refine hpN ?_ | refine hpD ?_) | ((with_reducible first | refine hpP ?_ ?_ | refine hpT ?_ ?_); (focus (first | omega | (simp [zA, zS, zD, zQ] <;> omega)))) | ((with_reducible refine hpA _ _ _ ?_); (focus (first | omega | (simp [zA, zS, zD, zQ] <;> omega)))) | ((with_reducible refine hpB ?_ ?_); (focus assumption)) | (with_reducible apply hpS)))); intro cb fb hb2 hzb; clear cb))
      go_wp2_with (first
        | (go_at_call 57; (refine (Hd.out _).mono ?_); rintro e w2 ⟨rfl, hB2⟩; apply kept_block hB2 (n := w.heap.size); (focus (repeat' (first | (with_reducible first | assumption | exact hpA _ _ _ rfl | refine hpN ?_ | refine hpD ?_) | ((with_reducible first | refine hpP ?_ ?_ | refine hpT ?_ ?_); (focus (first | omega | (simp [zA, zS, zD, zQ] <;> omega)))) | ((with_reducible refine hpA _ _ _ ?_); (focus (first | omega | (simp [zA, zS, zD, zQ] <;> omega)))) | ((with_reducible refine hpB ?_ ?_); (focus assumption)) | (with_reducible apply hpS)))); intro cr9 fr9 hr9 hz9; simp at cr9; apply kept_block hB2 (n := w.heap.size + 1); (focus (repeat' (first | (with_reducible first | assumption | exact hpA _ _ _ rfl | refine hpN ?_ | refine hpD ?_) | ((with_reducible first | refine hpP ?_ ?_ | refine hpT ?_ ?_); (focus (first | omega | (simp [zA, zS, zD, zQ] <;> omega)))) | ((with_reducible refine hpA _ _ _ ?_); (focus (first | omega | (simp [zA, zS, zD, zQ] <;> omega)))) | ((with_reducible refine hpB ?_ ?_); (focus assumption)) | (with_reducible apply hpS)))); intro ce9 fe9 he9 hze9; simp at ce9; apply kept_block hB2 (n := b); (focus (repeat' (first | (with_reducible first | assumption | exact hpA _ _ _ rfl | refine hpN ?_ | refine hpD ?_) | ((with_reducible first | refine hpP ?_ ?_ | refine hpT ?_ ?_); (focus (first | omega | (simp [zA, zS, zD, zQ] <;> omega)))) | ((with_reducible refine hpA _ _ _ ?_); (focus (first | omega | (simp [zA, zS, zD, zQ] <;> omega)))) | ((with_reducible refine hpB ?_ ?_); (focus assumption)) | (with_reducible apply hpS)))); intro cb9 fb9 hb9 hzb9; clear cb9)
        | (go_at_call 58; (refine (Hx.out _ (by (repeat' (first | (with_reducible first | exact Below.refl _ _ | refine blQ ?_ _ | refine Below.drew ?_ | refine blO ?_ (by assumption) | refine Below.alloc ?_ ?_ _ | refine Below.setCell ?_ ?_ _ | refine Below.frame ?_ _) | omega | (simp only [zA, zS, zD, zQ]; omega)))) (w.heap.size + 1) ?_ (by omega)).mono ?_); (focus (exact (show IsE (w.heap.size + 1) s.pc x no w2 from he9).below (by (repeat' (first | (with_reducible first | exact Below.refl _ _ | refine blQ ?_ _ | refine Below.drew ?_ | refine blO ?_ (by assumption) | refine Below.alloc ?_ ?_ _ | refine Below.setCell ?_ ?_ _ | refine Below.frame ?_ _) | omega | (simp only [zA, zS, zD, zQ]; omega)))))); rintro e w3 ⟨rfl, hX, hE3, hB3⟩; (have y0 : w3.cell? ⟨w.heap.size + 1, 0, none⟩ = some (.int .u32 s.pc) := cell_of_heap hE3 0); (have y1 : w3.cell? ⟨w.heap.size + 1, 1, none⟩ = some (.int .u32 x) := cell_of_heap hE3 1); (have y2 : w3.cell? ⟨w.heap.size + 1, 2, none⟩ = some (.int .i64 dd.kind) := cell_of_heap hE3 2); (have y3 : w3.cell? ⟨w.heap.size + 1, 3, none⟩ = some (.int .u32 dd.addr) := cell_of_heap hE3 3); (have y4 : w3.cell? ⟨w.heap.size + 1, 4, none⟩ = some (.int .i64 dd.size) := cell_of_heap hE3 4); have xr := hB3.heap (n := w.heap.size) (by simp; omega) (by (repeat' (first | (with_reducible first | assumption | exact hpA _ _ _ rfl | refine hpN ?_ | refine hpD ?_) | ((with_reducible first | refine hpP ?_ ?_ | refine hpT ?_ ?_); (focus (first | omega | (simp [zA, zS, zD, zQ] <;> omega)))) | ((with_reducible refine hpA _ _ _ ?_); (focus (first | omega | (simp [zA, zS, zD, zQ] <;> omega)))) | ((with_reducible refine hpB ?_ ?_); (focus assumption)) | (with_reducible apply hpS))) : _ = some (Obj.cells #[.int .u32 0, .int .u32 0, .int .i64 0, .int .u32 0, .int .i64 0] 35 (0, 0))); have z0 := cell_of_heap xr; simp at z0; have zf := frozen_of_heap xr))
      show bodyPost _ _ (fun e w' => e = .returned (.tuple #[evV r.1, .int .i64 r.2.1]) ∧ (Box b mb K F r.2.2 w' ∧ But [b, K.rb] w w')) _ _ _
      refine post_res (B := fun w' => Box b mb K F r.2.2 w' ∧ But [b, K.rb] w w') ?_ rfl ?_
      · rw [← Hr.out]
        have bX : ∀ {X : World}, But [w.heap.size] w3 X → Box b mb K F s' X ∧ But [b, K.rb] w X := fun {X} bx => by
          refine ⟨hX.but bx (by simpa using Ne.symm nb) (by have := hlm; simp; omega) (by have := hlf; simp; omega) (by have := hlr; simp; omega), ?_⟩
          exact (((But.of_below (by (repeat' (first | (with_reducible first | exact Below.refl _ _ | refine blQ ?_ _ | refine Below.drew ?_ | refine blO ?_ (by assumption) | refine Below.alloc ?_ ?_ _ | refine Below.setCell ?_ ?_ _ | refine Below.frame ?_ _) | omega | (simp only [zA, zS, zD, zQ]; omega))))).trans (hB3.mono (m := [b, K.rb, w.heap.size, w.heap.size + 1]) (by simp +contextual))).trans (bx.mono (m := [b, K.rb, w.heap.size, w.heap.size + 1]) (by simp +contextual))).drop (by simp)
        exact bX (by repeat (first | exact But.refl _ _ | refine But.set ?_ _ _ (.inl (by simp))))
      · rw [← Hr.out]
        apply res_at (n := w.heap.size)
        (focus (repeat' (first | (with_reducible first | assumption | exact hpA _ _ _ rfl | refine hpN ?_ | refine hpD ?_) | ((with_reducible first | refine hpP ?_ ?_ | refine hpT ?_ ?_); (focus (first | omega | (simp [zA, zS, zD, zQ] <;> omega)))) | ((with_reducible refine hpA _ _ _ ?_); (focus (first | omega | (simp [zA, zS, zD, zQ] <;> omega)))) | ((with_reducible refine hpB ?_ ?_); (focus assumption)) | (with_reducible apply hpS))))
        intro W' cw
        simp at cw
        simp [results, Try.results20, go_sem, evV, cw]
  · rw [if_neg q]
    have q1 : (t != 0) = true := by simpa using q
    clear h q
    obtain ⟨r, hr'⟩ : ∃ r : Evt × Int × St, (⟨s.pc, 0, no⟩, t, s) = r := ⟨_, rfl⟩
    rw [hr']
    have Hr := Lib.hid hr'
    clear hr'
    go_enter Try.func20, Try.ntmps20
    go_wp2_with fail
    go_region_held3 (fun u => u.cell? ⟨b, 0, none⟩ = some (.pointer (some ⟨mb, 0, none⟩)) ∧ u.cell? ⟨b, 1, none⟩ = some (.int .u32 s.pc)) (first | (go_keep; done) | (apply mach2; (repeat' (first | (with_reducible first | assumption | exact hpA _ _ _ rfl | refine hpN ?_ | refine hpD ?_) | ((with_reducible first | refine hpP ?_ ?_ | refine hpT ?_ ?_); (focus (first | omega | (simp [zA, zS, zD, zQ] <;> omega)))) | ((with_reducible refine hpA _ _ _ ?_); (focus (first | omega | (simp [zA, zS, zD, zQ] <;> omega)))) | ((with_reducible refine hpB ?_ ?_); (focus assumption)) | (with_reducible apply hpS)))))
      (first
      | (go_at_call 56; (refine (Hf.out _ (H.out.mem.below (by (repeat' (first | (with_reducible first | exact Below.refl _ _ | refine blQ ?_ _ | refine Below.drew ?_ | refine blO ?_ (by assumption) | refine Below.alloc ?_ ?_ _ | refine Below.setCell ?_ ?_ _ | refine Below.frame ?_ _) | omega | (simp only [zA, zS, zD, zQ]; omega)))))).mono ?_); rintro e w' ⟨rfl, hB⟩; apply kept_block hB (n := w.heap.size); (focus (repeat' (first | (with_reducible first | assumption | exact hpA _ _ _ rfl | refine hpN ?_ | refine hpD ?_) | ((with_reducible first | refine hpP ?_ ?_ | refine hpT ?_ ?_); (focus (first | omega | (simp [zA, zS, zD, zQ] <;> omega)))) | ((with_reducible refine hpA _ _ _ ?_); (focus (first | omega | (simp [zA, zS, zD, zQ] <;> omega)))) | ((with_reducible refine hpB ?_ ?_); (focus assumption)) | (with_reducible apply hpS)))); intro cr fr hr2 hz; simp at cr; apply kept_block hB (n := w.heap.size + 1); (focus (repeat' (first | (with_reducible first | assumption | exact hpA _ _ _ rfl | refine hpN ?_ | refine hpD ?_) | ((with_reducible first | refine hpP ?_ ?_ | refine hpT ?_ ?_); (focus (first | omega | (simp [zA, zS, zD, zQ] <;> omega)))) | ((with_reducible refine hpA _ _ _ ?_); (focus (first | omega | (simp [zA, zS, zD, zQ] <;> omega)))) | ((with_reducible refine hpB ?_ ?_); (focus assumption)) | (with_reducible apply hpS)))); intro ce fe he2 hze; simp at ce; apply kept_block hB (n := b); (focus (repeat' (first | (with_reducible first | assumption | exact hpA _ _ _ rfl | refine hpN ?_ | refine hpD ?_) | ((with_reducible first | refine hpP ?_ ?_ | refine hpT ?_ ?_); (focus (first | omega | (simp [zA, zS, zD, zQ] <;> omega)))) | ((with_reducible refine hpA _ _ _ ?_); (focus (first | omega | (simp [zA, zS, zD, zQ] <;> omega)))) | ((with_reducible refine hpB ?_ ?_); (focus assumption)) | (with_reducible apply hpS)))); intro cb fb hb2 hzb; clear cb))
    go_wp2
    show bodyPost _ _ (fun e w' => e = .returned (.tuple #[evV r.1, .int .i64 r.2.1]) ∧ (Box b mb K F r.2.2 w' ∧ But [b, K.rb] w w')) _ _ _
    refine post_res (B := fun w' => Box b mb K F r.2.2 w' ∧ But [b, K.rb] w w') ?_ rfl ?_
    · rw [← Hr.out]
      exact ⟨H.out.below (by (repeat' (first | (with_reducible first | exact Below.refl _ _ | refine blQ ?_ _ | refine Below.drew ?_ | refine blO ?_ (by assumption) | refine Below.alloc ?_ ?_ _ | refine Below.setCell ?_ ?_ _ | refine Below.frame ?_ _) | omega | (simp only [zA, zS, zD, zQ]; omega)))), But.of_below (by (repeat' (first | (with_reducible first | exact Below.refl _ _ | refine blQ ?_ _ | refine Below.drew ?_ | refine blO ?_ (by assumption) | refine Below.alloc ?_ ?_ _ | refine Below.setCell ?_ ?_ _ | refine Below.frame ?_ _) | omega | (simp only [zA, zS, zD, zQ]; omega))))⟩
    · rw [← Hr.out]
      apply res_at (n := w.heap.size)
      (focus (repeat' (first | (with_reducible first | assumption | exact hpA _ _ _ rfl | refine hpN ?_ | refine hpD ?_) | ((with_reducible first | refine hpP ?_ ?_ | refine hpT ?_ ?_); (focus (first | omega | (simp [zA, zS, zD, zQ] <;> omega)))) | ((with_reducible refine hpA _ _ _ ?_); (focus (first | omega | (simp [zA, zS, zD, zQ] <;> omega)))) | ((with_reducible refine hpB ?_ ?_); (focus assumption)) | (with_reducible apply hpS))))
      intro W' cw
      simp at cw
      simp [results, Try.results20, go_sem, evV, no, cw]
end Go.Proofs.Ytioopcilcgebeaa.CpuA
