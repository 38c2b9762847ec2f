/- Proofs of this claim's family, merged: LawB. -/
import Derived.Test.YtioopcilcgebeaaK6
import Derived.Test.YtioopcilcgebeaaKP4
set_option linter.unusedVariables false
set_option linter.unusedSimpArgs false
/-! #### LawB -/
namespace Go.Proofs.Ytioopcilcgebeaa.CpuA
open Go.RowKit Go.Proofs.Ytioopcilcgebeaa.Base Go.Proofs.YtioopcilcgebeaaW.PrintWords

/-- A slice of words that lay before. -/
def US (A : Option Addr) (l : List Int) (w : World) : Prop := (∀ i, i < l.length → ∃ ad, A = some ad ∧ ad.block < w.heap.size ∧ w.cell? (ad.add i) = some (.int .u32 (l.getD i 0))) ∧ ∀ x ∈ l, 0 ≤ x ∧ x < 4294967296
theorem US.below {A : Option Addr} {l : List Int} {w w' : World} (h : US A l w) (hb : Below w.heap.size w w') : US A l w' := by
  refine ⟨fun i hi => ?_, h.2⟩
  obtain ⟨ad, e, hl, hc⟩ := h.1 i hi
  refine ⟨ad, e, Nat.lt_of_lt_of_le hl hb.size, ?_⟩
  have hbl : (ad.add i).block = ad.block := by unfold Addr.add; split <;> rfl
  rw [hb.cell (p := ad.add i) (by rw [hbl]; exact hl)]
  exact hc
/-- Words as bytes. -/
def wB : List Int → List Int
  | [] => []
  | x :: l => x % 256 :: x / 256 % 256 :: x / 65536 % 256 :: x / 16777216 % 256 :: wB l
theorem wB_len : ∀ l : List Int, (wB l).length = 4 * l.length
  | [] => rfl
  | x :: l => by simp only [wB, List.length_cons, wB_len l]; omega
theorem wB_snoc : ∀ (l : List Int) (x : Int), wB (l ++ [x]) = wB l ++ [x % 256, x / 256 % 256, x / 65536 % 256, x / 16777216 % 256]
  | [], x => rfl
  | y :: l, x => by simp only [List.cons_append, wB, wB_snoc l x]
theorem wB_bytes : ∀ (l : List Int), ∀ c ∈ wB l, 0 ≤ c ∧ c < 256
  | [], c, h => by simp [wB] at h
  | x :: l, c, h => by
    simp only [wB, List.mem_cons] at h
    rcases h with rfl | rfl | rfl | rfl | h
    · omega
    · omega
    · omega
    · omega
    · exact wB_bytes l c h
/-- Registers from x1 on. -/
def rR (l : List Int) : Nat → List Int
  | 0 => List.replicate 32 0
  | k + 1 => (rR l k).set (k + 1) (l.getD k 0)
theorem rR_len (l : List Int) : ∀ k, (rR l k).length = 32
  | 0 => by simp [rR]
  | k + 1 => by simp [rR, rR_len l k]
theorem info5' : (Try.prog.info? 5).map (fun i => (i.zero, i.size, i.bytes)) = some (some (.int .u8 0), 1, 1) := by kernel_rfl
theorem map_calls (w : World) : Calls Try.prog 16 #[] w fun e w' => e = .returned (.agg #[.int .u32 4096, .int .u32 256, .int .u32 2147483648, .int .u32 128]) ∧ Below w.heap.size w w' := by
  go_enter Try.func16, Try.ntmps16
  go_wp2
  exact bodyPost_ret (v := .agg #[.int .u32 4096, .int .u32 256, .int .u32 2147483648, .int .u32 128]) (by simp [results, Try.results16, go_sem]) rfl ⟨rfl, by (exact blZ)⟩
theorem can_map : PCpu.mem_can.f 4096 256 2147483648 128 = some true := by kernel_rfl
theorem row_slice {w : World} {base : Nat} {e : TypeId} {size : Nat} {v : Value} {n : Nat} {xs : List Value} (h : w.ownsRow base e size v n xs) : ∃ A cap, v = .slice A n cap := by
  rcases h.2 with ⟨rfl, rfl⟩ | ⟨g, cap, cur, rfl, _⟩
  · exact ⟨none, 0, rfl⟩
  · exact ⟨_, cap, rfl⟩
theorem below_grown {B : Nat} {a wr w1 : World} {o : Obj} {e : TypeId} {size : Nat} {v : Value} {n : Nat} {xs : List Value} (h : Below B a wr) (hz : B ≤ wr.heap.size) (hown : wr.ownsRow B e size v n xs) (hg : (wr.alloc o).grownBy w1 v.ownBlock) : Below B a w1 := by
  have b1 : But (rowL v) wr w1 := (But.of_below ((Below.refl _ _).alloc (Nat.le_refl _) _)).trans (grown_but hg)
  refine ⟨b1.os.trans h.os, b1.tape.trans h.tape, b1.output.trans h.output, Nat.le_trans h.size b1.size, fun k hk => ?_⟩
  rw [b1.block k (Nat.lt_of_lt_of_le hk hz) ?_, h.block k hk]
  intro hm
  rcases hown.2 with ⟨rfl, _⟩ | ⟨g, cap, cur, rfl, hb, _⟩
  · simp [rowL, Value.ownBlock] at hm
  · simp only [rowL, Value.ownBlock, List.mem_singleton] at hm
    omega
theorem far_cell {w : World} {a b : Addr} {v u : Value} (h : a ≠ b) (hc : w.cell? b = some u) : (w.setCell a v).drew.cell? b = some u := by
  have e : (w.setCell a v).cell? b = w.cell? b := World.cell?_setCell_other (h := h) ..
  exact e.trans hc
/-- The banks of the law's machines. -/
def mapK (fb rb : Nat) : Bk := ⟨4096, 256, 2147483648, 128, fb, rb⟩
theorem mapK_can (fb rb : Nat) : (mapK fb rb).Can := by
  refine ⟨?_, ?_, ?_, ?_⟩
  · show _ ∧ _; simp [mapK]
  · show (4096 : Int) + (256 : Nat) ≤ 4294967296; omega
  · show (2147483648 : Int) + (128 : Nat) ≤ 4294967296; omega
  · left; show (4096 : Int) + (256 : Nat) ≤ 2147483648; omega
/-- Flash with words. -/
def fl (words : List Int) : List Int := spl (List.replicate 256 0) 0 (wB (words.take 60))
def s0 (regs : List Int) : St := ⟨4096, rR regs (min regs.length 31), List.replicate 128 0⟩
/-- Both machines, with the same words and registers. -/
def Began (words regs : List Int) (w : World) (e : Ending) (w' : World) : Prop :=
  ∃ b mb fb rb xb g L v, e = .returned (.tuple #[.pointer (some ⟨b, 0, none⟩), .pointer (some ⟨xb, 0, none⟩), .bool true]) ∧ Box b mb (mapK fb rb) (fl words) (s0 regs) w' ∧ RBox xb g w.heap.size (mapK fb rb) (fl words) (s0 regs) L v w' ∧ L.length ≤ 240 ∧ (w.heap.size ≤ b ∧ w.heap.size ≤ mb ∧ w.heap.size ≤ fb ∧ w.heap.size ≤ rb ∧ w.heap.size ≤ xb ∧ w.heap.size ≤ g) ∧ Below w.heap.size w w'
set_option maxHeartbeats 8000000 in
set_option maxRecDepth 100000 in
theorem rput_nil {g : Nat} (addr : Int) (A : Option Addr) (cap : Nat) (w : World) : Calls Try.prog 46 #[.pointer (some ⟨g, 0, none⟩), .int .u32 addr, .slice A 0 cap] w fun e w' => e = .returned (.bool true) ∧ w' = w := by
  go_enter Try.func46, Try.ntmps46
  go_wp2
  go_loop [7] (fun i => i = .int .i64 0) (fun _ => 0)
  case atStart => rfl
  case round =>
    subst hrel
    go_wp2
    go_returns
    exact ⟨by simp, rfl⟩
theorem bs_row {w : World} {base cap : Nat} {A : Option Addr} {B : List Int} (h : w.ownsRow base 5 1 (.slice A B.length cap) B.length (B.map (Value.int .u8))) : BS A B w := by
  rcases h.2 with ⟨e, h0⟩ | ⟨g, cap', cur, e, hb, hg, h1, h2, h3, h4⟩
  · left
    refine ⟨List.eq_nil_of_length_eq_zero h0, ?_⟩
    cases A with
    | none => exact .inl rfl
    | some a => exact .inr ⟨a, rfl⟩
  · injection e with e1 _ _
    refine .inr ⟨g, 0, cur, (0, 0), e1, hg, fun i hi => ?_⟩
    have e2 : (B.map (Value.int .u8))[i]? = some (.int .u8 (B.getD i 0)) := by
      rw [List.getElem?_map, List.getD_eq_getElem?_getD, List.getElem?_eq_getElem hi]; rfl
    rw [← h4, List.getElem?_take, if_pos (by omega), Array.getElem?_toList] at e2
    rw [Nat.zero_add]
    exact e2
theorem atL_putL : ∀ (B : List Int) (L : List (Int × Int)) (a x : Int), 0 ≤ a → a + B.length ≤ 4294967296 → atL (L ++ putL a B) x = if a ≤ x ∧ x < a + B.length then B.getD (x - a).toNat 0 else atL L x
  | [], L, a, x, _, _ => by
    rw [if_neg (by simp only [List.length_nil]; omega)]; simp [putL]
  | c :: B, L, a, x, h0, h1 => by
    have hl : ((c :: B).length : Int) = B.length + 1 := by simp
    have ih := atL_putL B (L ++ [(a, c)]) (a + 1) x (by omega) (by omega)
    rw [putL, show a % 4294967296 = a from Int.emod_eq_of_lt h0 (by omega)]
    rw [List.append_assoc, List.singleton_append] at ih
    rw [ih, atL_snoc, hl]
    by_cases q : a + 1 ≤ x ∧ x < a + 1 + B.length
    · rw [if_pos q, if_pos (by omega), show (x - a).toNat = (x - (a + 1)).toNat + 1 by omega]; rfl
    · rw [if_neg q]
      by_cases e : a = x
      · rw [if_pos e, if_pos (by omega), show (x - a).toNat = 0 by omega]; rfl
      · rw [if_neg e, if_neg (by omega)]
theorem spl_get (X : List Int) (d : Nat) (B : List Int) (i : Nat) (h : d + B.length ≤ X.length) : (spl X d B).getD i 0 = if d ≤ i ∧ i < d + B.length then B.getD (i - d) 0 else X.getD i 0 := by
  unfold spl
  simp only [List.getD_eq_getElem?_getD]
  have ht : (X.take d).length = d := by rw [List.length_take]; omega
  by_cases q : i < d
  · rw [if_neg (by omega), List.getElem?_append_left (by omega), List.getElem?_take, if_pos q]
  · rw [List.getElem?_append_right (by omega), ht]
    by_cases q2 : i < d + B.length
    · rw [if_pos (by omega), List.getElem?_append_left (by omega)]
    · rw [if_neg (by omega), List.getElem?_append_right (by omega), List.getElem?_drop]
      congr 2
      omega
/-- Flash with words, and the bytes that were put. -/
theorem rel_began (fb rb : Nat) (words : List Int) : Rel (mapK fb rb) (fl words) (List.replicate 128 0) ([] ++ putL 4096 (wB (words.take 60))) := by
  have hl : (wB (words.take 60)).length ≤ 240 := by rw [wB_len, List.length_take]; omega
  have z : ∀ (n i : Nat), (List.replicate n (0 : Int)).getD i 0 = 0 := fun n i => by
    rw [List.getD_eq_getElem?_getD, List.getElem?_replicate]; split <;> rfl
  have z2 : ∀ x, atL [] x = 0 := fun x => rfl
  refine ⟨fun d hd => ?_, fun d hd => ?_⟩
  · have hd' : d < 256 := hd
    show atL _ ((4096 : Int) + d) = _
    rw [atL_putL _ _ _ _ (by omega) (by omega)]
    unfold fl
    rw [spl_get _ _ _ _ (by rw [List.length_replicate]; omega), z, z2]
    by_cases q : d < (wB (words.take 60)).length
    · rw [if_pos (by omega), if_pos (by omega), show ((4096 : Int) + d - 4096).toNat = d - 0 by omega]
    · rw [if_neg (by omega), if_neg (by omega)]
  · have hd' : d < 128 := hd
    show atL _ ((2147483648 : Int) + d) = _
    rw [atL_putL _ _ _ _ (by omega) (by omega), if_neg (by omega), z, z2]
theorem below_of_but {w w' : World} (h : But [] w w') : Below w.heap.size w w' := ⟨h.os, h.tape, h.output, h.size, fun k hk => h.block k hk (by simp)⟩
theorem rR_ok (l : List Int) (h : ∀ x ∈ l, 0 ≤ x ∧ x < 4294967296) : ∀ k, ∀ r ∈ rR l k, 0 ≤ r ∧ r < 4294967296
  | 0, r, hr => by have := List.eq_of_mem_replicate hr; omega
  | k + 1, r, hr => by
    rcases List.mem_or_eq_of_mem_set hr with hr | rfl
    · exact rR_ok l h k r hr
    · rw [List.getD_eq_getElem?_getD]
      cases e : l[k]? with
      | none => simp
      | some y => exact h y (List.mem_of_getElem? e)
theorem s0_ok (fb rb : Nat) (regs : List Int) (h : ∀ x ∈ regs, 0 ≤ x ∧ x < 4294967296) : StOk (mapK fb rb) (s0 regs) :=
  ⟨by show (0 : Int) ≤ 4096; omega, by show (4096 : Int) < 4294967296; omega, rR_len _ _, rR_ok regs h _, List.length_replicate .., fun c hc => by have := List.eq_of_mem_replicate hc; omega⟩
set_option maxHeartbeats 8000000 in
set_option maxRecDepth 100000 in
theorem begins_calls (A0 : Option Addr) (cap0 : Nat) (words : List Int) (A1 : Option Addr) (cap1 : Nat) (regs : List Int) (w : World) (h0 : US A0 words w) (h1 : US A1 regs w) (l0 : words.length ≤ maxLen) (l1 : regs.length ≤ maxLen) :
    Calls Try.prog 25 #[.slice A0 words.length cap0, .slice A1 regs.length cap1] w (Began words regs w) := by
  have Hm := Lib.hid map_calls
  have Hn := Lib.hid (fun W => new_in 4096 2147483648 256 128 can_map (by omega) (by omega) (by omega) (by omega) (by omega) (by omega) W)
  unfold maxLen at l0 l1
  go_enter Try.func25, Try.ntmps25
  go_wp2_with (first
    | (go_at_call 16; (with_reducible refine (Hm.out _).mono ?_); rintro e wm ⟨rfl, hBm⟩; have zm := hBm.size)
    | (go_at_call 15; (refine (Hn.out _).mono ?_); rintro e wn ⟨mb, K, rfl, hK⟩; have zn := hK.bel.size)
    | (go_at_call 17; (refine (new_calls ⟨mb, 0, none⟩ 4096 _).mono ?_); rintro e wc ⟨rfl, hM, hB2⟩; have zc := hB2.size))
  obtain ⟨kf, kfn, kr, krn, fb, rb⟩ := K
  obtain ⟨hMk, q1, q2, q3, q4, hf1, hf2, hf3, hn1, hn2, hbel⟩ := hK
  dsimp only at q1 q2 q3 q4
  subst q1 q2 q3 q4
  have F1 : w.heap.size ≤ mb := Nat.le_trans (by omega) hf1
  have F2 : w.heap.size ≤ fb := Nat.le_trans (by omega) hf2
  have F3 : w.heap.size ≤ rb := Nat.le_trans (by omega) hf3
  have hMem : Mem mb (mapK fb rb) (List.replicate 256 0) (List.replicate 128 0) wc := hMk.below (by (exact blZ))
  have hG : wc.heap[wm.heap.size]? = some (.cells (rcells (mapK fb rb) (.slice none 0 0)) 120 (0, 0)) := heap_below hB2 (heap_past (by simp) (heap_at _ _ _ rfl))
  have hXm : wc.heap[wm.heap.size + 1]? = some (.cells (mcells ⟨wm.heap.size, 0, none⟩ 4096 (List.replicate 32 0)) 89 (0, 0)) := heap_below hB2 (heap_at _ _ _ (by simp))
  have hw0 : Below w.heap.size w wc := by (exact blZ)
  have hMc : IsM (wm.heap.size + 1 + 1) ⟨mb, 0, none⟩ 4096 (List.replicate 32 0) wc := by simpa using hM
  have hu0 := h0.below hw0
  have hu1 := h1.below hw0
  have hbase : w.heap.size ≤ wc.heap.size := hw0.size
  have Hr1 := Lib.hid h1
  have Hu0 := Lib.hid hu0
  have Hu1 := Lib.hid hu1
  have HMem := Lib.hid hMem
  have HMc := Lib.hid hMc
  have HG := Lib.hid hG
  have HX := Lib.hid hXm
  have Hw0 := Lib.hid hw0
  clear hu0 hu1 hMem hMc hG hXm hw0 h0 h1 hM hMk
  obtain ⟨i0, hi0, hz0, hz1, hz2⟩ := info_parts info5'
  go_loopw [11, 12] (fun v i wr => ∃ k : Nat, k ≤ words.length ∧ k ≤ 60 ∧ i = .int .i64 (k : Int) ∧ wr.ownsRow wc.heap.size 5 1 v (4 * k) ((wB (words.take k)).map (Value.int .u8)) ∧ Below wc.heap.size wc wr) (fun _ i _ => 60 - (intOf i).toNat)
  case atStart => exact ⟨0, by omega, by omega, rfl, ⟨rfl, .inr ⟨wc.heap.size, 0, #[], rfl, Nat.le_refl _, heap_at _ _ _ rfl, by omega, by unfold maxLen; omega, rfl, rfl⟩⟩, by (exact blZ)⟩
  case round =>
    obtain ⟨k, hk, hk2, rfl, hrow, hbe⟩ := hrel
    obtain ⟨vA, vc, rfl⟩ := row_slice hrow
    by_cases q : k < words.length ∧ k < 60
    · obtain ⟨p1, p2⟩ := q
      obtain ⟨ad, e0, hadl, hc0⟩ := (Hu0.out.below hbe).1 k p1
      subst e0
      have hx := Hu0.out.2 (words.getD k 0) (by rw [List.getD_eq_getElem?_getD, List.getElem?_eq_getElem p1]; exact List.getElem_mem p1)
      generalize hxx : words.getD k 0 = x at *
      have Hxx := Lib.hid hxx
      have Hrow := Lib.hid hrow
      have Hbe := Lib.hid hbe
      have hzz := hbe.size
      clear hxx hrow hbe
      go_wp2_with (first
        | (at_builtin; refine wpList_append_lies _ rfl _ _ 63 rfl wc.heap.size 5 i0 _ 1 1 Try.underlying63 hi0 hz0 hz1 hz2 rfl (by omega) (.slice vA (4 * k) vc) (4 * k) _ rfl (Hrow.out.alloc _) ⟨wr.heap.size, 0, none⟩ 4 4 [.int .u8 (x % 256), .int .u8 (x / 256 % 256), .int .u8 (x / 65536 % 256), .int .u8 (x / 16777216)] rfl rfl (World.news_of_block (heap_at _ _ _ rfl)) (by simp [Value.oneCell']) (by omega) (by unfold maxLen; omega) (by omega) (by rw [World.size_alloc]; omega) _ rfl ?_; intro r cap1 w1 hown hgrow hat hlt; have HO := Lib.hid hown; have HW := Lib.hid hgrow; have HT := Lib.hid hat; clear hown hgrow hat))
      go_roundw
      case rel =>
        refine ⟨k + 1, by omega, by omega, by go_num, ?_, ?_⟩
        · have e : wB (words.take (k + 1)) = wB (words.take k) ++ [x % 256, x / 256 % 256, x / 65536 % 256, x / 16777216] := by
            rw [List.take_succ_eq_append_getElem p1, wB_snoc]
            have ex : words[k] = x := by rw [← Hxx.out, List.getD_eq_getElem?_getD, List.getElem?_eq_getElem p1]; rfl
            rw [ex, show x / 16777216 % 256 = x / 16777216 by omega]
          rw [e, List.map_append]
          exact HO.out
        · exact below_grown Hbe.out hzz Hrow.out HW.out
      case measure => simp [intOf]; omega
    · have hkk : words.take k = words.take 60 := by
        by_cases c : k < 60
        · rw [List.take_of_length_le (by omega), List.take_of_length_le (by omega)]
        · rw [show k = 60 by omega]
      have hl4 : 4 * k = (wB (words.take 60)).length := by rw [wB_len, ← hkk, List.length_take]; omega
      rw [hkk] at hrow
      have HL4 := Lib.hid hl4
      have Hrow := Lib.hid hrow
      have Hbe := Lib.hid hbe
      have hzz := hbe.size
      have q' : decide (k < words.length) = false ∨ decide (k < 60) = false := by
        by_cases c : k < words.length
        · right; exact decide_eq_false (by omega)
        · left; exact decide_eq_false c
      clear hrow hbe hl4 hkk q'
      have hx1 : wm.heap.size + 1 < wc.heap.size := lt_of_heap HX.out
      have hc1 : wm.heap.size + 1 + 1 < wc.heap.size := lt_of_heap HMc.out.1
      obtain ⟨w2, hw2⟩ : ∃ w2, w2 = wr := ⟨_, rfl⟩
      subst hw2
      by_cases c : k < words.length
      · have c60 : ¬ k < 60 := by omega
        clear q
        go_wp2
        go_loopw [14] (fun i wr => ∃ j : Nat, j ≤ regs.length ∧ j ≤ 31 ∧ i = .int .i64 (j : Int) ∧ IsX (wm.heap.size + 1) ⟨wm.heap.size, 0, none⟩ 4096 (rR regs j) wr ∧ IsM (wm.heap.size + 1 + 1) ⟨mb, 0, none⟩ 4096 (rR regs j) wr ∧ But [wm.heap.size + 1, wm.heap.size + 1 + 1] w2 wr) (fun i _ => 31 - (intOf i).toNat)
        case atStart => exact ⟨0, by omega, by omega, rfl, ⟨(Hbe.out.block _ hx1).trans HX.out, by simp [rR]⟩, ⟨(Hbe.out.block _ hc1).trans HMc.out.1, by simp [rR]⟩, But.refl _ _⟩
        case round =>
          obtain ⟨j, hj, hj2, rfl, hX2, hM2, hB4⟩ := hrel
          by_cases q : j < regs.length ∧ j < 31
          · obtain ⟨p1, p2⟩ := q
            have hs2 := hB4.size
            obtain ⟨ad, e0, hadl, hc0⟩ := Hr1.out.1 j p1
            subst e0
            have hx := Hu1.out.2 (regs.getD j 0) (by rw [List.getD_eq_getElem?_getD, List.getElem?_eq_getElem p1]; exact List.getElem_mem p1)
            have HXj := Lib.hid hX2
            have HMj := Lib.hid hM2
            have HBj := Lib.hid hB4
            have cx := cell_of_heap hX2.1 (2 + (j + 1))
            rw [mcells_reg _ _ _ _ (by rw [hX2.2]; omega)] at cx
            have fx := frozen_of_heap hX2.1 (2 + (j + 1))
            have ei : IntKind.i64.wrap ((j : Int) + 1) = (j : Int) + 1 := by rw [IntKind.wrap_i64]; omega
            have b0 : (0 : Int) ≤ (j : Int) + 1 := by omega
            have b1 : (j : Int) + 1 < 32 := by omega
            have b2 : ((j : Int) + 1).toNat = j + 1 := by omega
            have b3 : (0 : Int) ≤ (j : Int) := by omega
            have b4 : (j : Int) < (regs.length : Int) := by omega
            have cr : wr.cell? (ad.add j) = some (.int .u32 (regs.getD j 0)) := by
              have hbl : (ad.add j).block = ad.block := by unfold Addr.add; split <;> rfl
              have e1 := Hw0.out.cell (p := ad.add j) (by rw [hbl]; exact hadl)
              have e2 := Hbe.out.cell (p := ad.add j) (by rw [hbl]; omega)
              have e3 : wr.heap[(ad.add j).block]? = w2.heap[(ad.add j).block]? := hB4.block _ (by rw [hbl]; omega) (by rw [hbl]; simp; omega)
              rw [World.cell?_of_block e3, e2, e1]
              exact hc0
            have nx : ¬ (ad.add j).block = wm.heap.size + 1 := by
              have hbl : (ad.add j).block = ad.block := by unfold Addr.add; split <;> rfl
              rw [hbl]; omega
            have nx2 : (⟨wm.heap.size + 1, 2 + (j + 1), none⟩ : Addr) ≠ ad.add j := fun e => nx (by rw [← e])
            clear hX2 hM2 hB4 hc0
            generalize (rR regs j).getD (j + 1) 0 = old at *
            generalize hxx : regs.getD j 0 = x at *
            have Hxx := Lib.hid hxx
            clear hxx
            go_wp2
            go_region_held3 (fun u => u.cell? (ad.add j) = some (.int .u32 x)) (first | (go_keep; done) | (exact far_cell nx2 cr)) (fail)
            have cr2 := far_cell (v := .int .u32 x) nx2 cr
            go_wp2_with (first
              | (go_at_call 19; (refine (Set_calls (b := wm.heap.size + 1 + 1) (m := ⟨mb, 0, none⟩) (pc := 4096) (R := rR regs j) ⟨?_, HMj.out.2⟩ _ _).mono ?_); (focus (have hq := HMj.out.1; (exact hpZ))); rintro e w3 ⟨rfl, hM3, hB3⟩))
            go_roundw
            case rel =>
              have hX3 := heap_set (i := 2 + (j + 1)) (v := .int .u32 x) HXj.out.1
              rw [mcells_setreg] at hX3
              have hX4 := hB3.heap (n := wm.heap.size + 1) (by simp) (Base.heap_drew hX3)
              have er : setR (rR regs j) ((j : Int) + 1) x = (rR regs j).set (j + 1) x := by
                unfold setR
                rw [if_pos ⟨by omega, by omega⟩, b2]
              rw [er] at hM3
              have e2 : rR regs (j + 1) = (rR regs j).set (j + 1) x := by rw [rR, Hxx.out]
              refine ⟨j + 1, by omega, by omega, by go_num, ⟨by rw [e2]; exact hX4, rR_len _ _⟩, ⟨by rw [e2]; exact hM3.1, rR_len _ _⟩, ?_⟩
              exact HBj.out.trans (((((But.refl _ _).set _ _ (.inl (by simp))).drewN 1)).trans (hB3.mono (by simp)))
            case measure => simp [intOf]; omega
          · obtain rfl : j = min regs.length 31 := by omega
            have hs2 := hB4.size
            have b6 : But [wm.heap.size + 1, wm.heap.size + 1 + 1] wc wr := (But.of_below Hbe.out).trans hB4
            have hGr := b6.heap (n := wm.heap.size) (by simp; omega) HG.out
            have cx0 := cell_of_heap hX2.1 0
            rw [mcells_mem] at cx0
            have d1 : mb ≠ wm.heap.size + 1 := blk_ne HMem.out.mem HX.out (by decide)
            have d2 : mb ≠ wm.heap.size + 1 + 1 := blk_ne HMem.out.mem HMc.out.1 (by decide)
            have d3 : fb ≠ wm.heap.size + 1 := blk_ne HMem.out.flash HX.out (by decide)
            have d4 : fb ≠ wm.heap.size + 1 + 1 := blk_ne HMem.out.flash HMc.out.1 (by decide)
            have d5 : rb ≠ wm.heap.size + 1 := blk_ne HMem.out.ram HX.out (by decide)
            have d6 : rb ≠ wm.heap.size + 1 + 1 := blk_ne HMem.out.ram HMc.out.1 (by decide)
            have hMr := HMem.out.but b6 (by simp; exact ⟨d1, d2⟩) (by simp; exact ⟨d3, d4⟩) (by simp; exact ⟨d5, d6⟩)
            have hRM : RM wm.heap.size w.heap.size (mapK fb rb) [] (.slice none 0 0) wr := ⟨hGr, ⟨rfl, .inl ⟨rfl, rfl⟩⟩, by simp⟩
            have hrow2 : wr.ownsRow wc.heap.size 5 1 (.slice vA (4 * k) vc) (4 * k) ((wB (words.take 60)).map (Value.int .u8)) := by
              refine ⟨Hrow.out.1, ?_⟩
              rcases Hrow.out.2 with q | ⟨g, cp, cur, e, hb, hg, q⟩
              · exact .inl q
              · exact .inr ⟨g, cp, cur, e, hb, hB4.heap (by simp; omega) hg, q⟩
            rw [HL4.out] at hrow2 ⊢
            have hBS := bs_row hrow2
            have HX2 := Lib.hid hX2
            have HM2 := Lib.hid hM2
            have HB6 := Lib.hid b6
            have HRM := Lib.hid hRM
            have HBS := Lib.hid hBS
            have HMr := Lib.hid hMr
            have e1 : mb ≠ wm.heap.size := blk_ne hMr.mem hGr (by decide)
            have e2 : fb ≠ wm.heap.size := blk_ne hMr.flash hGr (by decide)
            have e3 : rb ≠ wm.heap.size := blk_ne hMr.ram hGr (by decide)
            have e4 : wm.heap.size + 1 ≠ fb := blk_ne hX2.1 hMr.flash (by decide)
            have e5 : wm.heap.size + 1 + 1 ≠ fb := blk_ne hM2.1 hMr.flash (by decide)
            have Hsz := Lib.hid hB4.size
            clear hX2 hM2 hB4 b6 hRM hBS hMr hrow2 hGr
            have hBlen : (wB (words.take 60)).length ≤ 240 := by rw [wB_len, List.length_take]; omega
            have Hby := Lib.hid (wB_bytes (words.take 60))
            have Hrel := Lib.hid (rel_began fb rb words)
            have hfl : fl words = spl (List.replicate 256 0) 0 (wB (words.take 60)) := rfl
            have Hfl := Lib.hid hfl
            clear hfl
            generalize hB : wB (words.take 60) = B at *
            by_cases hz : B.length = 0
            · obtain rfl : B = [] := List.eq_nil_of_length_eq_zero hz
              clear hz
              have Hp0 := Lib.hid (put_flash0 HMr.out 4096 (by omega) vA vc (by show (4096 : Int) ≤ 4096 ∧ (0 : Int) ≤ 1 ∧ (4096 : Int) - 4096 + 1 ≤ (256 : Nat); omega))
              simp only [List.length_nil]
              go_wp2_with (first
                | (go_at_call 46; (refine (rput_nil _ _ _ _).mono ?_); rintro e w3 ⟨rfl, rfl⟩)
                | (go_at_call 59; (refine Hp0.out.mono ?_); rintro e w4 ⟨rfl, hB4⟩; have HB4 := Lib.hid hB4; clear hB4))
              all_goals
                go_returns
                have m4 := HMr.out.below HB4.out
                have ef : fl words = List.replicate 256 0 := by rw [Hfl.out]; rfl
                rw [← ef] at m4
                have im := heap_below HB4.out HM2.out.1
                have ix := heap_below HB4.out HX2.out.1
                have ok := s0_ok fb rb regs Hr1.out.2
                have rm := HRM.out.below HB4.out
                have rl := Hrel.out
                refine ⟨wm.heap.size + 1 + 1, mb, fb, rb, wm.heap.size + 1, wm.heap.size, [], .slice none 0 0, by simp, ⟨⟨im, rR_len _ _⟩, m4, ok, ?_, ?_, ?_, ?_, hn2⟩, ⟨⟨ix, rR_len _ _⟩, rm, rl, ok, m4.fl, m4.fbytes, mapK_can fb rb, ?_⟩, by simp, ⟨by omega, F1, F2, F3, by omega, by omega⟩, ?_⟩
                · exact blk_ne im m4.mem (by decide)
                · exact blk_ne im m4.flash (by decide)
                · exact blk_ne im m4.ram (by decide)
                · exact blk_ne m4.mem m4.ram (by decide)
                · have a1 := HB4.out.size; have a3 := Hsz.out; have a4 := Hw0.out.size; omega
                · exact below_of_but ((((But.of_below Hw0.out).trans (HB6.out.mono (m := [wm.heap.size + 1, wm.heap.size + 1 + 1]) (by simp +contextual))).trans (But.of_below HB4.out)).lose (by intro q hq; right; simp at hq; rcases hq with rfl | rfl <;> omega))
            · have hpos : 0 < B.length := by omega
              have hin : InB (mapK fb rb).f (mapK fb rb).fn 4096 B.length := by show (4096 : Int) ≤ 4096 ∧ 0 ≤ (B.length : Int) ∧ (4096 : Int) - 4096 + B.length ≤ (256 : Nat); omega
              have Hin := Lib.hid hin
              have Hrp := Lib.hid (rput_in HRM.out (mapK_can fb rb) (by omega) (by simp) 4096 (by omega) vA vc B HBS.out Hby.out hpos (by unfold hasB; rw [decide_eq_true hin]; rfl))
              clear hin
              go_wp2_with (first
                | (go_at_call 46; (refine Hrp.out.mono ?_); rintro e w3 ⟨rfl, v', hM3, hB3, hR3⟩; have HM3 := Lib.hid hM3; have HB3 := Lib.hid hB3; have HR3 := Lib.hid hR3; clear hM3 hB3 hR3)
                | (go_at_call 59; (refine (put_flash (K := mapK fb rb) (F := List.replicate 256 0) (R := List.replicate 128 0) ?_ hn2 4096 (by omega) vA vc B ?_ Hby.out hpos Hin.out).mono ?_); (focus (exact HMr.out.but HB3.out (by simp [rowL, Value.ownBlock]; exact e1) (by simp [rowL, Value.ownBlock]; exact e2) (by simp [rowL, Value.ownBlock]; exact e3))); (focus (exact HBS.out.but HB3.out (fun bb X fr hb => HRM.out.no5 bb X fr hb))); rintro e w4 ⟨rfl, hM4, hB4⟩; have HM4 := Lib.hid hM4; have HB4 := Lib.hid hB4; clear hM4 hB4))
              all_goals
                go_returns
                have f1 : But [wm.heap.size] wr w3 := HB3.out.mono (by simp [rowL, Value.ownBlock])
                have f2 : But [fb] w3 w4 := HB4.out
                have m4 := HM4.out
                rw [show ((4096 : Int) - (mapK fb rb).f).toNat = 0 from rfl, ← Hfl.out] at m4
                have im := f2.heap (n := wm.heap.size + 1 + 1) (by simp; exact e5) (f1.heap (by simp; omega) HM2.out.1)
                have ix := f2.heap (n := wm.heap.size + 1) (by simp; exact e4) (f1.heap (by simp) HX2.out.1)
                have ok := s0_ok fb rb regs Hr1.out.2
                have rm := HM3.out.but f2 (by simp; exact Ne.symm e2) (fun q hq => by
                  have h5 := HM3.out.ne (f1.heap (n := fb) (by simp; exact e2) HMr.out.flash) (by decide)
                  rw [List.mem_singleton]
                  rintro rfl
                  exact h5 hq)
                have rl := Hrel.out
                refine ⟨wm.heap.size + 1 + 1, mb, fb, rb, wm.heap.size + 1, wm.heap.size, [] ++ putL 4096 B, v', by simp, ⟨⟨im, rR_len _ _⟩, m4, ok, ?_, ?_, ?_, ?_, hn2⟩, ⟨⟨ix, rR_len _ _⟩, rm, rl, ok, m4.fl, m4.fbytes, mapK_can fb rb, ?_⟩, by simp [putL_len]; exact hBlen, ⟨by omega, F1, F2, F3, by omega, by omega⟩, ?_⟩
                · exact blk_ne im m4.mem (by decide)
                · exact blk_ne im m4.flash (by decide)
                · exact blk_ne im m4.ram (by decide)
                · exact blk_ne m4.mem m4.ram (by decide)
                · have a1 := f1.size; have a2 := f2.size; have a3 := Hsz.out; have a4 := Hw0.out.size; omega
                · exact below_of_but (((((But.of_below Hw0.out).trans (HB6.out.mono (m := [wm.heap.size + 1, wm.heap.size + 1 + 1, wm.heap.size, fb]) (by simp +contextual))).trans (f1.mono (m := [wm.heap.size + 1, wm.heap.size + 1 + 1, wm.heap.size, fb]) (by simp +contextual))).trans (f2.mono (m := [wm.heap.size + 1, wm.heap.size + 1 + 1, wm.heap.size, fb]) (by simp +contextual))).lose (by intro q hq; right; simp at hq; rcases hq with rfl | rfl | rfl | rfl <;> omega))
      · clear q
        go_wp2
        go_loopw [14] (fun i wr => ∃ j : Nat, j ≤ regs.length ∧ j ≤ 31 ∧ i = .int .i64 (j : Int) ∧ IsX (wm.heap.size + 1) ⟨wm.heap.size, 0, none⟩ 4096 (rR regs j) wr ∧ IsM (wm.heap.size + 1 + 1) ⟨mb, 0, none⟩ 4096 (rR regs j) wr ∧ But [wm.heap.size + 1, wm.heap.size + 1 + 1] w2 wr) (fun i _ => 31 - (intOf i).toNat)
        case atStart => exact ⟨0, by omega, by omega, rfl, ⟨(Hbe.out.block _ hx1).trans HX.out, by simp [rR]⟩, ⟨(Hbe.out.block _ hc1).trans HMc.out.1, by simp [rR]⟩, But.refl _ _⟩
        case round =>
          obtain ⟨j, hj, hj2, rfl, hX2, hM2, hB4⟩ := hrel
          by_cases q : j < regs.length ∧ j < 31
          · obtain ⟨p1, p2⟩ := q
            have hs2 := hB4.size
            obtain ⟨ad, e0, hadl, hc0⟩ := Hr1.out.1 j p1
            subst e0
            have hx := Hu1.out.2 (regs.getD j 0) (by rw [List.getD_eq_getElem?_getD, List.getElem?_eq_getElem p1]; exact List.getElem_mem p1)
            have HXj := Lib.hid hX2
            have HMj := Lib.hid hM2
            have HBj := Lib.hid hB4
            have cx := cell_of_heap hX2.1 (2 + (j + 1))
            rw [mcells_reg _ _ _ _ (by rw [hX2.2]; omega)] at cx
            have fx := frozen_of_heap hX2.1 (2 + (j + 1))
            have ei : IntKind.i64.wrap ((j : Int) + 1) = (j : Int) + 1 := by rw [IntKind.wrap_i64]; omega
            have b0 : (0 : Int) ≤ (j : Int) + 1 := by omega
            have b1 : (j : Int) + 1 < 32 := by omega
            have b2 : ((j : Int) + 1).toNat = j + 1 := by omega
            have b3 : (0 : Int) ≤ (j : Int) := by omega
            have b4 : (j : Int) < (regs.length : Int) := by omega
            have cr : wr.cell? (ad.add j) = some (.int .u32 (regs.getD j 0)) := by
              have hbl : (ad.add j).block = ad.block := by unfold Addr.add; split <;> rfl
              have e1 := Hw0.out.cell (p := ad.add j) (by rw [hbl]; exact hadl)
              have e2 := Hbe.out.cell (p := ad.add j) (by rw [hbl]; omega)
              have e3 : wr.heap[(ad.add j).block]? = w2.heap[(ad.add j).block]? := hB4.block _ (by rw [hbl]; omega) (by rw [hbl]; simp; omega)
              rw [World.cell?_of_block e3, e2, e1]
              exact hc0
            have nx : ¬ (ad.add j).block = wm.heap.size + 1 := by
              have hbl : (ad.add j).block = ad.block := by unfold Addr.add; split <;> rfl
              rw [hbl]; omega
            have nx2 : (⟨wm.heap.size + 1, 2 + (j + 1), none⟩ : Addr) ≠ ad.add j := fun e => nx (by rw [← e])
            clear hX2 hM2 hB4 hc0
            generalize (rR regs j).getD (j + 1) 0 = old at *
            generalize hxx : regs.getD j 0 = x at *
            have Hxx := Lib.hid hxx
            clear hxx
            go_wp2
            go_region_held3 (fun u => u.cell? (ad.add j) = some (.int .u32 x)) (first | (go_keep; done) | (exact far_cell nx2 cr)) (fail)
            have cr2 := far_cell (v := .int .u32 x) nx2 cr
            go_wp2_with (first
              | (go_at_call 19; (refine (Set_calls (b := wm.heap.size + 1 + 1) (m := ⟨mb, 0, none⟩) (pc := 4096) (R := rR regs j) ⟨?_, HMj.out.2⟩ _ _).mono ?_); (focus (have hq := HMj.out.1; (exact hpZ))); rintro e w3 ⟨rfl, hM3, hB3⟩))
            go_roundw
            case rel =>
              have hX3 := heap_set (i := 2 + (j + 1)) (v := .int .u32 x) HXj.out.1
              rw [mcells_setreg] at hX3
              have hX4 := hB3.heap (n := wm.heap.size + 1) (by simp) (Base.heap_drew hX3)
              have er : setR (rR regs j) ((j : Int) + 1) x = (rR regs j).set (j + 1) x := by
                unfold setR
                rw [if_pos ⟨by omega, by omega⟩, b2]
              rw [er] at hM3
              have e2 : rR regs (j + 1) = (rR regs j).set (j + 1) x := by rw [rR, Hxx.out]
              refine ⟨j + 1, by omega, by omega, by go_num, ⟨by rw [e2]; exact hX4, rR_len _ _⟩, ⟨by rw [e2]; exact hM3.1, rR_len _ _⟩, ?_⟩
              exact HBj.out.trans (((((But.refl _ _).set _ _ (.inl (by simp))).drewN 1)).trans (hB3.mono (by simp)))
            case measure => simp [intOf]; omega
          · obtain rfl : j = min regs.length 31 := by omega
            have hs2 := hB4.size
            have b6 : But [wm.heap.size + 1, wm.heap.size + 1 + 1] wc wr := (But.of_below Hbe.out).trans hB4
            have hGr := b6.heap (n := wm.heap.size) (by simp; omega) HG.out
            have cx0 := cell_of_heap hX2.1 0
            rw [mcells_mem] at cx0
            have d1 : mb ≠ wm.heap.size + 1 := blk_ne HMem.out.mem HX.out (by decide)
            have d2 : mb ≠ wm.heap.size + 1 + 1 := blk_ne HMem.out.mem HMc.out.1 (by decide)
            have d3 : fb ≠ wm.heap.size + 1 := blk_ne HMem.out.flash HX.out (by decide)
            have d4 : fb ≠ wm.heap.size + 1 + 1 := blk_ne HMem.out.flash HMc.out.1 (by decide)
            have d5 : rb ≠ wm.heap.size + 1 := blk_ne HMem.out.ram HX.out (by decide)
            have d6 : rb ≠ wm.heap.size + 1 + 1 := blk_ne HMem.out.ram HMc.out.1 (by decide)
            have hMr := HMem.out.but b6 (by simp; exact ⟨d1, d2⟩) (by simp; exact ⟨d3, d4⟩) (by simp; exact ⟨d5, d6⟩)
            have hRM : RM wm.heap.size w.heap.size (mapK fb rb) [] (.slice none 0 0) wr := ⟨hGr, ⟨rfl, .inl ⟨rfl, rfl⟩⟩, by simp⟩
            have hrow2 : wr.ownsRow wc.heap.size 5 1 (.slice vA (4 * k) vc) (4 * k) ((wB (words.take 60)).map (Value.int .u8)) := by
              refine ⟨Hrow.out.1, ?_⟩
              rcases Hrow.out.2 with q | ⟨g, cp, cur, e, hb, hg, q⟩
              · exact .inl q
              · exact .inr ⟨g, cp, cur, e, hb, hB4.heap (by simp; omega) hg, q⟩
            rw [HL4.out] at hrow2 ⊢
            have hBS := bs_row hrow2
            have HX2 := Lib.hid hX2
            have HM2 := Lib.hid hM2
            have HB6 := Lib.hid b6
            have HRM := Lib.hid hRM
            have HBS := Lib.hid hBS
            have HMr := Lib.hid hMr
            have e1 : mb ≠ wm.heap.size := blk_ne hMr.mem hGr (by decide)
            have e2 : fb ≠ wm.heap.size := blk_ne hMr.flash hGr (by decide)
            have e3 : rb ≠ wm.heap.size := blk_ne hMr.ram hGr (by decide)
            have e4 : wm.heap.size + 1 ≠ fb := blk_ne hX2.1 hMr.flash (by decide)
            have e5 : wm.heap.size + 1 + 1 ≠ fb := blk_ne hM2.1 hMr.flash (by decide)
            have Hsz := Lib.hid hB4.size
            clear hX2 hM2 hB4 b6 hRM hBS hMr hrow2 hGr
            have hBlen : (wB (words.take 60)).length ≤ 240 := by rw [wB_len, List.length_take]; omega
            have Hby := Lib.hid (wB_bytes (words.take 60))
            have Hrel := Lib.hid (rel_began fb rb words)
            have hfl : fl words = spl (List.replicate 256 0) 0 (wB (words.take 60)) := rfl
            have Hfl := Lib.hid hfl
            clear hfl
            generalize hB : wB (words.take 60) = B at *
            by_cases hz : B.length = 0
            · obtain rfl : B = [] := List.eq_nil_of_length_eq_zero hz
              clear hz
              have Hp0 := Lib.hid (put_flash0 HMr.out 4096 (by omega) vA vc (by show (4096 : Int) ≤ 4096 ∧ (0 : Int) ≤ 1 ∧ (4096 : Int) - 4096 + 1 ≤ (256 : Nat); omega))
              simp only [List.length_nil]
              go_wp2_with (first
                | (go_at_call 46; (refine (rput_nil _ _ _ _).mono ?_); rintro e w3 ⟨rfl, rfl⟩)
                | (go_at_call 59; (refine Hp0.out.mono ?_); rintro e w4 ⟨rfl, hB4⟩; have HB4 := Lib.hid hB4; clear hB4))
              all_goals
                go_returns
                have m4 := HMr.out.below HB4.out
                have ef : fl words = List.replicate 256 0 := by rw [Hfl.out]; rfl
                rw [← ef] at m4
                have im := heap_below HB4.out HM2.out.1
                have ix := heap_below HB4.out HX2.out.1
                have ok := s0_ok fb rb regs Hr1.out.2
                have rm := HRM.out.below HB4.out
                have rl := Hrel.out
                refine ⟨wm.heap.size + 1 + 1, mb, fb, rb, wm.heap.size + 1, wm.heap.size, [], .slice none 0 0, by simp, ⟨⟨im, rR_len _ _⟩, m4, ok, ?_, ?_, ?_, ?_, hn2⟩, ⟨⟨ix, rR_len _ _⟩, rm, rl, ok, m4.fl, m4.fbytes, mapK_can fb rb, ?_⟩, by simp, ⟨by omega, F1, F2, F3, by omega, by omega⟩, ?_⟩
                · exact blk_ne im m4.mem (by decide)
                · exact blk_ne im m4.flash (by decide)
                · exact blk_ne im m4.ram (by decide)
                · exact blk_ne m4.mem m4.ram (by decide)
                · have a1 := HB4.out.size; have a3 := Hsz.out; have a4 := Hw0.out.size; omega
                · exact below_of_but ((((But.of_below Hw0.out).trans (HB6.out.mono (m := [wm.heap.size + 1, wm.heap.size + 1 + 1]) (by simp +contextual))).trans (But.of_below HB4.out)).lose (by intro q hq; right; simp at hq; rcases hq with rfl | rfl <;> omega))
            · have hpos : 0 < B.length := by omega
              have hin : InB (mapK fb rb).f (mapK fb rb).fn 4096 B.length := by show (4096 : Int) ≤ 4096 ∧ 0 ≤ (B.length : Int) ∧ (4096 : Int) - 4096 + B.length ≤ (256 : Nat); omega
              have Hin := Lib.hid hin
              have Hrp := Lib.hid (rput_in HRM.out (mapK_can fb rb) (by omega) (by simp) 4096 (by omega) vA vc B HBS.out Hby.out hpos (by unfold hasB; rw [decide_eq_true hin]; rfl))
              clear hin
              go_wp2_with (first
                | (go_at_call 46; (refine Hrp.out.mono ?_); rintro e w3 ⟨rfl, v', hM3, hB3, hR3⟩; have HM3 := Lib.hid hM3; have HB3 := Lib.hid hB3; have HR3 := Lib.hid hR3; clear hM3 hB3 hR3)
                | (go_at_call 59; (refine (put_flash (K := mapK fb rb) (F := List.replicate 256 0) (R := List.replicate 128 0) ?_ hn2 4096 (by omega) vA vc B ?_ Hby.out hpos Hin.out).mono ?_); (focus (exact HMr.out.but HB3.out (by simp [rowL, Value.ownBlock]; exact e1) (by simp [rowL, Value.ownBlock]; exact e2) (by simp [rowL, Value.ownBlock]; exact e3))); (focus (exact HBS.out.but HB3.out (fun bb X fr hb => HRM.out.no5 bb X fr hb))); rintro e w4 ⟨rfl, hM4, hB4⟩; have HM4 := Lib.hid hM4; have HB4 := Lib.hid hB4; clear hM4 hB4))
              all_goals
                go_returns
                have f1 : But [wm.heap.size] wr w3 := HB3.out.mono (by simp [rowL, Value.ownBlock])
                have f2 : But [fb] w3 w4 := HB4.out
                have m4 := HM4.out
                rw [show ((4096 : Int) - (mapK fb rb).f).toNat = 0 from rfl, ← Hfl.out] at m4
                have im := f2.heap (n := wm.heap.size + 1 + 1) (by simp; exact e5) (f1.heap (by simp; omega) HM2.out.1)
                have ix := f2.heap (n := wm.heap.size + 1) (by simp; exact e4) (f1.heap (by simp) HX2.out.1)
                have ok := s0_ok fb rb regs Hr1.out.2
                have rm := HM3.out.but f2 (by simp; exact Ne.symm e2) (fun q hq => by
                  have h5 := HM3.out.ne (f1.heap (n := fb) (by simp; exact e2) HMr.out.flash) (by decide)
                  rw [List.mem_singleton]
                  rintro rfl
                  exact h5 hq)
                have rl := Hrel.out
                refine ⟨wm.heap.size + 1 + 1, mb, fb, rb, wm.heap.size + 1, wm.heap.size, [] ++ putL 4096 B, v', by simp, ⟨⟨im, rR_len _ _⟩, m4, ok, ?_, ?_, ?_, ?_, hn2⟩, ⟨⟨ix, rR_len _ _⟩, rm, rl, ok, m4.fl, m4.fbytes, mapK_can fb rb, ?_⟩, by simp [putL_len]; exact hBlen, ⟨by omega, F1, F2, F3, by omega, by omega⟩, ?_⟩
                · exact blk_ne im m4.mem (by decide)
                · exact blk_ne im m4.flash (by decide)
                · exact blk_ne im m4.ram (by decide)
                · exact blk_ne m4.mem m4.ram (by decide)
                · have a1 := f1.size; have a2 := f2.size; have a3 := Hsz.out; have a4 := Hw0.out.size; omega
                · exact below_of_but (((((But.of_below Hw0.out).trans (HB6.out.mono (m := [wm.heap.size + 1, wm.heap.size + 1 + 1, wm.heap.size, fb]) (by simp +contextual))).trans (f1.mono (m := [wm.heap.size + 1, wm.heap.size + 1 + 1, wm.heap.size, fb]) (by simp +contextual))).trans (f2.mono (m := [wm.heap.size + 1, wm.heap.size + 1 + 1, wm.heap.size, fb]) (by simp +contextual))).lose (by intro q hq; right; simp at hq; rcases hq with rfl | rfl | rfl | rfl <;> omega))
end Go.Proofs.Ytioopcilcgebeaa.CpuA
