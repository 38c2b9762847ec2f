/- Proofs of this claim's family, merged: RmA, RmB. -/
import Derived.Test.YtioopcilcgebeaaKO
import Derived.Maps.AppendAt
import Derived.Deep.AppendLies
import Derived.Test.YtioopcilcgebeaaKP4
set_option linter.unusedVariables false
set_option linter.unusedSimpArgs false
/-! #### RmA -/
namespace Go.Proofs.Ytioopcilcgebeaa.CpuA
open Go.RowKit Go.Proofs.Ytioopcilcgebeaa.Base Go.Proofs.YtioopcilcgebeaaW.PrintWords

def flat : List (Int × Int) → List Value
  | [] => []
  | x :: l => .int .u32 x.1 :: .int .u8 x.2 :: flat l
theorem flat_length : ∀ l : List (Int × Int), (flat l).length = l.length * 2
  | [] => rfl
  | x :: l => by simp only [flat, List.length_cons, flat_length l]; omega
theorem flat_append : ∀ l m : List (Int × Int), flat (l ++ m) = flat l ++ flat m
  | [], _ => rfl
  | x :: l, m => by simp only [flat, List.cons_append, flat_append l m]
theorem flat_get : ∀ (l : List (Int × Int)) (k : Nat), k < l.length → (flat l)[k * 2]? = some (.int .u32 (l.getD k (0, 0)).1) ∧ (flat l)[k * 2 + 1]? = some (.int .u8 (l.getD k (0, 0)).2)
  | [], k, h => absurd h (by simp)
  | x :: l, 0, _ => ⟨rfl, rfl⟩
  | x :: l, k + 1, h => by
    have ih := flat_get l k (by simpa using h)
    rw [show (k + 1) * 2 = k * 2 + 2 by omega]
    simp only [flat, List.getElem?_cons_succ, List.getD_cons_succ]
    exact ih
/-- The byte that was last written at an address. -/
def atL (l : List (Int × Int)) (a : Int) : Int := l.foldl (fun acc x => if x.1 = a then x.2 else acc) 0
theorem atL_snoc (l : List (Int × Int)) (x : Int × Int) (a : Int) : atL (l ++ [x]) a = if x.1 = a then x.2 else atL l a := by
  unfold atL; rw [List.foldl_append]; rfl
theorem atL_take (l : List (Int × Int)) (k : Nat) (h : k < l.length) (a : Int) : atL (l.take (k + 1)) a = if (l.getD k (0, 0)).1 = a then (l.getD k (0, 0)).2 else atL (l.take k) a := by
  rw [List.take_succ_eq_append_getElem h, atL_snoc]
  simp [List.getD_eq_getElem?_getD, List.getElem?_eq_getElem h]
theorem atL_bd (l : List (Int × Int)) (h : ∀ x ∈ l, 0 ≤ x.2 ∧ x.2 < 256) (a : Int) : 0 ≤ atL l a ∧ atL l a < 256 := by
  unfold atL
  suffices ∀ (l : List (Int × Int)) (acc : Int), (∀ x ∈ l, 0 ≤ x.2 ∧ x.2 < 256) → 0 ≤ acc ∧ acc < 256 → 0 ≤ l.foldl (fun acc x => if x.1 = a then x.2 else acc) acc ∧ l.foldl (fun acc x => if x.1 = a then x.2 else acc) acc < 256 from this l 0 h (by omega)
  intro l
  induction l with
  | nil => intro acc _ h; exact h
  | cons x l ih =>
    intro acc hl ha
    rw [List.foldl_cons]
    refine ih _ (fun y hy => hl y (List.mem_cons_of_mem _ hy)) ?_
    split
    · exact hl x (List.mem_cons_self ..)
    · exact ha
def rcells (K : Bk) (v : Value) : Array Value := #[.int .u32 K.f, .int .u32 K.fn, .int .u32 K.r, .int .u32 K.rn, v]
/-- The reference's memory in block g. -/
structure RM (g base : Nat) (K : Bk) (L : List (Int × Int)) (v : Value) (w : World) : Prop where
  mem : w.heap[g]? = some (.cells (rcells K v) 120 (0, 0))
  row : w.ownsRow base 141 2 v L.length (flat L)
  wide : ∀ x ∈ L, 0 ≤ x.2 ∧ x.2 < 256
/-- The block of a row, if there is one. -/
def rowL (v : Value) : List Nat := match v.ownBlock with | some r => [r] | none => []
theorem RM.ne {g base : Nat} {K : Bk} {L : List (Int × Int)} {v : Value} {w : World} (h : RM g base K L v w) {k : Nat} {c : Array Value} {t : TypeId} {fr : Nat × Nat} (hk : w.heap[k]? = some (.cells c t fr)) (ht : t ≠ 141) : k ∉ rowL v := by
  rcases h.row.2 with ⟨rfl, _⟩ | ⟨r, cap, cur, rfl, hb, hr, _⟩
  · simp [rowL, Value.ownBlock]
  · simp only [rowL, Value.ownBlock, List.mem_singleton]
    rintro rfl
    rw [hr] at hk
    injection hk with hk
    injection hk with _ hk _
    exact ht hk.symm
theorem RM.but {g base : Nat} {K : Bk} {L : List (Int × Int)} {v : Value} {l : List Nat} {w w' : World} (h : RM g base K L v w) (hb : But l w w') (h1 : g ∉ l) (h2 : ∀ k ∈ rowL v, k ∉ l) : RM g base K L v w' := by
  refine ⟨hb.heap h1 h.mem, ⟨h.row.1, ?_⟩, h.wide⟩
  rcases h.row.2 with q | ⟨r, cap, cur, rfl, hbs, hr, q⟩
  · exact .inl q
  · exact .inr ⟨r, cap, cur, rfl, hbs, hb.heap (h2 r (by simp [rowL, Value.ownBlock])) hr, q⟩
theorem RM.below {g base : Nat} {K : Bk} {L : List (Int × Int)} {v : Value} {w w' : World} (h : RM g base K L v w) (hb : Below w.heap.size w w') : RM g base K L v w' := h.but (l := []) (But.of_below hb) (by simp) (by simp)
theorem RM.drewN {g base : Nat} {K : Bk} {L : List (Int × Int)} {v : Value} {w : World} (h : RM g base K L v w) (n : Nat) : RM g base K L v (w.drewN n) := h.below (below_drewQ (Below.refl _ _) n)
theorem RM.len {g base : Nat} {K : Bk} {L : List (Int × Int)} {v : Value} {w : World} (h : RM g base K L v w) : (∃ r cap, v = .slice r L.length cap) ∧ L.length ≤ maxLen := by
  rcases h.row.2 with ⟨rfl, q⟩ | ⟨r, cap, cur, rfl, hb, hr, h1, h2, _⟩
  · exact ⟨⟨none, 0, by rw [q]⟩, by omega⟩
  · exact ⟨⟨_, cap, rfl⟩, by omega⟩
theorem RM.cell {g base : Nat} {K : Bk} {L : List (Int × Int)} {v : Value} {w : World} (h : RM g base K L v w) (k : Nat) (hk : k < L.length) :
    ∃ r cap, v = .slice (some ⟨r, 0, none⟩) L.length cap ∧ w.cell? ⟨r, k * 2, none⟩ = some (.int .u32 (L.getD k (0, 0)).1) ∧ w.cell? ⟨r, k * 2 + 1, none⟩ = some (.int .u8 (L.getD k (0, 0)).2) := by
  rcases h.row.2 with ⟨rfl, q⟩ | ⟨r, cap, cur, rfl, hb, hr, h1, h2, h3, h4⟩
  · omega
  · refine ⟨r, cap, rfl, ?_⟩
    have f := flat_get L k hk
    rw [← h4] at f
    rw [List.getElem?_take, List.getElem?_take, if_pos (by omega), if_pos (by omega), Array.getElem?_toList, Array.getElem?_toList] at f
    exact ⟨(cell_of_heap hr _).trans f.1, (cell_of_heap hr _).trans f.2⟩
set_option maxHeartbeats 8000000 in
set_option maxRecDepth 100000 in
theorem at_calls {g base : Nat} {K : Bk} {L : List (Int × Int)} {v : Value} {w : World} (h : RM g base K L v w) (a : Int) :
    Calls Try.prog 64 #[.pointer (some ⟨g, 0, none⟩), .int .u32 a] w fun e w' => e = .returned (.int .u8 (atL L a)) ∧ w' = w := by
  obtain ⟨⟨A, cap, rfl⟩, hl⟩ := h.len
  have c4 : w.cell? ⟨g, 4, none⟩ = some (.slice A L.length cap) := cell_of_heap h.mem 4
  have H := Lib.hid h
  have hl' := hl
  unfold maxLen at hl'
  clear h hl
  go_enter Try.func64, Try.ntmps64
  go_wp2
  go_loop [5] (fun i => ∃ k : Nat, k ≤ L.length ∧ i = .int .i64 ((k : Int) - 1) ∧ atL (L.take k) a = atL L a) (fun i => (intOf i + 1).toNat)
  case atStart => exact ⟨L.length, Nat.le_refl _, rfl, by rw [List.take_length]⟩
  case round =>
    obtain ⟨k, hk, rfl, hr⟩ := hrel
    have HR := Lib.hid hr
    clear hr
    cases k with
    | zero =>
      have h0 : atL L a = 0 := by have := HR.out; simp [atL] at this; simp [atL, ← this]
      have H0 := Lib.hid h0
      clear h0 HR
      go_wp2
      go_ret
      exact ⟨by rw [H0.out]; rfl, rfl⟩
    | succ k =>
      obtain ⟨r, cap', e, c1, c2⟩ := H.out.cell k (by omega)
      obtain ⟨rfl, rfl⟩ : A = some ⟨r, 0, none⟩ ∧ cap = cap' := by injection e with e1 _ e2; exact ⟨e1, e2⟩
      clear e
      have ht := atL_take L k (by omega) a
      rw [HR.out] at ht
      have HT := Lib.hid ht
      clear ht HR
      rw [show ((k + 1 : Nat) : Int) - 1 = (k : Int) by omega]
      have hkl : k < L.length := by omega
      generalize L.getD k (0, 0) = x at *
      by_cases q : x.1 = a
      · have q1 : (x.1 == a) = true := by simpa using q
        have h0 := HT.out
        rw [if_pos q] at h0
        have H0 := Lib.hid h0
        clear h0 HT q
        go_wp2
        go_ret
        exact ⟨by rw [H0.out]; rfl, rfl⟩
      · have q1 : (x.1 == a) = false := by simpa using q
        have h0 := HT.out
        rw [if_neg q] at h0
        have H0 := Lib.hid h0
        clear h0 HT q
        go_wp2
        go_round
        case rel => exact ⟨k, by omega, rfl, H0.out.symm⟩
        case measure => simp [intOf]
end Go.Proofs.Ytioopcilcgebeaa.CpuA
/-! #### RmB -/
namespace Go.Proofs.Ytioopcilcgebeaa.CpuA
open Go.RowKit Go.Proofs.Ytioopcilcgebeaa.Base Go.Proofs.YtioopcilcgebeaaW.PrintWords

theorem in_eq (base_ size addr n : Int) (hb : 0 ≤ base_ ∧ base_ < 4294967296) (hs : 0 ≤ size ∧ size ≤ 1048576) (ha : 0 ≤ addr ∧ addr < 4294967296) (hn : n < 4294967296) : 
    PCpu.pintleref05_in.f base_ size addr n = some (decide (base_ ≤ addr ∧ 0 ≤ n ∧ addr - base_ + n ≤ size)) := by
  unfold PCpu.pintleref05_in.f
  rw [AluP.w64 addr (by omega) (by omega), AluP.w64 base_ (by omega) (by omega), AluP.w64 size (by omega) (by omega), AluP.w64 (base_ + size) (by omega) (by omega), AluP.w64 _ (by omega) (by omega)]
  by_cases a : n ≥ 0
  · rw [if_pos a]
    by_cases b : addr ≥ base_
    · rw [if_pos b]; congr 1; rw [Bool.eq_iff_iff]; simp only [decide_eq_true_eq]; omega
    · rw [if_neg b]; congr 1; symm; rw [decide_eq_false_iff_not]; omega
  · rw [if_neg a]; congr 1; symm; rw [decide_eq_false_iff_not]; omega
theorem InB_dec (base_ : Int) (size : Nat) (addr n : Int) : decide (base_ ≤ addr ∧ 0 ≤ n ∧ addr - base_ + n ≤ size) = decide (InB base_ size addr n) := rfl
theorem in_calls (base_ : Int) (size : Nat) (addr n : Int) (hb : 0 ≤ base_ ∧ base_ < 4294967296) (hs : size ≤ 1048576) (ha : 0 ≤ addr ∧ addr < 4294967296) (hn : n < 4294967296) (w : World) :
    Calls Try.prog 107 #[.int .u32 base_, .int .u32 size, .int .u32 addr, .int .i64 n] w fun e w' => e = .returned (.bool (decide (InB base_ size addr n))) ∧ ∃ n, w' = w.drewN n :=
  (PCpu.pintleref05_in.calls _ _ _ _ _ w (in_eq base_ size addr n hb (by omega) ha hn)).mono fun e w' h => ⟨h.1, h.2.out⟩
set_option maxHeartbeats 8000000 in
set_option maxRecDepth 100000 in
theorem flash_calls {g base : Nat} {K : Bk} {L : List (Int × Int)} {v : Value} {w : World} (h : RM g base K L v w) (hK : K.Ok) (addr n : Int) (ha : 0 ≤ addr ∧ addr < 4294967296) (hn : n < 4294967296) :
    Calls Try.prog 76 #[.pointer (some ⟨g, 0, none⟩), .int .u32 addr, .int .i64 n] w fun e w' => e = .returned (.bool (decide (InB K.f K.fn addr n))) ∧ ∃ n, w' = w.drewN n := by
  unfold Bk.Ok at hK
  have c0 : w.cell? ⟨g, 0, none⟩ = some (.int .u32 K.f) := cell_of_heap h.mem 0
  have c1 : w.cell? ⟨g, 1, none⟩ = some (.int .u32 K.fn) := cell_of_heap h.mem 1
  have Hi := Lib.hid (in_calls K.f K.fn addr n (by omega) (by omega) ha hn)
  generalize decide (InB K.f K.fn addr n) = r at *
  clear h
  go_enter Try.func76, Try.ntmps76
  go_wp2_with fail
  go_quiet ((go_at_call 107; exact Calls.quiet_of (Hi.out _)))
  go_wp2
  go_returns
  exact ⟨by simp, _, rfl⟩
set_option maxHeartbeats 8000000 in
set_option maxRecDepth 100000 in
theorem ram_calls {g base : Nat} {K : Bk} {L : List (Int × Int)} {v : Value} {w : World} (h : RM g base K L v w) (hK : K.Ok) (addr n : Int) (ha : 0 ≤ addr ∧ addr < 4294967296) (hn : n < 4294967296) :
    Calls Try.prog 77 #[.pointer (some ⟨g, 0, none⟩), .int .u32 addr, .int .i64 n] w fun e w' => e = .returned (.bool (decide (InB K.r K.rn addr n))) ∧ ∃ n, w' = w.drewN n := by
  unfold Bk.Ok at hK
  have c0 : w.cell? ⟨g, 2, none⟩ = some (.int .u32 K.r) := cell_of_heap h.mem 2
  have c1 : w.cell? ⟨g, 3, none⟩ = some (.int .u32 K.rn) := cell_of_heap h.mem 3
  have Hi := Lib.hid (in_calls K.r K.rn addr n (by omega) (by omega) ha hn)
  generalize decide (InB K.r K.rn addr n) = r at *
  clear h
  go_enter Try.func77, Try.ntmps77
  go_wp2_with fail
  go_quiet ((go_at_call 107; exact Calls.quiet_of (Hi.out _)))
  go_wp2
  go_returns
  exact ⟨by simp, _, rfl⟩
/-- Whether bytes lie in flash or in RAM. -/
def hasB (K : Bk) (addr n : Int) : Bool := decide (InB K.f K.fn addr n) || decide (InB K.r K.rn addr n)
set_option maxHeartbeats 8000000 in
set_option maxRecDepth 100000 in
theorem has_calls {g base : Nat} {K : Bk} {L : List (Int × Int)} {v : Value} {w : World} (h : RM g base K L v w) (hK : K.Ok) (addr n : Int) (ha : 0 ≤ addr ∧ addr < 4294967296) (hn : n < 4294967296) :
    Calls Try.prog 49 #[.pointer (some ⟨g, 0, none⟩), .int .u32 addr, .int .i64 n] w fun e w' => e = .returned (.bool (hasB K addr n)) ∧ ∃ n, w' = w.drewN n := by
  have H1 := Lib.hid (flash_calls h hK addr n ha hn)
  have H2 := Lib.hid (fun m => ram_calls (h.drewN m) hK addr n ha hn)
  unfold hasB
  clear h
  generalize decide (InB K.f K.fn addr n) = r1 at *
  generalize decide (InB K.r K.rn addr n) = r2 at *
  cases r1 with
  | true =>
    go_enter Try.func49, Try.ntmps49
    go_wp2_with (first
      | (go_at_call 76; (with_reducible refine H1.out.mono ?_); rintro e w' ⟨rfl, n1, rfl⟩))
    go_returns
    exact ⟨by simp, _, rfl⟩
  | false =>
    go_enter Try.func49, Try.ntmps49
    go_wp2_with (first
      | (go_at_call 76; (with_reducible refine H1.out.mono ?_); rintro e w' ⟨rfl, n1, rfl⟩)
      | (go_at_call 77; (with_reducible refine (H2.out _).mono ?_); rintro e w' ⟨rfl, n2, rfl⟩))
    go_returns
    exact ⟨by simp, _, rfl⟩
/-- So many bytes from an address on. -/
def bytesL (L : List (Int × Int)) (a : Int) : Nat → List Int
  | 0 => []
  | k + 1 => atL L (a % 4294967296) :: bytesL L (a + 1) k
theorem bytesL_len (L : List (Int × Int)) : ∀ (k : Nat) (a : Int), (bytesL L a k).length = k
  | 0, _ => rfl
  | k + 1, a => by simp only [bytesL, List.length_cons, bytesL_len L k]
theorem bytesL_get (L : List (Int × Int)) : ∀ (k : Nat) (a : Int) (i : Nat), i < k → (bytesL L a k)[i]? = some (atL L ((a + i) % 4294967296))
  | 0, _, _, h => absurd h (by omega)
  | k + 1, a, 0, _ => by simp [bytesL]
  | k + 1, a, i + 1, h => by
    simp only [bytesL, List.getElem?_cons_succ]
    rw [bytesL_get L k (a + 1) i (by omega)]
    congr 3
    omega
theorem bytesL_bd (L : List (Int × Int)) (h : ∀ x ∈ L, 0 ≤ x.2 ∧ x.2 < 256) : ∀ (k : Nat) (a : Int), ∀ c ∈ bytesL L a k, 0 ≤ c ∧ c < 256
  | 0, _, _, hc => by simp [bytesL] at hc
  | k + 1, a, c, hc => by
    rcases List.mem_cons.1 hc with rfl | hc
    · exact atL_bd L h _
    · exact bytesL_bd L h k _ c hc
/-- The bytes behind the first i, as a number. -/
theorem bytesL_snoc (L : List (Int × Int)) : ∀ (k : Nat) (a : Int), bytesL L a (k + 1) = bytesL L a k ++ [atL L ((a + k) % 4294967296)]
  | 0, a => by simp [bytesL]
  | k + 1, a => by
    rw [bytesL, bytesL_snoc L k (a + 1), bytesL, List.cons_append]
    congr 5
    omega
set_option maxHeartbeats 8000000 in
set_option maxRecDepth 100000 in
theorem word_calls {g base : Nat} {K : Bk} {L : List (Int × Int)} {v : Value} {w : World} (h : RM g base K L v w) (addr : Int) (ha : 0 ≤ addr ∧ addr < 4294967296) (n : Nat) (hn : n = 1 ∨ n = 2 ∨ n = 4) :
    Calls Try.prog 75 #[.pointer (some ⟨g, 0, none⟩), .int .u32 addr, .int .i64 (n : Int)] w fun e w' => e = .returned (.int .u32 (leS (bytesL L addr n))) ∧ w' = w := by
  have Ha := Lib.hid (fun a => at_calls h a)
  have hw := h.wide
  have Hb := Lib.hid (fun (a : Int) => atL_bd L hw a)
  have hbd := Lib.hid (fun k (a : Int) => leS_bd _ (bytesL_bd L hw k a))
  have hlen := Lib.hid (bytesL_len L)
  clear h hw
  go_enter Try.func75, Try.ntmps75
  go_wp2
  go_loop [7, 8] (fun x i => ∃ k : Nat, k ≤ n ∧ i = .int .i64 ((k : Int) - 1) ∧ x = .int .u32 (leS (bytesL L (addr + k) (n - k)))) (fun _ i => (intOf i + 1).toNat)
  case atStart => exact ⟨n, Nat.le_refl _, rfl, by rw [Nat.sub_self]; rfl⟩
  case round =>
    obtain ⟨k, hk, rfl, rfl⟩ := hrel
    cases k with
    | zero =>
      go_wp2
      go_ret
      refine ⟨?_, rfl⟩
      simp
    | succ k =>
      rw [show ((k + 1 : Nat) : Int) - 1 = (k : Int) by omega]
      have e1 : leS (bytesL L (addr + (k : Int)) (n - k)) = atL L ((addr + k) % 4294967296) + 256 * leS (bytesL L (addr + ((k + 1 : Nat) : Int)) (n - (k + 1))) := by
        rw [show n - k = (n - (k + 1)) + 1 by omega, bytesL, leS, show addr + (k : Int) + 1 = addr + ((k + 1 : Nat) : Int) by omega]
      have E1 := Lib.hid e1
      have b1 := hbd.out (n - (k + 1)) (addr + ((k + 1 : Nat) : Int))
      rw [hlen.out] at b1
      have b2 : leS (bytesL L (addr + ((k + 1 : Nat) : Int)) (n - (k + 1))) < 16777216 := by
        refine Int.lt_of_lt_of_le b1.2 ?_
        have : n - (k + 1) = 0 ∨ n - (k + 1) = 1 ∨ n - (k + 1) = 2 ∨ n - (k + 1) = 3 := by omega
        rcases this with e | e | e | e <;> rw [e] <;> decide
      have b0 := b1.1
      clear b1 e1
      generalize leS (bytesL L (addr + ((k + 1 : Nat) : Int)) (n - (k + 1))) = y at *
      have hb := Hb.out ((addr + k) % 4294967296)
      have Ha1 := Lib.hid (Ha.out ((addr + k) % 4294967296))
      generalize hz : atL L ((addr + k) % 4294967296) = z at *
      have hk32 : (k : Int) < 4 := by omega
      go_wp2_with (first
        | (go_at_call 64; (with_reducible refine Ha1.out.mono ?_); rintro e w' ⟨rfl, rfl⟩))
      refine ⟨⟨k, by omega, rfl, ?_⟩, by simp [intOf]⟩
      rw [E1.out]
      congr 1
      omega
/-- Both memories hold the same bytes. -/
structure Rel (K : Bk) (F M : List Int) (L : List (Int × Int)) : Prop where
  flash : ∀ d : Nat, d < K.fn → atL L (K.f + d) = F.getD d 0
  ram : ∀ d : Nat, d < K.rn → atL L (K.r + d) = M.getD d 0
/-- Banks that may be. -/
structure Bk.Can (K : Bk) : Prop where
  ok : K.Ok
  fe : K.f + K.fn ≤ 4294967296
  re : K.r + K.rn ≤ 4294967296
  apart : K.f + K.fn ≤ K.r ∨ K.r + K.rn ≤ K.f
theorem bytes_rel {L : List (Int × Int)} {X : List Int} {base_ : Int} {n : Nat} (hl : X.length = n) (he : 0 ≤ base_ ∧ base_ + n ≤ 4294967296) (hr : ∀ d : Nat, d < n → atL L (base_ + d) = X.getD d 0) (addr : Int) (k : Nat) (hi : InB base_ n addr k) :
    bytesL L addr k = (X.drop (addr - base_).toNat).take k := by
  unfold InB at hi
  apply List.ext_getElem?
  intro i
  by_cases h : i < k
  · rw [bytesL_get L k addr i h, List.getElem?_take, if_pos h, List.getElem?_drop]
    have e := hr ((addr - base_).toNat + i) (by omega)
    rw [show (addr + (i : Int)) % 4294967296 = base_ + (((addr - base_).toNat + i : Nat) : Int) by omega, e, List.getD_eq_getElem?_getD, List.getElem?_eq_getElem (by omega)]
    rfl
  · rw [List.getElem?_eq_none (by rw [bytesL_len]; omega), List.getElem?_eq_none (by rw [List.length_take, List.length_drop]; omega)]
theorem bytesAt_rel {K : Bk} {F M : List Int} {L : List (Int × Int)} (hc : K.Can) (fl : F.length = K.fn) (rl : M.length = K.rn) (h : Rel K F M L) (addr : Int) (k : Nat) :
    bytesAt K F M addr k = if hasB K addr k = true then some (bytesL L addr k) else none := by
  have ok := hc.ok
  unfold Bk.Ok at ok
  unfold bytesAt hasB
  by_cases q : InB K.f K.fn addr k
  · rw [if_pos q, if_pos (by simp [q]), bytes_rel fl ⟨ok.1, hc.fe⟩ h.flash addr k q]
  · rw [if_neg q]
    by_cases q2 : InB K.r K.rn addr k
    · rw [if_pos q2, if_pos (by simp [q2]), bytes_rel rl ⟨ok.2.2.1, hc.re⟩ h.ram addr k q2]
    · rw [if_neg q2, if_neg (by simp [q, q2])]
theorem fetchS_rel {K : Bk} {F M : List Int} {L : List (Int × Int)} (hc : K.Can) (fl : F.length = K.fn) (rl : M.length = K.rn) (h : Rel K F M L) (addr : Int) :
    fetchS K F M addr = if addr % 4 = 0 then (if hasB K addr 4 = true then (leS (bytesL L addr 4), 0) else (0, 2)) else (0, 1) := by
  unfold fetchS
  rw [bytesAt_rel hc fl rl h]
  split
  · by_cases q : hasB K addr (4 : Nat) = true
    · rw [if_pos q]; exact (if_pos q).symm
    · rw [if_neg q]; exact (if_neg q).symm
  · rfl
theorem loadS_rel {K : Bk} {F M : List Int} {L : List (Int × Int)} (hc : K.Can) (fl : F.length = K.fn) (rl : M.length = K.rn) (h : Rel K F M L) (addr : Int) (k : Nat) :
    loadS K F M addr k = if addr % k = 0 then (if hasB K addr k = true then (leS (bytesL L addr k), 0) else (0, 3)) else (0, 1) := by
  unfold loadS
  rw [bytesAt_rel hc fl rl h]
  split
  · by_cases q : hasB K addr k = true
    · rw [if_pos q, if_pos q]
    · rw [if_neg q, if_neg q]
  · rfl
set_option maxHeartbeats 8000000 in
set_option maxRecDepth 100000 in
theorem rfetch_calls {g base : Nat} {K : Bk} {L : List (Int × Int)} {v : Value} {w : World} (h : RM g base K L v w) (hK : K.Ok) (addr : Int) (ha : 0 ≤ addr ∧ addr < 4294967296) :
    Calls Try.prog 61 #[.pointer (some ⟨g, 0, none⟩), .int .u32 addr] w fun e w' => e = .returned (.tuple #[.int .u32 (if addr % 4 = 0 then (if hasB K addr 4 = true then (leS (bytesL L addr 4), 0) else (0, 2)) else (0, 1) : Int × Int).1, .int .i64 (if addr % 4 = 0 then (if hasB K addr 4 = true then (leS (bytesL L addr 4), 0) else (0, 2)) else (0, 1) : Int × Int).2]) ∧ ∃ n, w' = w.drewN n := by
  have t1 : addr.tmod 4 = addr % 4 := Int.tmod_eq_emod_of_nonneg ha.1
  by_cases q : addr % 4 = 0
  · simp only [if_pos q]
    have q1 : (addr % 4 != 0) = false := by simpa using q
    have Hh := Lib.hid (has_calls h hK addr 4 ha (by omega))
    have Hw := Lib.hid (fun m => word_calls (h.drewN m) addr ha 4 (by omega))
    clear h q
    cases hb : hasB K addr 4 with
    | false =>
      rw [hb] at Hh
      clear hb
      simp only [Bool.false_eq_true, if_false]
      go_enter Try.func61, Try.ntmps61
      go_wp2_with (first
        | (go_at_call 49; (with_reducible refine Hh.out.mono ?_); rintro e w' ⟨rfl, n1, rfl⟩))
      go_returns
      exact ⟨by simp, _, rfl⟩
    | true =>
      rw [hb] at Hh
      clear hb
      simp only [if_true]
      go_enter Try.func61, Try.ntmps61
      go_wp2_with (first
        | (go_at_call 49; (with_reducible refine Hh.out.mono ?_); rintro e w' ⟨rfl, n1, rfl⟩)
        | (go_at_call 75; (refine (Hw.out _).mono ?_); rintro e w' ⟨rfl, rfl⟩))
      go_returns
      exact ⟨by simp, _, rfl⟩
  · simp only [if_neg q]
    have q1 : (addr % 4 != 0) = true := by simpa using q
    clear h
    go_enter Try.func61, Try.ntmps61
    go_wp2_with fail
    go_returns
    exact ⟨by simp, 0, rfl⟩
set_option maxHeartbeats 8000000 in
set_option maxRecDepth 100000 in
theorem rload_calls {g base : Nat} {K : Bk} {L : List (Int × Int)} {v : Value} {w : World} (h : RM g base K L v w) (hK : K.Ok) (addr : Int) (ha : 0 ≤ addr ∧ addr < 4294967296) (k : Nat) (hk : k = 1 ∨ k = 2 ∨ k = 4) :
    Calls Try.prog 44 #[.pointer (some ⟨g, 0, none⟩), .int .u32 addr, .int .i64 (k : Int)] w fun e w' => e = .returned (.tuple #[.int .u32 (if addr % k = 0 then (if hasB K addr k = true then (leS (bytesL L addr k), 0) else (0, 3)) else (0, 1) : Int × Int).1, .int .i64 (if addr % k = 0 then (if hasB K addr k = true then (leS (bytesL L addr k), 0) else (0, 3)) else (0, 1) : Int × Int).2]) ∧ ∃ n, w' = w.drewN n := by
  have t1 : addr.tmod (k : Int) = addr % (k : Int) := Int.tmod_eq_emod_of_nonneg ha.1
  have t2 : (k : Int) % 4294967296 = (k : Int) := by omega
  have t3 : ((k : Int) == 0) = false := by rw [beq_eq_false_iff_ne]; omega
  have t4 : ((k : Int) != 1 && ((k : Int) != 2 && (k : Int) != 4)) = false := by rcases hk with rfl | rfl | rfl <;> rfl
  by_cases q : addr % (k : Int) = 0
  · simp only [if_pos q]
    have q1 : (addr % (k : Int) != 0) = false := by simpa using q
    have Hh := Lib.hid (fun m => has_calls (h.drewN m) hK addr k ha (by omega))
    have Hw := Lib.hid (fun m => word_calls (h.drewN m) addr ha k hk)
    clear h q
    cases hb : hasB K addr k with
    | false =>
      rw [hb] at Hh
      clear hb
      simp only [Bool.false_eq_true, if_false]
      rcases hk with rfl | rfl | rfl
      all_goals
        go_enter Try.func44, Try.ntmps44
        go_wp2_with (first
          | (go_at_call 49; (refine (Hh.out 0).mono ?_); rintro e w' ⟨rfl, n1, rfl⟩))
        go_returns
        exact ⟨by simp, _, rfl⟩
    | true =>
      rw [hb] at Hh
      clear hb
      simp only [if_true]
      rcases hk with rfl | rfl | rfl
      all_goals
        go_enter Try.func44, Try.ntmps44
        go_wp2_with (first
          | (go_at_call 49; (refine (Hh.out 0).mono ?_); rintro e w' ⟨rfl, n1, rfl⟩)
          | (go_at_call 75; (refine (Hw.out _).mono ?_); rintro e w' ⟨rfl, rfl⟩))
        go_returns
        exact ⟨by simp, _, rfl⟩
  · simp only [if_neg q]
    have q1 : (addr % (k : Int) != 0) = true := by simpa using q
    clear h
    rcases hk with rfl | rfl | rfl
    · exact absurd (by omega) q
    all_goals
      go_enter Try.func44, Try.ntmps44
      go_wp2_with fail
      go_returns
      exact ⟨by simp, 0, rfl⟩
end Go.Proofs.Ytioopcilcgebeaa.CpuA
