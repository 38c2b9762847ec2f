/- Bytes put into a memory, wherever they lie. -/
import Derived.Test.YtioopcilcgebeaaImgE
import Derived.Test.YtioopcilcgebeaaMemJ
set_option linter.unusedVariables false
set_option linter.unusedSimpArgs false
namespace Go.Proofs.Ytioopcilcgebeaa.CpuA
open Go.RowKit Go.Proofs.Ytioopcilcgebeaa.Base Go.Proofs.YtioopcilcgebeaaW.PrintWords

set_option maxHeartbeats 8000000 in
set_option maxRecDepth 100000 in
theorem putf_calls {b : Nat} {K : Bk} {F R : List Int} {w : World} (h : Mem b K F R w) (hn : K.fb ≠ K.rb) (addr : Int) (ha : 0 ≤ addr ∧ addr < 4294967296) (ad : Addr) (cap : Nat) (B : List Int) (hB : ∀ w1, Below w.heap.size w w1 → ∀ j v, (B.map (Value.int .u8))[j]? = some v → w1.cell? (ad.add j) = some v) (hw : ∀ c ∈ B, 0 ≤ c ∧ c < 256) (h0 : 0 < B.length)
    (hi : InB K.f K.fn addr B.length) :
    Calls Try.prog 59 #[.pointer (some ⟨b, 0, none⟩), .int .u32 addr, .slice (some ad) B.length cap] w fun e w' => e = .returned (.bool true) ∧ Mem b K (spl F (addr - K.f).toNat B) R w' ∧ But [K.fb] w w' := by
  have hbf : b ≠ K.fb := blk_ne h.mem h.flash (by decide)
  have hi' := hi
  unfold InB at hi'
  have Hp := Lib.hid (mpart_flash h.mem h.ok addr (addr - K.f).toNat B.length ha.2 (by omega) (by omega) (by omega))
  have hl : (addr - K.f).toNat + B.length ≤ F.length := by rw [h.fl]; omega
  generalize (addr - K.f).toNat = d at *
  have H := Lib.hid h
  have HS := Lib.hid hB
  have Hw := Lib.hid hw
  clear h hB hw hi hi'
  go_enter Try.func59, Try.ntmps59
  go_wp2_with (first
    | (go_at_call 68; (refine Hp.out.mono ?_); rintro e w1 ⟨rfl, hB1⟩; (have hfl : w1.heap[K.fb]? = some (.cells (F.map (Value.int .u8)).toArray 5 (0, 0)) := heap_below hB1 H.out.flash); have Hs := Lib.hid (HS.out w1 hB1))
    | (refine wpList_copy_own rfl (.tmp 18) (.tmp 19) 63 63 rfl 5 Try.underlying63 info5z K.fb d B.length (K.fn - d) ad B.length cap (by rfl) (by rfl) _ 5 hfl (B.map (Value.int .u8)) (by simp) Hs.out (by simpa using hl) (by simp [Value.oneCell']) ?_))
  go_returns
  have hr : IsBytes K.rb R w1 := heap_below hB1 H.out.ram
  have hm : IsMem b K w1 := heap_below hB1 H.out.mem
  refine ⟨by simp, ⟨H.out.ok, ?_, ?_, ?_, by rw [spl_len _ _ _ hl]; exact H.out.fl, H.out.rl, spl_bytes d H.out.fbytes Hw.out, H.out.rbytes⟩, ?_⟩
  · exact ((But.refl [K.fb] _).setRow _ _ (by simp)).heap (by simpa using hbf) hm
  · have := bytes_row hfl d B
    simpa using this
  · exact ((But.refl [K.fb] _).setRow _ _ (by simp)).heap (by simpa using Ne.symm hn) hr
  · exact (But.of_below hB1).setRow _ _ (by simp)
set_option maxHeartbeats 8000000 in
set_option maxRecDepth 100000 in
theorem putr_calls {b : Nat} {K : Bk} {F R : List Int} {w : World} (h : Mem b K F R w) (hn : K.fb ≠ K.rb) (addr : Int) (ha : 0 ≤ addr ∧ addr < 4294967296) (ad : Addr) (cap : Nat) (B : List Int) (hB : ∀ w1, Below w.heap.size w w1 → ∀ j v, (B.map (Value.int .u8))[j]? = some v → w1.cell? (ad.add j) = some v) (hw : ∀ c ∈ B, 0 ≤ c ∧ c < 256) (h0 : 0 < B.length)
    (hi : InB K.r K.rn addr B.length) (hf : ¬ InB K.f K.fn addr B.length) :
    Calls Try.prog 59 #[.pointer (some ⟨b, 0, none⟩), .int .u32 addr, .slice (some ad) B.length cap] w fun e w' => e = .returned (.bool true) ∧ Mem b K F (spl R (addr - K.r).toNat B) w' ∧ But [K.rb] w w' := by
  have hbf : b ≠ K.rb := blk_ne h.mem h.ram (by decide)
  have hi' := hi
  unfold InB at hi'
  have Hp := Lib.hid (mpart_ram h.mem h.ok addr (addr - K.r).toNat B.length ha.2 (by omega) (by omega) (by omega) hf)
  have hl : (addr - K.r).toNat + B.length ≤ R.length := by rw [h.rl]; omega
  generalize (addr - K.r).toNat = d at *
  have H := Lib.hid h
  have HS := Lib.hid hB
  have Hw := Lib.hid hw
  clear h hB hw hi hi' hf
  go_enter Try.func59, Try.ntmps59
  go_wp2_with (first
    | (go_at_call 68; (refine Hp.out.mono ?_); rintro e w1 ⟨rfl, hB1⟩; (have hfl : w1.heap[K.rb]? = some (.cells (R.map (Value.int .u8)).toArray 5 (0, 0)) := heap_below hB1 H.out.ram); have Hs := Lib.hid (HS.out w1 hB1))
    | (refine wpList_copy_own rfl (.tmp 18) (.tmp 19) 63 63 rfl 5 Try.underlying63 info5z K.rb d B.length (K.rn - d) ad B.length cap (by rfl) (by rfl) _ 5 hfl (B.map (Value.int .u8)) (by simp) Hs.out (by simpa using hl) (by simp [Value.oneCell']) ?_))
  go_returns
  have hr : IsBytes K.fb F w1 := heap_below hB1 H.out.flash
  have hm : IsMem b K w1 := heap_below hB1 H.out.mem
  refine ⟨by simp, ⟨H.out.ok, ?_, ?_, ?_, H.out.fl, by rw [spl_len _ _ _ hl]; exact H.out.rl, H.out.fbytes, spl_bytes d H.out.rbytes Hw.out⟩, ?_⟩
  · exact ((But.refl [K.rb] _).setRow _ _ (by simp)).heap (by simpa using hbf) hm
  · exact ((But.refl [K.rb] _).setRow _ _ (by simp)).heap (by simpa using hn) hr
  · have := bytes_row hfl d B
    simpa using this
  · exact (But.of_below hB1).setRow _ _ (by simp)
end Go.Proofs.Ytioopcilcgebeaa.CpuA
