import Derived.Test.YtmmckdjbbbmdgaaLirB
namespace Go.Proofs.Ytmmckdjbbbmdgaa.LirA
open Go.RowKit Go.Proofs.YtmmckdjbbbmdgaaW.PrintWords Go.Proofs.YtmmckdjbbbmdgaaW.PrintLast Go.Proofs.YtmmckdjbbbmdgaaW.PrintMore
open Go.Proofs.Ytmmckdjbbbmdgaa.PLir

/-! ### Where loops end -/
/-- From place i on (m places are left), d loops being open: where the first end stands that closes none of them. -/
def endF (op : Nat → Int) : Nat → Nat → Nat → Option Nat
  | 0, _, _ => none
  | m + 1, d, i => if op i = 24 ∧ d = 0 then some i else endF op m (if op i = 24 then d - 1 else if op i = 23 then d + 1 else d) (i + 1)
theorem endF_lt {op : Nat → Int} : ∀ {m d i e : Nat}, endF op m d i = some e → i ≤ e ∧ e < i + m ∧ op e = 24
  | 0, _, _, _, h => by simp [endF] at h
  | m + 1, d, i, e, h => by
    unfold endF at h
    split at h
    · rename_i hc
      obtain rfl := Option.some.inj h
      exact ⟨by omega, by omega, hc.1⟩
    · have := endF_lt h
      exact ⟨by omega, by omega, this.2.2⟩
def opAt (l : List S33) (i : Nat) : Int := (l.getD i z33).f0
theorem f0_at (l : List S33) (j : Nat) : (rd_T33 l (j : Int)).f0 = opAt l j := by rw [rdT]; rfl
/-- Where the loop that begins at j ends. -/
def E (l : List S33) (j : Nat) : Option Nat := endF (opAt l) (l.length - (j + 1)) 0 (j + 1)
/-- The stack of loops that are open at place i, the innermost first; c: how many there are within. -/
def Open (l : List S33) (i : Nat) : Nat → List Nat → Prop
  | _, [] => True
  | c, j :: st => opAt l j = 23 ∧ j < i ∧ E l j = endF (opAt l) (l.length - i) c i ∧ Open l i (c + 1) st
theorem endF_at {op : Nat → Int} {n i c : Nat} (hi : i < n) : endF op (n - i) c i = if op i = 24 ∧ c = 0 then some i else endF op (n - (i + 1)) (if op i = 24 then c - 1 else if op i = 23 then c + 1 else c) (i + 1) := by
  obtain ⟨m, hm⟩ : ∃ m, n - i = m + 1 := ⟨n - i - 1, by omega⟩
  rw [hm, show n - (i + 1) = m by omega]
  rfl
theorem Open_end {l : List S33} {i : Nat} (hi : i < l.length) (h4 : opAt l i = 24) : ∀ {c : Nat} {st : List Nat}, Open l i (c + 1) st → Open l (i + 1) c st
  | _, [], _ => trivial
  | c, j :: st, h => ⟨h.1, by have := h.2.1; omega, by rw [h.2.2.1, endF_at hi, if_neg (by omega), if_pos h4]; rfl, Open_end hi h4 h.2.2.2⟩
theorem Open_begin {l : List S33} {i : Nat} (hi : i < l.length) (h3 : opAt l i = 23) : ∀ {c : Nat} {st : List Nat}, Open l i c st → Open l (i + 1) (c + 1) st
  | _, [], _ => trivial
  | c, j :: st, h => ⟨h.1, by have := h.2.1; omega, by rw [h.2.2.1, endF_at hi, if_neg (by omega), if_neg (by omega), if_pos h3], Open_begin hi h3 h.2.2.2⟩
theorem Open_else {l : List S33} {i : Nat} (hi : i < l.length) (h3 : opAt l i ≠ 23) (h4 : opAt l i ≠ 24) : ∀ {c : Nat} {st : List Nat}, Open l i c st → Open l (i + 1) c st
  | _, [], _ => trivial
  | c, j :: st, h => ⟨h.1, by have := h.2.1; omega, by rw [h.2.2.1, endF_at hi, if_neg (by omega), if_neg h4, if_neg h3], Open_else hi h3 h4 h.2.2.2⟩
theorem Open_mem {l : List S33} {i : Nat} : ∀ {c : Nat} {st : List Nat}, Open l i c st → ∀ j ∈ st, opAt l j = 23 ∧ j < i ∧ ∃ d, c ≤ d ∧ E l j = endF (opAt l) (l.length - i) d i
  | c, j :: st, h, x, hx => by
    rcases List.mem_cons.1 hx with rfl | hx
    · exact ⟨h.1, h.2.1, c, Nat.le_refl _, h.2.2.1⟩
    · obtain ⟨a, b, d, hd, e⟩ := Open_mem h.2.2.2 x hx
      exact ⟨a, b, d, by omega, e⟩
/-- At an end, of the open loops the innermost one alone ends there. -/
theorem Open_top {l : List S33} {i j : Nat} {st : List Nat} (hi : i < l.length) (h4 : opAt l i = 24) (h : Open l i 0 (j :: st)) : E l j = some i ∧ ∀ x ∈ st, E l x ≠ some i := by
  refine ⟨by rw [h.2.2.1, endF_at hi, if_pos ⟨h4, rfl⟩], fun x hx he => ?_⟩
  obtain ⟨_, _, d, hd, e⟩ := Open_mem h.2.2.2 x hx
  rw [e, endF_at hi, if_neg (by omega)] at he
  have := (endF_lt he).1
  omega
end Go.Proofs.Ytmmckdjbbbmdgaa.LirA
