/- What the console's 'read' and 'Parse' compute, as plain functions; their contracts. -/
import Derived.Test.YtegalamdbbjfoaaDoorConE
import Derived.Test.YtegalamdbbjfoaaDoorConF
namespace Go.Proofs.YtegalamdbbjfoaaDoor
open Go.RowKit Go.Proofs.YtegalamdbbjfoaaDoorW.PrintWords

def bDigits : ByteArray := ⟨#[48, 49, 50, 51, 52, 53, 54, 55, 56, 57]⟩
def bDotted : ByteArray := ⟨#[48, 49, 50, 51, 52, 53, 54, 55, 56, 57, 46]⟩

/-- A word of one digit, below a number. -/
def dgv (below : Int) (s : ByteArray) : Option Int :=
  if h : s.size = 1 then (if 48 ≤ ((s[0]'(by omega)).toNat : Int) ∧ ((s[0]'(by omega)).toNat : Int) - 48 < below then some (((s[0]'(by omega)).toNat : Int) - 48) else none) else none

/-- A text of 1 to so many bytes, all of 'which'. -/
def onl (which : ByteArray) (most : Nat) (s : ByteArray) : Bool := s.toList != [] && decide (s.size ≤ most) && allW which s

abbrev Cmd := ByteArray × Int × ByteArray × List Int × ByteArray

/-- The command of a line's words. -/
def cmdOf : List ByteArray → Option Cmd
  | [] => none
  | c :: r =>
    if c.toList = [98, 108, 111, 99, 107] ∨ c.toList = [117, 110, 98, 108, 111, 99, 107] ∨ c.toList = [115, 97, 102] then
      match r with
      | [a] => (dgv 6 a).map fun d => (c, d, ⟨#[]⟩, [], ⟨#[]⟩)
      | _ => none
    else if c.toList = [98, 97, 108, 97, 110, 99, 101] then
      match r with
      | [a] => (dgv 7 a).map fun d => (c, d, ⟨#[]⟩, [], ⟨#[]⟩)
      | _ => none
    else if c.toList = [117, 110, 114, 111, 117, 116, 101] then
      match r with
      | [a] => if onl bDigits 8 a then some (c, 0, a, [], ⟨#[]⟩) else none
      | _ => none
    else if c.toList = [115, 116, 97, 116, 101] then
      match r with
      | [a] => if onl bDotted 32 a then some (c, 0, ⟨#[]⟩, [], a) else none
      | _ => none
    else if c.toList = [99, 117, 116] ∨ c.toList = [100, 97, 121] then
      match r with
      | [] => some (c, 0, ⟨#[]⟩, [], ⟨#[]⟩)
      | _ => none
    else if c.toList = [114, 111, 117, 116, 101] then
      match r with
      | a :: ws => if 1 ≤ ws.length ∧ ws.length ≤ 6 ∧ ((ws.all fun s => (dgv 6 s).isSome) && onl bDigits 8 a) = true then some (c, 0, a, ws.filterMap (dgv 6), ⟨#[]⟩) else none
      | [] => none
    else none

theorem dgv_tells (s : ByteArray) (n : Int) (d : Int) (h : dgv n s = some d) : Tells 27 #[.string s, .int .i64 n] (.int .i64 d) := by
  intro w
  unfold dgv at h
  by_cases h1 : s.size = 1
  · rw [dif_pos h1] at h
    have hc : ((s[0]'(by omega)).toNat : Int) < 256 := by have := (s[0]'(by omega)).toNat_lt; omega
    split at h
    · next h2 =>
      injection h with h
      subst h
      exact digit_yes s n w (by simp [h1]) (by omega) h2.1 hc h2.2
    · cases h
  · rw [dif_neg h1] at h
    cases h

theorem dgv_throws (s : ByteArray) (n : Int) (h : dgv n s = none) : Throws 27 #[.string s, .int .i64 n] := by
  intro w
  unfold dgv at h
  by_cases h1 : s.size = 1
  · rw [dif_pos h1] at h
    have hc : ((s[0]'(by omega)).toNat : Int) < 256 := by have := (s[0]'(by omega)).toNat_lt; omega
    split at h
    · cases h
    · next h2 =>
      by_cases h3 : (48 : Int) ≤ ((s[0]'(by omega)).toNat : Int)
      · exact digit_high s n w (by simp [h1]) (by omega) h3 hc (by omega)
      · exact digit_low s n w (by simp [h1]) (by omega) (by omega)
  · exact digit_long s n w (by simp; omega)

theorem onl_tells (s which : ByteArray) (most : Nat) (h : onl which most s = true) (hm : s.size ≤ maxLen) : Tells 28 #[.string s, .string which, .int .i64 most] (.string s) := by
  intro w
  unfold onl at h
  simp only [Bool.and_eq_true, bne_iff_ne, decide_eq_true_eq] at h
  refine (only_any s which most w hm (by simpa using h.1.1) (by omega)).mono ?_
  rintro e w' ⟨h1, _, rfl⟩
  exact ⟨h1 h.2, rfl⟩

theorem onl_throws (s which : ByteArray) (most : Nat) (h : onl which most s = false) (hm : s.size ≤ maxLen) : Throws 28 #[.string s, .string which, .int .i64 most] := by
  intro w
  by_cases h0 : s.toList = []
  · have : s = ⟨#[]⟩ := by
      rw [Lib.toList_data] at h0
      apply ByteArray.ext
      exact Array.toList_eq_nil_iff.1 h0
    subst this
    exact only_none which most w
  · by_cases h1 : s.size ≤ most
    · refine (only_any s which most w hm (by simpa using h0) (by omega)).mono ?_
      rintro e w' ⟨_, h2, rfl⟩
      refine ⟨h2 ?_, rfl⟩
      unfold onl at h
      simpa [h0, h1] using h
    · exact only_long s which most w (by simpa using h0) (by omega)
end Go.Proofs.YtegalamdbbjfoaaDoor
