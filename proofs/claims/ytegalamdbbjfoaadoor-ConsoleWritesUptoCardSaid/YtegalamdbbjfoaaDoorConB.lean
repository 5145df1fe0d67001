/- Walk of the console's 'only'. -/
import Derived.Test.YtegalamdbbjfoaaDoorShelf
import Derived.Test.YtegalamdbbjfoaaDoorConA
namespace Go.Proofs.YtegalamdbbjfoaaDoor
open Go.RowKit

/-- Is a byte one of 'which'? -/
def inW (which : ByteArray) (c : UInt8) : Bool := decide (0 ≤ Lib.indexByte which.data.toList c)

/-- Are all bytes of s of 'which'? -/
def allW (which s : ByteArray) : Bool := s.data.toList.all (inW which)

def OnlyPost (ok : Bool) (s : ByteArray) (w : World) (e : Ending) (w' : World) : Prop :=
  (ok = true → e = .returned (.string s)) ∧ (ok = false → e = .panicked noWord) ∧ w = w'

theorem only_none (which : ByteArray) (most : Int) (w : World) :
    Calls Tryd.prog 28 #[.string ⟨#[]⟩, .string which, .int .i64 most] w fun e w' => e = .panicked noWord ∧ w = w' := by
  go_enter Tryd.func28, Tryd.ntmps28
  go_wp2_with (go_at_call 26; refine (sure_no _).mono ?_; rintro e w' ⟨rfl, rfl⟩)
  exact ⟨rfl, rfl, rfl⟩

theorem only_long (s which : ByteArray) (most : Int) (w : World) (h0 : (s.toList == []) = false) (h : most < (s.size : Int)) :
    Calls Tryd.prog 28 #[.string s, .string which, .int .i64 most] w fun e w' => e = .panicked noWord ∧ w = w' := by
  have h1 : (!s.toList.isEmpty) = true := by cases h : s.toList <;> simp_all
  have h2 : s.toList.isEmpty = false := by simpa using h1
  have h3 : decide ((s.size : Int) ≤ most) = false := by simp; omega
  go_enter Tryd.func28, Tryd.ntmps28
  go_wp2_with (go_at_call 26; refine (sure_no _).mono ?_; rintro e w' ⟨rfl, rfl⟩)
  exact ⟨rfl, rfl, rfl⟩

theorem idx_any (which : ByteArray) (c : UInt8) (w : World) :
    Calls Tryd.prog 34 #[.string which, .int .u8 (c.toNat : Int)] w fun e w' => e = .returned (.int .i64 (Lib.indexByte which.data.toList c)) ∧ w = w' := by
  refine (Tryd.strings_IndexByte which c.toNat w).mono ?_
  rintro e w' ⟨rfl, rfl⟩
  exact ⟨by simp, rfl⟩

theorem onlyPost_yes {s : ByteArray} {which : ByteArray} {w : World} (h : ∀ j, j < s.size → (hj : j < s.size) → inW which s[j] = true) :
    OnlyPost (allW which s) s w (.returned (.string s)) w := by
  have e : allW which s = true := by
    rw [allW, List.all_eq_true]
    intro c hc
    obtain ⟨j, hj, rfl⟩ := List.getElem_of_mem hc
    exact h j (by simpa using hj) (by simpa using hj)
  rw [e]
  exact ⟨fun _ => rfl, fun h => absurd h (by simp), rfl⟩

theorem onlyPost_no {s : ByteArray} {which : ByteArray} {w : World} {k : Nat} (hk : k < s.size) (h : inW which s[k] = false) :
    OnlyPost (allW which s) s w (.panicked noWord) w := by
  have e : allW which s = false := by
    rw [allW, List.all_eq_false]
    exact ⟨s[k], by simp [ByteArray.getElem_eq_getElem_data], by simp [h]⟩
  rw [e]
  exact ⟨fun h => absurd h (by simp), fun _ => rfl, rfl⟩

set_option maxHeartbeats 400000 in
theorem only_any (s which : ByteArray) (most : Int) (w : World) (hm : s.size ≤ maxLen) (h0 : (s.toList == []) = false) (h : (s.size : Int) ≤ most) :
    Calls Tryd.prog 28 #[.string s, .string which, .int .i64 most] w (OnlyPost (allW which s) s w) := by
  unfold maxLen at hm
  have h1 : (!s.toList.isEmpty) = true := by cases h : s.toList <;> simp_all
  have h2 : s.toList.isEmpty = false := by simpa using h1
  clear h0
  go_enter Tryd.func28, Tryd.ntmps28
  go_wp2_with (go_at_call 26; refine (sure_yes _).mono ?_; rintro e w' ⟨rfl, rfl⟩)
  go_loop [19] (fun i => ∃ k : Nat, k ≤ s.size ∧ i = .int .i64 k ∧ ∀ j, j < k → (hj : j < s.size) → inW which s[j] = true) (fun i => s.size - (intOf i).toNat)
  case atStart => exact ⟨0, Nat.zero_le _, rfl, fun j hj => absurd hj (Nat.not_lt_zero _)⟩
  case round =>
    obtain ⟨k, hk, rfl, hin⟩ := hrel
    have HIN := Lib.hid hin
    clear hin
    by_cases hlt : k < s.size
    · by_cases hw : inW which s[k] = true
      · have hw2 : 0 ≤ Lib.indexByte which.data.toList s[k] := by simpa [inW] using hw
        have HW := Lib.hid hw
        clear hw
        go_wp2_with (first | (go_at_call 34; refine (idx_any _ _ _).mono ?_; rintro e w' ⟨rfl, rfl⟩) | (go_at_call 26; refine (sure_yes _).mono ?_; rintro e w' ⟨rfl, rfl⟩))
        go_round
        case rel =>
          refine ⟨k + 1, by omega, by go_num, ?_⟩
          intro j hj hj2
          rcases Nat.lt_or_eq_of_le (Nat.le_of_lt_succ hj) with h | h
          · exact HIN.out j h hj2
          · subst h; exact HW.out
        case measure => simp [intOf]; omega
      · have hw2 : decide (0 ≤ Lib.indexByte which.data.toList s[k]) = false := by simpa [inW] using hw
        have hw3 : inW which s[k] = false := by simpa using hw
        have HW := Lib.hid hw3
        clear hw hw3
        go_wp2_with (first | (go_at_call 34; refine (idx_any _ _ _).mono ?_; rintro e w' ⟨rfl, rfl⟩) | (go_at_call 26; refine (sure_no _).mono ?_; rintro e w' ⟨rfl, rfl⟩))
        exact ⟨rfl, onlyPost_no hlt HW.out⟩
    · have hks : k = s.size := by omega
      have HK := Lib.hid hks
      clear hks
      go_wp2
      go_ret
      exact onlyPost_yes (fun j hj hj2 => HIN.out j (by have := HK.out; omega) hj2)
end Go.Proofs.YtegalamdbbjfoaaDoor
