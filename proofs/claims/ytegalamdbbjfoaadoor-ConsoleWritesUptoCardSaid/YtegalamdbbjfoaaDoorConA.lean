/- Walks of the console's small functions (sure, digit, only). -/
import Derived.Test.YtegalamdbbjfoaaDoorProg
import Derived.WalkKit
import Derived.Handy
import Derived.Outline
import Derived.Lib.Hide
namespace Go.Proofs.YtegalamdbbjfoaaDoor
open Go.RowKit

/-- What the console throws. -/
def noWord : List PanicEntry := [{ v := .iface 65 (.agg #[]), recovered := false }]

theorem sure_yes (w : World) : Calls Tryd.prog 26 #[.bool true] w fun e w' => e = .returned (.tuple #[]) ∧ w = w' := by
  go_enter Tryd.func26, Tryd.ntmps26
  go_wp2
  go_end0
  exact ⟨rfl, rfl⟩

theorem sure_no (w : World) : Calls Tryd.prog 26 #[.bool false] w fun e w' => e = .panicked noWord ∧ w = w' := by
  have hp : ∀ w, (Instr.panic (.iface 65 (.agg #[]))).run Tryd.prog w = .halt (.panic (.iface 65 (.agg #[]))) w := fun _ => rfl
  go_enter Tryd.func26, Tryd.ntmps26
  go_wp2
  exact ⟨rfl, rfl, rfl⟩

theorem digit_long (s : ByteArray) (n : Int) (w : World) (h : ((s.size : Int) == 1) = false) :
    Calls Tryd.prog 27 #[.string s, .int .i64 n] w fun e w' => e = .panicked noWord ∧ w = w' := by
  go_enter Tryd.func27, Tryd.ntmps27
  go_wp2_with (go_at_call 26; refine (sure_no _).mono ?_; rintro e w' ⟨rfl, rfl⟩)
  exact ⟨rfl, rfl, rfl⟩

theorem digit_low (s : ByteArray) (n : Int) (w : World) (h1 : ((s.size : Int) == 1) = true) (h0 : 0 < s.size) (h : (s[0].toNat : Int) < (48 : Int)) :
    Calls Tryd.prog 27 #[.string s, .int .i64 n] w fun e w' => e = .panicked noWord ∧ w = w' := by
  have h' : ¬ ((48 : Int) ≤ (s[0].toNat : Int)) := by omega
  go_enter Tryd.func27, Tryd.ntmps27
  go_wp2_with (go_at_call 26; refine (sure_no _).mono ?_; rintro e w' ⟨rfl, rfl⟩)
  exact ⟨rfl, rfl, rfl⟩

theorem digit_high (s : ByteArray) (n : Int) (w : World) (h1 : ((s.size : Int) == 1) = true) (h0 : 0 < s.size) (h : (48 : Int) ≤ (s[0].toNat : Int)) (hc : (s[0].toNat : Int) < (256 : Int)) (h2 : n ≤ (s[0].toNat : Int) - 48) :
    Calls Tryd.prog 27 #[.string s, .int .i64 n] w fun e w' => e = .panicked noWord ∧ w = w' := by
  have h' : decide ((s[0].toNat : Int) - 48 < n) = false := by simp; omega
  have hm : ((s[0].toNat : Int) - 48) % 256 = (s[0].toNat : Int) - 48 := by omega
  go_enter Tryd.func27, Tryd.ntmps27
  go_wp2_with (go_at_call 26; refine (sure_no _).mono ?_; rintro e w' ⟨rfl, rfl⟩)
  exact ⟨rfl, rfl, rfl⟩

theorem digit_yes (s : ByteArray) (n : Int) (w : World) (h1 : ((s.size : Int) == 1) = true) (h0 : 0 < s.size) (h : (48 : Int) ≤ (s[0].toNat : Int)) (hc : (s[0].toNat : Int) < (256 : Int)) (h2 : (s[0].toNat : Int) - 48 < n) :
    Calls Tryd.prog 27 #[.string s, .int .i64 n] w fun e w' => e = .returned (.int .i64 ((s[0].toNat : Int) - 48)) ∧ w = w' := by
  have hm : ((s[0].toNat : Int) - 48) % 256 = (s[0].toNat : Int) - 48 := by omega
  go_enter Tryd.func27, Tryd.ntmps27
  go_wp2_with (go_at_call 26; refine (sure_yes _).mono ?_; rintro e w' ⟨rfl, rfl⟩)
  go_ret
  exact ⟨rfl, rfl⟩
end Go.Proofs.YtegalamdbbjfoaaDoor
