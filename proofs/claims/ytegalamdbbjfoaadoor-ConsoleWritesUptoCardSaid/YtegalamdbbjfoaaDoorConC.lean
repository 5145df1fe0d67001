/- Walk of the console's 'caught', as a deferred call: of a frame that panics, of a frame that returns. -/
import Derived.Test.YtegalamdbbjfoaaDoorConA
import Derived.Tactics2
import Derived.Defers
import Derived.Recover
import Derived.Laws.Pointers
namespace Go.Proofs.YtegalamdbbjfoaaDoor
open Go.RowKit

theorem caught_idle (p : Addr) (w : World) :
    CallsD Tryd.prog 25 #[.pointer (some p)] .returning w fun e u' w' => e = .returned (.tuple #[]) ∧ u' = .returning ∧ w' = w := by
  refine callsD_of_wpS Tryd.func25 rfl fun c₀ cs hu => ?_
  apply wpS_seq
  apply wpS_region
  simp [wpOpsS, go_sem, recoverD, hu, Tryd.ntmps25, Exit.thenS]
  refine wpS_of_wp ?_
  go_wp2
  cases c₀
  simp_all [bodyPostS, results, Tryd.results25]

theorem caught_panicking (b : Nat) (x : Value) (w : World) (hc : w.cell? ⟨b, 0, none⟩ = some x) (hz : w.frozen? ⟨b, 0, none⟩ = false) :
    CallsD Tryd.prog 25 #[.pointer (some ⟨b, 0, none⟩)] (.panicking noWord) w fun e u' w' =>
      e = .returned (.tuple #[]) ∧ u' = .panicking [{ v := .iface 65 (.agg #[]), recovered := true }] ∧ w' = (w.setCell ⟨b, 0, none⟩ (.int .i64 210)).alloc (.cells #[] 65) := by
  have hb : b < w.heap.size := World.block_lt_of_cell? w _ hc
  have hta : ∀ w, (Instr.typeAssert (.iface 65 (.agg #[])) 20 65 true).run Tryd.prog w = .ok (.tuple #[.agg #[], .bool true]) w := fun _ => by kernel_rfl
  have hsz : ∀ w, (sizeOf 65).run Tryd.prog w = .ok 0 w := fun _ => by kernel_rfl
  refine callsD_of_wpS Tryd.func25 rfl fun c₀ cs hu => ?_
  apply wpS_seq
  apply wpS_region
  simp [wpOpsS, go_sem, recoverD, hu, Tryd.ntmps25, Exit.thenS, noWord]
  refine wpS_of_wp ?_
  go_wp2
  refine ⟨rfl, _, rfl, _, (by simp [results, Tryd.results25, go_sem]), rfl, rfl, rfl⟩
end Go.Proofs.YtegalamdbbjfoaaDoor
