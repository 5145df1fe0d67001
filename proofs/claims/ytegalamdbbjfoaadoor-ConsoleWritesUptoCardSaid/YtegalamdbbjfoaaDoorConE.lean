/- Walk of the console's 'read' at a word that is none. -/
import Derived.Test.YtegalamdbbjfoaaDoorConD
namespace Go.Proofs.YtegalamdbbjfoaaDoor
open Go.RowKit Go.Proofs.YtegalamdbbjfoaaDoorW.PrintWords

set_option maxRecDepth 100000 in
set_option maxHeartbeats 1000000 in
theorem read_other (b n : Nat) (s : ByteArray) (w : World) (h0 : 0 < n) (hm : n ≤ 1000) (c0 : w.cell? ⟨b, 0, none⟩ = some (.string s))
    (h_route : (s.toList == [114, 111, 117, 116, 101]) = false) (h_cut : (s.toList == [99, 117, 116]) = false) (h_day : (s.toList == [100, 97, 121]) = false) (h_block : (s.toList == [98, 108, 111, 99, 107]) = false) (h_unblock : (s.toList == [117, 110, 98, 108, 111, 99, 107]) = false) (h_saf : (s.toList == [115, 97, 102]) = false) (h_balance : (s.toList == [98, 97, 108, 97, 110, 99, 101]) = false) (h_unroute : (s.toList == [117, 110, 114, 111, 117, 116, 101]) = false) (h_state : (s.toList == [115, 116, 97, 116, 101]) = false) :
    Calls Tryd.prog 15 #[.slice (some ⟨b, 0, none⟩) n n] w (ReadNo w) := by
  have hb : b < w.heap.size := World.block_lt_of_cell? w _ c0
  rcases Nat.lt_trichotomy n 2 with h | h | h
  · have h1 : ¬ (2 : Int) ≤ n := by omega
    clear h
    go_enter_defers Tryd.func15, Tryd.ntmps15
    go_wp2_with (go_at_call 26; refine (sure_no _).mono ?_; rintro e w' ⟨rfl, rfl⟩)
    refine leaves_cons (f := 25) (args := #[.pointer (some ⟨w.heap.size + 1, 0, none⟩)]) (by simp) (by simp [go_sem]) ?_
    refine (caught_panicking (w.heap.size + 1) (.int .i64 0) _ ?_ ?_).mono ?_
    · simp [go_sem]
    · simp [go_sem]
    rintro e u' w'' ⟨rfl, rfl, rfl⟩
    simp [Leaves, settle, results, Tryd.results15, go_sem]
    exact ⟨⟨_, _, _, _, _, _, _, rfl⟩, by go_grown⟩
  · subst h
    go_enter_defers Tryd.func15, Tryd.ntmps15
    go_wp2_with (go_at_call 26; (first | (with_reducible refine (sure_yes _).mono ?_) | (with_reducible refine (sure_no _).mono ?_)); rintro e w' ⟨rfl, rfl⟩)
    refine leaves_cons (f := 25) (args := #[.pointer (some ⟨w.heap.size + 1, 0, none⟩)]) (by simp) (by simp [go_sem]) ?_
    refine (caught_panicking (w.heap.size + 1) (.int .i64 0) _ ?_ ?_).mono ?_
    · simp [go_sem]
    · simp [go_sem]
    rintro e u' w'' ⟨rfl, rfl, rfl⟩
    simp [Leaves, settle, results, Tryd.results15, go_sem]
    exact ⟨⟨_, _, _, _, _, _, _, rfl⟩, by go_grown⟩
  · have h1 : (2 : Int) ≤ n := by omega
    have h3 : decide ((n : Int) ≤ 2) = false := by simp; omega
    clear h
    go_enter_defers Tryd.func15, Tryd.ntmps15
    go_wp2_with (go_at_call 26; refine (sure_no _).mono ?_; rintro e w' ⟨rfl, rfl⟩)
    refine leaves_cons (f := 25) (args := #[.pointer (some ⟨w.heap.size + 1, 0, none⟩)]) (by simp) (by simp [go_sem]) ?_
    refine (caught_panicking (w.heap.size + 1) (.int .i64 0) _ ?_ ?_).mono ?_
    · simp [go_sem]
    · simp [go_sem]
    rintro e u' w'' ⟨rfl, rfl, rfl⟩
    simp [Leaves, settle, results, Tryd.results15, go_sem]
    exact ⟨⟨_, _, _, _, _, _, _, rfl⟩, by go_grown⟩
end Go.Proofs.YtegalamdbbjfoaaDoor
