/- Walk of the console's 'read', word by word. -/
import Derived.Test.YtegalamdbbjfoaaDoorConB
import Derived.Test.YtegalamdbbjfoaaDoorConC
import Derived.Test.YtegalamdbbjfoaaDoorWMore
import Derived.Test.YtegalamdbbjfoaaDoorWWords
namespace Go.Proofs.YtegalamdbbjfoaaDoor
open Go.RowKit Go.Proofs.YtegalamdbbjfoaaDoorW.PrintWords

/-- A line is none: an error, and whatever stands beside it. -/
def ReadNo (w : World) (e : Ending) (w' : World) : Prop :=
  (∃ s m p A n c k, e = .returned (.tuple #[.agg #[.string s, .int .i64 m, .string p, .slice A n c, .string k], .int .i64 210])) ∧ Below w.heap.size w w'

/-- A line is a command. -/
def ReadYes (wd : ByteArray) (m : Int) (pf : ByteArray) (ts : List Int) (key : ByteArray) (w : World) (e : Ending) (w' : World) : Prop :=
  (∃ v, e = .returned (.tuple #[.agg #[.string wd, .int .i64 m, .string pf, v, .string key], .int .i64 0]) ∧ Kd.R (Kd.int .i64) 3 w' w.heap.size (fun _ => True) v ts) ∧ Below w.heap.size w w'

/-- What 'digit', 'only' throw. -/
def Throws (f : FuncId) (args : Array Value) : Prop := ∀ w, Calls Tryd.prog f args w fun e w' => e = .panicked noWord ∧ w = w'
def Tells (f : FuncId) (args : Array Value) (v : Value) : Prop := ∀ w, Calls Tryd.prog f args w fun e w' => e = .returned v ∧ w = w'

set_option maxRecDepth 100000 in
set_option maxHeartbeats 1000000 in
theorem read_block_count (b n : Nat) (w : World) (h2 : n ≠ 2) (h0 : 0 < n) (hm : n ≤ 1000) (c0 : w.cell? ⟨b, 0, none⟩ = some (.string ⟨#[98, 108, 111, 99, 107]⟩)) :
    Calls Tryd.prog 15 #[.slice (some ⟨b, 0, none⟩) n n] w (ReadNo w) := by
  have hb : b < w.heap.size := World.block_lt_of_cell? w _ c0
  rcases Nat.lt_or_gt_of_ne h2 with h | h
  · have h1 : ¬ (2 : Int) ≤ n := by omega
    clear h2 h
    go_enter_defers Tryd.func15, Tryd.ntmps15
    go_wp2_with (go_at_call 26; refine (sure_no _).mono ?_; rintro e w' ⟨rfl, rfl⟩)
    refine leaves_cons (f := 25) (args := #[.pointer (some ⟨w.heap.size + 1, 0, none⟩)]) (by simp) (by simp [go_sem]) ?_
    refine (caught_panicking (w.heap.size + 1) (.int .i64 0) _ ?_ ?_).mono ?_
    · simp [go_sem]
    · simp [go_sem]
    rintro e u' w'' ⟨rfl, rfl, rfl⟩
    simp [Leaves, settle, results, Tryd.results15, go_sem]
    exact ⟨⟨_, _, _, _, _, _, _, rfl⟩, by go_grown⟩
  · have h1 : (2 : Int) ≤ n := by omega
    have h3 : decide ((n : Int) ≤ 2) = false := by simp; omega
    clear h2 h
    go_enter_defers Tryd.func15, Tryd.ntmps15
    go_wp2_with (go_at_call 26; refine (sure_no _).mono ?_; rintro e w' ⟨rfl, rfl⟩)
    refine leaves_cons (f := 25) (args := #[.pointer (some ⟨w.heap.size + 1, 0, none⟩)]) (by simp) (by simp [go_sem]) ?_
    refine (caught_panicking (w.heap.size + 1) (.int .i64 0) _ ?_ ?_).mono ?_
    · simp [go_sem]
    · simp [go_sem]
    rintro e u' w'' ⟨rfl, rfl, rfl⟩
    simp [Leaves, settle, results, Tryd.results15, go_sem]
    exact ⟨⟨_, _, _, _, _, _, _, rfl⟩, by go_grown⟩

set_option maxRecDepth 100000 in
set_option maxHeartbeats 1000000 in
theorem read_block_bad (b : Nat) (w : World) (c0 : w.cell? ⟨b, 0, none⟩ = some (.string ⟨#[98, 108, 111, 99, 107]⟩)) (a : ByteArray) (c1 : w.cell? ⟨b, 1, none⟩ = some (.string a)) (ha : Throws 27 #[.string a, .int .i64 6]) :
    Calls Tryd.prog 15 #[.slice (some ⟨b, 0, none⟩) 2 2] w (ReadNo w) := by
  have hb : b < w.heap.size := World.block_lt_of_cell? w _ c0
  go_enter_defers Tryd.func15, Tryd.ntmps15
  go_wp2_with (first | (go_at_call 26; refine (sure_yes _).mono ?_; rintro e w' ⟨rfl, rfl⟩) | (go_at_call 27; refine (ha _).mono ?_; rintro e w' ⟨rfl, rfl⟩))
  refine leaves_cons (f := 25) (args := #[.pointer (some ⟨w.heap.size + 1, 0, none⟩)]) (by simp) (by simp [go_sem]) ?_
  refine (caught_panicking (w.heap.size + 1) (.int .i64 0) _ ?_ ?_).mono ?_
  · simp [go_sem]
  · simp [go_sem]
  rintro e u' w'' ⟨rfl, rfl, rfl⟩
  simp [Leaves, settle, results, Tryd.results15, go_sem]
  exact ⟨⟨_, _, _, _, _, _, _, rfl⟩, by go_grown⟩

set_option maxRecDepth 100000 in
set_option maxHeartbeats 1000000 in
theorem read_block_yes (b : Nat) (w : World) (c0 : w.cell? ⟨b, 0, none⟩ = some (.string ⟨#[98, 108, 111, 99, 107]⟩)) (a : ByteArray) (c1 : w.cell? ⟨b, 1, none⟩ = some (.string a)) (d : Int) (ha : Tells 27 #[.string a, .int .i64 6] (.int .i64 d)) :
    Calls Tryd.prog 15 #[.slice (some ⟨b, 0, none⟩) 2 2] w (ReadYes ⟨#[98, 108, 111, 99, 107]⟩ d ⟨#[]⟩ [] ⟨#[]⟩ w) := by
  have hb : b < w.heap.size := World.block_lt_of_cell? w _ c0
  go_enter_defers Tryd.func15, Tryd.ntmps15
  go_wp2_with (first | (go_at_call 26; refine (sure_yes _).mono ?_; rintro e w' ⟨rfl, rfl⟩) | (go_at_call 27; refine (ha _).mono ?_; rintro e w' ⟨rfl, rfl⟩))
  refine leaves_cons (f := 25) (args := #[.pointer (some ⟨w.heap.size + 1, 0, none⟩)]) (by simp) (by simp [go_sem]) ?_
  refine (caught_idle ⟨w.heap.size + 1, 0, none⟩ _).mono ?_
  rintro e u' w'' ⟨rfl, rfl, rfl⟩
  simp [Leaves, settle, results, Tryd.results15, go_sem]
  exact ⟨⟨_, rfl, Kd.R_nil _ _ _ _ _⟩, by go_grown⟩

set_option maxRecDepth 100000 in
set_option maxHeartbeats 1000000 in
theorem read_unblock_count (b n : Nat) (w : World) (h2 : n ≠ 2) (h0 : 0 < n) (hm : n ≤ 1000) (c0 : w.cell? ⟨b, 0, none⟩ = some (.string ⟨#[117, 110, 98, 108, 111, 99, 107]⟩)) :
    Calls Tryd.prog 15 #[.slice (some ⟨b, 0, none⟩) n n] w (ReadNo w) := by
  have hb : b < w.heap.size := World.block_lt_of_cell? w _ c0
  rcases Nat.lt_or_gt_of_ne h2 with h | h
  · have h1 : ¬ (2 : Int) ≤ n := by omega
    clear h2 h
    go_enter_defers Tryd.func15, Tryd.ntmps15
    go_wp2_with (go_at_call 26; refine (sure_no _).mono ?_; rintro e w' ⟨rfl, rfl⟩)
    refine leaves_cons (f := 25) (args := #[.pointer (some ⟨w.heap.size + 1, 0, none⟩)]) (by simp) (by simp [go_sem]) ?_
    refine (caught_panicking (w.heap.size + 1) (.int .i64 0) _ ?_ ?_).mono ?_
    · simp [go_sem]
    · simp [go_sem]
    rintro e u' w'' ⟨rfl, rfl, rfl⟩
    simp [Leaves, settle, results, Tryd.results15, go_sem]
    exact ⟨⟨_, _, _, _, _, _, _, rfl⟩, by go_grown⟩
  · have h1 : (2 : Int) ≤ n := by omega
    have h3 : decide ((n : Int) ≤ 2) = false := by simp; omega
    clear h2 h
    go_enter_defers Tryd.func15, Tryd.ntmps15
    go_wp2_with (go_at_call 26; refine (sure_no _).mono ?_; rintro e w' ⟨rfl, rfl⟩)
    refine leaves_cons (f := 25) (args := #[.pointer (some ⟨w.heap.size + 1, 0, none⟩)]) (by simp) (by simp [go_sem]) ?_
    refine (caught_panicking (w.heap.size + 1) (.int .i64 0) _ ?_ ?_).mono ?_
    · simp [go_sem]
    · simp [go_sem]
    rintro e u' w'' ⟨rfl, rfl, rfl⟩
    simp [Leaves, settle, results, Tryd.results15, go_sem]
    exact ⟨⟨_, _, _, _, _, _, _, rfl⟩, by go_grown⟩

set_option maxRecDepth 100000 in
set_option maxHeartbeats 1000000 in
theorem read_unblock_bad (b : Nat) (w : World) (c0 : w.cell? ⟨b, 0, none⟩ = some (.string ⟨#[117, 110, 98, 108, 111, 99, 107]⟩)) (a : ByteArray) (c1 : w.cell? ⟨b, 1, none⟩ = some (.string a)) (ha : Throws 27 #[.string a, .int .i64 6]) :
    Calls Tryd.prog 15 #[.slice (some ⟨b, 0, none⟩) 2 2] w (ReadNo w) := by
  have hb : b < w.heap.size := World.block_lt_of_cell? w _ c0
  go_enter_defers Tryd.func15, Tryd.ntmps15
  go_wp2_with (first | (go_at_call 26; refine (sure_yes _).mono ?_; rintro e w' ⟨rfl, rfl⟩) | (go_at_call 27; refine (ha _).mono ?_; rintro e w' ⟨rfl, rfl⟩))
  refine leaves_cons (f := 25) (args := #[.pointer (some ⟨w.heap.size + 1, 0, none⟩)]) (by simp) (by simp [go_sem]) ?_
  refine (caught_panicking (w.heap.size + 1) (.int .i64 0) _ ?_ ?_).mono ?_
  · simp [go_sem]
  · simp [go_sem]
  rintro e u' w'' ⟨rfl, rfl, rfl⟩
  simp [Leaves, settle, results, Tryd.results15, go_sem]
  exact ⟨⟨_, _, _, _, _, _, _, rfl⟩, by go_grown⟩

set_option maxRecDepth 100000 in
set_option maxHeartbeats 1000000 in
theorem read_unblock_yes (b : Nat) (w : World) (c0 : w.cell? ⟨b, 0, none⟩ = some (.string ⟨#[117, 110, 98, 108, 111, 99, 107]⟩)) (a : ByteArray) (c1 : w.cell? ⟨b, 1, none⟩ = some (.string a)) (d : Int) (ha : Tells 27 #[.string a, .int .i64 6] (.int .i64 d)) :
    Calls Tryd.prog 15 #[.slice (some ⟨b, 0, none⟩) 2 2] w (ReadYes ⟨#[117, 110, 98, 108, 111, 99, 107]⟩ d ⟨#[]⟩ [] ⟨#[]⟩ w) := by
  have hb : b < w.heap.size := World.block_lt_of_cell? w _ c0
  go_enter_defers Tryd.func15, Tryd.ntmps15
  go_wp2_with (first | (go_at_call 26; refine (sure_yes _).mono ?_; rintro e w' ⟨rfl, rfl⟩) | (go_at_call 27; refine (ha _).mono ?_; rintro e w' ⟨rfl, rfl⟩))
  refine leaves_cons (f := 25) (args := #[.pointer (some ⟨w.heap.size + 1, 0, none⟩)]) (by simp) (by simp [go_sem]) ?_
  refine (caught_idle ⟨w.heap.size + 1, 0, none⟩ _).mono ?_
  rintro e u' w'' ⟨rfl, rfl, rfl⟩
  simp [Leaves, settle, results, Tryd.results15, go_sem]
  exact ⟨⟨_, rfl, Kd.R_nil _ _ _ _ _⟩, by go_grown⟩

set_option maxRecDepth 100000 in
set_option maxHeartbeats 1000000 in
theorem read_saf_count (b n : Nat) (w : World) (h2 : n ≠ 2) (h0 : 0 < n) (hm : n ≤ 1000) (c0 : w.cell? ⟨b, 0, none⟩ = some (.string ⟨#[115, 97, 102]⟩)) :
    Calls Tryd.prog 15 #[.slice (some ⟨b, 0, none⟩) n n] w (ReadNo w) := by
  have hb : b < w.heap.size := World.block_lt_of_cell? w _ c0
  rcases Nat.lt_or_gt_of_ne h2 with h | h
  · have h1 : ¬ (2 : Int) ≤ n := by omega
    clear h2 h
    go_enter_defers Tryd.func15, Tryd.ntmps15
    go_wp2_with (go_at_call 26; refine (sure_no _).mono ?_; rintro e w' ⟨rfl, rfl⟩)
    refine leaves_cons (f := 25) (args := #[.pointer (some ⟨w.heap.size + 1, 0, none⟩)]) (by simp) (by simp [go_sem]) ?_
    refine (caught_panicking (w.heap.size + 1) (.int .i64 0) _ ?_ ?_).mono ?_
    · simp [go_sem]
    · simp [go_sem]
    rintro e u' w'' ⟨rfl, rfl, rfl⟩
    simp [Leaves, settle, results, Tryd.results15, go_sem]
    exact ⟨⟨_, _, _, _, _, _, _, rfl⟩, by go_grown⟩
  · have h1 : (2 : Int) ≤ n := by omega
    have h3 : decide ((n : Int) ≤ 2) = false := by simp; omega
    clear h2 h
    go_enter_defers Tryd.func15, Tryd.ntmps15
    go_wp2_with (go_at_call 26; refine (sure_no _).mono ?_; rintro e w' ⟨rfl, rfl⟩)
    refine leaves_cons (f := 25) (args := #[.pointer (some ⟨w.heap.size + 1, 0, none⟩)]) (by simp) (by simp [go_sem]) ?_
    refine (caught_panicking (w.heap.size + 1) (.int .i64 0) _ ?_ ?_).mono ?_
    · simp [go_sem]
    · simp [go_sem]
    rintro e u' w'' ⟨rfl, rfl, rfl⟩
    simp [Leaves, settle, results, Tryd.results15, go_sem]
    exact ⟨⟨_, _, _, _, _, _, _, rfl⟩, by go_grown⟩

set_option maxRecDepth 100000 in
set_option maxHeartbeats 1000000 in
theorem read_saf_bad (b : Nat) (w : World) (c0 : w.cell? ⟨b, 0, none⟩ = some (.string ⟨#[115, 97, 102]⟩)) (a : ByteArray) (c1 : w.cell? ⟨b, 1, none⟩ = some (.string a)) (ha : Throws 27 #[.string a, .int .i64 6]) :
    Calls Tryd.prog 15 #[.slice (some ⟨b, 0, none⟩) 2 2] w (ReadNo w) := by
  have hb : b < w.heap.size := World.block_lt_of_cell? w _ c0
  go_enter_defers Tryd.func15, Tryd.ntmps15
  go_wp2_with (first | (go_at_call 26; refine (sure_yes _).mono ?_; rintro e w' ⟨rfl, rfl⟩) | (go_at_call 27; refine (ha _).mono ?_; rintro e w' ⟨rfl, rfl⟩))
  refine leaves_cons (f := 25) (args := #[.pointer (some ⟨w.heap.size + 1, 0, none⟩)]) (by simp) (by simp [go_sem]) ?_
  refine (caught_panicking (w.heap.size + 1) (.int .i64 0) _ ?_ ?_).mono ?_
  · simp [go_sem]
  · simp [go_sem]
  rintro e u' w'' ⟨rfl, rfl, rfl⟩
  simp [Leaves, settle, results, Tryd.results15, go_sem]
  exact ⟨⟨_, _, _, _, _, _, _, rfl⟩, by go_grown⟩

set_option maxRecDepth 100000 in
set_option maxHeartbeats 1000000 in
theorem read_saf_yes (b : Nat) (w : World) (c0 : w.cell? ⟨b, 0, none⟩ = some (.string ⟨#[115, 97, 102]⟩)) (a : ByteArray) (c1 : w.cell? ⟨b, 1, none⟩ = some (.string a)) (d : Int) (ha : Tells 27 #[.string a, .int .i64 6] (.int .i64 d)) :
    Calls Tryd.prog 15 #[.slice (some ⟨b, 0, none⟩) 2 2] w (ReadYes ⟨#[115, 97, 102]⟩ d ⟨#[]⟩ [] ⟨#[]⟩ w) := by
  have hb : b < w.heap.size := World.block_lt_of_cell? w _ c0
  go_enter_defers Tryd.func15, Tryd.ntmps15
  go_wp2_with (first | (go_at_call 26; refine (sure_yes _).mono ?_; rintro e w' ⟨rfl, rfl⟩) | (go_at_call 27; refine (ha _).mono ?_; rintro e w' ⟨rfl, rfl⟩))
  refine leaves_cons (f := 25) (args := #[.pointer (some ⟨w.heap.size + 1, 0, none⟩)]) (by simp) (by simp [go_sem]) ?_
  refine (caught_idle ⟨w.heap.size + 1, 0, none⟩ _).mono ?_
  rintro e u' w'' ⟨rfl, rfl, rfl⟩
  simp [Leaves, settle, results, Tryd.results15, go_sem]
  exact ⟨⟨_, rfl, Kd.R_nil _ _ _ _ _⟩, by go_grown⟩

set_option maxRecDepth 100000 in
set_option maxHeartbeats 1000000 in
theorem read_balance_count (b n : Nat) (w : World) (h2 : n ≠ 2) (h0 : 0 < n) (hm : n ≤ 1000) (c0 : w.cell? ⟨b, 0, none⟩ = some (.string ⟨#[98, 97, 108, 97, 110, 99, 101]⟩)) :
    Calls Tryd.prog 15 #[.slice (some ⟨b, 0, none⟩) n n] w (ReadNo w) := by
  have hb : b < w.heap.size := World.block_lt_of_cell? w _ c0
  rcases Nat.lt_or_gt_of_ne h2 with h | h
  · have h1 : ¬ (2 : Int) ≤ n := by omega
    clear h2 h
    go_enter_defers Tryd.func15, Tryd.ntmps15
    go_wp2_with (go_at_call 26; refine (sure_no _).mono ?_; rintro e w' ⟨rfl, rfl⟩)
    refine leaves_cons (f := 25) (args := #[.pointer (some ⟨w.heap.size + 1, 0, none⟩)]) (by simp) (by simp [go_sem]) ?_
    refine (caught_panicking (w.heap.size + 1) (.int .i64 0) _ ?_ ?_).mono ?_
    · simp [go_sem]
    · simp [go_sem]
    rintro e u' w'' ⟨rfl, rfl, rfl⟩
    simp [Leaves, settle, results, Tryd.results15, go_sem]
    exact ⟨⟨_, _, _, _, _, _, _, rfl⟩, by go_grown⟩
  · have h1 : (2 : Int) ≤ n := by omega
    have h3 : decide ((n : Int) ≤ 2) = false := by simp; omega
    clear h2 h
    go_enter_defers Tryd.func15, Tryd.ntmps15
    go_wp2_with (go_at_call 26; refine (sure_no _).mono ?_; rintro e w' ⟨rfl, rfl⟩)
    refine leaves_cons (f := 25) (args := #[.pointer (some ⟨w.heap.size + 1, 0, none⟩)]) (by simp) (by simp [go_sem]) ?_
    refine (caught_panicking (w.heap.size + 1) (.int .i64 0) _ ?_ ?_).mono ?_
    · simp [go_sem]
    · simp [go_sem]
    rintro e u' w'' ⟨rfl, rfl, rfl⟩
    simp [Leaves, settle, results, Tryd.results15, go_sem]
    exact ⟨⟨_, _, _, _, _, _, _, rfl⟩, by go_grown⟩

set_option maxRecDepth 100000 in
set_option maxHeartbeats 1000000 in
theorem read_balance_bad (b : Nat) (w : World) (c0 : w.cell? ⟨b, 0, none⟩ = some (.string ⟨#[98, 97, 108, 97, 110, 99, 101]⟩)) (a : ByteArray) (c1 : w.cell? ⟨b, 1, none⟩ = some (.string a)) (ha : Throws 27 #[.string a, .int .i64 7]) :
    Calls Tryd.prog 15 #[.slice (some ⟨b, 0, none⟩) 2 2] w (ReadNo w) := by
  have hb : b < w.heap.size := World.block_lt_of_cell? w _ c0
  go_enter_defers Tryd.func15, Tryd.ntmps15
  go_wp2_with (first | (go_at_call 26; refine (sure_yes _).mono ?_; rintro e w' ⟨rfl, rfl⟩) | (go_at_call 27; refine (ha _).mono ?_; rintro e w' ⟨rfl, rfl⟩))
  refine leaves_cons (f := 25) (args := #[.pointer (some ⟨w.heap.size + 1, 0, none⟩)]) (by simp) (by simp [go_sem]) ?_
  refine (caught_panicking (w.heap.size + 1) (.int .i64 0) _ ?_ ?_).mono ?_
  · simp [go_sem]
  · simp [go_sem]
  rintro e u' w'' ⟨rfl, rfl, rfl⟩
  simp [Leaves, settle, results, Tryd.results15, go_sem]
  exact ⟨⟨_, _, _, _, _, _, _, rfl⟩, by go_grown⟩

set_option maxRecDepth 100000 in
set_option maxHeartbeats 1000000 in
theorem read_balance_yes (b : Nat) (w : World) (c0 : w.cell? ⟨b, 0, none⟩ = some (.string ⟨#[98, 97, 108, 97, 110, 99, 101]⟩)) (a : ByteArray) (c1 : w.cell? ⟨b, 1, none⟩ = some (.string a)) (d : Int) (ha : Tells 27 #[.string a, .int .i64 7] (.int .i64 d)) :
    Calls Tryd.prog 15 #[.slice (some ⟨b, 0, none⟩) 2 2] w (ReadYes ⟨#[98, 97, 108, 97, 110, 99, 101]⟩ d ⟨#[]⟩ [] ⟨#[]⟩ w) := by
  have hb : b < w.heap.size := World.block_lt_of_cell? w _ c0
  go_enter_defers Tryd.func15, Tryd.ntmps15
  go_wp2_with (first | (go_at_call 26; refine (sure_yes _).mono ?_; rintro e w' ⟨rfl, rfl⟩) | (go_at_call 27; refine (ha _).mono ?_; rintro e w' ⟨rfl, rfl⟩))
  refine leaves_cons (f := 25) (args := #[.pointer (some ⟨w.heap.size + 1, 0, none⟩)]) (by simp) (by simp [go_sem]) ?_
  refine (caught_idle ⟨w.heap.size + 1, 0, none⟩ _).mono ?_
  rintro e u' w'' ⟨rfl, rfl, rfl⟩
  simp [Leaves, settle, results, Tryd.results15, go_sem]
  exact ⟨⟨_, rfl, Kd.R_nil _ _ _ _ _⟩, by go_grown⟩

set_option maxRecDepth 100000 in
set_option maxHeartbeats 1000000 in
theorem read_unroute_count (b n : Nat) (w : World) (h2 : n ≠ 2) (h0 : 0 < n) (hm : n ≤ 1000) (c0 : w.cell? ⟨b, 0, none⟩ = some (.string ⟨#[117, 110, 114, 111, 117, 116, 101]⟩)) :
    Calls Tryd.prog 15 #[.slice (some ⟨b, 0, none⟩) n n] w (ReadNo w) := by
  have hb : b < w.heap.size := World.block_lt_of_cell? w _ c0
  rcases Nat.lt_or_gt_of_ne h2 with h | h
  · have h1 : ¬ (2 : Int) ≤ n := by omega
    clear h2 h
    go_enter_defers Tryd.func15, Tryd.ntmps15
    go_wp2_with (go_at_call 26; refine (sure_no _).mono ?_; rintro e w' ⟨rfl, rfl⟩)
    refine leaves_cons (f := 25) (args := #[.pointer (some ⟨w.heap.size + 1, 0, none⟩)]) (by simp) (by simp [go_sem]) ?_
    refine (caught_panicking (w.heap.size + 1) (.int .i64 0) _ ?_ ?_).mono ?_
    · simp [go_sem]
    · simp [go_sem]
    rintro e u' w'' ⟨rfl, rfl, rfl⟩
    simp [Leaves, settle, results, Tryd.results15, go_sem]
    exact ⟨⟨_, _, _, _, _, _, _, rfl⟩, by go_grown⟩
  · have h1 : (2 : Int) ≤ n := by omega
    have h3 : decide ((n : Int) ≤ 2) = false := by simp; omega
    clear h2 h
    go_enter_defers Tryd.func15, Tryd.ntmps15
    go_wp2_with (go_at_call 26; refine (sure_no _).mono ?_; rintro e w' ⟨rfl, rfl⟩)
    refine leaves_cons (f := 25) (args := #[.pointer (some ⟨w.heap.size + 1, 0, none⟩)]) (by simp) (by simp [go_sem]) ?_
    refine (caught_panicking (w.heap.size + 1) (.int .i64 0) _ ?_ ?_).mono ?_
    · simp [go_sem]
    · simp [go_sem]
    rintro e u' w'' ⟨rfl, rfl, rfl⟩
    simp [Leaves, settle, results, Tryd.results15, go_sem]
    exact ⟨⟨_, _, _, _, _, _, _, rfl⟩, by go_grown⟩

set_option maxRecDepth 100000 in
set_option maxHeartbeats 1000000 in
theorem read_unroute_bad (b : Nat) (w : World) (c0 : w.cell? ⟨b, 0, none⟩ = some (.string ⟨#[117, 110, 114, 111, 117, 116, 101]⟩)) (a : ByteArray) (c1 : w.cell? ⟨b, 1, none⟩ = some (.string a)) (ha : Throws 28 #[.string a, .string ⟨#[48, 49, 50, 51, 52, 53, 54, 55, 56, 57]⟩, .int .i64 8]) :
    Calls Tryd.prog 15 #[.slice (some ⟨b, 0, none⟩) 2 2] w (ReadNo w) := by
  have hb : b < w.heap.size := World.block_lt_of_cell? w _ c0
  go_enter_defers Tryd.func15, Tryd.ntmps15
  go_wp2_with (first | (go_at_call 26; refine (sure_yes _).mono ?_; rintro e w' ⟨rfl, rfl⟩) | (go_at_call 28; refine (ha _).mono ?_; rintro e w' ⟨rfl, rfl⟩))
  refine leaves_cons (f := 25) (args := #[.pointer (some ⟨w.heap.size + 1, 0, none⟩)]) (by simp) (by simp [go_sem]) ?_
  refine (caught_panicking (w.heap.size + 1) (.int .i64 0) _ ?_ ?_).mono ?_
  · simp [go_sem]
  · simp [go_sem]
  rintro e u' w'' ⟨rfl, rfl, rfl⟩
  simp [Leaves, settle, results, Tryd.results15, go_sem]
  exact ⟨⟨_, _, _, _, _, _, _, rfl⟩, by go_grown⟩

set_option maxRecDepth 100000 in
set_option maxHeartbeats 1000000 in
theorem read_unroute_yes (b : Nat) (w : World) (c0 : w.cell? ⟨b, 0, none⟩ = some (.string ⟨#[117, 110, 114, 111, 117, 116, 101]⟩)) (a : ByteArray) (c1 : w.cell? ⟨b, 1, none⟩ = some (.string a)) (ha : Tells 28 #[.string a, .string ⟨#[48, 49, 50, 51, 52, 53, 54, 55, 56, 57]⟩, .int .i64 8] (.string a)) :
    Calls Tryd.prog 15 #[.slice (some ⟨b, 0, none⟩) 2 2] w (ReadYes ⟨#[117, 110, 114, 111, 117, 116, 101]⟩ 0 a [] ⟨#[]⟩ w) := by
  have hb : b < w.heap.size := World.block_lt_of_cell? w _ c0
  go_enter_defers Tryd.func15, Tryd.ntmps15
  go_wp2_with (first | (go_at_call 26; refine (sure_yes _).mono ?_; rintro e w' ⟨rfl, rfl⟩) | (go_at_call 28; refine (ha _).mono ?_; rintro e w' ⟨rfl, rfl⟩))
  refine leaves_cons (f := 25) (args := #[.pointer (some ⟨w.heap.size + 1, 0, none⟩)]) (by simp) (by simp [go_sem]) ?_
  refine (caught_idle ⟨w.heap.size + 1, 0, none⟩ _).mono ?_
  rintro e u' w'' ⟨rfl, rfl, rfl⟩
  simp [Leaves, settle, results, Tryd.results15, go_sem]
  exact ⟨⟨_, rfl, Kd.R_nil _ _ _ _ _⟩, by go_grown⟩

set_option maxRecDepth 100000 in
set_option maxHeartbeats 1000000 in
theorem read_state_count (b n : Nat) (w : World) (h2 : n ≠ 2) (h0 : 0 < n) (hm : n ≤ 1000) (c0 : w.cell? ⟨b, 0, none⟩ = some (.string ⟨#[115, 116, 97, 116, 101]⟩)) :
    Calls Tryd.prog 15 #[.slice (some ⟨b, 0, none⟩) n n] w (ReadNo w) := by
  have hb : b < w.heap.size := World.block_lt_of_cell? w _ c0
  rcases Nat.lt_or_gt_of_ne h2 with h | h
  · have h1 : ¬ (2 : Int) ≤ n := by omega
    clear h2 h
    go_enter_defers Tryd.func15, Tryd.ntmps15
    go_wp2_with (go_at_call 26; refine (sure_no _).mono ?_; rintro e w' ⟨rfl, rfl⟩)
    refine leaves_cons (f := 25) (args := #[.pointer (some ⟨w.heap.size + 1, 0, none⟩)]) (by simp) (by simp [go_sem]) ?_
    refine (caught_panicking (w.heap.size + 1) (.int .i64 0) _ ?_ ?_).mono ?_
    · simp [go_sem]
    · simp [go_sem]
    rintro e u' w'' ⟨rfl, rfl, rfl⟩
    simp [Leaves, settle, results, Tryd.results15, go_sem]
    exact ⟨⟨_, _, _, _, _, _, _, rfl⟩, by go_grown⟩
  · have h1 : (2 : Int) ≤ n := by omega
    have h3 : decide ((n : Int) ≤ 2) = false := by simp; omega
    clear h2 h
    go_enter_defers Tryd.func15, Tryd.ntmps15
    go_wp2_with (go_at_call 26; refine (sure_no _).mono ?_; rintro e w' ⟨rfl, rfl⟩)
    refine leaves_cons (f := 25) (args := #[.pointer (some ⟨w.heap.size + 1, 0, none⟩)]) (by simp) (by simp [go_sem]) ?_
    refine (caught_panicking (w.heap.size + 1) (.int .i64 0) _ ?_ ?_).mono ?_
    · simp [go_sem]
    · simp [go_sem]
    rintro e u' w'' ⟨rfl, rfl, rfl⟩
    simp [Leaves, settle, results, Tryd.results15, go_sem]
    exact ⟨⟨_, _, _, _, _, _, _, rfl⟩, by go_grown⟩

set_option maxRecDepth 100000 in
set_option maxHeartbeats 1000000 in
theorem read_state_bad (b : Nat) (w : World) (c0 : w.cell? ⟨b, 0, none⟩ = some (.string ⟨#[115, 116, 97, 116, 101]⟩)) (a : ByteArray) (c1 : w.cell? ⟨b, 1, none⟩ = some (.string a)) (ha : Throws 28 #[.string a, .string ⟨#[48, 49, 50, 51, 52, 53, 54, 55, 56, 57, 46]⟩, .int .i64 32]) :
    Calls Tryd.prog 15 #[.slice (some ⟨b, 0, none⟩) 2 2] w (ReadNo w) := by
  have hb : b < w.heap.size := World.block_lt_of_cell? w _ c0
  go_enter_defers Tryd.func15, Tryd.ntmps15
  go_wp2_with (first | (go_at_call 26; refine (sure_yes _).mono ?_; rintro e w' ⟨rfl, rfl⟩) | (go_at_call 28; refine (ha _).mono ?_; rintro e w' ⟨rfl, rfl⟩))
  refine leaves_cons (f := 25) (args := #[.pointer (some ⟨w.heap.size + 1, 0, none⟩)]) (by simp) (by simp [go_sem]) ?_
  refine (caught_panicking (w.heap.size + 1) (.int .i64 0) _ ?_ ?_).mono ?_
  · simp [go_sem]
  · simp [go_sem]
  rintro e u' w'' ⟨rfl, rfl, rfl⟩
  simp [Leaves, settle, results, Tryd.results15, go_sem]
  exact ⟨⟨_, _, _, _, _, _, _, rfl⟩, by go_grown⟩

set_option maxRecDepth 100000 in
set_option maxHeartbeats 1000000 in
theorem read_state_yes (b : Nat) (w : World) (c0 : w.cell? ⟨b, 0, none⟩ = some (.string ⟨#[115, 116, 97, 116, 101]⟩)) (a : ByteArray) (c1 : w.cell? ⟨b, 1, none⟩ = some (.string a)) (ha : Tells 28 #[.string a, .string ⟨#[48, 49, 50, 51, 52, 53, 54, 55, 56, 57, 46]⟩, .int .i64 32] (.string a)) :
    Calls Tryd.prog 15 #[.slice (some ⟨b, 0, none⟩) 2 2] w (ReadYes ⟨#[115, 116, 97, 116, 101]⟩ 0 ⟨#[]⟩ [] a w) := by
  have hb : b < w.heap.size := World.block_lt_of_cell? w _ c0
  go_enter_defers Tryd.func15, Tryd.ntmps15
  go_wp2_with (first | (go_at_call 26; refine (sure_yes _).mono ?_; rintro e w' ⟨rfl, rfl⟩) | (go_at_call 28; refine (ha _).mono ?_; rintro e w' ⟨rfl, rfl⟩))
  refine leaves_cons (f := 25) (args := #[.pointer (some ⟨w.heap.size + 1, 0, none⟩)]) (by simp) (by simp [go_sem]) ?_
  refine (caught_idle ⟨w.heap.size + 1, 0, none⟩ _).mono ?_
  rintro e u' w'' ⟨rfl, rfl, rfl⟩
  simp [Leaves, settle, results, Tryd.results15, go_sem]
  exact ⟨⟨_, rfl, Kd.R_nil _ _ _ _ _⟩, by go_grown⟩

set_option maxRecDepth 100000 in
set_option maxHeartbeats 1000000 in
theorem read_cut_count (b n : Nat) (w : World) (h2 : n ≠ 1) (h0 : 0 < n) (hm : n ≤ 1000) (c0 : w.cell? ⟨b, 0, none⟩ = some (.string ⟨#[99, 117, 116]⟩)) :
    Calls Tryd.prog 15 #[.slice (some ⟨b, 0, none⟩) n n] w (ReadNo w) := by
  have hb : b < w.heap.size := World.block_lt_of_cell? w _ c0
  have h1 : (1 : Int) ≤ n := by omega
  have h3 : decide ((n : Int) ≤ 1) = false := by simp; omega
  clear h2
  go_enter_defers Tryd.func15, Tryd.ntmps15
  go_wp2_with (go_at_call 26; refine (sure_no _).mono ?_; rintro e w' ⟨rfl, rfl⟩)
  refine leaves_cons (f := 25) (args := #[.pointer (some ⟨w.heap.size + 1, 0, none⟩)]) (by simp) (by simp [go_sem]) ?_
  refine (caught_panicking (w.heap.size + 1) (.int .i64 0) _ ?_ ?_).mono ?_
  · simp [go_sem]
  · simp [go_sem]
  rintro e u' w'' ⟨rfl, rfl, rfl⟩
  simp [Leaves, settle, results, Tryd.results15, go_sem]
  exact ⟨⟨_, _, _, _, _, _, _, rfl⟩, by go_grown⟩

set_option maxRecDepth 100000 in
set_option maxHeartbeats 1000000 in
theorem read_cut_yes (b : Nat) (w : World) (c0 : w.cell? ⟨b, 0, none⟩ = some (.string ⟨#[99, 117, 116]⟩)) :
    Calls Tryd.prog 15 #[.slice (some ⟨b, 0, none⟩) 1 1] w (ReadYes ⟨#[99, 117, 116]⟩ 0 ⟨#[]⟩ [] ⟨#[]⟩ w) := by
  have hb : b < w.heap.size := World.block_lt_of_cell? w _ c0
  go_enter_defers Tryd.func15, Tryd.ntmps15
  go_wp2_with (go_at_call 26; refine (sure_yes _).mono ?_; rintro e w' ⟨rfl, rfl⟩)
  refine leaves_cons (f := 25) (args := #[.pointer (some ⟨w.heap.size + 1, 0, none⟩)]) (by simp) (by simp [go_sem]) ?_
  refine (caught_idle ⟨w.heap.size + 1, 0, none⟩ _).mono ?_
  rintro e u' w'' ⟨rfl, rfl, rfl⟩
  simp [Leaves, settle, results, Tryd.results15, go_sem]
  exact ⟨⟨_, rfl, Kd.R_nil _ _ _ _ _⟩, by go_grown⟩

set_option maxRecDepth 100000 in
set_option maxHeartbeats 1000000 in
theorem read_day_count (b n : Nat) (w : World) (h2 : n ≠ 1) (h0 : 0 < n) (hm : n ≤ 1000) (c0 : w.cell? ⟨b, 0, none⟩ = some (.string ⟨#[100, 97, 121]⟩)) :
    Calls Tryd.prog 15 #[.slice (some ⟨b, 0, none⟩) n n] w (ReadNo w) := by
  have hb : b < w.heap.size := World.block_lt_of_cell? w _ c0
  have h1 : (1 : Int) ≤ n := by omega
  have h3 : decide ((n : Int) ≤ 1) = false := by simp; omega
  clear h2
  go_enter_defers Tryd.func15, Tryd.ntmps15
  go_wp2_with (go_at_call 26; refine (sure_no _).mono ?_; rintro e w' ⟨rfl, rfl⟩)
  refine leaves_cons (f := 25) (args := #[.pointer (some ⟨w.heap.size + 1, 0, none⟩)]) (by simp) (by simp [go_sem]) ?_
  refine (caught_panicking (w.heap.size + 1) (.int .i64 0) _ ?_ ?_).mono ?_
  · simp [go_sem]
  · simp [go_sem]
  rintro e u' w'' ⟨rfl, rfl, rfl⟩
  simp [Leaves, settle, results, Tryd.results15, go_sem]
  exact ⟨⟨_, _, _, _, _, _, _, rfl⟩, by go_grown⟩

set_option maxRecDepth 100000 in
set_option maxHeartbeats 1000000 in
theorem read_day_yes (b : Nat) (w : World) (c0 : w.cell? ⟨b, 0, none⟩ = some (.string ⟨#[100, 97, 121]⟩)) :
    Calls Tryd.prog 15 #[.slice (some ⟨b, 0, none⟩) 1 1] w (ReadYes ⟨#[100, 97, 121]⟩ 0 ⟨#[]⟩ [] ⟨#[]⟩ w) := by
  have hb : b < w.heap.size := World.block_lt_of_cell? w _ c0
  go_enter_defers Tryd.func15, Tryd.ntmps15
  go_wp2_with (go_at_call 26; refine (sure_yes _).mono ?_; rintro e w' ⟨rfl, rfl⟩)
  refine leaves_cons (f := 25) (args := #[.pointer (some ⟨w.heap.size + 1, 0, none⟩)]) (by simp) (by simp [go_sem]) ?_
  refine (caught_idle ⟨w.heap.size + 1, 0, none⟩ _).mono ?_
  rintro e u' w'' ⟨rfl, rfl, rfl⟩
  simp [Leaves, settle, results, Tryd.results15, go_sem]
  exact ⟨⟨_, rfl, Kd.R_nil _ _ _ _ _⟩, by go_grown⟩

end Go.Proofs.YtegalamdbbjfoaaDoor
