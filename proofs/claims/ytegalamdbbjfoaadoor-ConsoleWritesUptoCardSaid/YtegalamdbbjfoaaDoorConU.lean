/- The contract of the console's 'same'. -/
import Derived.Test.YtegalamdbbjfoaaDoorConS
import Derived.Deep.QuietTactic
import Derived.BigQuiet
import Derived.Deep.RegionHeld3
namespace Go.Proofs.YtegalamdbbjfoaaDoor
open Go.RowKit Go.Proofs.YtegalamdbbjfoaaDoorW.PrintWords

set_option maxRecDepth 100000 in
set_option maxHeartbeats 1000000 in
theorem same_word (wd wd' pf pf' key key' : ByteArray) (m m' : Int) (A A' : Option Addr) (c c' : Nat) (l l' : List Int) (w : World) (h : (wd.toList == wd'.toList) = false) :
    Calls Tryd.prog 19 #[.agg #[.string wd, .int .i64 m, .string pf, .slice A l.length c, .string key], .agg #[.string wd', .int .i64 m', .string pf', .slice A' l'.length c', .string key']] w fun e w' =>
      e = .returned (.bool false) ∧ Below w.heap.size w w' := by
  go_enter Tryd.func19, Tryd.ntmps19
  go_wp2
  go_quiet (fail)
  go_wp2
  go_ret
  refine ⟨rfl, ?_⟩
  exact pw_below_drewN (by go_grown) _

set_option maxRecDepth 100000 in
set_option maxHeartbeats 1000000 in
theorem same_member (wd wd' pf pf' key key' : ByteArray) (m m' : Int) (A A' : Option Addr) (c c' : Nat) (l l' : List Int) (w : World) (h0 : (wd.toList == wd'.toList) = true) (h : (m == m') = false) :
    Calls Tryd.prog 19 #[.agg #[.string wd, .int .i64 m, .string pf, .slice A l.length c, .string key], .agg #[.string wd', .int .i64 m', .string pf', .slice A' l'.length c', .string key']] w fun e w' =>
      e = .returned (.bool false) ∧ Below w.heap.size w w' := by
  go_enter Tryd.func19, Tryd.ntmps19
  go_wp2
  go_quiet (fail)
  go_wp2
  go_ret
  refine ⟨rfl, ?_⟩
  exact pw_below_drewN (by go_grown) _

set_option maxRecDepth 100000 in
set_option maxHeartbeats 1000000 in
theorem same_prefix (wd wd' pf pf' key key' : ByteArray) (m m' : Int) (A A' : Option Addr) (c c' : Nat) (l l' : List Int) (w : World) (h0 : (wd.toList == wd'.toList) = true) (h1 : (m == m') = true) (h : (pf.toList == pf'.toList) = false) :
    Calls Tryd.prog 19 #[.agg #[.string wd, .int .i64 m, .string pf, .slice A l.length c, .string key], .agg #[.string wd', .int .i64 m', .string pf', .slice A' l'.length c', .string key']] w fun e w' =>
      e = .returned (.bool false) ∧ Below w.heap.size w w' := by
  go_enter Tryd.func19, Tryd.ntmps19
  go_wp2
  go_quiet (fail)
  go_wp2
  go_ret
  refine ⟨rfl, ?_⟩
  exact pw_below_drewN (by go_grown) _

set_option maxRecDepth 100000 in
set_option maxHeartbeats 1000000 in
theorem same_key (wd wd' pf pf' key key' : ByteArray) (m m' : Int) (A A' : Option Addr) (c c' : Nat) (l l' : List Int) (w : World) (h0 : (wd.toList == wd'.toList) = true) (h1 : (m == m') = true) (h2 : (pf.toList == pf'.toList) = true) (h : (key.toList == key'.toList) = false) :
    Calls Tryd.prog 19 #[.agg #[.string wd, .int .i64 m, .string pf, .slice A l.length c, .string key], .agg #[.string wd', .int .i64 m', .string pf', .slice A' l'.length c', .string key']] w fun e w' =>
      e = .returned (.bool false) ∧ Below w.heap.size w w' := by
  go_enter Tryd.func19, Tryd.ntmps19
  go_wp2
  go_quiet (fail)
  go_wp2
  go_ret
  refine ⟨rfl, ?_⟩
  exact pw_below_drewN (by go_grown) _

theorem same_keep {wd wd' pf pf' key key' : ByteArray} {m m' : Int} {A A' : Option Addr} {c c' : Nat} {l l' : List Int} {w W w1 : World}
    (h : (W.cell? ⟨w.heap.size, 0, none⟩ = some (.string wd) ∧ W.cell? ⟨w.heap.size, 1, none⟩ = some (.int .i64 m) ∧ W.cell? ⟨w.heap.size, 2, none⟩ = some (.string pf) ∧ W.cell? ⟨w.heap.size, 3, none⟩ = some (.slice A l.length c) ∧ W.cell? ⟨w.heap.size, 4, none⟩ = some (.string key) ∧ W.cell? ⟨w.heap.size + 1, 0, none⟩ = some (.string wd') ∧ W.cell? ⟨w.heap.size + 1, 1, none⟩ = some (.int .i64 m') ∧ W.cell? ⟨w.heap.size + 1, 2, none⟩ = some (.string pf') ∧ W.cell? ⟨w.heap.size + 1, 3, none⟩ = some (.slice A' l'.length c') ∧ W.cell? ⟨w.heap.size + 1, 4, none⟩ = some (.string key') ∧ Aside0 (Below w.heap.size w W ∧ w.heap.size + 1 < W.heap.size))) (hb : Below W.heap.size W w1) : (w1.cell? ⟨w.heap.size, 0, none⟩ = some (.string wd) ∧ w1.cell? ⟨w.heap.size, 1, none⟩ = some (.int .i64 m) ∧ w1.cell? ⟨w.heap.size, 2, none⟩ = some (.string pf) ∧ w1.cell? ⟨w.heap.size, 3, none⟩ = some (.slice A l.length c) ∧ w1.cell? ⟨w.heap.size, 4, none⟩ = some (.string key) ∧ w1.cell? ⟨w.heap.size + 1, 0, none⟩ = some (.string wd') ∧ w1.cell? ⟨w.heap.size + 1, 1, none⟩ = some (.int .i64 m') ∧ w1.cell? ⟨w.heap.size + 1, 2, none⟩ = some (.string pf') ∧ w1.cell? ⟨w.heap.size + 1, 3, none⟩ = some (.slice A' l'.length c') ∧ w1.cell? ⟨w.heap.size + 1, 4, none⟩ = some (.string key') ∧ Aside0 (Below w.heap.size w w1 ∧ w.heap.size + 1 < w1.heap.size)) := by
  obtain ⟨s0, s1, s2, s3, s4, t0, t1, t2, t3, t4, ⟨hB, hz⟩⟩ := h
  have g : ∀ {b o : Nat} {v : Value}, W.cell? ⟨b, o, none⟩ = some v → w1.cell? ⟨b, o, none⟩ = some v := fun h => pw_cell_below hb h
  exact ⟨g s0, g s1, g s2, g s3, g s4, g t0, g t1, g t2, g t3, g t4, ⟨hB.trans (hb.mono (by omega)), Nat.lt_of_lt_of_le hz hb.size⟩⟩

set_option maxRecDepth 100000 in
set_option maxHeartbeats 4000000 in
theorem same_lists (wd wd' pf pf' key key' : ByteArray) (m m' : Int) (A A' : Option Addr) (c c' : Nat) (l l' : List Int) (w : World) (h0 : (wd.toList == wd'.toList) = true) (h1 : (m == m') = true) (h2 : (pf.toList == pf'.toList) = true) (h3 : (key.toList == key'.toList) = true)
    (hr : Kd.C (Kd.int .i64) w A l.length l) (hr' : Kd.C (Kd.int .i64) w A' l'.length l') (hl : (l.length : Int) ≤ 9223372036854775807) (hl' : (l'.length : Int) ≤ 9223372036854775807)
    (hi : ∀ n ∈ l, -9223372036854775808 ≤ n ∧ n ≤ 9223372036854775807) (hi' : ∀ n ∈ l', -9223372036854775808 ≤ n ∧ n ≤ 9223372036854775807)
    (hs : (sayL l).length ≤ 140737488355328) (hs' : (sayL l').length ≤ 140737488355328) (ht : Tab10 w) :
    Calls Tryd.prog 19 #[.agg #[.string wd, .int .i64 m, .string pf, .slice A l.length c, .string key], .agg #[.string wd', .int .i64 m', .string pf', .slice A' l'.length c', .string key']] w fun e w' =>
      e = .returned (.bool (sayL l == sayL l')) ∧ Below w.heap.size w w' := by
  have S1 : Aside0 (∀ W, Below w.heap.size w W → Calls Tryd.prog 13 #[.string ⟨#[]⟩, .slice A l.length c] W fun e w' => e = .returned (.string ⟨(sayL l).toArray⟩) ∧ Below W.heap.size W w') := ⟨fun W hB => by
    refine (say_any ⟨#[]⟩ A c l W (Kd.C_below hr hB) hl hi (by simpa [ByteArray.size] using hs) (ht.below hB)).mono ?_
    rintro e w' ⟨rfl, hb⟩
    exact ⟨by simp, hb⟩⟩
  have S2 : Aside0 (∀ W, Below w.heap.size w W → Calls Tryd.prog 13 #[.string ⟨#[]⟩, .slice A' l'.length c'] W fun e w' => e = .returned (.string ⟨(sayL l').toArray⟩) ∧ Below W.heap.size W w') := ⟨fun W hB => by
    refine (say_any ⟨#[]⟩ A' c' l' W (Kd.C_below hr' hB) hl' hi' (by simpa [ByteArray.size] using hs') (ht.below hB)).mono ?_
    rintro e w' ⟨rfl, hb⟩
    exact ⟨by simp, hb⟩⟩
  clear hr hr' hl hl' hi hi' hs hs' ht
  go_enter Tryd.func19, Tryd.ntmps19
  go_wp2
  go_region_held3 (fun w' => w'.cell? ⟨w.heap.size, 0, none⟩ = some (.string wd) ∧ w'.cell? ⟨w.heap.size, 1, none⟩ = some (.int .i64 m) ∧ w'.cell? ⟨w.heap.size, 2, none⟩ = some (.string pf) ∧ w'.cell? ⟨w.heap.size, 3, none⟩ = some (.slice A l.length c) ∧ w'.cell? ⟨w.heap.size, 4, none⟩ = some (.string key) ∧
      w'.cell? ⟨w.heap.size + 1, 0, none⟩ = some (.string wd') ∧ w'.cell? ⟨w.heap.size + 1, 1, none⟩ = some (.int .i64 m') ∧ w'.cell? ⟨w.heap.size + 1, 2, none⟩ = some (.string pf') ∧ w'.cell? ⟨w.heap.size + 1, 3, none⟩ = some (.slice A' l'.length c') ∧ w'.cell? ⟨w.heap.size + 1, 4, none⟩ = some (.string key') ∧ Aside0 (Below w.heap.size w w' ∧ w.heap.size + 1 < w'.heap.size))
    (first
      | (go_keep; done)
      | (refine ⟨?_, ?_, ?_, ?_, ?_, ?_, ?_, ?_, ?_, ?_, ⟨below_drew (by go_grown), by simp⟩⟩ <;> go_simp)
      | (refine same_keep ?_ hb1; refine ⟨?_, ?_, ?_, ?_, ?_, ?_, ?_, ?_, ?_, ?_, ⟨below_drew (by go_grown), by simp⟩⟩ <;> go_simp)
      | (refine same_keep ?_ hb2; go_split_ands; refine ⟨?_, ?_, ?_, ?_, ?_, ?_, ?_, ?_, ?_, ?_, ?_⟩ <;> assumption))
    (first
      | (go_at_call 13; ((with_reducible refine (S1.out _ (below_drew (by go_grown))).mono ?_); rintro e w1 ⟨rfl, hb1⟩))
      | (go_at_call 13; go_split_ands; ((with_reducible refine (S2.out _ ((by assumption : Aside0 (Below w.heap.size w w1 ∧ w.heap.size + 1 < w1.heap.size)).out.1)).mono ?_); rintro e w2 ⟨rfl, hb2⟩)))
  go_wp2
  go_ret
  refine ⟨rfl, ?_⟩
  go_split_ands
  exact (by assumption : Aside0 (Below w.heap.size w w2 ∧ w.heap.size + 1 < w2.heap.size)).out.1
end Go.Proofs.YtegalamdbbjfoaaDoor
