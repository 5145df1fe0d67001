/- The contract of the console's 'Parse'. -/
import Derived.Test.YtegalamdbbjfoaaDoorConH
namespace Go.Proofs.YtegalamdbbjfoaaDoor
open Go.RowKit Go.Proofs.YtegalamdbbjfoaaDoorW.PrintWords

def wordsOf (line : ByteArray) : List ByteArray := Lib.splitB ⟨#[32]⟩ 0 (Lib.countB line ⟨#[32]⟩) line

theorem wordsOf_length (line : ByteArray) : (wordsOf line).length = Lib.countB line ⟨#[32]⟩ + 1 := Lib.splitB_all _ (by decide) _ _ _ rfl

/-- A command that is read; none: an error. -/
def CmdPost : Option Cmd × Int → World → Ending → World → Prop
  | (none, n), w, e, w' => e = .returned (.tuple #[.agg #[.string ⟨#[]⟩, .int .i64 0, .string ⟨#[]⟩, .slice none 0 0, .string ⟨#[]⟩], .int .i64 n]) ∧ Below w.heap.size w w'
  | (some (wd, m, pf, ts, key), _), w, e, w' => ReadYes wd m pf ts key w e w'

def parseOf (line : ByteArray) : Option Cmd × Int := if 100 < line.size then (none, 5) else (cmdOf (wordsOf line), 210)

set_option maxRecDepth 100000 in
theorem parse_long (line : ByteArray) (w : World) (h : (100 : Int) < (line.size : Int)) : Calls Tryd.prog 8 #[.string line] w (CmdPost (none, 5) w) := by
  go_enter Tryd.func8, Tryd.ntmps8
  go_wp2
  refine bodyPost_ret (v := .tuple #[.agg #[.string ⟨#[]⟩, .int .i64 0, .string ⟨#[]⟩, .slice none 0 0, .string ⟨#[]⟩], .int .i64 5]) (by simp [results, Tryd.results8, go_sem]) rfl ⟨rfl, ?_⟩
  go_grown

theorem splitB_size (sep : ByteArray) (save : Nat) : ∀ (k : Nat) (s : ByteArray), ∀ p ∈ Lib.splitB sep save k s, p.size ≤ s.size
  | 0, s, p, h => by
    rw [Lib.splitB_zero, List.mem_singleton] at h
    subst h
    exact Nat.le_refl _
  | k + 1, s, p, h => by
    unfold Lib.splitB at h
    split at h
    · rw [List.mem_singleton] at h
      subst h
      exact Nat.le_refl _
    · rcases List.mem_cons.1 h with h | h
      · subst h
        simp [ByteArray.size_extract]
        omega
      · have := splitB_size sep save k _ p h
        simp [ByteArray.size_extract] at this
        omega

theorem read_split (W : World) (b n : Nat) (hb : b = W.heap.size) (line : ByteArray) (hn : n = Lib.countB line ⟨#[32]⟩ + 1) (h : line.size ≤ 100) :
    Calls Tryd.prog 15 #[.slice (some ⟨b, 0, none⟩) n n] (W.alloc (.cells ((Lib.splitB ⟨#[32]⟩ 0 (Lib.countB line ⟨#[32]⟩) line).map Value.string).toArray 9))
      (ReadPost (cmdOf (wordsOf line)) (W.alloc (.cells ((Lib.splitB ⟨#[32]⟩ 0 (Lib.countB line ⟨#[32]⟩) line).map Value.string).toArray 9))) := by
  subst hb
  rw [← wordsOf_length] at hn
  subst hn
  have hl : (wordsOf line).length ≤ 1000 := by
    rw [wordsOf_length]
    have := Lib.countB_le ⟨#[32]⟩ (by decide) line.size line (Nat.le_refl _)
    omega
  refine read_any W.heap.size _ (wordsOf line) (by rw [wordsOf_length]; omega) hl (fun s hs => ?_) (fun j hj => ?_)
  · have := splitB_size _ _ _ _ s hs
    unfold maxLen
    omega
  · rw [World.cell?_alloc_new]
    have : (Lib.splitB ⟨#[32]⟩ 0 (Lib.countB line ⟨#[32]⟩) line) = wordsOf line := rfl
    rw [this]
    simp [hj]

set_option maxRecDepth 100000 in
set_option maxHeartbeats 4000000 in
theorem parse_short (line : ByteArray) (w : World) (m : Int) (hg : w.cell? ⟨0, 0, none⟩ = some (.int .i64 m)) (h : (line.size : Int) ≤ (100 : Int)) : Calls Tryd.prog 8 #[.string line] w (CmdPost (cmdOf (wordsOf line), 210) w) := by
  have h0 : 0 < w.heap.size := World.block_lt_of_cell? w _ hg
  go_enter Tryd.func8, Tryd.ntmps8
  go_wp2_with fail
  refine (Tryd.strings_Split line ⟨#[32]⟩ m _ (by omega) (by simpa [go_sem, h0] using hg) (by decide)).mono ?_
  rintro e w' ⟨rfl, rfl⟩
  go_wp2_with fail
  refine (read_split (w.alloc (.cells #[.string ⟨#[]⟩, .int .i64 0, .string ⟨#[]⟩, .slice none 0 0, .string ⟨#[]⟩] 25)) _ _ (by simp) line rfl (by omega)).mono ?_
  intro e w1 hp
  cases hc : cmdOf (wordsOf line) with
  | none =>
    rw [hc] at hp
    obtain ⟨⟨s, n, p, A, l, c, k, rfl⟩, hb⟩ := hp
    have HC := Aside0.mk hc
    clear hc
    have e0 : w1.cell? ⟨w.heap.size, 0, none⟩ = some (.string ⟨#[]⟩) := (hb.cell (p := ⟨w.heap.size, 0, none⟩) (by simp; omega)).trans (by simp [go_sem])
    have z0 : w1.frozen? ⟨w.heap.size, 0, none⟩ = false := (hb.frozen (p := ⟨w.heap.size, 0, none⟩) (by simp; omega)).trans (by simp [go_sem])
    have e1 : w1.cell? ⟨w.heap.size, 1, none⟩ = some (.int .i64 0) := (hb.cell (p := ⟨w.heap.size, 1, none⟩) (by simp; omega)).trans (by simp [go_sem])
    have z1 : w1.frozen? ⟨w.heap.size, 1, none⟩ = false := (hb.frozen (p := ⟨w.heap.size, 1, none⟩) (by simp; omega)).trans (by simp [go_sem])
    have e2 : w1.cell? ⟨w.heap.size, 2, none⟩ = some (.string ⟨#[]⟩) := (hb.cell (p := ⟨w.heap.size, 2, none⟩) (by simp; omega)).trans (by simp [go_sem])
    have z2 : w1.frozen? ⟨w.heap.size, 2, none⟩ = false := (hb.frozen (p := ⟨w.heap.size, 2, none⟩) (by simp; omega)).trans (by simp [go_sem])
    have e3 : w1.cell? ⟨w.heap.size, 3, none⟩ = some (.slice none 0 0) := (hb.cell (p := ⟨w.heap.size, 3, none⟩) (by simp; omega)).trans (by simp [go_sem])
    have z3 : w1.frozen? ⟨w.heap.size, 3, none⟩ = false := (hb.frozen (p := ⟨w.heap.size, 3, none⟩) (by simp; omega)).trans (by simp [go_sem])
    have e4 : w1.cell? ⟨w.heap.size, 4, none⟩ = some (.string ⟨#[]⟩) := (hb.cell (p := ⟨w.heap.size, 4, none⟩) (by simp; omega)).trans (by simp [go_sem])
    have z4 : w1.frozen? ⟨w.heap.size, 4, none⟩ = false := (hb.frozen (p := ⟨w.heap.size, 4, none⟩) (by simp; omega)).trans (by simp [go_sem])
    have hsz : w.heap.size < w1.heap.size := by have := hb.size; simp at this; omega
    have HB : Aside0 (Below w.heap.size w w1) := ⟨((((Below.refl _ w).alloc (Nat.le_refl _) _).alloc (by simp) _).trans (hb.mono (by simp; omega)))⟩
    clear hb
    go_wp2
    refine bodyPost_ret (v := .tuple #[.agg #[.string ⟨#[]⟩, .int .i64 0, .string ⟨#[]⟩, .slice none 0 0, .string ⟨#[]⟩], .int .i64 210]) (by simp [results, Tryd.results8, go_sem, hsz, e0, e1, e2, e3, e4]) rfl ?_
    rw [HC.out]
    refine ⟨rfl, ?_⟩
    have hB := HB.out
    clear HB
    go_grown
  | some x =>
    obtain ⟨wd, n, pf, ts, key⟩ := x
    rw [hc] at hp
    obtain ⟨⟨v, rfl, hR⟩, hb⟩ := hp
    have HC := Aside0.mk hc
    clear hc
    obtain ⟨A, c, rfl⟩ := Kd.R_slice hR
    have HR := Aside0.mk hR
    clear hR
    have e0 : w1.cell? ⟨w.heap.size, 0, none⟩ = some (.string ⟨#[]⟩) := (hb.cell (p := ⟨w.heap.size, 0, none⟩) (by simp; omega)).trans (by simp [go_sem])
    have z0 : w1.frozen? ⟨w.heap.size, 0, none⟩ = false := (hb.frozen (p := ⟨w.heap.size, 0, none⟩) (by simp; omega)).trans (by simp [go_sem])
    have e1 : w1.cell? ⟨w.heap.size, 1, none⟩ = some (.int .i64 0) := (hb.cell (p := ⟨w.heap.size, 1, none⟩) (by simp; omega)).trans (by simp [go_sem])
    have z1 : w1.frozen? ⟨w.heap.size, 1, none⟩ = false := (hb.frozen (p := ⟨w.heap.size, 1, none⟩) (by simp; omega)).trans (by simp [go_sem])
    have e2 : w1.cell? ⟨w.heap.size, 2, none⟩ = some (.string ⟨#[]⟩) := (hb.cell (p := ⟨w.heap.size, 2, none⟩) (by simp; omega)).trans (by simp [go_sem])
    have z2 : w1.frozen? ⟨w.heap.size, 2, none⟩ = false := (hb.frozen (p := ⟨w.heap.size, 2, none⟩) (by simp; omega)).trans (by simp [go_sem])
    have e3 : w1.cell? ⟨w.heap.size, 3, none⟩ = some (.slice none 0 0) := (hb.cell (p := ⟨w.heap.size, 3, none⟩) (by simp; omega)).trans (by simp [go_sem])
    have z3 : w1.frozen? ⟨w.heap.size, 3, none⟩ = false := (hb.frozen (p := ⟨w.heap.size, 3, none⟩) (by simp; omega)).trans (by simp [go_sem])
    have e4 : w1.cell? ⟨w.heap.size, 4, none⟩ = some (.string ⟨#[]⟩) := (hb.cell (p := ⟨w.heap.size, 4, none⟩) (by simp; omega)).trans (by simp [go_sem])
    have z4 : w1.frozen? ⟨w.heap.size, 4, none⟩ = false := (hb.frozen (p := ⟨w.heap.size, 4, none⟩) (by simp; omega)).trans (by simp [go_sem])
    have hsz : w.heap.size < w1.heap.size := by have := hb.size; simp at this; omega
    have HB : Aside0 (Below w.heap.size w w1) := ⟨((((Below.refl _ w).alloc (Nat.le_refl _) _).alloc (by simp) _).trans (hb.mono (by simp; omega)))⟩
    clear hb
    go_wp2
    refine bodyPost_ret (v := .tuple #[.agg #[.string wd, .int .i64 n, .string pf, .slice A ts.length c, .string key], .int .i64 0]) (by simp [results, Tryd.results8, go_sem, hsz, e0, e1, e2, e3, e4]) rfl ?_
    rw [HC.out]
    refine ⟨⟨_, rfl, ?_⟩, ?_⟩
    · have h1 := Kd.R_mono (ok' := fun q => q ≠ w.heap.size) (Kd.R_bound HR.out) (fun q hq => by have := hq.2.1; simp at this; omega)
      have h2 := Kd.R_far (p := ⟨w.heap.size, 0, none⟩) h1 (fun q hq => hq) (.string wd)
      have h3 := Kd.R_far (p := ⟨w.heap.size, 1, none⟩) h2 (fun q hq => hq) (.int .i64 n)
      have h4 := Kd.R_far (p := ⟨w.heap.size, 2, none⟩) h3 (fun q hq => hq) (.string pf)
      have h5 := Kd.R_far (p := ⟨w.heap.size, 3, none⟩) h4 (fun q hq => hq) (.slice A ts.length c)
      have h6 := Kd.R_far (p := ⟨w.heap.size, 4, none⟩) h5 (fun q hq => hq) (.string key)
      exact Kd.R_mono (Kd.R_lower (Kd.R_below h6 (below_alloc (Below.refl _ _) _)) (by simp; omega)) (fun _ _ => trivial)
    · have hB := HB.out
      clear HB
      go_grown
end Go.Proofs.YtegalamdbbjfoaaDoor
