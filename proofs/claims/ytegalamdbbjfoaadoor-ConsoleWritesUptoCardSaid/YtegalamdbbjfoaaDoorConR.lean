/- What a parsed command is like; 'Parse', the program's and the document's, in one form. -/
import Derived.Test.YtegalamdbbjfoaaDoorConQ
import Derived.Test.YtegalamdbbjfoaaDoorPConsoleReadsx5
namespace Go.Proofs.YtegalamdbbjfoaaDoor
open Go.RowKit Go.Proofs.YtegalamdbbjfoaaDoorW.PrintWords PConsoleReads

theorem cmdOf_sizes {ws : List ByteArray} {a : ByteArray} {b : Int} {c : ByteArray} {ts : List Int} {d : ByteArray} (hw : ∀ p ∈ ws, p.size ≤ 100) (h : cmdOf ws = some (a, b, c, ts, d)) :
    a.size ≤ 100 ∧ c.size ≤ 100 ∧ d.size ≤ 100 ∧ 0 ≤ b ∧ b ≤ 9 := by
  have h0 : (⟨#[]⟩ : ByteArray).size ≤ 100 := by decide
  unfold cmdOf at h
  repeat' split at h
  all_goals first
    | (cases h; done)
    | (simp only [Option.map_eq_some_iff, Prod.mk.injEq] at h
       obtain ⟨q, hq, rfl, rfl, rfl, rfl, rfl⟩ := h
       have := dgv_le hq
       exact ⟨hw _ (by simp), h0, h0, by omega, by omega⟩)
    | (simp only [Option.some.injEq, Prod.mk.injEq] at h
       obtain ⟨rfl, rfl, rfl, rfl, rfl⟩ := h
       exact ⟨hw _ (by simp), by first | exact h0 | exact hw _ (by simp), by first | exact h0 | exact hw _ (by simp), by omega, by omega⟩)

/-- A command that can be told: its texts are short, its numbers are int's. -/
structure Small (x : Cmd) : Prop where
  wd : x.1.size ≤ 1048576
  pf : x.2.2.1.size ≤ 1048576
  key : x.2.2.2.2.size ≤ 1048576
  m : Ints [x.2.1]
  ts : Ints x.2.2.2.1
  tl : x.2.2.2.1.length ≤ 1048576

def parseT (line : ByteArray) : Cmd × Int := match parseOf line with
  | (some x, _) => (x, 0)
  | (none, n) => ((⟨#[]⟩, 0, ⟨#[]⟩, [], ⟨#[]⟩), n)

theorem small_nil : Small (⟨#[]⟩, 0, ⟨#[]⟩, [], ⟨#[]⟩) :=
  ⟨by decide, by decide, by decide, by intro n hn; simp at hn; omega, (fun n hn => by cases hn), by simp⟩

theorem parseOf_small {line : ByteArray} {x : Cmd} {n : Int} (h : parseOf line = (some x, n)) : Small x := by
  obtain ⟨a, b, c, ts, d⟩ := x
  unfold parseOf at h
  split at h
  · cases h
  · next hl =>
    injection h with h _
    have h1 := cmdOf_sizes (fun p hp => Nat.le_trans (splitB_size _ _ _ _ p hp) (Nat.le_of_not_lt hl)) h
    have h2 := cmdOf_ints h
    exact ⟨by dsimp only; omega, by dsimp only; omega, by dsimp only; omega, by intro n hn; simp at hn; omega, h2.1, h2.2⟩

theorem parseT_facts (line : ByteArray) : Small (parseT line).1 ∧ ((parseT line).2 = 0 ∨ (parseT line).2 = 5 ∨ (parseT line).2 = 210) ∧ ((parseT line).2 = 0 → printOf (parseT line).1 = (line, 0)) ∧ ((parseT line).2 = 0 → parseOf line = (some (parseT line).1, 210)) := by
  have hn : (parseOf line).2 = 5 ∧ (parseOf line).1 = none ∨ (parseOf line).2 = 210 := by
    unfold parseOf
    split
    · exact Or.inl ⟨rfl, rfl⟩
    · exact Or.inr rfl
  unfold parseT
  rcases hp : parseOf line with ⟨_ | x, n⟩
  · rw [hp] at hn
    dsimp only at hn ⊢
    exact ⟨small_nil, by omega, by omega, by omega⟩
  · rw [hp] at hn
    dsimp only at hn ⊢
    refine ⟨parseOf_small hp, Or.inl rfl, fun _ => print_parse hp, fun _ => ?_⟩
    rcases hn with ⟨_, hn⟩ | hn
    · cases hn
    · rw [hn]

/-- A command in the heap. -/
def Ret (x : Cmd) (n : Int) (w : World) (e : Ending) (w' : World) : Prop :=
  ∃ A c, e = .returned (.tuple #[.agg #[.string x.1, .int .i64 x.2.1, .string x.2.2.1, .slice A x.2.2.2.1.length c, .string x.2.2.2.2], .int .i64 n]) ∧ x.2.2.2.1.length ≤ c ∧ Kd.C (Kd.int .i64) w' A x.2.2.2.1.length x.2.2.2.1 ∧ Below w.heap.size w w'

theorem parse_all (line : ByteArray) (w : World) (g : Int) (hg : w.cell? ⟨0, 0, none⟩ = some (.int .i64 g)) : Calls Tryd.prog 8 #[.string line] w (Ret (parseT line).1 (parseT line).2 w) := by
  refine (parse_any line w g hg).mono ?_
  intro e w' h
  unfold parseT
  rcases hp : parseOf line with ⟨_ | ⟨a, b, c, ts, d⟩, n⟩
  · rw [hp] at h
    obtain ⟨rfl, hb⟩ := h
    exact ⟨none, 0, rfl, Nat.le_refl _, Kd.C_nil .., hb⟩
  · rw [hp] at h
    obtain ⟨⟨v, rfl, hR⟩, hb⟩ := h
    obtain ⟨A', c', rfl, hle, hC⟩ := Kd.R_reads hR
    exact ⟨A', c', rfl, hle, hC, hb⟩

theorem ref_parse_all (line : ByteArray) (w : World) : Calls Tryd.prog 9 #[.string line] w (Ret (parseT line).1 (parseT line).2 w) := by
  have he := Parse_eq line 2002 (by omega)
  have he2 : groatref21_Parse.f 2002 line = some ((parseT line).1.1, (parseT line).1.2.1, (parseT line).1.2.2.1, (parseT line).1.2.2.2.1, (parseT line).1.2.2.2.2, (parseT line).2) := by
    rw [he]
    unfold parseT
    rcases hp : parseOf line with ⟨_ | ⟨a, b, c, ts, d⟩, n⟩ <;> rfl
  refine (groatref21_Parse.calls _ _ _ _ _ _ _ _ w he2).mono ?_
  rintro e w' ⟨v, rfl, hR, hb⟩
  obtain ⟨A', c', rfl, hle, hC⟩ := Kd.R_reads hR
  exact ⟨A', c', rfl, hle, hC, hb⟩
end Go.Proofs.YtegalamdbbjfoaaDoor
