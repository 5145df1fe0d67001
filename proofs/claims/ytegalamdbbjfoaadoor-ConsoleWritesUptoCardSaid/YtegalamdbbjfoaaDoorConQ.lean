/- What is read as a command is written as that line; the reference's Same of one command and itself. -/
import Derived.Test.YtegalamdbbjfoaaDoorConP
namespace Go.Proofs.YtegalamdbbjfoaaDoor
open Go.RowKit Go.Proofs.YtegalamdbbjfoaaDoorW.PrintWords PConsoleReads

def joinL : List (List UInt8) → List UInt8
  | [] => []
  | [p] => p
  | p :: q :: r => p ++ 32 :: joinL (q :: r)

theorem joinL_cons (p : List UInt8) (l : List (List UInt8)) (h : l ≠ []) : joinL (p :: l) = p ++ 32 :: joinL l := by
  cases l with
  | nil => exact absurd rfl h
  | cons q r => rfl

theorem joinL_split : ∀ l, joinL (splitL l) = l
  | [] => rfl
  | b :: l => by
    have ih := joinL_split l
    unfold splitL
    by_cases hb : b = 32
    · rw [if_pos hb, joinL_cons _ _ (splitL_ne l), ih, hb]
      rfl
    · rw [if_neg hb]
      cases hq : splitL l with
      | nil => exact absurd hq (splitL_ne l)
      | cons p ps =>
        rw [hq] at ih
        dsimp only
        cases ps with
        | nil => simpa [joinL] using ih
        | cons q r => rw [joinL_cons _ _ (by simp)] at ih ⊢; rw [← ih]; rfl

theorem line_words (line : ByteArray) : line.data.toList = joinL ((wordsOf line).map (·.data.toList)) := by
  rw [wordsOf_data, joinL_split]

theorem dgv_itoa {n : Int} {s : ByteArray} {d : Int} (hn : n ≤ 10) (h : dgv n s = some d) : Lib.itoa d = s.data.toList := by
  have hd := dgv_le h
  unfold dgv at h
  split at h
  · next h1 =>
    split at h
    · next h2 =>
      injection h with h
      obtain ⟨c, hc⟩ : ∃ c, s.data.toList = [c] := by
        have : s.data.toList.length = 1 := by simpa using h1
        exact List.length_eq_one_iff.1 this
      have hs0 : s[0]'(by omega) = c := by
        have : s[0]'(by omega) = s.data.toList[0]'(by rw [hc]; simp) := by simp [ByteArray.getElem_eq_getElem_data]
        rw [this]
        simp [hc]
      rw [hs0] at h
      obtain ⟨k, rfl⟩ : ∃ k : Nat, d = k := ⟨d.toNat, by omega⟩
      rw [Lib.itoa_nonneg, Lib.decDigits_one (by omega), hc]
      congr 1
      apply UInt8.toNat_inj.1
      rw [UInt8.toNat_ofNat']
      omega
    · cases h
  · cases h

theorem join_say : ∀ (ws : List ByteArray) (p : List UInt8), (ws.all fun s => (dgv 6 s).isSome) = true → joinL (p :: ws.map (·.data.toList)) = p ++ sayL (ws.filterMap (dgv 6))
  | [], p, _ => by simp [joinL, sayL]
  | s :: ws, p, h => by
    rw [List.all_cons, Bool.and_eq_true] at h
    obtain ⟨d, hd⟩ := Option.isSome_iff_exists.1 h.1
    have ih := join_say ws s.data.toList h.2
    rw [List.map_cons, joinL_cons _ _ (by simp), ih, List.filterMap_cons, hd]
    simp only [sayL, List.flatMap_cons]
    rw [dgv_itoa (by omega) hd]
    simp

theorem line_digit {n : Int} (hn : n ≤ 10) {c a : ByteArray} {x : Cmd} (h : ((dgv n a).map fun d => ((c, d, ⟨#[]⟩, [], ⟨#[]⟩) : Cmd)) = some x)
    (hc : (c.toList == [98, 108, 111, 99, 107] || c.toList == [117, 110, 98, 108, 111, 99, 107] || c.toList == [115, 97, 102] || c.toList == [98, 97, 108, 97, 110, 99, 101]) = true) : (lineOf x).data.toList = joinL ([c, a].map (·.data.toList)) := by
  cases hd : dgv n a with
  | none => rw [hd] at h; cases h
  | some d =>
    rw [hd] at h
    injection h with h
    subst h
    unfold lineOf
    rw [if_pos hc]
    simp only [sayL, List.flatMap_cons, List.flatMap_nil, List.append_nil, dgv_itoa hn hd, List.map_cons, List.map_nil, joinL]

theorem line_cmdOf (ws : List ByteArray) (x : Cmd) (h : cmdOf ws = some x) : (lineOf x).data.toList = joinL (ws.map (·.data.toList)) := by
  match ws with
  | [] => cases h
  | c :: r =>
    unfold cmdOf at h
    dsimp only at h
    by_cases k1 : c.toList = [98, 108, 111, 99, 107] ∨ c.toList = [117, 110, 98, 108, 111, 99, 107] ∨ c.toList = [115, 97, 102]
    · rw [if_pos k1] at h
      match r, h with
      | [], h => cases h
      | [a], h => exact line_digit (by omega) h (by rcases k1 with h | h | h <;> simp [h])
      | _ :: _ :: _, h => cases h
    rw [if_neg k1] at h
    have k1a : (c.toList == [98, 108, 111, 99, 107]) = false := by simpa using fun e => k1 (Or.inl e)
    have k1b : (c.toList == [117, 110, 98, 108, 111, 99, 107]) = false := by simpa using fun e => k1 (Or.inr (Or.inl e))
    have k1c : (c.toList == [115, 97, 102]) = false := by simpa using fun e => k1 (Or.inr (Or.inr e))
    by_cases k2 : c.toList = [98, 97, 108, 97, 110, 99, 101]
    · rw [if_pos k2] at h
      match r, h with
      | [], h => cases h
      | [a], h => exact line_digit (by omega) h (by simp [k2])
      | _ :: _ :: _, h => cases h
    rw [if_neg k2] at h
    have k2a : (c.toList == [98, 97, 108, 97, 110, 99, 101]) = false := by simpa using k2
    have kk : (c.toList == [98, 108, 111, 99, 107] || c.toList == [117, 110, 98, 108, 111, 99, 107] || c.toList == [115, 97, 102] || c.toList == [98, 97, 108, 97, 110, 99, 101]) = false := by rw [k1a, k1b, k1c, k2a]; rfl
    by_cases k3 : c.toList = [117, 110, 114, 111, 117, 116, 101]
    · rw [if_pos k3] at h
      match r, h with
      | [], h => cases h
      | [a], h =>
        dsimp only at h
        split at h
        · injection h with h
          subst h
          unfold lineOf
          rw [if_neg (by rw [kk]; simp), if_neg (by rw [k3]; decide), if_pos (by rw [k3]; decide)]
          simp [joinL]
        · cases h
      | _ :: _ :: _, h => cases h
    rw [if_neg k3] at h
    by_cases k4 : c.toList = [115, 116, 97, 116, 101]
    · rw [if_pos k4] at h
      match r, h with
      | [], h => cases h
      | [a], h =>
        dsimp only at h
        split at h
        · injection h with h
          subst h
          unfold lineOf
          rw [if_neg (by rw [kk]; simp), if_neg (by rw [k4]; decide), if_neg (by rw [k4]; decide), if_pos (by rw [k4]; decide)]
          simp [joinL]
        · cases h
      | _ :: _ :: _, h => cases h
    rw [if_neg k4] at h
    by_cases k5 : c.toList = [99, 117, 116] ∨ c.toList = [100, 97, 121]
    · rw [if_pos k5] at h
      match r, h with
      | [], h =>
        injection h with h
        subst h
        unfold lineOf
        rw [if_neg (by rw [kk]; simp), if_neg (by rcases k5 with h | h <;> rw [h] <;> decide), if_neg (by rcases k5 with h | h <;> rw [h] <;> decide), if_neg (by rcases k5 with h | h <;> rw [h] <;> decide)]
        simp [joinL]
      | _ :: _, h => cases h
    rw [if_neg k5] at h
    by_cases k6 : c.toList = [114, 111, 117, 116, 101]
    · rw [if_pos k6] at h
      match r, h with
      | [], h => cases h
      | a :: ws, h =>
        dsimp only at h
        split at h
        · next hq =>
          injection h with h
          subst h
          obtain ⟨_, _, hq⟩ := hq
          rw [Bool.and_eq_true] at hq
          unfold lineOf
          rw [if_neg (by rw [kk]; simp), if_pos (by rw [k6]; decide)]
          rw [List.map_cons, joinL_cons _ _ (by simp), List.map_cons, join_say ws _ hq.1]
        · cases h
    rw [if_neg k6] at h
    cases h

theorem lineOf_parse {line : ByteArray} {x : Cmd} {n : Int} (h : parseOf line = (some x, n)) : lineOf x = line := by
  unfold parseOf at h
  split at h
  · cases h
  · injection h with h _
    apply ByteArray.ext
    apply Array.toList_inj.1
    rw [line_cmdOf _ _ h, ← line_words]

theorem sameB_self (x : Cmd) : sameB x x = true := by simp [sameB]

/-- What is read as a command is written as that line. -/
theorem print_parse {line : ByteArray} {x : Cmd} {n : Int} (h : parseOf line = (some x, n)) : printOf x = (line, 0) := by
  unfold printOf
  rw [lineOf_parse h, h]
  simp only [sameB_self, if_true]

theorem same_scan (wd pf key wd' pf' key' : ByteArray) (m m' : Int) (l : List Int) (hl : l.length ≤ 4194304) : ∀ (d k i : Nat), i + d = l.length → d < k →
    groatref21_Same.l0 k (i : Int) wd m pf l key wd' m' pf' l key' = some true := by
  intro d
  induction d with
  | zero =>
    intro k i hi hk
    obtain ⟨k, rfl⟩ : ∃ m, k = m + 1 := ⟨k - 1, by omega⟩
    simp only [groatref21_Same.l0]
    rw [if_neg (by omega)]
  | succ d ih =>
    intro k i hi hk
    obtain ⟨k, rfl⟩ : ∃ m, k = m + 1 := ⟨k - 1, by omega⟩
    simp only [groatref21_Same.l0]
    rw [if_pos (by omega), if_pos (by omega), if_pos (by omega), if_pos trivial, wrap_small i (by omega)]
    exact ih k (i + 1) (by omega) (by omega)

theorem Same_self (wd pf key : ByteArray) (m : Int) (l : List Int) (hl : l.length ≤ 4194304) (k : Nat) (hk : l.length + 1 < k) :
    groatref21_Same.f k wd m pf l key wd m pf l key = some true := by
  unfold groatref21_Same.f
  rw [if_pos rfl, if_pos rfl, if_pos rfl, if_pos rfl]
  obtain ⟨k, rfl⟩ : ∃ m, k = m + 1 := ⟨k - 1, by omega⟩
  simp only [groatref21_Same.j0]
  rw [if_neg (by simp)]
  exact same_scan wd pf key wd pf key m m l hl l.length k 0 (by omega) (by omega)
end Go.Proofs.YtegalamdbbjfoaaDoor
