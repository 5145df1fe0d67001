/- A list of numbers has one text; the document's Same is equality; no two commands have one line. -/
import Derived.Test.YtegalamdbbjfoaaDoorConR
namespace Go.Proofs.YtegalamdbbjfoaaDoor
open Go.RowKit Go.Proofs.YtegalamdbbjfoaaDoorW.PrintWords PConsoleReads

theorem u8_of {a : Nat} (h : a < 256) : (UInt8.ofNat a).toNat = a := by simp [UInt8.toNat_ofNat']; omega
theorem dec_mem : ∀ (u : Nat), ∀ c ∈ Lib.decDigits u, 48 ≤ c.toNat ∧ c.toNat ≤ 57
  | u, c, h => by
    rw [Lib.decDigits] at h
    split at h
    · rw [List.mem_singleton] at h
      subst h
      rw [u8_of (by omega)]
      omega
    · rcases List.mem_append.1 h with h | h
      · exact dec_mem (u / 10) c h
      · rw [List.mem_singleton] at h
        subst h
        rw [u8_of (by omega)]
        omega
def valL (l : List UInt8) : Nat := l.foldl (fun a c => a * 10 + (c.toNat - 48)) 0
theorem val_dec : ∀ (u : Nat), valL (Lib.decDigits u) = u
  | u => by
    rw [Lib.decDigits]
    split
    · unfold valL
      simp only [List.foldl_cons, List.foldl_nil]
      rw [u8_of (by omega)]
      omega
    · have ih := val_dec (u / 10)
      unfold valL at ih ⊢
      rw [List.foldl_append, ih]
      simp only [List.foldl_cons, List.foldl_nil]
      rw [u8_of (by omega)]
      omega
theorem dec_inj {u v : Nat} (h : Lib.decDigits u = Lib.decDigits v) : u = v := by
  rw [← val_dec u, ← val_dec v, h]
theorem dec_ne (u : Nat) : Lib.decDigits u ≠ [] := by
  rw [Lib.decDigits]
  split
  · simp
  · simp
theorem itoa_mem {n : Int} : ∀ c ∈ Lib.itoa n, c ≠ 32 := by
  intro c h
  unfold Lib.itoa at h
  have hd : ∀ u, c ∈ Lib.decDigits u → c ≠ 32 := by
    intro u h e
    have := dec_mem u c h
    subst e
    exact absurd this (by decide)
  split at h
  · rcases List.mem_cons.1 h with h | h
    · subst h; decide
    · exact hd _ h
  · exact hd _ h
theorem itoa_inj {n m : Int} (h : Lib.itoa n = Lib.itoa m) : n = m := by
  have hm : ∀ (u v : Nat), 45 :: Lib.decDigits u ≠ Lib.decDigits v := by
    intro u v e
    have := dec_mem v 45 (e ▸ List.mem_cons_self)
    exact absurd this (by decide)
  unfold Lib.itoa at h
  split at h
  · split at h
    · injection h with _ h
      have := dec_inj h
      omega
    · exact absurd h (hm _ _)
  · split at h
    · exact absurd h.symm (hm _ _)
    · have := dec_inj h
      omega
theorem sayL_cons (n : Int) (l : List Int) : sayL (n :: l) = 32 :: (Lib.itoa n ++ sayL l) := by
  unfold sayL
  simp [List.flatMap_cons]
theorem sayL_nil : sayL [] = [] := rfl
/-- What stands before the first blank. -/
theorem cut_blank {a b x y : List UInt8} (ha : ∀ c ∈ a, c ≠ 32) (hb : ∀ c ∈ b, c ≠ 32) (hx : x = [] ∨ ∃ r, x = 32 :: r) (hy : y = [] ∨ ∃ r, y = 32 :: r) (h : a ++ x = b ++ y) : a = b ∧ x = y := by
  induction a generalizing b with
  | nil =>
    cases b with
    | nil => exact ⟨rfl, h⟩
    | cons c b =>
      rcases hx with rfl | ⟨r, rfl⟩
      · cases h
      · injection h with h _
        exact absurd h.symm (hb c List.mem_cons_self)
  | cons c a ih =>
    cases b with
    | nil =>
      rcases hy with rfl | ⟨r, rfl⟩
      · cases h
      · injection h with h _
        exact absurd h (ha c List.mem_cons_self)
    | cons c' b =>
      injection h with h1 h2
      have := ih (fun c hc => ha c (List.mem_cons_of_mem _ hc)) (fun c hc => hb c (List.mem_cons_of_mem _ hc)) h2
      exact ⟨by rw [h1, this.1], this.2⟩
theorem sayL_form : ∀ (l : List Int), sayL l = [] ∨ ∃ r, sayL l = 32 :: r
  | [] => Or.inl rfl
  | n :: l => Or.inr ⟨_, sayL_cons n l⟩
theorem sayL_inj : ∀ {l m : List Int}, sayL l = sayL m → l = m
  | [], [], _ => rfl
  | [], n :: l, h => by rw [sayL_cons] at h; cases h
  | n :: l, [], h => by rw [sayL_cons] at h; cases h
  | n :: l, m :: k, h => by
    rw [sayL_cons, sayL_cons] at h
    injection h with _ h
    obtain ⟨h1, h2⟩ := cut_blank itoa_mem itoa_mem (sayL_form l) (sayL_form k) h
    rw [itoa_inj h1, sayL_inj h2]
theorem ba_eq {x y : ByteArray} (h : x.toList = y.toList) : x = y := by
  rw [Lib.toList_data, Lib.toList_data] at h
  exact ByteArray.ext (Array.toList_inj.1 h)
theorem sameB_iff (x y : Cmd) : sameB x y = true ↔ x = y := by
  constructor
  · intro h
    obtain ⟨a, b, c, l, d⟩ := x
    obtain ⟨a', b', c', l', d'⟩ := y
    unfold sameB at h
    simp only [Bool.and_eq_true, beq_iff_eq] at h
    obtain ⟨⟨⟨⟨h1, h2⟩, h3⟩, h4⟩, h5⟩ := h
    rw [ba_eq h1, h2, ba_eq h3, ba_eq h4, sayL_inj h5]
  · rintro rfl
    exact sameB_self x

/-- What Print tells: the line, if it is read as the command. -/
theorem printOf_cases (x : Cmd) : (printOf x = (lineOf x, 0) ∧ parseOf (lineOf x) = (some x, 210)) ∨ printOf x = (⟨#[]⟩, 210) := by
  unfold printOf
  rcases hp : parseOf (lineOf x) with ⟨_ | y, n⟩
  · exact Or.inr rfl
  · by_cases h : sameB y x = true
    · left
      dsimp only
      rw [if_pos h]
      obtain rfl := (sameB_iff _ _).1 h
      refine ⟨rfl, ?_⟩
      have hn : (parseOf (lineOf y)).2 = 5 ∧ (parseOf (lineOf y)).1 = none ∨ (parseOf (lineOf y)).2 = 210 := by
        unfold parseOf
        split
        · exact Or.inl ⟨rfl, rfl⟩
        · exact Or.inr rfl
      rw [hp] at hn
      rcases hn with ⟨_, hn⟩ | hn
      · cases hn
      · dsimp only at hn
        rw [hn]
    · right
      dsimp only
      rw [if_neg h]

theorem same_scan_ne (wd pf key wd' pf' key' : ByteArray) (m m' : Int) (l l' : List Int) (hl : l.length ≤ 4194304) (he : l'.length = l.length) : ∀ (d k i : Nat), i + d = l.length → d < k →
    groatref21_Same.l0 k (i : Int) wd m pf l key wd' m' pf' l' key' = some (decide (l.drop i = l'.drop i)) := by
  intro d
  induction d with
  | zero =>
    intro k i hi hk
    obtain ⟨k, rfl⟩ : ∃ m, k = m + 1 := ⟨k - 1, by omega⟩
    simp only [groatref21_Same.l0]
    rw [if_neg (by omega), List.drop_eq_nil_of_le (by omega), List.drop_eq_nil_of_le (by omega)]
    simp
  | succ d ih =>
    intro k i hi hk
    obtain ⟨k, rfl⟩ : ∃ m, k = m + 1 := ⟨k - 1, by omega⟩
    simp only [groatref21_Same.l0]
    rw [if_pos (by omega), if_pos (by omega), if_pos (by omega)]
    have r1 : rd l (i : Int) = l[i]'(by omega) := by simp [rd, List.getD, show i < l.length by omega]
    have r2 : rd l' (i : Int) = l'[i]'(by omega) := by simp [rd, List.getD, show i < l'.length by omega]
    rw [r1, r2, List.drop_eq_getElem_cons (show i < l.length by omega), List.drop_eq_getElem_cons (show i < l'.length by omega)]
    by_cases h : l[i]'(by omega) = l'[i]'(by omega)
    · rw [if_pos h, wrap_small i (by omega)]
      rw [ih k (i + 1) (by omega) (by omega)]
      refine congrArg some (decide_eq_decide.2 ⟨fun e => by rw [h, e], fun e => (List.cons.inj e).2⟩)
    · rw [if_neg h]
      refine congrArg some (decide_eq_false (fun e => h (List.cons.inj e).1)).symm

theorem Same_is (x y : Cmd) (hx : x.2.2.2.1.length ≤ 4194304) (k : Nat) (hk : x.2.2.2.1.length + 1 < k) :
    groatref21_Same.f k x.1 x.2.1 x.2.2.1 x.2.2.2.1 x.2.2.2.2 y.1 y.2.1 y.2.2.1 y.2.2.2.1 y.2.2.2.2 = some (decide (x = y)) := by
  obtain ⟨a, b, c, l, d⟩ := x
  obtain ⟨a', b', c', l', d'⟩ := y
  dsimp only at hx hk ⊢
  have ht : ∀ p q : ByteArray, (p.toList = q.toList) = (p = q) := fun p q => propext ⟨ba_eq, fun h => h ▸ rfl⟩
  obtain ⟨k, rfl⟩ : ∃ m, k = m + 1 := ⟨k - 1, by omega⟩
  unfold groatref21_Same.f
  simp only [groatref21_Same.j0, ht, Prod.mk.injEq]
  by_cases h1 : a = a'
  · by_cases h2 : b = b'
    · by_cases h3 : c = c'
      · by_cases h4 : d = d'
        · simp only [h1, h2, h3, h4, if_true, true_and, and_true]
          by_cases h5 : l'.length = l.length
          · rw [if_neg (by simp [h5])]
            have := same_scan_ne a' c' d' a' c' d' b' b' l l' hx h5 l.length k 0 (by omega) (by omega)
            simpa using this
          · have h6 : l ≠ l' := fun h => h5 (by rw [h])
            rw [if_pos (by simp; omega)]
            simp [h6]
        · simp [h1, h2, h3, h4]
      · simp [h1, h2, h3]
    · simp [h1, h2]
  · simp [h1]
/-- No two commands have one line. -/
theorem one_line (x y : Cmd) (hx : (printOf x).2 = 0) (hy : (printOf y).2 = 0) : (printOf x).1 = (printOf y).1 ↔ x = y := by
  constructor
  · intro h
    rcases printOf_cases x with ⟨h1, h2⟩ | h1
    · rcases printOf_cases y with ⟨h3, h4⟩ | h3
      · rw [h1, h3] at h
        dsimp only at h
        rw [h, h4] at h2
        injection h2 with h2 _
        injection h2 with h2
        exact h2.symm
      · rw [h3] at hy; cases hy
    · rw [h1] at hx; cases hx
  · rintro rfl; rfl
end Go.Proofs.YtegalamdbbjfoaaDoor
