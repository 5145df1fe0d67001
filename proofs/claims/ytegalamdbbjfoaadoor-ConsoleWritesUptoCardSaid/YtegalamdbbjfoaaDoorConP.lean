/- The reference's Split, digit, only, parse, Parse and Same are what the console's plain functions are. -/
import Derived.Test.YtegalamdbbjfoaaDoorConV
import Derived.Test.YtegalamdbbjfoaaDoorPConsoleReadsx4
import Derived.Test.YtegalamdbbjfoaaDoorPConsoleReadsx5
import Derived.Lib.IndexBytes
import Derived.Lib.SplitLaws
namespace Go.Proofs.YtegalamdbbjfoaaDoor
open Go.RowKit Go.Proofs.YtegalamdbbjfoaaDoorW.PrintWords PConsoleReads

/-- A list cut at its blanks. -/
def splitL : List UInt8 → List (List UInt8)
  | [] => [[]]
  | b :: l => if b = 32 then [] :: splitL l else
    match splitL l with
    | p :: ps => (b :: p) :: ps
    | [] => [[b]]

theorem splitL_ne : ∀ l, splitL l ≠ []
  | [] => by simp [splitL]
  | b :: l => by
    unfold splitL
    split
    · simp
    · split <;> simp

theorem index_cons_ne (b : UInt8) (l : List UInt8) (h : b ≠ 32) : Lib.index (b :: l) [32] = if Lib.index l [32] = -1 then -1 else Lib.index l [32] + 1 := by
  rw [Lib.index_one, Lib.index_one, Lib.indexByte]
  have : (b == 32) = false := by simpa using h
  rw [this]
  simp

theorem splitK_splitL : ∀ s : List UInt8, Lib.splitK [32] 0 (Lib.count s [32]) s = splitL s
  | [] => by
    rw [Lib.count_one]
    simp [Lib.splitK, splitL]
  | b :: l => by
    have ih := splitK_splitL l
    by_cases hb : b = 32
    · subst hb
      rw [Lib.count_cons_eq, Nat.add_comm, Lib.splitK]
      have hi : Lib.index (32 :: l) [32] = 0 := by rw [Lib.index]; simp [List.isPrefixOf]
      rw [hi]
      simp [splitL, ih]
    · rw [Lib.count_cons_ne _ _ _ hb]
      cases hc : Lib.count l [32] with
      | zero =>
        rw [hc, Lib.splitK] at ih
        rw [Lib.splitK, splitL, if_neg hb, ← ih]
      | succ j =>
        rw [hc, Lib.splitK] at ih
        have hne : Lib.index l [32] ≠ -1 := by
          intro h
          have := Lib.count_miss h
          omega
        have hge := Lib.index_ge l [32]
        obtain ⟨i, hi⟩ : ∃ i : Nat, Lib.index l [32] = i := ⟨(Lib.index l [32]).toNat, by omega⟩
        have hn : ¬ ((Lib.index l [32] == -1) = true) := by simpa using hne
        rw [if_neg hn, hi] at ih
        have hi2 : Lib.index (b :: l) [32] = ((i + 1 : Nat) : Int) := by
          rw [index_cons_ne b l hb, if_neg hne, hi]
          omega
        have hn2 : ¬ ((Lib.index (b :: l) [32] == -1) = true) := by
          rw [hi2]
          simp
          omega
        rw [Lib.splitK, if_neg hn2, hi2, splitL, if_neg hb, ← ih]
        simp

theorem wordsOf_data (line : ByteArray) : (wordsOf line).map (·.data.toList) = splitL line.data.toList := by
  unfold wordsOf
  rw [Lib.splitB_data]
  exact splitK_splitL line.data.toList

def joinHead (p : List UInt8) : List (List UInt8) → List (List UInt8)
  | h :: t => (p ++ h) :: t
  | [] => [p]

theorem joinHead_nil {l : List (List UInt8)} (h : l ≠ []) : joinHead [] l = l := by
  cases l with
  | nil => exact absurd rfl h
  | cons a t => rfl

theorem bt_nat (s : ByteArray) (i : Nat) (h : i < s.data.toList.length) : bt s (i : Int) = ((s.data.toList[i]).toNat : Int) := by
  have h' : i < s.size := by simpa using h
  unfold bt
  rw [dif_pos (by simpa using h')]
  simp [ByteArray.getElem_eq_getElem_data]

theorem wrap_small (i : Nat) (h : i ≤ 4194304) : wrap64 ((i : Int) + 1) = ((i + 1 : Nat) : Int) := by
  unfold wrap64
  omega

theorem extract_data' (s : ByteArray) (a b : Nat) : (s.extract a b).data.toList = (s.data.toList.drop a).take (b - a) := by
  simp [ByteArray.data_extract, List.extract_eq_take_drop]

theorem split_scan (s : ByteArray) (hs : s.size ≤ 1000) : ∀ (d k st i : Nat) (acc : List ByteArray), i + d = s.size → d < k → st ≤ i → acc.length ≤ i →
    ∃ r, groatref19_Split.l0 k s 32 acc (st : Int) (i : Int) = some r ∧
      r.map (·.data.toList) = acc.map (·.data.toList) ++ joinHead ((s.data.toList.drop st).take (i - st)) (splitL (s.data.toList.drop i)) := by
  intro d
  induction d with
  | zero =>
    intro k st i acc hi hk hst ha
    obtain ⟨k, rfl⟩ : ∃ m, k = m + 1 := ⟨k - 1, by omega⟩
    refine ⟨acc ++ [s.extract st s.size], ?_, ?_⟩
    · simp only [groatref19_Split.l0]
      rw [if_neg (by omega), if_pos (by omega), if_pos (by omega), if_pos (by omega)]
      simp
    · have : s.data.toList.drop i = [] := by
        apply List.drop_eq_nil_of_le
        simp
        omega
      rw [this]
      simp only [splitL, joinHead, List.map_append, List.map_cons, List.map_nil, List.append_nil]
      rw [extract_data', show i = s.size by omega]
  | succ d ih =>
    intro k st i acc hi hk hst ha
    obtain ⟨k, rfl⟩ : ∃ m, k = m + 1 := ⟨k - 1, by omega⟩
    have hlt : i < s.data.toList.length := by simp; omega
    have hd : s.data.toList.drop i = s.data.toList[i] :: s.data.toList.drop (i + 1) := List.drop_eq_getElem_cons hlt
    have hb := bt_nat s i hlt
    by_cases h32 : s.data.toList[i] = 32
    · obtain ⟨r, hr, hm⟩ := ih k (i + 1) (i + 1) (acc ++ [s.extract st i]) (by omega) (by omega) (Nat.le_refl _) (by simp; omega)
      refine ⟨r, ?_, ?_⟩
      · simp only [groatref19_Split.l0]
        rw [if_pos (by omega), if_pos (by omega), if_pos (by rw [hb, h32]; rfl), if_pos (by omega), if_pos (by omega), if_pos (by omega), if_pos (by omega), wrap_small i (by omega)]
        exact hr
      · rw [hm, hd, splitL, if_pos h32]
        rw [Nat.sub_self, List.take_zero, joinHead_nil (splitL_ne _)]
        simp only [joinHead, List.append_nil, List.map_append, List.map_cons, List.map_nil, extract_data', List.append_assoc, List.cons_append, List.nil_append]
    · obtain ⟨r, hr, hm⟩ := ih k st (i + 1) acc (by omega) (by omega) (by omega) (by omega)
      refine ⟨r, ?_, ?_⟩
      · simp only [groatref19_Split.l0]
        have hne : ¬ bt s (i : Int) = 32 := by
          rw [hb]
          intro h
          exact h32 (UInt8.toNat_inj.1 (by rw [show (32 : UInt8).toNat = 32 from rfl]; omega))
        rw [if_pos (by omega), if_pos (by omega), if_neg hne, wrap_small i (by omega)]
        exact hr
      · rw [hm, hd, splitL, if_neg h32]
        have hp : (s.data.toList.drop st).take (i + 1 - st) = (s.data.toList.drop st).take (i - st) ++ [s.data.toList[i]] := by
          rw [show i + 1 - st = (i - st) + 1 by omega, List.take_succ_eq_append_getElem (by simp; omega)]
          congr 2
          simp
          congr 1
          omega
        rw [hp]
        cases hq : splitL (s.data.toList.drop (i + 1)) with
        | nil => exact absurd hq (splitL_ne _)
        | cons h t => simp [joinHead]

theorem map_data_inj {a b : List ByteArray} (h : a.map (·.data.toList) = b.map (·.data.toList)) : a = b := by
  induction a generalizing b with
  | nil => cases b with
    | nil => rfl
    | cons y b => cases h
  | cons x a ih => cases b with
    | nil => cases h
    | cons y b =>
      injection h with h1 h2
      rw [ih h2]
      congr 1
      apply ByteArray.ext
      exact Array.toList_inj.1 h1

theorem split_eq (line : ByteArray) (h : line.size ≤ 100) (k : Nat) (hk : 100 < k) : groatref19_Split.f k line 32 = some (wordsOf line) := by
  obtain ⟨r, hr, hm⟩ := split_scan line (by omega) line.size k 0 0 [] (by omega) (by omega) (Nat.le_refl _) (by simp)
  unfold groatref19_Split.f
  have : r = wordsOf line := by
    apply map_data_inj
    rw [hm, wordsOf_data]
    simp [joinHead_nil (splitL_ne _)]
  rw [← this]
  exact hr

theorem digit_eq (s : ByteArray) (n : Int) : groatref21_digit.f s n = some (match dgv (n + 1) s with | some d => (d, true) | none => (0, false)) := by
  unfold groatref21_digit.f dgv
  by_cases h : s.size = 1
  · have hb : bt s 0 = ((s[0]'(by omega)).toNat : Int) := by
      unfold bt
      rw [dif_pos (by simp; omega)]
      simp
    have hc : ((s[0]'(by omega)).toNat : Int) < 256 := by have := (s[0]'(by omega)).toNat_lt; omega
    have h0 : (0 : Int) ≤ ((s[0]'(by omega)).toNat : Int) := by omega
    rw [if_pos (by omega), if_pos (by omega), dif_pos h, hb]
    generalize ((s[0]'(by omega)).toNat : Int) = c at hc h0 ⊢
    by_cases h1 : c < 48
    · rw [if_pos h1, if_neg (by omega)]
    · rw [if_neg h1]
      have hm : (c - 48) % 256 = c - 48 := by omega
      rw [hm]
      by_cases h2 : c - 48 > n
      · rw [if_pos h2, if_neg (by omega)]
      · rw [if_neg h2, if_pos ⟨by omega, by omega⟩]
  · rw [if_neg (by omega), dif_neg h]

def okB (dots : Bool) (c : UInt8) : Bool := decide (48 ≤ c.toNat ∧ c.toNat ≤ 57) || (dots && decide (c.toNat = 46))

theorem indexByte_mem (c : UInt8) : ∀ l : List UInt8, 0 ≤ Lib.indexByte l c ↔ c ∈ l
  | [] => by simp [Lib.indexByte]
  | b :: l => by
    have ih := indexByte_mem c l
    have hge := Lib.indexByte_ge l c
    unfold Lib.indexByte
    by_cases hb : (b == c) = true
    · rw [if_pos hb]
      have := beq_iff_eq.1 hb
      simp [this]
    · rw [if_neg hb]
      have hne : ¬ c = b := fun e => hb (by simp [e])
      simp only [List.mem_cons, hne, false_or, ← ih]
      split
      · next h => have := beq_iff_eq.1 h; omega
      · next h => have : Lib.indexByte l c ≠ -1 := fun e => h (by simp [e]); omega

theorem mem_digits (c : UInt8) : c ∈ bDigits.data.toList ↔ 48 ≤ c.toNat ∧ c.toNat ≤ 57 := by
  simp only [bDigits, List.mem_cons, List.not_mem_nil, or_false, ← UInt8.toNat_inj]
  simp
  omega

theorem mem_dotted (c : UInt8) : c ∈ bDotted.data.toList ↔ (48 ≤ c.toNat ∧ c.toNat ≤ 57) ∨ c.toNat = 46 := by
  simp only [bDotted, List.mem_cons, List.not_mem_nil, or_false, ← UInt8.toNat_inj]
  simp
  omega

def whichOf (dots : Bool) : ByteArray := if dots then bDotted else bDigits

theorem inW_ok (dots : Bool) (c : UInt8) : inW (whichOf dots) c = okB dots c := by
  unfold inW okB whichOf
  cases dots with
  | true =>
    rw [Bool.eq_iff_iff, decide_eq_true_iff, indexByte_mem]
    show c ∈ bDotted.data.toList ↔ _
    rw [mem_dotted]
    simp
  | false =>
    rw [Bool.eq_iff_iff, decide_eq_true_iff, indexByte_mem]
    show c ∈ bDigits.data.toList ↔ _
    rw [mem_digits]
    simp

theorem only_scan (s : ByteArray) (most : Int) (dots : Bool) (hs : s.size ≤ 1000) : ∀ (d k i : Nat), i + d = s.size → d < k →
    groatref21_only.l0 k s most dots (i : Int) = some ((s.data.toList.drop i).all (okB dots) && (decide (1 ≤ s.size) && decide ((s.size : Int) ≤ most))) := by
  intro d
  induction d with
  | zero =>
    intro k i hi hk
    obtain ⟨k, rfl⟩ : ∃ m, k = m + 1 := ⟨k - 1, by omega⟩
    simp only [groatref21_only.l0]
    rw [if_neg (by omega)]
    have : s.data.toList.drop i = [] := by
      apply List.drop_eq_nil_of_le
      simp
      omega
    rw [this]
    by_cases h1 : (s.size : Int) ≥ 1
    · rw [if_pos h1]
      have : 1 ≤ s.size := by omega
      simp [this]
    · rw [if_neg h1]
      have : ¬ 1 ≤ s.size := by omega
      simp [this]
  | succ d ih =>
    intro k i hi hk
    obtain ⟨k, rfl⟩ : ∃ m, k = m + 1 := ⟨k - 1, by omega⟩
    have hlt : i < s.data.toList.length := by simp; omega
    have hd : s.data.toList.drop i = s.data.toList[i] :: s.data.toList.drop (i + 1) := List.drop_eq_getElem_cons hlt
    have hb := bt_nat s i hlt
    have ih := ih k (i + 1) (by omega) (by omega)
    simp only [groatref21_only.l0]
    rw [if_pos (by omega), if_pos (by omega), hb, wrap_small i (by omega), hd, List.all_cons]
    generalize s.data.toList[i] = c at *
    by_cases h1 : (c.toNat : Int) ≥ 48
    · rw [if_pos h1]
      by_cases h2 : (c.toNat : Int) ≤ 57
      · rw [if_pos h2, ih]
        have : okB dots c = true := by simp [okB]; omega
        rw [this, Bool.true_and]
      · rw [if_neg h2]
        cases dots with
        | true =>
          have h3 : ¬ (c.toNat : Int) = 46 := by omega
          have : okB true c = false := by simp [okB]; omega
          rw [if_pos rfl, if_neg h3, this, Bool.false_and, Bool.false_and]
        | false =>
          have : okB false c = false := by simp [okB]; omega
          rw [if_neg (by simp), this, Bool.false_and, Bool.false_and]
    · rw [if_neg h1]
      cases dots with
      | true =>
        rw [if_pos rfl]
        by_cases h3 : (c.toNat : Int) = 46
        · have : okB true c = true := by simp [okB]; omega
          rw [if_pos h3, ih, this, Bool.true_and]
        · have : okB true c = false := by simp [okB]; omega
          rw [if_neg h3, this, Bool.false_and, Bool.false_and]
      | false =>
        have : okB false c = false := by simp [okB]; omega
        rw [if_neg (by simp), this, Bool.false_and, Bool.false_and]

theorem only_eq (s : ByteArray) (most : Nat) (dots : Bool) (hs : s.size ≤ 1000) (k : Nat) (hk : 1000 < k) : groatref21_only.f k s most dots = some (onl (whichOf dots) most s) := by
  unfold groatref21_only.f
  have := only_scan s most dots hs s.size k 0 (by omega) (by omega)
  rw [show ((0 : Nat) : Int) = 0 from rfl] at this
  rw [this]
  congr 1
  unfold onl allW
  have h1 : (s.toList != []) = decide (1 ≤ s.size) := by
    rw [Lib.toList_data, Bool.eq_iff_iff]
    have : s.data.toList.length = s.size := by simp
    simp only [bne_iff_ne, ne_eq, decide_eq_true_eq, ← List.length_eq_zero_iff]
    omega
  have h2 : s.data.toList.all (inW (whichOf dots)) = s.data.toList.all (okB dots) := by
    congr 1
    funext c
    exact inW_ok dots c
  rw [h1, h2, List.drop_zero]
  have h3 : decide ((s.size : Int) ≤ (most : Int)) = decide (s.size ≤ most) := by
    rw [Bool.eq_iff_iff]
    simp
  rw [h3]
  cases decide (1 ≤ s.size) <;> cases decide (s.size ≤ most) <;> cases s.data.toList.all (okB dots) <;> rfl
def Parsed (o : Option Cmd) (q : Option (ByteArray × Int × ByteArray × List Int × ByteArray × Bool)) : Prop :=
  ∃ r1 r2 r3 r4 r5, q = some (r1, r2, r3, r4, r5, o.isSome) ∧ ∀ x, o = some x → x = (r1, r2, r3, r4, r5)

theorem Parsed.no (r1 : ByteArray) (r2 : Int) (r3 : ByteArray) (r4 : List Int) (r5 : ByteArray) : Parsed none (some (r1, r2, r3, r4, r5, false)) := ⟨r1, r2, r3, r4, r5, rfl, fun x h => by cases h⟩
theorem Parsed.yes (r1 : ByteArray) (r2 : Int) (r3 : ByteArray) (r4 : List Int) (r5 : ByteArray) : Parsed (some (r1, r2, r3, r4, r5)) (some (r1, r2, r3, r4, r5, true)) := ⟨r1, r2, r3, r4, r5, rfl, fun x h => by injection h with h; exact h.symm⟩

theorem dig_case (k : Nat) (c : ByteArray) (r : List ByteArray) (x16 : ByteArray) (hb : ¬ c.toList = [98, 97, 108, 97, 110, 99, 101]) :
    Parsed (match (generalizing := false) r with | [a] => (dgv 6 a).map fun d => (c, d, ⟨#[]⟩, [], ⟨#[]⟩) | _ => none) (groatref21_parse.j0 (k + 1) (c :: r) x16 true c 0 ⟨#[]⟩ ⟨#[]⟩) := by
  simp only [groatref21_parse.j0]
  rw [if_pos trivial]
  match r with
  | [] => rw [if_neg (by simp)]; exact Parsed.no _ _ _ _ _
  | [a] =>
    have e0 : ∀ r : List ByteArray, rdOf ByteArray.empty (c :: r) 0 = c := fun _ => rfl
    rw [if_pos (by simp), if_pos (by simp), e0, if_neg hb, if_pos (by simp)]
    show Parsed ((dgv 6 a).map fun d => (c, d, ⟨#[]⟩, [], ⟨#[]⟩)) ((groatref21_digit.f a 5).bind _)
    rw [digit_eq]
    cases h : dgv (5 + 1) a with
    | none => rw [show (6 : Int) = 5 + 1 from rfl, h]; exact Parsed.no _ _ _ _ _
    | some d => rw [show (6 : Int) = 5 + 1 from rfl, h]; exact Parsed.yes _ _ _ _ _
  | _ :: _ :: _ => rw [if_neg (by simp; omega)]; exact Parsed.no _ _ _ _ _

theorem bal_case (k : Nat) (c : ByteArray) (r : List ByteArray) (x16 : ByteArray) (hb : c.toList = [98, 97, 108, 97, 110, 99, 101]) :
    Parsed (match (generalizing := false) r with | [a] => (dgv 7 a).map fun d => (c, d, ⟨#[]⟩, [], ⟨#[]⟩) | _ => none) (groatref21_parse.j0 (k + 1) (c :: r) x16 true c 0 ⟨#[]⟩ ⟨#[]⟩) := by
  simp only [groatref21_parse.j0]
  rw [if_pos trivial]
  match r with
  | [] => rw [if_neg (by simp)]; exact Parsed.no _ _ _ _ _
  | [a] =>
    have e0 : ∀ r : List ByteArray, rdOf ByteArray.empty (c :: r) 0 = c := fun _ => rfl
    rw [if_pos (by simp), if_pos (by simp), e0, if_pos hb, if_pos (by simp)]
    show Parsed ((dgv 7 a).map fun d => (c, d, ⟨#[]⟩, [], ⟨#[]⟩)) ((groatref21_digit.f a 6).bind _)
    rw [digit_eq]
    cases h : dgv (6 + 1) a with
    | none => rw [show (7 : Int) = 6 + 1 from rfl, h]; exact Parsed.no _ _ _ _ _
    | some d => rw [show (7 : Int) = 6 + 1 from rfl, h]; exact Parsed.yes _ _ _ _ _
  | _ :: _ :: _ => rw [if_neg (by simp; omega)]; exact Parsed.no _ _ _ _ _

theorem unroute_case (k : Nat) (hk : 1000 < k) (c : ByteArray) (r : List ByteArray) (hs : ∀ s ∈ r, s.size ≤ 1000) (h1 : ¬ c.toList = [114, 111, 117, 116, 101]) (h2 : c.toList = [117, 110, 114, 111, 117, 116, 101]) :
    Parsed (match (generalizing := false) r with | [a] => if onl bDigits 8 a then some (c, 0, a, [], ⟨#[]⟩) else none | _ => none) (groatref21_parse.j0 (k + 1) (c :: r) c false c 0 ⟨#[]⟩ ⟨#[]⟩) := by
  simp only [groatref21_parse.j0]
  rw [if_neg (by simp), if_neg h1, if_pos h2]
  match r, hs with
  | [], hs => rw [if_neg (by simp)]; exact Parsed.no _ _ _ _ _
  | [a], hs =>
    rw [if_pos (by simp), if_pos (by simp)]
    show Parsed (if onl bDigits 8 a then some (c, 0, a, [], ⟨#[]⟩) else none) ((groatref21_only.f k a ((8 : Nat) : Int) false).bind _)
    rw [only_eq a 8 false (hs a (by simp)) k hk]
    show Parsed (if onl bDigits 8 a then _ else _) (if onl bDigits 8 a = true then _ else _)
    by_cases h : onl bDigits 8 a = true
    · rw [if_pos h, if_pos h]; exact Parsed.yes _ _ _ _ _
    · rw [if_neg h, if_neg h]; exact Parsed.no _ _ _ _ _
  | _ :: _ :: _, hs => rw [if_neg (by simp; omega)]; exact Parsed.no _ _ _ _ _

theorem state_case (k : Nat) (hk : 1000 < k) (c : ByteArray) (r : List ByteArray) (hs : ∀ s ∈ r, s.size ≤ 1000) (h1 : ¬ c.toList = [114, 111, 117, 116, 101]) (h2 : ¬ c.toList = [117, 110, 114, 111, 117, 116, 101]) (h3 : c.toList = [115, 116, 97, 116, 101]) :
    Parsed (match (generalizing := false) r with | [a] => if onl bDotted 32 a then some (c, 0, ⟨#[]⟩, [], a) else none | _ => none) (groatref21_parse.j0 (k + 1) (c :: r) c false c 0 ⟨#[]⟩ ⟨#[]⟩) := by
  simp only [groatref21_parse.j0]
  rw [if_neg (by simp), if_neg h1, if_neg h2, if_pos h3]
  match r, hs with
  | [], hs => rw [if_neg (by simp)]; exact Parsed.no _ _ _ _ _
  | [a], hs =>
    rw [if_pos (by simp), if_pos (by simp)]
    show Parsed (if onl bDotted 32 a then some (c, 0, ⟨#[]⟩, [], a) else none) ((groatref21_only.f k a ((32 : Nat) : Int) true).bind _)
    rw [only_eq a 32 true (hs a (by simp)) k hk]
    show Parsed (if onl bDotted 32 a then _ else _) (if onl bDotted 32 a = true then _ else _)
    by_cases h : onl bDotted 32 a = true
    · rw [if_pos h, if_pos h]; exact Parsed.yes _ _ _ _ _
    · rw [if_neg h, if_neg h]; exact Parsed.no _ _ _ _ _
  | _ :: _ :: _, hs => rw [if_neg (by simp; omega)]; exact Parsed.no _ _ _ _ _

theorem cut_case (k : Nat) (c : ByteArray) (r : List ByteArray) (h1 : ¬ c.toList = [114, 111, 117, 116, 101]) (h2 : ¬ c.toList = [117, 110, 114, 111, 117, 116, 101]) (h3 : ¬ c.toList = [115, 116, 97, 116, 101]) (h4 : c.toList = [99, 117, 116] ∨ c.toList = [100, 97, 121]) :
    Parsed (match (generalizing := false) r with | [] => some (c, 0, ⟨#[]⟩, [], ⟨#[]⟩) | _ => none) (groatref21_parse.j0 (k + 1) (c :: r) c false c 0 ⟨#[]⟩ ⟨#[]⟩) := by
  simp only [groatref21_parse.j0]
  rw [if_neg (by simp), if_neg h1, if_neg h2, if_neg h3]
  have e : (if c.toList = [99, 117, 116] then some (c, (0 : Int), (⟨#[]⟩ : ByteArray), ([] : List Int), (⟨#[]⟩ : ByteArray), (((c :: r).length : Int) == 1)) else if c.toList = [100, 97, 121] then some (c, 0, ⟨#[]⟩, [], ⟨#[]⟩, (((c :: r).length : Int) == 1)) else some (c, 0, ⟨#[]⟩, [], ⟨#[]⟩, false)) = some (c, 0, ⟨#[]⟩, [], ⟨#[]⟩, (((c :: r).length : Int) == 1)) := by
    by_cases h : c.toList = [99, 117, 116]
    · rw [if_pos h]
    · rw [if_neg h, if_pos (h4.resolve_left h)]
  rw [e]
  match r with
  | [] => exact Parsed.yes _ _ _ _ _
  | q :: r' =>
    have : ((((c :: q :: r').length : Nat) : Int) == 1) = false := by simp; omega
    rw [this]
    exact Parsed.no _ _ _ _ _

theorem none_case (k : Nat) (c : ByteArray) (r : List ByteArray) (h1 : ¬ c.toList = [114, 111, 117, 116, 101]) (h2 : ¬ c.toList = [117, 110, 114, 111, 117, 116, 101]) (h3 : ¬ c.toList = [115, 116, 97, 116, 101]) (h4 : ¬ (c.toList = [99, 117, 116] ∨ c.toList = [100, 97, 121])) :
    Parsed none (groatref21_parse.j0 (k + 1) (c :: r) c false c 0 ⟨#[]⟩ ⟨#[]⟩) := by
  simp only [groatref21_parse.j0]
  rw [if_neg (by simp), if_neg h1, if_neg h2, if_neg h3, if_neg (fun h => h4 (Or.inl h)), if_neg (fun h => h4 (Or.inr h))]
  exact Parsed.no _ _ _ _ _

theorem route_scan (c a : ByteArray) (ws : List ByteArray) (hl : ws.length ≤ 1000) : ∀ (d k i : Nat) (acc : List Int), i + d = ws.length → d < k → acc.length ≤ i →
    (((ws.drop i).all fun s => (dgv 6 s).isSome) = true → groatref21_parse.l0 k (c :: a :: ws) ((i + 2 : Nat) : Int) c 0 a acc ⟨#[]⟩ = some (c, 0, a, acc ++ (ws.drop i).filterMap (dgv 6), ⟨#[]⟩, true)) ∧
    (((ws.drop i).all fun s => (dgv 6 s).isSome) = false → ∃ ds, groatref21_parse.l0 k (c :: a :: ws) ((i + 2 : Nat) : Int) c 0 a acc ⟨#[]⟩ = some (c, 0, a, ds, ⟨#[]⟩, false)) := by
  intro d
  induction d with
  | zero =>
    intro k i acc hi hk ha
    obtain ⟨k, rfl⟩ : ∃ m, k = m + 1 := ⟨k - 1, by omega⟩
    have : ws.drop i = [] := List.drop_eq_nil_of_le (by omega)
    rw [this]
    refine ⟨fun _ => ?_, fun h => by simp at h⟩
    simp only [groatref21_parse.l0]
    rw [if_neg (by simp; omega)]
    simp
  | succ d ih =>
    intro k i acc hi hk ha
    obtain ⟨k, rfl⟩ : ∃ m, k = m + 1 := ⟨k - 1, by omega⟩
    have hlt : i < ws.length := by omega
    have hd : ws.drop i = ws[i] :: ws.drop (i + 1) := List.drop_eq_getElem_cons hlt
    have hr : rdOf ByteArray.empty (c :: a :: ws) ((i + 2 : Nat) : Int) = ws[i] := by
      unfold rdOf
      rw [Int.toNat_natCast]
      simp [hlt]
    have hw : wrap64 (((i + 2 : Nat) : Int) + 1) = ((i + 1 + 2 : Nat) : Int) := by
      rw [wrap_small (i + 2) (by omega)]
    simp only [groatref21_parse.l0]
    rw [if_pos (by simp; omega), if_pos (by omega), hr, hd, digit_eq, hw]
    cases hg : dgv (5 + 1) ws[i] with
    | none =>
      have hg6 : dgv 6 ws[i] = none := hg
      refine ⟨fun h => ?_, fun _ => ⟨acc, rfl⟩⟩
      rw [List.all_cons, hg6] at h
      cases h
    | some v =>
      have hg6 : dgv 6 ws[i] = some v := hg
      obtain ⟨ih1, ih2⟩ := ih k (i + 1) (acc ++ [v]) (by omega) (by omega) (by simp; omega)
      rw [List.all_cons, hg6]
      simp only [Option.isSome_some, Bool.true_and, Option.bind_some, if_true]
      rw [if_pos (by omega)]
      refine ⟨fun h => ?_, fun h => ih2 h⟩
      rw [ih1 h, List.filterMap_cons, hg6]
      simp

theorem route_case (k : Nat) (hk : 2000 < k) (c : ByteArray) (r : List ByteArray) (hl : r.length ≤ 1000) (hs : ∀ s ∈ r, s.size ≤ 1000) (h1 : c.toList = [114, 111, 117, 116, 101]) :
    Parsed (match (generalizing := false) r with
      | a :: ws => if 1 ≤ ws.length ∧ ws.length ≤ 6 ∧ ((ws.all fun s => (dgv 6 s).isSome) && onl bDigits 8 a) = true then some (c, 0, a, ws.filterMap (dgv 6), ⟨#[]⟩) else none
      | [] => none) (groatref21_parse.j0 (k + 1) (c :: r) c false c 0 ⟨#[]⟩ ⟨#[]⟩) := by
  obtain ⟨k, rfl⟩ : ∃ m, k = m + 1 := ⟨k - 1, by omega⟩
  simp only [groatref21_parse.j0]
  rw [if_neg (by simp), if_pos h1]
  match r, hs, hl with
  | [], hs, hl =>
    rw [if_pos (by simp)]
    simp only [groatref21_parse.j1]
    exact Parsed.no _ _ _ _ _
  | a :: ws, hs, hl =>
    dsimp only
    obtain ⟨L, hL⟩ : ∃ L : Option Cmd, L = if 1 ≤ ws.length ∧ ws.length ≤ 6 ∧ ((ws.all fun s => (dgv 6 s).isSome) && onl bDigits 8 a) = true then some (c, 0, a, ws.filterMap (dgv 6), ⟨#[]⟩) else none := ⟨_, rfl⟩
    rw [← hL]
    by_cases g1 : 1 ≤ ws.length
    · rw [if_neg (by simp; omega)]
      by_cases g2 : ws.length ≤ 6
      · rw [if_neg (by simp; omega), if_pos (by simp; omega)]
        show Parsed _ ((groatref21_only.f (k + 1) a ((8 : Nat) : Int) false).bind _)
        rw [only_eq a 8 false (hs a (by simp)) (k + 1) (by omega)]
        simp only [Option.bind_some]
        show Parsed _ (groatref21_parse.j1 (k + 1) (c :: a :: ws) (!onl bDigits 8 a) c 0 ⟨#[]⟩ ⟨#[]⟩)
        simp only [groatref21_parse.j1]
        by_cases h : onl bDigits 8 a = true
        · rw [h, if_neg (by simp), if_pos (by simp; omega)]
          have hsc := route_scan c a ws (by omega) ws.length k 0 [] (by omega) (by omega) (by simp)
          rw [List.drop_zero] at hsc
          show Parsed _ (groatref21_parse.l0 k (c :: a :: ws) ((0 + 2 : Nat) : Int) c 0 a [] ⟨#[]⟩)
          rw [h] at hL
          cases hall : (ws.all fun s => (dgv 6 s).isSome) with
          | true =>
            rw [hsc.1 hall, hL, hall, if_pos ⟨g1, g2, rfl⟩]
            exact Parsed.yes _ _ _ _ _
          | false =>
            obtain ⟨ds, hds⟩ := hsc.2 hall
            rw [hds, hL, hall, if_neg (by simp)]
            exact Parsed.no _ _ _ _ _
        · have h' : onl bDigits 8 a = false := by simpa using h
          rw [h'] at hL ⊢
          rw [if_pos (by simp), hL, if_neg (by simp)]
          exact Parsed.no _ _ _ _ _
      · rw [if_pos (by simp; omega)]
        simp only [groatref21_parse.j1]
        rw [if_pos trivial, hL, if_neg (fun h => g2 h.2.1)]
        exact Parsed.no _ _ _ _ _
    · rw [if_pos (by simp; omega)]
      simp only [groatref21_parse.j1]
      rw [if_pos trivial, hL, if_neg (fun h => g1 h.1)]
      exact Parsed.no _ _ _ _ _

theorem parse_eq (ws : List ByteArray) (h0 : ws ≠ []) (hl : ws.length ≤ 1000) (hs : ∀ s ∈ ws, s.size ≤ 1000) (k : Nat) (hk : 2001 < k) : Parsed (cmdOf ws) (groatref21_parse.f k ws) := by
  obtain ⟨k, rfl⟩ : ∃ m, k = m + 1 := ⟨k - 1, by omega⟩
  match ws, h0, hl, hs with
  | c :: r, h0, hl, hs =>
    have hr : ∀ s ∈ r, s.size ≤ 1000 := fun s h => hs s (List.mem_cons_of_mem _ h)
    have hlr : r.length ≤ 1000 := by simp at hl; omega
    unfold groatref21_parse.f
    rw [if_pos (by simp)]
    unfold cmdOf
    dsimp only
    show Parsed _ (if c.toList = [98, 108, 111, 99, 107] then groatref21_parse.j0 (k + 1) (c :: r) c (c.toList == [98, 108, 111, 99, 107]) c 0 ⟨#[]⟩ ⟨#[]⟩ else if c.toList = [117, 110, 98, 108, 111, 99, 107] then groatref21_parse.j0 (k + 1) (c :: r) c (c.toList == [117, 110, 98, 108, 111, 99, 107]) c 0 ⟨#[]⟩ ⟨#[]⟩ else if c.toList = [115, 97, 102] then groatref21_parse.j0 (k + 1) (c :: r) c (c.toList == [115, 97, 102]) c 0 ⟨#[]⟩ ⟨#[]⟩ else groatref21_parse.j0 (k + 1) (c :: r) c (c.toList == [98, 97, 108, 97, 110, 99, 101]) c 0 ⟨#[]⟩ ⟨#[]⟩)
    by_cases k1 : c.toList = [98, 108, 111, 99, 107]
    · rw [if_pos (Or.inl k1), if_pos k1, k1]; exact dig_case k c r c (by rw [k1]; decide)
    by_cases k2 : c.toList = [117, 110, 98, 108, 111, 99, 107]
    · rw [if_pos (Or.inr (Or.inl k2)), if_neg k1, if_pos k2, k2]; exact dig_case k c r c (by rw [k2]; decide)
    by_cases k3 : c.toList = [115, 97, 102]
    · rw [if_pos (Or.inr (Or.inr k3)), if_neg k1, if_neg k2, if_pos k3, k3]; exact dig_case k c r c (by rw [k3]; decide)
    rw [if_neg (by simp only [k1, k2, k3, or_self, not_false_eq_true]), if_neg k1, if_neg k2, if_neg k3]
    by_cases k4 : c.toList = [98, 97, 108, 97, 110, 99, 101]
    · rw [if_pos k4, k4]; exact bal_case k c r c k4
    have k4' : (c.toList == [98, 97, 108, 97, 110, 99, 101]) = false := by simpa using k4
    rw [if_neg k4, k4']
    by_cases k5 : c.toList = [117, 110, 114, 111, 117, 116, 101]
    · rw [if_pos k5]; exact unroute_case k (by omega) c r hr (by rw [k5]; decide) k5
    rw [if_neg k5]
    by_cases k6 : c.toList = [115, 116, 97, 116, 101]
    · rw [if_pos k6]; exact state_case k (by omega) c r hr (by rw [k6]; decide) k5 k6
    rw [if_neg k6]
    by_cases k7 : c.toList = [99, 117, 116] ∨ c.toList = [100, 97, 121]
    · rw [if_pos k7]
      exact cut_case k c r (by rcases k7 with h | h <;> (rw [h]; decide)) k5 k6 k7
    rw [if_neg k7]
    by_cases k9 : c.toList = [114, 111, 117, 116, 101]
    · rw [if_pos k9]; exact route_case k (by omega) c r hlr hr k9
    rw [if_neg k9]
    exact none_case k c r k9 k5 k6 k7

theorem Parse_eq (line : ByteArray) (k : Nat) (hk : 2001 < k) : groatref21_Parse.f k line = some (match parseOf line with
    | (some (wd, m, pf, ts, key), _) => (wd, m, pf, ts, key, 0)
    | (none, n) => (⟨#[]⟩, 0, ⟨#[]⟩, [], ⟨#[]⟩, n)) := by
  unfold groatref21_Parse.f parseOf
  by_cases h : 100 < line.size
  · rw [if_pos (by omega), if_pos h]
  · rw [if_neg (by omega), if_neg h, split_eq line (by omega) k (by omega)]
    have hl : (wordsOf line).length ≤ 1000 := by
      rw [wordsOf_length]
      have := Lib.countB_le ⟨#[32]⟩ (by decide) line.size line (Nat.le_refl _)
      omega
    obtain ⟨r1, r2, r3, r4, r5, hq, hx⟩ := parse_eq (wordsOf line) (by intro e; have := wordsOf_length line; rw [e] at this; simp at this) hl
      (fun s hs => by have := splitB_size _ _ _ _ s hs; omega) k hk
    simp only [Option.bind_some]
    rw [hq]
    cases hc : cmdOf (wordsOf line) with
    | none => rfl
    | some x =>
      have := hx x hc
      subst this
      rfl
end Go.Proofs.YtegalamdbbjfoaaDoor
