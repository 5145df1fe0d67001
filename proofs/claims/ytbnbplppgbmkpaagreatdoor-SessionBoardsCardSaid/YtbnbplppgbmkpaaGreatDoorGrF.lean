/- Fields: the closures 35, 38, 40, and slices.IndexFunc (39) with each. Fields: rows of the call's own, and slices.Clone (34). Fields: slices.DeleteFunc (33) with the closures 35, 38. Session: mac (27). Session: Check (10). Session: the board's calls: there (31), Sign (20), Block (21), Look (26), Ready (25). Session: the board's Look (26), Ready (25), New (15). Session: the board's Clone (17). Fields: copy of elements of two cells. Fields: two rows of different blocks do not overlap. Fields: slices.Insert (41) of one field, at the end. -/
import Derived.Test.YtbnbplppgbmkpaaGreatDoorGrE
namespace Go.Proofs.YtbnbplppgbmkpaaGreatDoor
open Go.RowKit Go.Extern.Stop Go.Stop Go.Extern Go.Proofs.YtbnbplppgbmkpaaGreatDoorW.PrintWords PSessionSeals

def isMac (x : S38) : Bool := x.f0 == 64
def isNo (no : Int) (x : S38) : Bool := x.f0 == no
def isBig (no : Int) (x : S38) : Bool := decide (no < x.f0)
/-- The place of the first one; -1: none. -/
def idxP (p : S38 → Bool) : List S38 → Int
  | [] => -1
  | x :: r => if p x then 0 else (if idxP p r = -1 then -1 else idxP p r + 1)
theorem idxP_at (p : S38 → Bool) : ∀ (l : List S38) (k : Nat) (h : k < l.length), p l[k] = true → (∀ j (hj : j < k), p (l[j]'(Nat.lt_trans hj h)) = false) → idxP p l = k
  | [], k, h, _, _ => absurd h (Nat.not_lt_zero _)
  | x :: r, 0, _, hp, _ => by unfold idxP; rw [if_pos (by simpa using hp)]; rfl
  | x :: r, k + 1, h, hp, hn => by
    have h0 := hn 0 (Nat.succ_pos _)
    have ih := idxP_at p r k (Nat.lt_of_succ_lt_succ h) (by simpa using hp) (fun j hj => by simpa using hn (j + 1) (Nat.succ_lt_succ hj))
    unfold idxP
    rw [if_neg (by simpa using h0), ih, if_neg (by omega)]
    omega
theorem idxP_none (p : S38 → Bool) : ∀ (l : List S38), (∀ j (hj : j < l.length), p l[j] = false) → idxP p l = -1
  | [], _ => rfl
  | x :: r, h => by
    have h0 := h 0 (by simp)
    have ih := idxP_none p r (fun j hj => h (j + 1) (Nat.succ_lt_succ hj))
    unfold idxP
    rw [if_neg (by simpa using h0), ih, if_pos rfl]

theorem isMac_any (no : Int) (s : ByteArray) (w : World) :
    Calls Tryz.prog 35 #[.agg #[.int .i64 no, .string s]] w fun e w' => e = .returned (.bool (no == 64)) ∧ Below w.heap.size w w' := by
  go_enter Tryz.func35, Tryz.ntmps35
  go_wp2
  go_ret
  exact ⟨rfl, below_alloc (Below.refl _ _) _⟩
theorem isNo_any (n no : Int) (s : ByteArray) (p : Nat) (w : World) (hp : w.heap[p]? = some (.cells #[.int .i64 n] 3 (0, 0))) :
    Calls Tryz.prog 38 #[.agg #[.int .i64 no, .string s], .pointer (some ⟨p, 0, none⟩)] w fun e w' => e = .returned (.bool (no == n)) ∧ Below w.heap.size w w' := by
  have cp := blk_cell (blk_alloc hp (.cells #[Value.int .i64 no, .string s] 38)) 0
  simp only [List.getElem?_toArray, List.getElem?_cons_zero] at cp
  clear hp
  go_enter Tryz.func38, Tryz.ntmps38
  go_wp2
  go_ret
  exact ⟨rfl, below_alloc (Below.refl _ _) _⟩
theorem isBig_any (n no : Int) (s : ByteArray) (p : Nat) (w : World) (hp : w.heap[p]? = some (.cells #[.int .i64 n] 3 (0, 0))) :
    Calls Tryz.prog 40 #[.agg #[.int .i64 no, .string s], .pointer (some ⟨p, 0, none⟩)] w fun e w' => e = .returned (.bool (decide (n < no))) ∧ Below w.heap.size w w' := by
  have cp := blk_cell (blk_alloc hp (.cells #[Value.int .i64 no, .string s] 38)) 0
  simp only [List.getElem?_toArray, List.getElem?_cons_zero] at cp
  clear hp
  go_enter Tryz.func40, Tryz.ntmps40
  go_wp2
  go_ret
  exact ⟨rfl, below_alloc (Below.refl _ _) _⟩

set_option maxHeartbeats 1000000 in
theorem idx_mac (l : List S38) (A : Option Addr) (cp : Nat) (w : World) (hr : Kd.C k38 w A l.length l) :
    Calls Tryz.prog 39 #[.slice A l.length cp, .func (.func 35) #[] #[]] w fun e w' => e = .returned (.int .i64 (idxP isMac l)) ∧ Below w.heap.size w w' := by
  have HR := Aside0.mk hr
  have hlm := Kd.C_max hr
  clear hr
  go_enter Tryz.func39, Tryz.ntmps39
  go_wp2_with fail
  go_loopw [8] (fun i wr => ∃ k : Nat, k ≤ l.length ∧ i = .int .i64 k ∧ Aside0 (∀ j (hj : j < l.length), j < k → isMac l[j] = false) ∧ Aside0 (Below w.heap.size w wr)) (fun i _ => l.length - (intOf i).toNat)
  case atStart => exact ⟨0, by omega, rfl, ⟨fun j _ hj => absurd hj (Nat.not_lt_zero _)⟩, ⟨Below.refl _ _⟩⟩
  case round =>
    obtain ⟨k, hk, rfl, HN, HB⟩ := hrel
    by_cases hlt : k < l.length
    · obtain ⟨ad, hA, c0, c1⟩ := at_T38 (Kd.C_below HR.out HB.out) (k : Int) (by omega) (by omega)
      subst hA
      obtain ⟨no, hno⟩ : ∃ no, no = (rd_T38 l (k : Int)).f0 := ⟨_, rfl⟩
      obtain ⟨s, hs⟩ : ∃ s, s = (rd_T38 l (k : Int)).f1 := ⟨_, rfl⟩
      rw [← hno] at c0
      rw [← hs] at c1
      rw [Int.toNat_natCast] at c0 c1
      have hel : rd_T38 l (k : Int) = l[k] := by simp [rd_T38, hlt]
      have HP1 : Aside0 (isMac l[k] = (no == 64)) := ⟨by rw [hno, hel]; rfl⟩
      have hlti : (k : Int) < (l.length : Int) := by omega
      have HLT := Aside0.mk hlt
      clear hno hs hel
      go_wp2_with fail
      refine (isMac_any no s _).mono ?_
      rintro e w1 ⟨rfl, hb1⟩
      have HB1 := Aside0.mk (HB.out.trans (hb1.mono HB.out.size))
      clear hb1 c0 c1
      by_cases hq : (no == 64) = true
      · rw [hq] at HP1 ⊢
        have HI : Aside0 (idxP isMac l = k) := ⟨idxP_at isMac l k HLT.out HP1.out (fun j hj => HN.out j _ hj)⟩
        clear hq HN
        go_wp2_with fail
        go_ret
        exact ⟨by rw [HI.out]; rfl, HB1.out⟩
      · have hq' : (no == 64) = false := by simpa using hq
        rw [hq'] at HP1 ⊢
        clear hq hq'
        go_wp2_with fail
        go_roundw
        case rel =>
          refine ⟨k + 1, by omega, by go_num, ⟨fun j hj hjk => ?_⟩, HB1⟩
          rcases Nat.lt_or_eq_of_le (Nat.le_of_lt_succ hjk) with h | h
          · exact HN.out j hj h
          · subst h; exact HP1.out
        case measure => simp [intOf]; omega
    · obtain rfl : k = l.length := by omega
      have HI : Aside0 (idxP isMac l = -1) := ⟨idxP_none isMac l (fun j hj => HN.out j hj hj)⟩
      clear hlt hk HN
      go_wp2_with fail
      go_ret
      exact ⟨by rw [HI.out]; rfl, HB.out⟩

set_option maxHeartbeats 1000000 in
theorem idx_no (n : Int) (p : Nat) (l : List S38) (A : Option Addr) (cp : Nat) (w : World) (hp : w.heap[p]? = some (.cells #[.int .i64 n] 3 (0, 0))) (hr : Kd.C k38 w A l.length l) :
    Calls Tryz.prog 39 #[.slice A l.length cp, .func (.func 38) #[] #[.pointer (some ⟨p, 0, none⟩)]] w fun e w' => e = .returned (.int .i64 (idxP (isNo n) l)) ∧ Below w.heap.size w w' := by
  have HR := Aside0.mk hr
  have hlm := Kd.C_max hr
  clear hr
  have HP := Aside0.mk hp
  clear hp
  go_enter Tryz.func39, Tryz.ntmps39
  go_wp2_with fail
  go_loopw [8] (fun i wr => ∃ k : Nat, k ≤ l.length ∧ i = .int .i64 k ∧ Aside0 (∀ j (hj : j < l.length), j < k → (isNo n) l[j] = false) ∧ Aside0 (Below w.heap.size w wr)) (fun i _ => l.length - (intOf i).toNat)
  case atStart => exact ⟨0, by omega, rfl, ⟨fun j _ hj => absurd hj (Nat.not_lt_zero _)⟩, ⟨Below.refl _ _⟩⟩
  case round =>
    obtain ⟨k, hk, rfl, HN, HB⟩ := hrel
    by_cases hlt : k < l.length
    · obtain ⟨ad, hA, c0, c1⟩ := at_T38 (Kd.C_below HR.out HB.out) (k : Int) (by omega) (by omega)
      subst hA
      obtain ⟨no, hno⟩ : ∃ no, no = (rd_T38 l (k : Int)).f0 := ⟨_, rfl⟩
      obtain ⟨s, hs⟩ : ∃ s, s = (rd_T38 l (k : Int)).f1 := ⟨_, rfl⟩
      rw [← hno] at c0
      rw [← hs] at c1
      rw [Int.toNat_natCast] at c0 c1
      have hel : rd_T38 l (k : Int) = l[k] := by simp [rd_T38, hlt]
      have HP1 : Aside0 ((isNo n) l[k] = (no == n)) := ⟨by rw [hno, hel]; rfl⟩
      have hlti : (k : Int) < (l.length : Int) := by omega
      have HLT := Aside0.mk hlt
      clear hno hs hel
      go_wp2_with fail
      refine (isNo_any n no s p _ (blk_below HP.out HB.out)).mono ?_
      rintro e w1 ⟨rfl, hb1⟩
      have HB1 := Aside0.mk (HB.out.trans (hb1.mono HB.out.size))
      clear hb1 c0 c1
      by_cases hq : (no == n) = true
      · rw [hq] at HP1 ⊢
        have HI : Aside0 (idxP (isNo n) l = k) := ⟨idxP_at (isNo n) l k HLT.out HP1.out (fun j hj => HN.out j _ hj)⟩
        clear hq HN
        go_wp2_with fail
        go_ret
        exact ⟨by rw [HI.out]; rfl, HB1.out⟩
      · have hq' : (no == n) = false := by simpa using hq
        rw [hq'] at HP1 ⊢
        clear hq hq'
        go_wp2_with fail
        go_roundw
        case rel =>
          refine ⟨k + 1, by omega, by go_num, ⟨fun j hj hjk => ?_⟩, HB1⟩
          rcases Nat.lt_or_eq_of_le (Nat.le_of_lt_succ hjk) with h | h
          · exact HN.out j hj h
          · subst h; exact HP1.out
        case measure => simp [intOf]; omega
    · obtain rfl : k = l.length := by omega
      have HI : Aside0 (idxP (isNo n) l = -1) := ⟨idxP_none (isNo n) l (fun j hj => HN.out j hj hj)⟩
      clear hlt hk HN
      go_wp2_with fail
      go_ret
      exact ⟨by rw [HI.out]; rfl, HB.out⟩

set_option maxHeartbeats 1000000 in
theorem idx_big (n : Int) (p : Nat) (l : List S38) (A : Option Addr) (cp : Nat) (w : World) (hp : w.heap[p]? = some (.cells #[.int .i64 n] 3 (0, 0))) (hr : Kd.C k38 w A l.length l) :
    Calls Tryz.prog 39 #[.slice A l.length cp, .func (.func 40) #[] #[.pointer (some ⟨p, 0, none⟩)]] w fun e w' => e = .returned (.int .i64 (idxP (isBig n) l)) ∧ Below w.heap.size w w' := by
  have HR := Aside0.mk hr
  have hlm := Kd.C_max hr
  clear hr
  have HP := Aside0.mk hp
  clear hp
  go_enter Tryz.func39, Tryz.ntmps39
  go_wp2_with fail
  go_loopw [8] (fun i wr => ∃ k : Nat, k ≤ l.length ∧ i = .int .i64 k ∧ Aside0 (∀ j (hj : j < l.length), j < k → (isBig n) l[j] = false) ∧ Aside0 (Below w.heap.size w wr)) (fun i _ => l.length - (intOf i).toNat)
  case atStart => exact ⟨0, by omega, rfl, ⟨fun j _ hj => absurd hj (Nat.not_lt_zero _)⟩, ⟨Below.refl _ _⟩⟩
  case round =>
    obtain ⟨k, hk, rfl, HN, HB⟩ := hrel
    by_cases hlt : k < l.length
    · obtain ⟨ad, hA, c0, c1⟩ := at_T38 (Kd.C_below HR.out HB.out) (k : Int) (by omega) (by omega)
      subst hA
      obtain ⟨no, hno⟩ : ∃ no, no = (rd_T38 l (k : Int)).f0 := ⟨_, rfl⟩
      obtain ⟨s, hs⟩ : ∃ s, s = (rd_T38 l (k : Int)).f1 := ⟨_, rfl⟩
      rw [← hno] at c0
      rw [← hs] at c1
      rw [Int.toNat_natCast] at c0 c1
      have hel : rd_T38 l (k : Int) = l[k] := by simp [rd_T38, hlt]
      have HP1 : Aside0 ((isBig n) l[k] = (decide (n < no))) := ⟨by rw [hno, hel]; rfl⟩
      have hlti : (k : Int) < (l.length : Int) := by omega
      have HLT := Aside0.mk hlt
      clear hno hs hel
      go_wp2_with fail
      refine (isBig_any n no s p _ (blk_below HP.out HB.out)).mono ?_
      rintro e w1 ⟨rfl, hb1⟩
      have HB1 := Aside0.mk (HB.out.trans (hb1.mono HB.out.size))
      clear hb1 c0 c1
      by_cases hq : (decide (n < no)) = true
      · rw [hq] at HP1 ⊢
        have HI : Aside0 (idxP (isBig n) l = k) := ⟨idxP_at (isBig n) l k HLT.out HP1.out (fun j hj => HN.out j _ hj)⟩
        clear hq HN
        go_wp2_with fail
        go_ret
        exact ⟨by rw [HI.out]; rfl, HB1.out⟩
      · have hq' : (decide (n < no)) = false := by simpa using hq
        rw [hq'] at HP1 ⊢
        clear hq hq'
        go_wp2_with fail
        go_roundw
        case rel =>
          refine ⟨k + 1, by omega, by go_num, ⟨fun j hj hjk => ?_⟩, HB1⟩
          rcases Nat.lt_or_eq_of_le (Nat.le_of_lt_succ hjk) with h | h
          · exact HN.out j hj h
          · subst h; exact HP1.out
        case measure => simp [intOf]; omega
    · obtain rfl : k = l.length := by omega
      have HI : Aside0 (idxP (isBig n) l = -1) := ⟨idxP_none (isBig n) l (fun j hj => HN.out j hj hj)⟩
      clear hlt hk HN
      go_wp2_with fail
      go_ret
      exact ⟨by rw [HI.out]; rfl, HB.out⟩
end Go.Proofs.YtbnbplppgbmkpaaGreatDoor

namespace Go.Proofs.YtbnbplppgbmkpaaGreatDoor
open Go.RowKit Go.Extern.Stop Go.Stop Go.Extern Go.Proofs.YtbnbplppgbmkpaaGreatDoorW.PrintWords PSessionSeals

def cells38 : List S38 → List Value
  | [] => []
  | x :: r => .int .i64 x.f0 :: .string x.f1 :: cells38 r
theorem cells38_length : ∀ l : List S38, (cells38 l).length = l.length * 2
  | [] => rfl
  | x :: r => by simp only [cells38, List.length_cons, cells38_length r]; omega
theorem cells38_append : ∀ l m : List S38, cells38 (l ++ m) = cells38 l ++ cells38 m
  | [], _ => rfl
  | x :: r, m => by simp only [List.cons_append, cells38, cells38_append r m]
theorem cells38_get : ∀ (l : List S38) (q i : Nat) (p : S38), l[q]? = some p → i < 2 → (cells38 l)[q * 2 + i]? = [Value.int .i64 p.f0, .string p.f1][i]?
  | [], q, i, p, h, _ => by simp at h
  | x :: r, 0, i, p, h, hi => by
    simp only [List.getElem?_cons_zero, Option.some.injEq] at h
    subst h
    have : i = 0 ∨ i = 1 := by omega
    rcases this with rfl | rfl <;> rfl
  | x :: r, q + 1, i, p, h, hi => by
    rw [show (q + 1) * 2 + i = (q * 2 + i) + 1 + 1 by omega]
    simp only [List.getElem?_cons_succ] at h
    simp only [cells38, List.getElem?_cons_succ]
    exact cells38_get r q i p h hi
theorem cells38_at (l : List S38) (j : Nat) (u : Value) (h : (cells38 l)[j]? = some u) : ∃ (q i : Nat) (p : S38), j = q * 2 + i ∧ i < 2 ∧ l[q]? = some p ∧ [Value.int .i64 p.f0, .string p.f1][i]? = some u := by
  have hj : j < l.length * 2 := by rw [← cells38_length]; exact (List.getElem?_eq_some_iff.1 h).1
  have hq : j / 2 < l.length := by omega
  refine ⟨j / 2, j % 2, l[j / 2], by omega, Nat.mod_lt _ (by omega), List.getElem?_eq_getElem hq, ?_⟩
  rw [← cells38_get l (j / 2) (j % 2) l[j / 2] (List.getElem?_eq_getElem hq) (Nat.mod_lt _ (by omega)), show j / 2 * 2 + j % 2 = j by omega]
  exact h
theorem cells38_one : ∀ (l : List S38), ∀ u ∈ cells38 l, u.oneCell' = true
  | [], u, h => by simp [cells38] at h
  | x :: r, u, h => by
    simp only [cells38, List.mem_cons] at h
    rcases h with rfl | rfl | h
    · rfl
    · rfl
    · exact cells38_one r u h

/-- A row of fields of the call's own. -/
def FRow (W : World) (B : Nat) (v : Value) (xs : List S38) : Prop := QRow W B 38 2 v xs.length (cells38 xs)
theorem fieldInfo : (Tryz.prog.info? 38).map (fun i => (i.zero, i.size, i.bytes)) = some (some (.agg #[.int .i64 0, .string ⟨#[]⟩]), 2, 24) := by kernel_rfl
theorem frow_slice {W : World} {B : Nat} {v : Value} {xs : List S38} (h : FRow W B v xs) : ∃ A c, v = .slice A xs.length c ∧ xs.length ≤ c := q_slice h
theorem frow_nil (W : World) (B : Nat) : FRow W B (.slice none 0 0) [] := q_of_own (own_nil _ _ _ _)
theorem frow_reads {W : World} {B c : Nat} {A : Option Addr} {xs : List S38} (h : FRow W B (.slice A xs.length c) xs) : Kd.C k38 W A xs.length xs := by
  refine ⟨rfl, q_max h, fun hn => ?_⟩
  obtain ⟨ad, hA, hc⟩ := q_cells h hn
  refine ⟨ad, hA, fun j p hj => ⟨[.int .i64 p.f0, .string p.f1], rfl, k38_mk _ _, fun i u hu => ?_⟩⟩
  have hi : i < 2 := (List.getElem?_eq_some_iff.1 hu).1
  have hg := cells38_get xs j i p hj hi
  rw [hu] at hg
  exact hc (j * 2 + i) u hg
theorem frow_move {W W1 : World} {B : Nat} {v : Value} {xs : List S38} (h : FRow W B v xs) (hm : ∀ k, v.ownBlock = some k → W1.heap[k]? = W.heap[k]?) : FRow W1 B v xs := q_move h hm
theorem frow_lt {W : World} {B : Nat} {v : Value} {xs : List S38} (h : FRow W B v xs) : ∀ k, v.ownBlock = some k → k < W.heap.size := fun k hk => q_lt h k hk
theorem frow_below {W W1 : World} {B : Nat} {v : Value} {xs : List S38} (h : FRow W B v xs) (hb : Below W.heap.size W W1) : FRow W1 B v xs := frow_move h fun k hk => hb.block k (frow_lt h k hk)
theorem frow_base {W : World} {B : Nat} {v : Value} {xs : List S38} (h : FRow W B v xs) : ∀ k, v.ownBlock = some k → B ≤ k := fun k hk => (q_typed h k hk).1
theorem frow_weaken {W : World} {B B' : Nat} {v : Value} {xs : List S38} (h : FRow W B v xs) (hB : B' ≤ B) : FRow W B' v xs := q_lower h hB
theorem frow_empty {W : World} {B g : Nat} (hg : W.heap[g]? = some (.cells #[] 38 (0, 0))) (hB : B ≤ g) : FRow W B (.slice (some ⟨g, 0, none⟩) 0 0) [] :=
  ⟨rfl, .inl ⟨rfl, _, rfl, fun a ha => by obtain rfl := Option.some.inj ha; exact ⟨hB, _, hg⟩⟩⟩
theorem frow_run {W : World} {B m c : Nat} {v : Value} {xs ys : List S38} {A : Option Addr} (ty : TypeId) (h : FRow W B v xs) (hr : Kd.C k38 W A m ys) (hb : B ≤ W.heap.size) (hl : xs.length + m ≤ 1000000000000) :
    ∃ v1 w1, (Builtin.append_ #[27, 27] ty #[v, .slice A m c]).run Tryz.prog W = .ok v1 w1 ∧ FRow w1 B v1 (xs ++ ys) ∧ W.grownBy w1 v.ownBlock ∧ (v1.ownBlock = v.ownBlock ∨ ∃ b, v1.ownBlock = some b ∧ W.heap.size ≤ b) := by
  obtain ⟨i0, hi, hz0, hz1, hz2⟩ := info_parts fieldInfo
  have hys : ys.length = m := Kd.C_len hr
  rcases Nat.eq_zero_or_pos m with h0 | h0
  · subst h0
    obtain rfl : ys = [] := List.eq_nil_of_length_eq_zero hys
    obtain ⟨A', c', rfl, hle⟩ := frow_slice h
    refine ⟨_, W, ?_, by rw [List.append_nil]; exact h, World.grownBy.refl W _, .inl rfl⟩
    cases A <;> cases A' <;> simp [Builtin.append_, run_underlying Tryz.underlying27, sizeOf, typeInfo, hi, Builtin.lenOf, Builtin.firstCells, storeCells, hle, loadCells, loadCellsFrom]
  · obtain ⟨ad, hA, hc⟩ := hr.2.2 h0
    subst hA
    obtain ⟨v1, w1, hrun, hq, hg, hat⟩ := q_append (P := Tryz.prog) W B 27 ty 38 i0 (.agg #[.int .i64 0, .string ⟨#[]⟩]) 2 24 Tryz.underlying27 hi hz0 hz1 hz2 rfl (by decide) v xs.length (cells38 xs) h ad m c (cells38 ys) (by rw [cells38_length, hys])
      (fun j u hu => by
        obtain ⟨q, i, p, rfl, hi2, hp, hpu⟩ := cells38_at ys j u hu
        obtain ⟨cs, _, hk, hcs⟩ := hc q p hp
        have := k38_open hk
        subst this
        exact hcs i u hpu)
      (cells38_one ys) h0 (by simp only [maxLen]; omega) (by omega) hb
    refine ⟨v1, w1, hrun, ?_, hg, hat⟩
    unfold FRow
    rw [List.length_append, hys, cells38_append]
    exact hq

section
variable {ops : Array Oper} {rest : List Oper} {o : Oper} {a : Act} {Q : Exit → Act → World → Prop}
theorem frow_join {W w0 : World} {B m c : Nat} {v : Value} {xs ys : List S38} {A : Option Addr} (hgd : o.guard = none) (s x : Operand) (ho : o.op = .call { callee := .builtin .append, args := #[s, x], argTypes := #[27, 27] })
    (hs : a.eval s = v) (hx : a.eval x = .slice A m c) (h : FRow W B v xs) (hr : Kd.C k38 W A m ys) (hb : B ≤ W.heap.size) (hl : xs.length + m ≤ 1000000000000) (hB : Below B w0 W)
    (hK : ∀ A1 c1 w1, FRow w1 B (.slice A1 (xs ++ ys).length c1) (xs ++ ys) → (xs ++ ys).length ≤ c1 → Below B w0 w1 → wpList Tryz.prog ops Q rest (a.put o.dst (.slice A1 (xs ++ ys).length c1)) w1) : wpList Tryz.prog ops Q (o :: rest) a W := by
  obtain ⟨v1, w1, hrun, h1, h2, _⟩ := frow_run o.type h hr hb hl (c := c)
  obtain ⟨A1, c1, rfl, hc⟩ := frow_slice h1
  refine wpList_plain hgd fun K hK' => ?_
  unfold Oper.wp execOp
  simp only [ho, resolve, invoke, builtin, Sem.run_bind, Sem.run_pure, Result.andThen_ok, List.map_toArray, List.map_cons, List.map_nil, hs, hx, hrun]
  exact hK' _ _ (hK A1 c1 w1 h1 hc (hB.grown h2 hb (fun k hk => frow_base h k hk)))
end

theorem eqN27 (n c : Nat) (w : World) : (binOp .eql 27 (.slice none n c) (.slice none 0 0)).run Tryz.prog w = .ok (.bool true) w := by
  have h : ∀ d : Nat, (Op.equalIn (d + 1) 27 (.slice none n c) (.slice none 0 0)).run Tryz.prog w = .ok true w := fun d => by
    simp [Op.equalIn, run_underlying Tryz.underlying27]
  simp only [binOp]
  simp [Op.equal, Op.maxDepth, h 9999]
theorem eqS27 (ad : Addr) (n c : Nat) (w : World) : (binOp .eql 27 (.slice (some ad) n c) (.slice none 0 0)).run Tryz.prog w = .ok (.bool false) w := by
  have h : ∀ d : Nat, (Op.equalIn (d + 1) 27 (.slice (some ad) n c) (.slice none 0 0)).run Tryz.prog w = .ok false w := fun d => by
    simp [Op.equalIn, run_underlying Tryz.underlying27]
  simp only [binOp]
  simp [Op.equal, Op.maxDepth, h 9999]

set_option maxHeartbeats 1000000 in
theorem Clone_any (l : List S38) (A : Option Addr) (cp : Nat) (w : World) (hr : Kd.C k38 w A l.length l) (hl : l.length ≤ 1000000000000) :
    Calls Tryz.prog 34 #[.slice A l.length cp] w fun e w' => ∃ A' c', e = .returned (.slice A' l.length c') ∧ FRow w' w.heap.size (.slice A' l.length c') l ∧ Below w.heap.size w w' := by
  have HR := Aside0.mk hr
  clear hr
  cases A with
  | none =>
    have hl0 : l = [] := by
      rcases Nat.eq_zero_or_pos l.length with h | h
      · exact List.eq_nil_of_length_eq_zero h
      · obtain ⟨ad, hA, _⟩ := HR.out.2.2 h
        cases hA
    subst hl0
    have hE := eqN27 0 cp
    go_enter Tryz.func34, Tryz.ntmps34
    go_wp2_with fail
    go_ret
    exact ⟨none, 0, rfl, frow_nil _ _, Below.refl _ _⟩
  | some ad =>
    have hE := eqS27 ad l.length cp
    go_enter Tryz.func34, Tryz.ntmps34
    go_wp2_with (first | (refine frow_join (w0 := w) (B := w.heap.size) (v := .slice (some ⟨w.heap.size, 0, none⟩) 0 0) (xs := []) (ys := l) rfl _ _ rfl rfl rfl (frow_empty (blk_new w _) (Nat.le_refl _)) (Kd.C_below HR.out (below_alloc (Below.refl _ _) _)) (by simp) (by simpa using hl) (below_alloc (Below.refl _ _) _) ?_; intro A2 c2 w2 hq2 hc2 hb2) | fail)
    go_ret
    exact ⟨A2, c2, rfl, hq2, hb2⟩
end Go.Proofs.YtbnbplppgbmkpaaGreatDoor

namespace Go.Proofs.YtbnbplppgbmkpaaGreatDoor
open Go.RowKit Go.Extern.Stop Go.Stop Go.Extern Go.Proofs.YtbnbplppgbmkpaaGreatDoorW.PrintWords PSessionSeals

theorem q_put {w : World} {base n size g o cap j : Nat} {e : TypeId} {xs : List Value} (h : QRow w base e size (.slice (some ⟨g, o, none⟩) n cap) n xs) (hj : j < n * size) (u : Value) :
    QRow (w.setCell ⟨g, o + j, none⟩ u) base e size (.slice (some ⟨g, o, none⟩) n cap) n (xs.set j u) := by
  obtain ⟨h1, h2⟩ := h
  refine ⟨by rw [List.length_set]; exact h1, ?_⟩
  rcases h2 with ⟨h0, _⟩ | ⟨g', off, cap', cur, he, hb, hh, hnc, hcm, hcs, ht⟩
  · subst h0; omega
  · injection he with ha _ hc
    injection ha with ha
    injection ha with ha1 ha2
    subst ha1; subst ha2; subst hc
    refine .inr ⟨g, off, cap, cur.setIfInBounds (off * size + j) u, rfl, hb, blk_set hh _ _, hnc, hcm, by rw [Array.size_setIfInBounds]; exact hcs, ?_⟩
    rw [Array.toList_setIfInBounds, List.drop_set, if_neg (by omega), List.take_set, ht, show off * size + j - off * size = j by omega]
theorem cells38_set : ∀ (l : List S38) (i : Nat) (x : S38), cells38 (l.set i x) = ((cells38 l).set (i * 2) (.int .i64 x.f0)).set (i * 2 + 1) (.string x.f1)
  | [], i, x => by simp [cells38]
  | y :: r, 0, x => by simp [cells38]
  | y :: r, i + 1, x => by
    rw [List.set_cons_succ, show (i + 1) * 2 = i * 2 + 1 + 1 by omega, show i * 2 + 1 + 1 + 1 = (i * 2 + 1) + 1 + 1 by omega]
    simp only [cells38, List.set_cons_succ, cells38_set r i x]
theorem cells38_take : ∀ (l : List S38) (i : Nat), cells38 (l.take i) = (cells38 l).take (i * 2)
  | [], i => by simp [cells38]
  | y :: r, 0 => by simp [cells38]
  | y :: r, i + 1 => by
    rw [show (i + 1) * 2 = i * 2 + 1 + 1 by omega]
    simp only [List.take_succ_cons, cells38, cells38_take r i]
theorem frow_put {W : World} {B g o cap : Nat} {m : List S38} (h : FRow W B (.slice (some ⟨g, o, none⟩) m.length cap) m) (i : Nat) (hi : i < m.length) (x : S38) :
    FRow ((W.setCell ⟨g, o + i * 2, none⟩ (.int .i64 x.f0)).setCell ⟨g, o + i * 2 + 1, none⟩ (.string x.f1)) B (.slice (some ⟨g, o, none⟩) (m.set i x).length cap) (m.set i x) := by
  unfold FRow at h ⊢
  rw [cells38_set, List.length_set]
  rw [show o + i * 2 + 1 = o + (i * 2 + 1) by omega]
  exact q_put (q_put h (by omega) _) (by omega) _
theorem frow_take {W : World} {B m c : Nat} {A : Option Addr} {xs : List S38} (h : FRow W B (.slice A xs.length c) xs) (hm : m ≤ xs.length) : FRow W B (.slice A (xs.take m).length c) (xs.take m) := by
  have := q_take h hm
  unfold FRow
  rw [cells38_take, List.length_take, Nat.min_eq_left hm]
  exact this
theorem frow_frozen {W : World} {B g o cap : Nat} {m : List S38} (h : FRow W B (.slice (some ⟨g, o, none⟩) m.length cap) m) (j : Nat) : W.frozen? ⟨g, j, none⟩ = false := by
  obtain ⟨_, cells, hc⟩ := q_typed h g rfl
  exact blk_frozen hc j
theorem zero38 (w : World) : (zeroValue 38).run Tryz.prog w = .ok (.agg #[.int .i64 0, .string ⟨#[]⟩]) w := by kernel_rfl
/-- 'clear' of the tail: the head stays. -/
theorem frow_clear {W : World} {B g o cap i : Nat} {m : List S38} (h : FRow W B (.slice (some ⟨g, o, none⟩) m.length cap) m) (hi : i < m.length) :
    ∃ w1, (∀ ty c, (Builtin.clear_ #[27] ty #[.slice (some ⟨g, o + i * 2, none⟩) (m.length - i) c]).run Tryz.prog W = .ok (.tuple #[]) w1) ∧ FRow w1 B (.slice (some ⟨g, o, none⟩) (m.take i).length cap) (m.take i) ∧ W.grownBy w1 (some g) := by
  obtain ⟨h1, h2⟩ := h
  rcases h2 with ⟨h0, _⟩ | ⟨g', off, cap', cur, he, hb, hh, hnc, hcm, hcs, ht⟩
  · omega
  · injection he with ha _ hc
    injection ha with ha
    injection ha with ha1 ha2
    subst ha1; subst ha2; subst hc
    obtain ⟨zs, hzs⟩ : ∃ zs, zs = (Builtin.zeroCells (Value.agg #[.int .i64 0, .string ⟨#[]⟩]).cells (m.length - i)).toList := ⟨_, rfl⟩
    have hzl : zs.length = (m.length - i) * 2 := by rw [hzs]; simp [Builtin.zeroCells, Value.cells]
    have hz1 : ∀ v ∈ zs, v.oneCell' = true := by
      rw [hzs]
      intro v hv
      rw [Builtin.zeroCells, Array.toList_map, List.mem_map] at hv
      obtain ⟨j, _, rfl⟩ := hv
      have hj : j % 2 = 0 ∨ j % 2 = 1 := by omega
      rcases hj with h | h <;> simp [Value.cells, h] <;> rfl
    have hst := run_storeCells_at (P := Tryz.prog) g (off * 2 + i * 2) 38 zs 0 cur W hh (by rw [hzl, hcs]; omega) hz1
    refine ⟨W.setRow g (cur.toList.take (off * 2 + i * 2) ++ zs ++ cur.toList.drop (off * 2 + i * 2 + zs.length)).toArray, fun ty c => ?_, ?_, ?_⟩
    · obtain ⟨q, hq⟩ : ∃ q, m.length - i = q + 1 := ⟨m.length - i - 1, by omega⟩
      rw [hq] at hzs ⊢
      simp only [Nat.add_zero] at hst
      simp [Builtin.clear_, run_underlying Tryz.underlying27, ← hzs, hst]
    · refine ⟨?_, .inr ⟨g, off, cap, _, by rw [List.length_take, Nat.min_eq_left (by omega)], hb, setRow_heap W g cur _ 38 (0, 0) hh, ?_, hcm, ?_, ?_⟩⟩
      · rw [cells38_length]
      · rw [List.length_take]; omega
      · rw [List.size_toArray]
        simp only [List.length_append, List.length_take, List.length_drop, Array.length_toList, hzl, hcs]
        omega
      · rw [cells38_take, ← ht, List.length_take, Nat.min_eq_left (by omega : i ≤ m.length)]
        simp only [List.append_assoc]
        rw [List.drop_append_of_le_length (by simp only [List.length_take, Array.length_toList, hcs]; omega)]
        rw [List.take_append_of_le_length (by simp only [List.length_drop, List.length_take, Array.length_toList, hcs]; omega)]
        rw [List.drop_take, List.take_take, List.take_take]
        congr 1
        omega
    · exact ⟨rfl, rfl, rfl, by simp, fun k _ hne => setRow_other W g k _ (fun h => hne (by rw [h]))⟩

theorem frow_form {W : World} {B cap : Nat} {A : Option Addr} {m : List S38} (h : FRow W B (.slice A m.length cap) m) (hn : 0 < m.length) : ∃ g o, A = some ⟨g, o, none⟩ ∧ B ≤ g := by
  rcases h.2 with ⟨h0, _⟩ | ⟨g, off, cap', cur, he, hb, _⟩
  · omega
  · injection he with ha
    exact ⟨g, off * 2, ha, hb⟩
theorem frow_cells {W : World} {B g o cap : Nat} {m : List S38} (h : FRow W B (.slice (some ⟨g, o, none⟩) m.length cap) m) (i : Nat) (hi : i < m.length) : W.cell? ⟨g, o + i * 2, none⟩ = some (.int .i64 m[i].f0) ∧ W.cell? ⟨g, o + i * 2 + 1, none⟩ = some (.string m[i].f1) := by
  obtain ⟨ad, hA, hc⟩ := q_cells h (by omega)
  obtain rfl := Option.some.inj hA
  have e : m[i]? = some m[i] := List.getElem?_eq_getElem hi
  have h0 := hc (i * 2 + 0) _ (cells38_get m i 0 m[i] e (by decide))
  have h1 := hc (i * 2 + 1) _ (cells38_get m i 1 m[i] e (by decide))
  rw [add_at] at h0 h1
  exact ⟨h0, by rw [Nat.add_assoc]; exact h1⟩
theorem idxP_some (p : S38 → Bool) : ∀ (l : List S38), idxP p l ≠ -1 → ∃ k : Nat, idxP p l = k ∧ ∃ h : k < l.length, p l[k] = true ∧ ∀ j (hj : j < k), p (l[j]'(Nat.lt_trans hj h)) = false
  | [], h => absurd rfl h
  | x :: r, h => by
    by_cases hx : p x = true
    · exact ⟨0, by unfold idxP; rw [if_pos hx]; rfl, by simp, hx, fun j hj => absurd hj (Nat.not_lt_zero _)⟩
    · have hr : idxP p r ≠ -1 := by
        intro e; apply h; unfold idxP; rw [if_neg hx, e, if_pos rfl]
      obtain ⟨k, hk, hl, hp, hn⟩ := idxP_some p r hr
      refine ⟨k + 1, by unfold idxP; rw [if_neg hx, hk, if_neg (by omega)]; omega, Nat.succ_lt_succ hl, hp, fun j hj => ?_⟩
      cases j with
      | zero => simpa using hx
      | succ j => exact hn j (Nat.lt_of_succ_lt_succ hj)
theorem filter_take (p : S38 → Bool) (l : List S38) (k : Nat) (hk : k ≤ l.length) (h : ∀ j (hj : j < k), p (l[j]'(Nat.lt_of_lt_of_le hj hk)) = false) : (l.take k).filter (fun x => !p x) = l.take k := by
  rw [List.filter_eq_self]
  intro x hx
  obtain ⟨j, hj, rfl⟩ := List.getElem_of_mem hx
  rw [List.getElem_take]
  rw [h j (by simp at hj; omega)]
  rfl
theorem filter_none (p : S38 → Bool) (l : List S38) (h : idxP p l = -1) : l.filter (fun x => !p x) = l := by
  rw [List.filter_eq_self]
  induction l with
  | nil => simp
  | cons x r ih =>
    unfold idxP at h
    by_cases hx : p x = true
    · rw [if_pos hx] at h; simp at h
    · rw [if_neg hx] at h
      have hr : idxP p r = -1 := by
        by_cases e : idxP p r = -1
        · exact e
        · rw [if_neg e] at h
          obtain ⟨k, hk, _⟩ := idxP_some p r e
          omega
      intro y hy
      rcases List.mem_cons.1 hy with rfl | hy
      · simpa using hx
      · exact ih hr y hy
theorem grown_of_below {w w' : World} {row : Option Nat} (h : Below w.heap.size w w') : w.grownBy w' row := ⟨h.os, h.tape, h.output, h.size, fun k hk _ => h.block k hk⟩
theorem grown_trans {w w' w'' : World} {row : Option Nat} (h : w.grownBy w' row) (k : w'.grownBy w'' row) : w.grownBy w'' row :=
  ⟨k.os.trans h.os, k.tape.trans h.tape, k.output.trans h.output, Nat.le_trans h.size k.size, fun i hi hne => (k.block i (Nat.lt_of_lt_of_le hi h.size) hne).trans (h.block i hi hne)⟩
theorem grown_cell {w w' : World} {g i : Nat} {u : Value} (h : w.grownBy w' (some g)) : w.grownBy (w'.setCell ⟨g, i, none⟩ u) (some g) :=
  grown_trans h ⟨rfl, rfl, rfl, by simp, fun k _ hne => Below.heap_setCell w' _ u k (fun e => hne (by rw [e]))⟩
/-- One element further: kept, or not. -/
theorem keep_step (p : S38 → Bool) (l m : List S38) (i j : Nat) (hj : j < l.length) (hij : i < j) (hm : m.length = l.length) (h1 : m.take i = (l.take j).filter (fun x => !p x)) (h2 : m.drop j = l.drop j) :
    (p l[j] = true → m.take i = (l.take (j + 1)).filter (fun x => !p x)) ∧ (p l[j] = false → (m.set i l[j]).take (i + 1) = (l.take (j + 1)).filter (fun x => !p x)) ∧ m.drop (j + 1) = l.drop (j + 1) ∧ (m.set i l[j]).drop (j + 1) = l.drop (j + 1) := by
  have e : l.take (j + 1) = l.take j ++ [l[j]] := by rw [List.take_add_one, List.getElem?_eq_getElem hj]; rfl
  have d : m.drop (j + 1) = l.drop (j + 1) := by
    rw [show j + 1 = j + 1 from rfl, ← List.drop_drop (i := 1) (j := j) , ← List.drop_drop (i := 1) (j := j), h2]
  refine ⟨fun h => ?_, fun h => ?_, d, ?_⟩
  · rw [e, List.filter_append, ← h1]
    simp [h]
  · rw [e, List.filter_append, ← h1]
    rw [List.take_add_one, List.take_set_of_le (by omega), List.getElem?_set_self (by omega)]
    simp [h]
  · rw [List.drop_set_of_lt (by omega)]; exact d

set_option maxHeartbeats 2000000 in
theorem del_no (n : Int) (p : Nat) (l : List S38) (A : Option Addr) (cp B : Nat) (w : World) (hp : w.heap[p]? = some (.cells #[.int .i64 n] 3 (0, 0))) (hr : FRow w B (.slice A l.length cp) l) (hB : B ≤ w.heap.size) :
    Calls Tryz.prog 33 #[.slice A l.length cp, .func (.func 38) #[] #[.pointer (some ⟨p, 0, none⟩)]] w fun e w' => ∃ A' c', e = .returned (.slice A' (l.filter (fun x => !(isNo n) x)).length c') ∧ FRow w' B (.slice A' (l.filter (fun x => !(isNo n) x)).length c') (l.filter (fun x => !(isNo n) x)) ∧ w.grownBy w' (Value.slice A l.length cp).ownBlock := by
  have HR := Aside0.mk hr
  have hlm := q_max hr
  have HI := Aside0.mk (idx_no n p l A cp w hp (frow_reads hr))
  have HP := Aside0.mk hp
  clear hp
  clear hr
  go_enter Tryz.func33, Tryz.ntmps33
  go_wp2_with fail
  refine Calls.mono HI.out ?_
  rintro e w1 ⟨rfl, hb1⟩
  have HR1 := Aside0.mk (frow_below HR.out hb1)
  have HB1 : Aside0 (w.grownBy w1 (Value.slice A l.length cp).ownBlock) := ⟨grown_of_below hb1⟩
  have hB1 : Aside0 (B ≤ w1.heap.size) := ⟨Nat.le_trans hB hb1.size⟩
  have HP1 := Aside0.mk (blk_below HP.out hb1)
  clear hb1 HI HR hB
  by_cases hi : idxP (isNo n) l = -1
  · have HF : Aside0 (l.filter (fun x => !(isNo n) x) = l) := ⟨filter_none (isNo n) l hi⟩
    rw [hi]
    go_wp2_with fail
    go_ret
    rw [HF.out]
    exact ⟨A, cp, rfl, HR1.out, HB1.out⟩
  · obtain ⟨i0, hi0, hl0, hp0, hn0⟩ := idxP_some (isNo n) l hi
    rw [hi0]
    obtain ⟨g, o, rfl, hBg⟩ := frow_form HR1.out (by omega)
    have hne : ((i0 : Int) == -1) = false := by rw [beq_eq_false_iff_ne]; omega
    have HF0 := filter_take (isNo n) l i0 (Nat.le_of_lt hl0) hn0
    have HS0 : Aside0 (l.take i0 = (l.take (i0 + 1)).filter (fun x => !(isNo n) x)) := ⟨by
      rw [List.take_add_one, List.getElem?_eq_getElem hl0, List.filter_append, HF0]
      simp [hp0]⟩
    clear hi hi0 hn0 hp0 HF0
    go_wp2_with fail
    go_loopw [6, 5] (fun v6 v5 wr => ∃ (j i : Nat) (m : List S38), i < j ∧ j ≤ l.length ∧ v6 = .int .i64 j ∧ v5 = .int .i64 i ∧ Aside0 (m.length = l.length ∧ m.take i = (l.take j).filter (fun x => !(isNo n) x) ∧ m.drop j = l.drop j) ∧ Aside0 (FRow wr B (.slice (some ⟨g, o, none⟩) m.length cp) m) ∧ Aside0 (w.grownBy wr (some g)) ∧ Aside0 (B ≤ wr.heap.size) ∧ Aside0 (wr.heap[p]? = some (.cells #[.int .i64 n] 3 (0, 0)))) (fun i _ _ => l.length - (intOf i).toNat)
    case atStart => exact ⟨i0 + 1, i0, l, by omega, by omega, by go_num, rfl, ⟨rfl, HS0.out, rfl⟩, HR1, HB1, hB1, HP1⟩
    case round =>
      clear HR1 HB1 hB1 HS0 hne hl0 HP1
      obtain ⟨j, i, m, hij, hjn, rfl, rfl, HM, HR2, HB2, hB2, HP2⟩ := hrel
      by_cases hlt : j < l.length
      · obtain ⟨hm1, hm2, hm3⟩ := HM.out
        have hjm : j < m.length := by omega
        obtain ⟨c0, c1⟩ := frow_cells HR2.out j hjm
        have hel : m[j] = l[j] := by
          have h := congrArg (fun x => x[0]?) hm3
          simp only [List.getElem?_drop, Nat.add_zero] at h
          rw [List.getElem?_eq_getElem hjm, List.getElem?_eq_getElem hlt] at h
          exact Option.some.inj h
        have HKS := Aside0.mk (keep_step (isNo n) l m i j hlt hij hm1 hm2 hm3)
        obtain ⟨x, hx⟩ : ∃ x, x = l[j] := ⟨_, rfl⟩
        rw [hel, ← hx] at c0 c1
        rw [← hx] at HKS
        obtain ⟨no, s⟩ := x
        dsimp only at c0 c1
        have hlti : (j : Int) < (l.length : Int) := by omega
        have HL : Aside0 (m.length = l.length) := ⟨hm1⟩
        clear hel hx hm1 hm2 hm3 hjm
        go_wp2_with fail
        have R3 := frow_below HR2.out (below_alloc (Below.refl _ _) (.cells #[.int .i64 no, .string s] 38))
        have x3 := blk_new wr (.cells #[.int .i64 no, .string s] 38)
        refine (isNo_any n no s p _ (blk_alloc HP2.out _)).mono ?_
        rintro e w3 ⟨rfl, hb3⟩
        have HR3 := Aside0.mk (frow_below R3 hb3)
        have HX3 := Aside0.mk (blk_below x3 hb3)
        have HB3 : Aside0 (w.grownBy w3 (some g)) := ⟨grown_trans (grown_trans HB2.out (grown_of_below (below_alloc (Below.refl _ _) (.cells #[.int .i64 no, .string s] 38)))) (grown_of_below hb3)⟩
        have hB3 : Aside0 (B ≤ w3.heap.size) := ⟨Nat.le_trans hB2.out (Nat.le_trans (by simp) hb3.size)⟩
        have HGX : Aside0 (g < wr.heap.size) := ⟨frow_lt HR2.out g rfl⟩
        obtain ⟨gx, hgx⟩ : ∃ gx, gx = wr.heap.size := ⟨_, rfl⟩
        rw [← hgx] at HX3 HGX ⊢
        have HP3 := Aside0.mk (blk_below (blk_alloc HP2.out (.cells #[.int .i64 no, .string s] 38)) hb3)
        clear hgx R3 x3 hb3 c0 c1
        have d0 := blk_cell HX3.out 0
        have d1 := blk_cell HX3.out 1
        simp only [List.getElem?_toArray, List.getElem?_cons_zero, List.getElem?_cons_succ] at d0 d1
        by_cases hq : (no == n) = true
        · have HK2 := Aside0.mk (HKS.out.1 hq)
          have HD2 := Aside0.mk HKS.out.2.2.1
          rw [hq]
          clear hq HKS HM
          go_wp2_with fail
          go_roundw
          case rel => exact ⟨j + 1, i, m, by omega, by omega, by go_num, rfl, ⟨HL.out, HK2.out, HD2.out⟩, HR3, HB3, hB3, HP3⟩
          case measure => simp [intOf]; omega
        · have hq' : (no == n) = false := by simpa using hq
          have HK2 := Aside0.mk (HKS.out.2.1 hq')
          have HD2 := Aside0.mk HKS.out.2.2.2
          rw [hq']
          have him : i < m.length := by have := HL.out; omega
          obtain ⟨o0, o1⟩ := frow_cells HR3.out i him
          have f0 := frow_frozen HR3.out (o + i * 2)
          have f1 := frow_frozen HR3.out (o + i * 2 + 1)
          have HR4 := Aside0.mk (frow_put HR3.out i him ⟨no, s⟩)
          have hpg : Aside0 (p ≠ g) := ⟨by obtain ⟨_, cells, hc⟩ := q_typed HR3.out g rfl; exact blk_ne HP3.out hc (by decide)⟩
          clear hq hq' HKS HM
          go_wp2_with fail
          refine ⟨⟨j + 1, i + 1, m.set i ⟨no, s⟩, by omega, by omega, by go_num, by go_num, ⟨by rw [List.length_set]; exact HL.out, HK2.out, HD2.out⟩, HR4, ⟨grown_cell (grown_cell HB3.out)⟩, ⟨by simpa using hB3.out⟩, ⟨blk_far (blk_far HP3.out (by exact hpg.out) _) (by exact hpg.out) _⟩⟩, ?_⟩
          simp only [intOf]; omega
      · obtain rfl : j = l.length := by omega
        obtain ⟨hm1, hm2, hm3⟩ := HM.out
        have him : i < m.length := by omega
        obtain ⟨w4, hcl, hf4, hg4⟩ := frow_clear HR2.out him
        have hcap : m.length ≤ cp := by
          obtain ⟨A', c', he, hc⟩ := frow_slice HR2.out
          injection he with _ _ h
          omega
        rw [List.take_length] at hm2
        rw [hm2] at hf4
        have hlen : (l.filter (fun x => !(isNo n) x)).length = i := by rw [← hm2, List.length_take]; omega
        rw [hm1] at hcl hcap him
        have HF4 := Aside0.mk hf4
        have HB4 := Aside0.mk (grown_trans HB2.out hg4)
        have HLN := Aside0.mk hlen
        have hnlt : ¬ ((l.length : Int) < (l.length : Int)) := by omega
        clear hf4 hg4 hlen hm1 hm2 hm3 HM HR2 HB2
        go_wp2_with fail
        go_ret
        exact ⟨some ⟨g, o, none⟩, cp, by rw [HLN.out]; rfl, HF4.out, HB4.out⟩

set_option maxHeartbeats 2000000 in
theorem del_mac (l : List S38) (A : Option Addr) (cp B : Nat) (w : World) (hr : FRow w B (.slice A l.length cp) l) (hB : B ≤ w.heap.size) :
    Calls Tryz.prog 33 #[.slice A l.length cp, .func (.func 35) #[] #[]] w fun e w' => ∃ A' c', e = .returned (.slice A' (l.filter (fun x => !isMac x)).length c') ∧ FRow w' B (.slice A' (l.filter (fun x => !isMac x)).length c') (l.filter (fun x => !isMac x)) ∧ w.grownBy w' (Value.slice A l.length cp).ownBlock := by
  have HR := Aside0.mk hr
  have hlm := q_max hr
  have HI := Aside0.mk (idx_mac l A cp w (frow_reads hr))
  clear hr
  go_enter Tryz.func33, Tryz.ntmps33
  go_wp2_with fail
  refine Calls.mono HI.out ?_
  rintro e w1 ⟨rfl, hb1⟩
  have HR1 := Aside0.mk (frow_below HR.out hb1)
  have HB1 : Aside0 (w.grownBy w1 (Value.slice A l.length cp).ownBlock) := ⟨grown_of_below hb1⟩
  have hB1 : Aside0 (B ≤ w1.heap.size) := ⟨Nat.le_trans hB hb1.size⟩
  clear hb1 HI HR hB
  by_cases hi : idxP isMac l = -1
  · have HF : Aside0 (l.filter (fun x => !isMac x) = l) := ⟨filter_none isMac l hi⟩
    rw [hi]
    go_wp2_with fail
    go_ret
    rw [HF.out]
    exact ⟨A, cp, rfl, HR1.out, HB1.out⟩
  · obtain ⟨i0, hi0, hl0, hp0, hn0⟩ := idxP_some isMac l hi
    rw [hi0]
    obtain ⟨g, o, rfl, hBg⟩ := frow_form HR1.out (by omega)
    have hne : ((i0 : Int) == -1) = false := by rw [beq_eq_false_iff_ne]; omega
    have HF0 := filter_take isMac l i0 (Nat.le_of_lt hl0) hn0
    have HS0 : Aside0 (l.take i0 = (l.take (i0 + 1)).filter (fun x => !isMac x)) := ⟨by
      rw [List.take_add_one, List.getElem?_eq_getElem hl0, List.filter_append, HF0]
      simp [hp0]⟩
    clear hi hi0 hn0 hp0 HF0
    go_wp2_with fail
    go_loopw [6, 5] (fun v6 v5 wr => ∃ (j i : Nat) (m : List S38), i < j ∧ j ≤ l.length ∧ v6 = .int .i64 j ∧ v5 = .int .i64 i ∧ Aside0 (m.length = l.length ∧ m.take i = (l.take j).filter (fun x => !isMac x) ∧ m.drop j = l.drop j) ∧ Aside0 (FRow wr B (.slice (some ⟨g, o, none⟩) m.length cp) m) ∧ Aside0 (w.grownBy wr (some g)) ∧ Aside0 (B ≤ wr.heap.size)) (fun i _ _ => l.length - (intOf i).toNat)
    case atStart => exact ⟨i0 + 1, i0, l, by omega, by omega, by go_num, rfl, ⟨rfl, HS0.out, rfl⟩, HR1, HB1, hB1⟩
    case round =>
      clear HR1 HB1 hB1 HS0 hne hl0
      obtain ⟨j, i, m, hij, hjn, rfl, rfl, HM, HR2, HB2, hB2⟩ := hrel
      by_cases hlt : j < l.length
      · obtain ⟨hm1, hm2, hm3⟩ := HM.out
        have hjm : j < m.length := by omega
        obtain ⟨c0, c1⟩ := frow_cells HR2.out j hjm
        have hel : m[j] = l[j] := by
          have h := congrArg (fun x => x[0]?) hm3
          simp only [List.getElem?_drop, Nat.add_zero] at h
          rw [List.getElem?_eq_getElem hjm, List.getElem?_eq_getElem hlt] at h
          exact Option.some.inj h
        have HKS := Aside0.mk (keep_step isMac l m i j hlt hij hm1 hm2 hm3)
        obtain ⟨x, hx⟩ : ∃ x, x = l[j] := ⟨_, rfl⟩
        rw [hel, ← hx] at c0 c1
        rw [← hx] at HKS
        obtain ⟨no, s⟩ := x
        dsimp only at c0 c1
        have hlti : (j : Int) < (l.length : Int) := by omega
        have HL : Aside0 (m.length = l.length) := ⟨hm1⟩
        clear hel hx hm1 hm2 hm3 hjm
        go_wp2_with fail
        have R3 := frow_below HR2.out (below_alloc (Below.refl _ _) (.cells #[.int .i64 no, .string s] 38))
        have x3 := blk_new wr (.cells #[.int .i64 no, .string s] 38)
        refine (isMac_any no s _).mono ?_
        rintro e w3 ⟨rfl, hb3⟩
        have HR3 := Aside0.mk (frow_below R3 hb3)
        have HX3 := Aside0.mk (blk_below x3 hb3)
        have HB3 : Aside0 (w.grownBy w3 (some g)) := ⟨grown_trans (grown_trans HB2.out (grown_of_below (below_alloc (Below.refl _ _) (.cells #[.int .i64 no, .string s] 38)))) (grown_of_below hb3)⟩
        have hB3 : Aside0 (B ≤ w3.heap.size) := ⟨Nat.le_trans hB2.out (Nat.le_trans (by simp) hb3.size)⟩
        have HGX : Aside0 (g < wr.heap.size) := ⟨frow_lt HR2.out g rfl⟩
        obtain ⟨gx, hgx⟩ : ∃ gx, gx = wr.heap.size := ⟨_, rfl⟩
        rw [← hgx] at HX3 HGX ⊢
        clear hgx R3 x3 hb3 c0 c1
        have d0 := blk_cell HX3.out 0
        have d1 := blk_cell HX3.out 1
        simp only [List.getElem?_toArray, List.getElem?_cons_zero, List.getElem?_cons_succ] at d0 d1
        by_cases hq : (no == 64) = true
        · have HK2 := Aside0.mk (HKS.out.1 hq)
          have HD2 := Aside0.mk HKS.out.2.2.1
          rw [hq]
          clear hq HKS HM
          go_wp2_with fail
          go_roundw
          case rel => exact ⟨j + 1, i, m, by omega, by omega, by go_num, rfl, ⟨HL.out, HK2.out, HD2.out⟩, HR3, HB3, hB3⟩
          case measure => simp [intOf]; omega
        · have hq' : (no == 64) = false := by simpa using hq
          have HK2 := Aside0.mk (HKS.out.2.1 hq')
          have HD2 := Aside0.mk HKS.out.2.2.2
          rw [hq']
          have him : i < m.length := by have := HL.out; omega
          obtain ⟨o0, o1⟩ := frow_cells HR3.out i him
          have f0 := frow_frozen HR3.out (o + i * 2)
          have f1 := frow_frozen HR3.out (o + i * 2 + 1)
          have HR4 := Aside0.mk (frow_put HR3.out i him ⟨no, s⟩)
          clear hq hq' HKS HM
          go_wp2_with fail
          refine ⟨⟨j + 1, i + 1, m.set i ⟨no, s⟩, by omega, by omega, by go_num, by go_num, ⟨by rw [List.length_set]; exact HL.out, HK2.out, HD2.out⟩, HR4, ⟨grown_cell (grown_cell HB3.out)⟩, ⟨by simpa using hB3.out⟩⟩, ?_⟩
          simp only [intOf]; omega
      · obtain rfl : j = l.length := by omega
        obtain ⟨hm1, hm2, hm3⟩ := HM.out
        have him : i < m.length := by omega
        obtain ⟨w4, hcl, hf4, hg4⟩ := frow_clear HR2.out him
        have hcap : m.length ≤ cp := by
          obtain ⟨A', c', he, hc⟩ := frow_slice HR2.out
          injection he with _ _ h
          omega
        rw [List.take_length] at hm2
        rw [hm2] at hf4
        have hlen : (l.filter (fun x => !isMac x)).length = i := by rw [← hm2, List.length_take]; omega
        rw [hm1] at hcl hcap him
        have HF4 := Aside0.mk hf4
        have HB4 := Aside0.mk (grown_trans HB2.out hg4)
        have HLN := Aside0.mk hlen
        have hnlt : ¬ ((l.length : Int) < (l.length : Int)) := by omega
        clear hf4 hg4 hlen hm1 hm2 hm3 HM HR2 HB2
        go_wp2_with fail
        go_ret
        exact ⟨some ⟨g, o, none⟩, cp, by rw [HLN.out]; rfl, HF4.out, HB4.out⟩
end Go.Proofs.YtbnbplppgbmkpaaGreatDoor

namespace Go.Proofs.YtbnbplppgbmkpaaGreatDoor
open Go.RowKit Go.Extern.Stop Go.Stop Go.Extern Go.Proofs.YtbnbplppgbmkpaaGreatDoorW.PrintLast Go.Proofs.YtbnbplppgbmkpaaGreatDoorW.PrintWords PSessionSeals

theorem encL_len (c o : Int) : ∀ (l : List S38) (b : List Int) (m : Nat × Nat) (b' : List Int) (m' : Nat × Nat), (∀ x ∈ l, ∃ k n, kindOf x.f0 = some (k, n) ∧ rightB k n x.f1 = true) → encL c o l b m = some (b', m') → b'.length ≤ b.length + 205 * l.length
  | [], b, m, b', m', _, h => by
    simp only [encL, Option.some.injEq, Prod.mk.injEq] at h
    rw [h.1]; omega
  | x :: r, b, m, b', m', hx, h => by
    rw [encL_cons] at h
    obtain ⟨k, n, hk, hr⟩ := hx x (by simp)
    have hz := right_size (kind_ok hk) hr
    cases ho : outF c o x with
    | none => rw [ho] at h; cases h
    | some t =>
      rw [ho] at h
      have ih := encL_len c o r _ _ b' m' (fun y hy => hx y (by simp [hy])) h
      have ht : t.size ≤ 205 := by
        unfold outF at ho
        rw [hk] at ho
        dsimp only at ho
        split at ho
        · split at ho
          · injection ho with ho
            have h1 := putF_size k c (x.f1.extract 2 x.f1.size)
            have h2 : (x.f1.extract 2 x.f1.size).size ≤ x.f1.size := by simp [ByteArray.size_extract]
            rw [ho] at h1
            omega
          · cases ho
        · injection ho with ho
          have h1 := putF_size k c x.f1
          rw [ho] at h1
          omega
      rw [List.length_append, bytesOf_length] at ih
      simp only [List.length_cons]
      omega
theorem encodeF_len (d typ : Int) (l : List S38) : (encodeF d typ l).1.length ≤ 10000 := by
  unfold encodeF
  split
  · rename_i hd
    unfold encF
    split
    · rename_i hc
      obtain ⟨ht, h24, hx⟩ := checkN_ok hc
      cases he : encL (diaV d).1 (diaV d).2.2 l [] (0, 0) with
      | none => simp
      | some bm =>
        obtain ⟨b, m⟩ := bm
        have h1 := encL_len _ _ l [] (0, 0) b m hx he
        have h2 := putF_size 1 (diaV d).1 (headS (diaV d).2.1 typ)
        have h3 := (head_ok (diaV d).2.1 typ (dia_ok hd).2.1 ht).2
        have h4 : ∀ n, (putF 4 (diaV d).1 (hex16 n)).size ≤ 21 := fun n => by
          have := putF_size 4 (diaV d).1 (hex16 n)
          rw [hex16_size] at this
          exact this
        simp only [List.length_nil] at h1
        show (allF _ _ _ _ _).length ≤ 10000
        unfold allF
        split
        · have h5 := h4 m.1
          simp only [List.length_append, bytesOf_length]
          omega
        · have h5 := h4 (m.1 ||| 2 ^ 63)
          have h6 := h4 m.2
          simp only [List.length_append, bytesOf_length]
          omega
    · simp
  · simp

def dig2 (c : Int) : List Int := [hexDig (c.toNat / 16), hexDig (c.toNat % 16)]
def digs (H : W8) (k : Nat) : List Int := ((toldN H 32).take k).flatMap dig2
def digV (H : W8) (k : Nat) : Array Value := ((digs H k ++ List.replicate (16 - 2 * k) 0).map (Value.int .u8)).toArray
/-- A mac's text. -/
def macS (H : W8) : ByteArray := strOfNums (digs H 8)
/-- What mac gives. -/
def macR (ks key : List Int) (d typ : Int) (l : List S38) : ByteArray × Int :=
  if (encodeF d typ (l.filter (fun x => !isMac x))).2 = 0 then (macS (macF ks key (encodeF d typ (l.filter (fun x => !isMac x))).1), 0) else (⟨#[]⟩, (encodeF d typ (l.filter (fun x => !isMac x))).2)
theorem digs_succ (H : W8) (k : Nat) (hk : k < 32) : digs H (k + 1) = digs H k ++ dig2 (rd (toldN H 32) (k : Int)) := by
  have hl : k < (toldN H 32).length := by rw [toldN_length]; exact hk
  unfold digs
  rw [List.take_add_one, List.getElem?_eq_getElem hl, List.flatMap_append]
  simp [rd, hl]
theorem digs_length (H : W8) : ∀ k, k ≤ 32 → (digs H k).length = 2 * k
  | 0, _ => rfl
  | k + 1, h => by
    rw [digs_succ H k (by omega), List.length_append, digs_length H k (by omega)]
    simp only [dig2, List.length_cons, List.length_nil]
    omega
theorem digV_size (H : W8) (k : Nat) (hk : k ≤ 8) : (digV H k).size = 16 := by
  simp only [digV, List.size_toArray, List.length_map, List.length_append, List.length_replicate, digs_length H k (by omega)]
  omega
theorem digV_succ (H : W8) (k : Nat) (hk : k < 8) : ((digV H k).setIfInBounds (2 * k) (.int .u8 (hexDig ((rd (toldN H 32) (k : Int)).toNat / 16)))).setIfInBounds (2 * k + 1) (.int .u8 (hexDig ((rd (toldN H 32) (k : Int)).toNat % 16))) = digV H (k + 1) := by
  have hl := digs_length H k (by omega)
  unfold digV
  rw [digs_succ H k (by omega), List.setIfInBounds_toArray, List.setIfInBounds_toArray]
  congr 1
  obtain ⟨r, hr⟩ : ∃ r, 16 - 2 * k = r + 2 := ⟨16 - 2 * k - 2, by omega⟩
  rw [hr, show 16 - 2 * (k + 1) = r by omega, List.replicate_succ, List.replicate_succ]
  simp only [List.map_append, List.map_cons]
  rw [List.set_append_right _ _ (by simp [hl]), List.set_append_right _ _ (by simp [hl])]
  simp [hl, dig2]
theorem toldN_range (h : W8) : ∀ (m : Nat) (x : Int), x ∈ toldN h m → 0 ≤ x ∧ x < 256
  | 0, x, hx => by
    rw [toldN] at hx
    rw [List.eq_of_mem_replicate hx]
    omega
  | m + 1, x, hx => by
    rw [toldN] at hx
    rcases List.mem_or_eq_of_mem_set hx with hx | rfl
    · exact toldN_range h m x hx
    · unfold byteAt
      omega
theorem dig_u8 (d : Nat) (hd : d < 16) (w : World) : (Instr.index 9 (.string ⟨#[48, 49, 50, 51, 52, 53, 54, 55, 56, 57, 97, 98, 99, 100, 101, 102]⟩) (.int .u8 (d : Int))).run Tryz.prog w = .ok (.int .u8 (hexDig d)) w := by
  have : d = 0 ∨ d = 1 ∨ d = 2 ∨ d = 3 ∨ d = 4 ∨ d = 5 ∨ d = 6 ∨ d = 7 ∨ d = 8 ∨ d = 9 ∨ d = 10 ∨ d = 11 ∨ d = 12 ∨ d = 13 ∨ d = 14 ∨ d = 15 := by omega
  clear hd
  rcases this with h | h | h | h | h | h | h | h | h | h | h | h | h | h | h | h <;> (subst h; exact Eq.trans (by kernel_rfl) rfl)
theorem and_u8 : ∀ c : Fin 256, Go.bits .and .u8 (c.val : Int) 15 = ((c.val % 16 : Nat) : Int) := by decide +kernel

set_option maxRecDepth 100000 in
set_option maxHeartbeats 2000000 in
theorem mac_any (ks key : List Int) (code : ByteArray) (s0 s1 : Value) (d typ : Int) (l : List S38) (A AK : Option Addr) (cp ck : Nat) (w : World) (hr : Kd.C k38 w A l.length l) (hl : l.length ≤ 1000000000000) (hs : ∀ x ∈ l, x.f1.size ≤ maxLen) (ht : Env w) (hk : Kd.C (Kd.int .u8) w AK key.length key) (hkl : key.length ≤ 140737488355328) (hks : ∀ i, i < 64 → w.cell? ⟨4, i, none⟩ = some (.int .u32 (ks.getD i 0))) :
    Calls Tryz.prog 27 #[.agg #[.string code, .int .i64 d, .slice AK key.length ck, s0, s1], .agg #[.int .i64 typ, .slice A l.length cp]] w fun e w' => e = .returned (.tuple #[.string (macR ks key d typ l).1, .int .i64 (macR ks key d typ l).2]) ∧ Below w.heap.size w w' := by
  have HT := Aside0.mk ht
  have HS := Aside0.mk hs
  have HK := Aside0.mk hk
  have B0 := below_alloc (below_alloc (Below.refl w.heap.size w) (.cells #[.string code, .int .i64 d, .slice AK key.length ck, s0, s1] 26)) (.cells #[.int .i64 typ, .slice A l.length cp] 29)
  have HR0 := Aside0.mk (Kd.C_below hr B0)
  have HKS := Aside0.mk hks
  have h4 : 4 < w.heap.size := Nat.lt_of_lt_of_le (by decide) ht.deb.lt
  clear ht hr hs hk hks
  go_enter Tryz.func27, Tryz.ntmps27
  go_wp2_with fail
  have b0 := blk_alloc (blk_new w (.cells #[.string code, .int .i64 d, .slice AK key.length ck, s0, s1] 26)) (.cells #[.int .i64 typ, .slice A l.length cp] 29)
  have b1 := blk_new (w.alloc (.cells #[.string code, .int .i64 d, .slice AK key.length ck, s0, s1] 26)) (.cells #[.int .i64 typ, .slice A l.length cp] 29)
  rw [World.size_alloc] at b1
  obtain ⟨W0, hW0⟩ : ∃ W0, W0 = (w.alloc (.cells #[.string code, .int .i64 d, .slice AK key.length ck, s0, s1] 26)).alloc (.cells #[.int .i64 typ, .slice A l.length cp] 29) := ⟨_, rfl⟩
  rw [← hW0] at B0 HR0 b0 b1 ⊢
  clear hW0
  refine start_ (n := 9) (S := fun w' => w'.cell? ⟨w.heap.size + 1, 0, none⟩ = some (.int .i64 typ) ∧ w'.cell? ⟨w.heap.size + 1, 1, none⟩ = some (.slice A l.length cp)) (ds := [8]) #[false, false, false, false, false, false, false, false, false] (by kernel_rfl) rfl rfl ⟨(blk_cell (blk_drew b1) 0), (blk_cell (blk_drew b1) 1)⟩ (fun hHeld => ?_)
  refine pure_ (i := 0) (N := some 13) (v := ?_) (a' := ?_) #[true, false, false, false, false, false, false, false, false] rfl rfl (by kernel_rfl) (fun _ _ _ h => h) (Or.inl ⟨by rfl, ?_⟩) ?_ ?_
  rotate_left
  · intro w'
    go_simp
    with_reducible rfl
  rotate_left
  · simp only [Act.put, List.setIfInBounds_toArray, List.set_cons_zero, List.set_cons_succ]
    rfl
  refine pure_ (i := 2) (N := some 15) (v := ?_) (a' := ?_) #[true, false, true, false, false, false, false, false, false] rfl rfl (by kernel_rfl) (fun _ _ _ h => h) (Or.inl ⟨by rfl, ?_⟩) ?_ ?_
  rotate_left
  · intro w'
    go_simp
    with_reducible rfl
  rotate_left
  · simp only [Act.put, List.setIfInBounds_toArray, List.set_cons_zero, List.set_cons_succ]
    rfl
  refine take_ (i := 1) (N := some 14) (v := ?_) (a' := ?_) #[true, true, true, false, false, false, false, false, false] rfl rfl (by kernel_rfl) (fun _ _ _ h => h) (Or.inl ⟨by rfl, ?_⟩) hHeld ?_ ?_
  rotate_left
  · rintro w' ⟨s0, s1⟩
    go_simp
    with_reducible rfl
  rotate_left
  · simp only [Act.put, List.setIfInBounds_toArray, List.set_cons_zero, List.set_cons_succ]
    rfl
  refine take_ (i := 3) (N := some 16) (v := ?_) (a' := ?_) #[true, true, true, true, false, false, false, false, false] rfl rfl (by kernel_rfl) (fun _ _ _ h => h) (Or.inl ⟨by rfl, ?_⟩) hHeld ?_ ?_
  rotate_left
  · rintro w' ⟨s0, s1⟩
    go_simp
    with_reducible rfl
  rotate_left
  · simp only [Act.put, List.setIfInBounds_toArray, List.set_cons_zero, List.set_cons_succ]
    rfl
  refine join_ (σ := Option Addr × Nat × Option Addr × Nat × Nat) 1 #[true, true, true, true, true, true, true, true, false] (fun s => [(17, .slice s.1 l.length s.2.1), (18, .slice s.2.2.1 (l.filter (fun x => !isMac x)).length s.2.2.2.1), (6, .pointer (some ⟨s.2.2.2.2, 0, none⟩)), (19, .agg #[.int .i64 typ, .slice s.2.2.1 (l.filter (fun x => !isMac x)).length s.2.2.2.1])]) (fun s w' => Aside0 (FRow w' W0.heap.size (.slice s.2.2.1 (l.filter (fun x => !isMac x)).length s.2.2.2.1) (l.filter (fun x => !isMac x)) ∧ w'.heap[s.2.2.2.2]? = some (.cells #[.int .i64 0, .slice none 0 0] 29 (0, 0)) ∧ Below W0.heap.size W0 w' ∧ W0.heap.size ≤ s.2.2.2.2)) ?_ ?_
  rotate_left
  · intro hCont
    refine two_ (i := 4) (j := 7) (Ni := some 17) (Nj := some 6) #[true, true, true, true, true, false, false, false, false] #[true, true, true, true, false, false, false, true, false] rfl rfl rfl rfl (by kernel_rfl) (by decide) (by decide) (fun K hK => ?_) (fun K hK => ?_)
    · skip
      refine goes_ Tryz.func34 (by kernel_rfl) rfl #[.slice A l.length cp] (by rfl) rfl rfl (by simp only [List.map_toArray, List.map_cons, List.map_nil]; rfl) ?_
      with_reducible refine (Clone_any l A cp _ (Kd.C_drew HR0.out) hl).mono ?_
      rintro e w2 ⟨A2, c2, rfl, hq2, hb2⟩
      refine ⟨_, rfl, ?_⟩
      have hb2x : Below W0.heap.size W0 w2 := (below_drew (Below.refl _ _)).trans hb2
      replace hq2 : FRow w2 W0.heap.size (.slice A2 l.length c2) l := hq2
      refine hK.out _ _ ⟨(blk_cell (blk_below b1 hb2x) 0), (blk_cell (blk_below b1 hb2x) 1)⟩ (fun hHeld => ?_)
      clear hK K
      refine norm_ (a' := ?_) ?_ ?_
      rotate_left
      · show Act.put _ (some 17) _ = _
        simp only [Act.put, List.setIfInBounds_toArray, List.set_cons_zero, List.set_cons_succ]
        rfl
      refine two_ (i := 5) (j := 7) (Ni := some 18) (Nj := some 6) #[true, true, true, true, true, true, false, false, false] #[true, true, true, true, true, false, false, true, false] rfl rfl rfl rfl (by kernel_rfl) (by decide) (by decide) (fun K hK => ?_) (fun K hK => ?_)
      · skip
        refine goes_ Tryz.func33 (by kernel_rfl) rfl #[.slice A2 l.length c2, .func (.func 35) #[] #[]] (by rfl) rfl rfl (by simp only [List.map_toArray, List.map_cons, List.map_nil]; rfl) ?_
        with_reducible refine (del_mac l A2 c2 W0.heap.size w2 hq2 hb2x.size).mono ?_
        rintro e w3 ⟨A3, c3, rfl, hq3, hg3⟩
        refine ⟨_, rfl, ?_⟩
        have hb3x : Below W0.heap.size W0 w3 := hb2x.grown hg3 hb2x.size (fun k hk => frow_base hq2 k hk)
        refine hK.out _ _ ⟨(blk_cell (blk_below b1 hb3x) 0), (blk_cell (blk_below b1 hb3x) 1)⟩ (fun hHeld => ?_)
        clear hK K
        refine norm_ (a' := ?_) ?_ ?_
        rotate_left
        · show Act.put _ (some 18) _ = _
          simp only [Act.put, List.setIfInBounds_toArray, List.set_cons_zero, List.set_cons_succ]
          rfl
        refine pure_ (i := 6) (N := some 19) (v := ?_) (a' := ?_) #[true, true, true, true, true, true, true, false, false] rfl rfl (by kernel_rfl) (fun _ _ _ h => h) (Or.inl ⟨by rfl, ?_⟩) ?_ ?_
        rotate_left
        · intro w'
          go_simp
          with_reducible rfl
        rotate_left
        · simp only [Act.put, List.setIfInBounds_toArray, List.set_cons_zero, List.set_cons_succ]
          rfl
        refine one_ (i := 7) (N := some 6) #[true, true, true, true, true, true, true, true, false] rfl rfl (by kernel_rfl) (by decide) (fun K hK => ?_)
        refine value_ (w1 := ?_) (v := ?_) (by rfl) rfl ?_ ?_
        rotate_left 2
        · go_simp
          constructor
          · rfl
          · rfl
        have hz3 := blk_new w3 (.cells #[.int .i64 0, .slice none 0 0] 29)
        refine hK.out _ _ ⟨(blk_cell (blk_alloc (blk_below b1 hb3x) (.cells #[.int .i64 0, .slice none 0 0] 29)) 0), (blk_cell (blk_alloc (blk_below b1 hb3x) (.cells #[.int .i64 0, .slice none 0 0] 29)) 1)⟩ (fun hHeld => ?_)
        clear hK K
        refine norm_ (a' := ?_) ?_ ?_
        rotate_left
        · show Act.put _ (some 6) _ = _
          simp only [Act.put, List.setIfInBounds_toArray, List.set_cons_zero, List.set_cons_succ]
          rfl
        exact norm_ (by simp only [putAll, Act.put, List.setIfInBounds_toArray, List.set_cons_zero, List.set_cons_succ]) (hCont (A2, c2, A3, c3, w3.heap.size) _ ⟨frow_below hq3 (below_alloc (Below.refl _ _) _), hz3, below_alloc hb3x _, hb3x.size⟩)
      · skip
        refine value_ (w1 := ?_) (v := ?_) (by rfl) rfl ?_ ?_
        rotate_left 2
        · go_simp
          constructor
          · rfl
          · rfl
        have hz1 := blk_new w2 (.cells #[.int .i64 0, .slice none 0 0] 29)
        refine hK.out _ _ ⟨(blk_cell (blk_alloc (blk_below b1 hb2x) (.cells #[.int .i64 0, .slice none 0 0] 29)) 0), (blk_cell (blk_alloc (blk_below b1 hb2x) (.cells #[.int .i64 0, .slice none 0 0] 29)) 1)⟩ (fun hHeld => ?_)
        clear hK K
        refine norm_ (a' := ?_) ?_ ?_
        rotate_left
        · show Act.put _ (some 6) _ = _
          simp only [Act.put, List.setIfInBounds_toArray, List.set_cons_zero, List.set_cons_succ]
          rfl
        refine one_ (i := 5) (N := some 18) #[true, true, true, true, true, true, false, true, false] rfl rfl (by kernel_rfl) (by decide) (fun K hK => ?_)
        refine goes_ Tryz.func33 (by kernel_rfl) rfl #[.slice A2 l.length c2, .func (.func 35) #[] #[]] (by rfl) rfl rfl (by simp only [List.map_toArray, List.map_cons, List.map_nil]; rfl) ?_
        with_reducible refine (del_mac l A2 c2 W0.heap.size _ (frow_below hq2 (below_alloc (Below.refl _ _) _)) (Nat.le_trans hb2x.size (by simp))).mono ?_
        rintro e w3 ⟨A3, c3, rfl, hq3, hg3⟩
        refine ⟨_, rfl, ?_⟩
        have hb3x : Below W0.heap.size W0 w3 := (below_alloc hb2x _).grown hg3 (Nat.le_trans hb2x.size (by simp)) (fun k hk => frow_base hq2 k hk)
        have hz3 := blk_grown hz1 hg3 (fun e => absurd (frow_lt hq2 _ e.symm) (Nat.lt_irrefl _))
        refine hK.out _ _ ⟨(blk_cell (blk_below b1 hb3x) 0), (blk_cell (blk_below b1 hb3x) 1)⟩ (fun hHeld => ?_)
        clear hK K
        refine norm_ (a' := ?_) ?_ ?_
        rotate_left
        · show Act.put _ (some 18) _ = _
          simp only [Act.put, List.setIfInBounds_toArray, List.set_cons_zero, List.set_cons_succ]
          rfl
        refine pure_ (i := 6) (N := some 19) (v := ?_) (a' := ?_) #[true, true, true, true, true, true, true, true, false] rfl rfl (by kernel_rfl) (fun _ _ _ h => h) (Or.inl ⟨by rfl, ?_⟩) ?_ ?_
        rotate_left
        · intro w'
          go_simp
          with_reducible rfl
        rotate_left
        · simp only [Act.put, List.setIfInBounds_toArray, List.set_cons_zero, List.set_cons_succ]
          rfl
        exact norm_ (by simp only [putAll, Act.put, List.setIfInBounds_toArray, List.set_cons_zero, List.set_cons_succ]) (hCont (A2, c2, A3, c3, w2.heap.size) _ ⟨hq3, hz3, hb3x, hb2x.size⟩)
    · skip
      refine value_ (w1 := ?_) (v := ?_) (by rfl) rfl ?_ ?_
      rotate_left 2
      · go_simp
        constructor
        · rfl
        · rfl
      have hz0 : ((W0.alloc (.cells #[.int .i64 0, .slice none 0 0] 29)).drew).heap[W0.heap.size]? = some (.cells #[.int .i64 0, .slice none 0 0] 29 (0, 0)) := blk_drew (blk_new W0 _)
      have hbz : Below W0.heap.size W0 ((W0.alloc (.cells #[.int .i64 0, .slice none 0 0] 29)).drew) := below_drew (below_alloc (Below.refl _ _) _)
      refine hK.out _ _ ⟨(blk_cell (blk_below b1 hbz) 0), (blk_cell (blk_below b1 hbz) 1)⟩ (fun hHeld => ?_)
      clear hK K
      refine norm_ (a' := ?_) ?_ ?_
      rotate_left
      · show Act.put _ (some 6) _ = _
        simp only [Act.put, List.setIfInBounds_toArray, List.set_cons_zero, List.set_cons_succ]
        rfl
      refine one_ (i := 4) (N := some 17) #[true, true, true, true, true, false, false, true, false] rfl rfl (by kernel_rfl) (by decide) (fun K hK => ?_)
      refine goes_ Tryz.func34 (by kernel_rfl) rfl #[.slice A l.length cp] (by rfl) rfl rfl (by simp only [List.map_toArray, List.map_cons, List.map_nil]; rfl) ?_
      with_reducible refine (Clone_any l A cp _ (Kd.C_drew (Kd.C_alloc HR0.out _)) hl).mono ?_
      rintro e w2 ⟨A2, c2, rfl, hq2, hb2⟩
      refine ⟨_, rfl, ?_⟩
      have hb2x : Below W0.heap.size W0 w2 := hbz.trans (hb2.mono hbz.size)
      have hz2 := blk_below hz0 hb2
      refine hK.out _ _ ⟨(blk_cell (blk_below b1 hb2x) 0), (blk_cell (blk_below b1 hb2x) 1)⟩ (fun hHeld => ?_)
      clear hK K
      refine norm_ (a' := ?_) ?_ ?_
      rotate_left
      · show Act.put _ (some 17) _ = _
        simp only [Act.put, List.setIfInBounds_toArray, List.set_cons_zero, List.set_cons_succ]
        rfl
      refine one_ (i := 5) (N := some 18) #[true, true, true, true, true, true, false, true, false] rfl rfl (by kernel_rfl) (by decide) (fun K hK => ?_)
      refine goes_ Tryz.func33 (by kernel_rfl) rfl #[.slice A2 l.length c2, .func (.func 35) #[] #[]] (by rfl) rfl rfl (by simp only [List.map_toArray, List.map_cons, List.map_nil]; rfl) ?_
      with_reducible refine (del_mac l A2 c2 _ w2 hq2 hb2.size).mono ?_
      rintro e w3 ⟨A3, c3, rfl, hq3, hg3⟩
      refine ⟨_, rfl, ?_⟩
      have hb3x : Below W0.heap.size W0 w3 := hb2x.grown hg3 hb2x.size (fun k hk => Nat.le_trans hbz.size (frow_base hq2 k hk))
      have hz3 := blk_grown hz2 hg3 (fun e => absurd (frow_base hq2 _ e.symm) (by simp))
      refine hK.out _ _ ⟨(blk_cell (blk_below b1 hb3x) 0), (blk_cell (blk_below b1 hb3x) 1)⟩ (fun hHeld => ?_)
      clear hK K
      refine norm_ (a' := ?_) ?_ ?_
      rotate_left
      · show Act.put _ (some 18) _ = _
        simp only [Act.put, List.setIfInBounds_toArray, List.set_cons_zero, List.set_cons_succ]
        rfl
      refine pure_ (i := 6) (N := some 19) (v := ?_) (a' := ?_) #[true, true, true, true, true, true, true, true, false] rfl rfl (by kernel_rfl) (fun _ _ _ h => h) (Or.inl ⟨by rfl, ?_⟩) ?_ ?_
      rotate_left
      · intro w'
        go_simp
        with_reducible rfl
      rotate_left
      · simp only [Act.put, List.setIfInBounds_toArray, List.set_cons_zero, List.set_cons_succ]
        rfl
      exact norm_ (by simp only [putAll, Act.put, List.setIfInBounds_toArray, List.set_cons_zero, List.set_cons_succ]) (hCont (A2, c2, A3, c3, W0.heap.size) _ ⟨frow_weaken hq3 hbz.size, hz3, hb3x, Nat.le_refl _⟩)
  rintro ⟨A2, c2, A3, c3, g6⟩ w4 hF
  have hHeld := And.intro (blk_cell (blk_below b1 hF.out.2.2.1) 0) (blk_cell (blk_below b1 hF.out.2.2.1) 1)
  have e0 := blk_cell hF.out.2.1 0
  have e1 := blk_cell hF.out.2.1 1
  simp only [List.getElem?_toArray, List.getElem?_cons_zero, List.getElem?_cons_succ] at e0 e1
  have ef0 := blk_frozen hF.out.2.1 0
  have ef1 := blk_frozen hF.out.2.1 1
  dsimp only
  refine norm_ (a' := ?_) ?_ ?_
  rotate_left
  · simp only [putAll, Act.put, List.setIfInBounds_toArray, List.set_cons_zero, List.set_cons_succ]
    rfl
  refine last_ (i := 8) (N := none) #[true, true, true, true, true, true, true, true, true] rfl rfl (by kernel_rfl) (by decide) (fun K hK => ?_)
  refine skip_ (w1 := ?_) (by rfl) rfl ?_ ?_
  rotate_left
  · go_simp
    rfl
  refine hK.out _ _ ?_
  clear hK K
  refine done_ (by kernel_rfl) ?_

  obtain ⟨hq4, hz4, hb4, hg6⟩ := hF.out
  replace hg6 : W0.heap.size ≤ g6 := hg6
  have hrow : ∀ k, (Value.slice A3 (l.filter (fun x => !isMac x)).length c3).ownBlock = some k → k ≠ g6 := fun k hk e => by
    obtain ⟨_, cells, hc⟩ := q_typed hq4 k hk
    rw [e, hz4] at hc
    injection hc with hc
    injection hc with _ hc
    exact absurd hc (by decide)
  have HSL : Aside0 (∀ x ∈ l.filter (fun x => !isMac x), x.f1.size ≤ maxLen) := ⟨fun x hx => HS.out x (List.mem_filter.1 hx).1⟩
  obtain ⟨bl, hbl⟩ : ∃ bl, bl = l.filter (fun x => !isMac x) := ⟨_, rfl⟩
  rw [← hbl] at hq4 hrow HSL ⊢
  obtain ⟨w5, hw5⟩ : ∃ w5, w5 = ((w4.setCell ⟨g6, 0, none⟩ (.int .i64 typ)).setCell ⟨g6, 1, none⟩ (.slice A3 bl.length c3)) := ⟨_, rfl⟩
  have Q5 : Aside0 (FRow w5 W0.heap.size (.slice A3 bl.length c3) bl) :=
    ⟨by rw [hw5]; exact frow_move hq4 (fun k hk => (Below.heap_setCell _ _ _ k (hrow k hk)).trans (Below.heap_setCell _ _ _ k (hrow k hk)))⟩
  have Z5 : Aside0 (w5.heap[g6]? = some (.cells #[.int .i64 typ, .slice A3 bl.length c3] 29 (0, 0))) :=
    ⟨by rw [hw5]; exact blk_put (blk_put hz4 0 _ rfl) 1 _ rfl⟩
  have B5 : Aside0 (Below W0.heap.size W0 w5) :=
    ⟨by rw [hw5]; exact (hb4.setCell hg6 _).setCell hg6 _⟩
  rw [← hw5]
  have M5 := Aside0.mk (blk_below b0 B5.out)
  have W5 : Aside0 (Below w.heap.size w w5) := ⟨B0.trans (B5.out.mono B0.size)⟩
  have HBL := Aside0.mk hbl
  clear hw5 hbl hq4 hz4 hb4 hg6 hrow hF e0 e1 ef0 ef1 hHeld b0 b1 B0 HR0 HS
  have c0 := blk_cell Z5.out 0
  have c1 := blk_cell Z5.out 1
  have d0 := blk_cell M5.out 0
  have d1 := blk_cell M5.out 1
  have d2 := blk_cell M5.out 2
  simp only [List.getElem?_toArray, List.getElem?_cons_zero, List.getElem?_cons_succ] at c0 c1 d0 d1 d2
  go_wp2_with fail
  refine (Encode_any d typ bl A3 c3 _ (frow_reads Q5.out) HSL.out (HT.out.below W5.out)).mono ?_
  rintro e w6 ⟨A6, c6, rfl, hk6, hb6⟩
  obtain ⟨eb, hee⟩ : ∃ eb, eb = encodeF d typ bl := ⟨_, rfl⟩
  rw [← hee] at hk6 ⊢
  obtain ⟨bs, en⟩ := eb
  dsimp only at hk6 ⊢
  have HEE := Aside0.mk hee
  have HBS : Aside0 (bs.length ≤ 10000) := ⟨by have := encodeF_len d typ bl; rw [← HEE.out] at this; exact this⟩
  have K6 := Aside0.mk hk6
  have W6 : Aside0 (Below w.heap.size w w6) := ⟨W5.out.trans (hb6.mono W5.out.size)⟩
  have M6 := Aside0.mk (blk_below M5.out hb6)
  clear hee hk6 hb6 c0 c1 d0 d1 d2 M5 Z5 Q5 B5 W5 HSL
  by_cases hen : en = 0
  · subst hen
    have d2 := blk_cell (blk_alloc M6.out (.cells #[.int .u8 0, .int .u8 0, .int .u8 0, .int .u8 0, .int .u8 0, .int .u8 0, .int .u8 0, .int .u8 0, .int .u8 0, .int .u8 0, .int .u8 0, .int .u8 0, .int .u8 0, .int .u8 0, .int .u8 0, .int .u8 0] 77)) 2
    simp only [List.getElem?_toArray, List.getElem?_cons_zero, List.getElem?_cons_succ] at d2
    have W7 : Aside0 (Below w.heap.size w (w6.alloc (.cells #[.int .u8 0, .int .u8 0, .int .u8 0, .int .u8 0, .int .u8 0, .int .u8 0, .int .u8 0, .int .u8 0, .int .u8 0, .int .u8 0, .int .u8 0, .int .u8 0, .int .u8 0, .int .u8 0, .int .u8 0, .int .u8 0] 77))) := ⟨below_alloc W6.out _⟩
    have Z7 : Aside0 ((w6.alloc (.cells #[.int .u8 0, .int .u8 0, .int .u8 0, .int .u8 0, .int .u8 0, .int .u8 0, .int .u8 0, .int .u8 0, .int .u8 0, .int .u8 0, .int .u8 0, .int .u8 0, .int .u8 0, .int .u8 0, .int .u8 0, .int .u8 0] 77)).heap[w6.heap.size]? = some (.cells #[.int .u8 0, .int .u8 0, .int .u8 0, .int .u8 0, .int .u8 0, .int .u8 0, .int .u8 0, .int .u8 0, .int .u8 0, .int .u8 0, .int .u8 0, .int .u8 0, .int .u8 0, .int .u8 0, .int .u8 0, .int .u8 0] 77 (0, 0))) := ⟨blk_new _ _⟩
    go_wp2_with fail
    obtain ⟨w7, hw7⟩ : ∃ w7, w7 = w6.alloc (.cells #[.int .u8 0, .int .u8 0, .int .u8 0, .int .u8 0, .int .u8 0, .int .u8 0, .int .u8 0, .int .u8 0, .int .u8 0, .int .u8 0, .int .u8 0, .int .u8 0, .int .u8 0, .int .u8 0, .int .u8 0, .int .u8 0] 77) := ⟨_, rfl⟩
    obtain ⟨gs, hgs⟩ : ∃ gs, gs = w6.heap.size := ⟨_, rfl⟩
    have hgsB : Aside0 (w.heap.size ≤ gs) := ⟨by rw [hgs]; exact W6.out.size⟩
    have K7 := Aside0.mk (Kd.C_below K6.out (below_alloc (Below.refl _ _) (.cells #[.int .u8 0, .int .u8 0, .int .u8 0, .int .u8 0, .int .u8 0, .int .u8 0, .int .u8 0, .int .u8 0, .int .u8 0, .int .u8 0, .int .u8 0, .int .u8 0, .int .u8 0, .int .u8 0, .int .u8 0, .int .u8 0] 77)))
    rw [← hw7] at W7 Z7 K7 ⊢
    rw [← hgs] at Z7 ⊢
    clear hw7 hgs d2 K6 W6 M6
    refine (Mac_any ks key bs AK A6 ck c6 w7 (Kd.C_below HK.out W7.out) K7.out hkl (by have := HBS.out; omega) (fun i hi => (W7.out.cell (p := ⟨4, i, none⟩) h4).trans (HKS.out i hi))).mono ?_
    rintro e w8 ⟨rfl, hb8⟩
    have W8' := Aside0.mk (W7.out.trans (hb8.mono W7.out.size))
    have Z8 := Aside0.mk (blk_below Z7.out hb8)
    clear hb8 W7 Z7 K7
    obtain ⟨H, hH⟩ : ∃ H, H = macF ks key bs := ⟨_, rfl⟩
    rw [← hH]
    have HHH := Aside0.mk hH
    clear hH
    have HRES : Aside0 (macR ks key d typ l = (macS H, 0)) := ⟨by unfold macR; rw [← HBL.out, ← HEE.out, if_pos rfl, HHH.out]⟩
    go_wp2_with (first | (refine wpList_store_row rfl 79 _ _ rfl w8.heap.size (toldV H 32) rfl rfl 79 _ (blk_new w8 _) (by rw [toldV_size]; kernel_rfl) (by rw [toldV_size]; rfl) (toldV_all _ 32) ?_) | fail)
    have hgs : gs < w8.heap.size := blk_lt Z8.out
    obtain ⟨w9, hw9⟩ : ∃ w9, w9 = (w8.alloc (.cells #[.int .u8 0, .int .u8 0, .int .u8 0, .int .u8 0, .int .u8 0, .int .u8 0, .int .u8 0, .int .u8 0, .int .u8 0, .int .u8 0, .int .u8 0, .int .u8 0, .int .u8 0, .int .u8 0, .int .u8 0, .int .u8 0, .int .u8 0, .int .u8 0, .int .u8 0, .int .u8 0, .int .u8 0, .int .u8 0, .int .u8 0, .int .u8 0, .int .u8 0, .int .u8 0, .int .u8 0, .int .u8 0, .int .u8 0, .int .u8 0, .int .u8 0, .int .u8 0] 79)).setRow w8.heap.size (toldV H 32) := ⟨_, rfl⟩
    have G9 : Aside0 (w9.heap[w8.heap.size]? = some (.cells (toldV H 32) 79 (0, 0))) := ⟨by rw [hw9]; exact setRow_heap _ _ _ _ _ _ (blk_new w8 _)⟩
    have Z9 : Aside0 (w9.heap[gs]? = some (.cells (digV H 0) 77 (0, 0))) := ⟨by rw [hw9, setRow_other _ _ _ _ (by omega)]; exact blk_alloc Z8.out _⟩
    have W9 : Aside0 (Below w.heap.size w w9) := ⟨by rw [hw9]; exact below_setRow (below_alloc W8'.out _) W8'.out.size _⟩
    obtain ⟨gh, hgh⟩ : ∃ gh, gh = w8.heap.size := ⟨_, rfl⟩
    have hgw : Aside0 (w.heap.size ≤ gs) := ⟨hgsB.out⟩
    rw [← hw9]
    rw [← hgh] at G9 hgs ⊢
    clear hw9 hgh Z8 W8' HEE HHH HBL HBS
    go_loopw [36] (fun v36 wr => ∃ k : Nat, k ≤ 8 ∧ v36 = .int .i64 k ∧ Aside0 (wr.heap[gs]? = some (.cells (digV H k) 77 (0, 0))) ∧ Aside0 (wr.heap[gh]? = some (.cells (toldV H 32) 79 (0, 0))) ∧ Aside0 (Below w.heap.size w wr)) (fun i _ => 8 - (intOf i).toNat)
    case atStart => exact ⟨0, by omega, rfl, Z9, G9, W9⟩
    case round =>
      clear Z9 G9 W9
      obtain ⟨k, hk, rfl, HZ, HG, HB⟩ := hrel
      by_cases hlt : k < 8
      · obtain ⟨x, hx⟩ : ∃ x, x = rd (toldN H 32) (k : Int) := ⟨_, rfl⟩
        have hxr : 0 ≤ x ∧ x < 256 := by
          have hl : k < (toldN H 32).length := by rw [toldN_length]; omega
          have : x = (toldN H 32)[k] := by rw [hx]; simp [rd, hl]
          rw [this]
          exact toldN_range H 32 _ (List.getElem_mem hl)
        obtain ⟨cn, rfl⟩ : ∃ cn : Nat, x = cn := ⟨x.toNat, by omega⟩
        have c0 : wr.cell? ⟨gh, k, none⟩ = some (.int .u8 (cn : Int)) := by rw [blk_cell HG.out k, toldV_get H 32 k (by omega), ← hx]
        have HV : Aside0 (((digV H k).setIfInBounds (2 * k) (.int .u8 (hexDig (cn / 16)))).setIfInBounds (2 * k + 1) (.int .u8 (hexDig (cn % 16))) = digV H (k + 1)) := ⟨by
          have h := digV_succ H k hlt
          rw [← hx] at h
          exact h⟩
        clear hx
        obtain ⟨a, ha⟩ : ∃ a, a = 2 * k := ⟨_, rfl⟩
        obtain ⟨b, hb⟩ : ∃ b, b = 2 * k + 1 := ⟨_, rfl⟩
        obtain ⟨q1, hq1⟩ : ∃ q1, q1 = cn / 16 := ⟨_, rfl⟩
        obtain ⟨q2, hq2⟩ : ∃ q2, q2 = cn % 16 := ⟨_, rfl⟩
        rw [← hb, ← ha, ← hq1, ← hq2] at HV
        have iw1 : IntKind.i64.wrap (2 * (k : Int)) = (a : Int) := by rw [IntKind.wrap_i64]; omega
        have iw2 : IntKind.i64.wrap ((a : Int) + 1) = (b : Int) := by rw [IntKind.wrap_i64]; omega
        have la : (a : Int) < 16 := by omega
        have lb : (b : Int) < 16 := by omega
        have hs1 : (cn : Int) / 16 = (q1 : Int) := by omega
        have hs2 : Go.bits .and .u8 (cn : Int) 15 = (q2 : Int) := by rw [hq2]; exact and_u8 ⟨cn, by omega⟩
        have ix1 := dig_u8 q1 (by omega)
        have ix2 := dig_u8 q2 (by omega)
        have hsz := digV_size H k (by omega)
        obtain ⟨va, ca⟩ : ∃ va, wr.cell? ⟨gs, a, none⟩ = some va := ⟨(digV H k)[a]'(by omega), by rw [blk_cell HZ.out a]; exact Array.getElem?_eq_getElem _⟩
        have fa := blk_frozen HZ.out a
        have hz1 := blk_set HZ.out a (.int .u8 (hexDig q1))
        obtain ⟨vb, cb⟩ : ∃ vb, (wr.setCell ⟨gs, a, none⟩ (.int .u8 (hexDig q1))).cell? ⟨gs, b, none⟩ = some vb := ⟨((digV H k).setIfInBounds a (.int .u8 (hexDig q1)))[b]'(by rw [Array.size_setIfInBounds]; omega), by rw [blk_cell hz1 b]; exact Array.getElem?_eq_getElem _⟩
        have fb := blk_frozen hz1 b
        have HZ2 : Aside0 (((wr.setCell ⟨gs, a, none⟩ (.int .u8 (hexDig q1))).setCell ⟨gs, b, none⟩ (.int .u8 (hexDig q2))).heap[gs]? = some (.cells (digV H (k + 1)) 77 (0, 0))) := ⟨blk_put hz1 b _ HV.out⟩
        have HG2 : Aside0 (((wr.setCell ⟨gs, a, none⟩ (.int .u8 (hexDig q1))).setCell ⟨gs, b, none⟩ (.int .u8 (hexDig q2))).heap[gh]? = some (.cells (toldV H 32) 79 (0, 0))) := ⟨blk_far (blk_far HG.out (by show gh ≠ gs; omega) _) (by show gh ≠ gs; omega) _⟩
        have HB2 : Aside0 (Below w.heap.size w ((wr.setCell ⟨gs, a, none⟩ (.int .u8 (hexDig q1))).setCell ⟨gs, b, none⟩ (.int .u8 (hexDig q2)))) := ⟨(HB.out.setCell (by exact hgw.out) _).setCell (by exact hgw.out) _⟩
        clear ha hb hq1 hq2 hsz hz1 HV HZ HG HB hxr
        have hlti : (k : Int) < 8 := by omega
        go_wp2_with fail
        refine start_ (n := 15) (S := fun w' => True) (ds := [14]) #[false, false, false, false, false, false, false, false, false, false, false, false, false, false, false] (by kernel_rfl) rfl rfl trivial (fun hHeld => ?_)
        refine pure_ (i := 0) (N := some 41) (v := ?_) (a' := ?_) #[true, false, false, false, false, false, false, false, false, false, false, false, false, false, false] rfl rfl (by kernel_rfl) (fun _ _ _ h => h) (Or.inl ⟨by rfl, ?_⟩) ?_ ?_
        rotate_left
        · intro w'
          go_simp
          with_reducible rfl
        rotate_left
        · simp only [Act.put, List.setIfInBounds_toArray, List.set_cons_zero, List.set_cons_succ]
          rfl
        refine pure_ (i := 1) (N := some 42) (v := ?_) (a' := ?_) #[true, true, false, false, false, false, false, false, false, false, false, false, false, false, false] rfl rfl (by kernel_rfl) (fun _ _ _ h => h) (Or.inl ⟨by rfl, ?_⟩) ?_ ?_
        rotate_left
        · intro w'
          go_simp
          with_reducible rfl
        rotate_left
        · simp only [Act.put, List.setIfInBounds_toArray, List.set_cons_zero, List.set_cons_succ]
          rfl
        refine pure_ (i := 2) (N := some 43) (v := ?_) (a' := ?_) #[true, true, true, false, false, false, false, false, false, false, false, false, false, false, false] rfl rfl (by kernel_rfl) (fun _ _ _ h => h) (Or.inl ⟨by rfl, ?_⟩) ?_ ?_
        rotate_left
        · intro w'
          go_simp
          with_reducible rfl
        rotate_left
        · simp only [Act.put, List.setIfInBounds_toArray, List.set_cons_zero, List.set_cons_succ]
          rfl
        refine pure_ (i := 3) (N := some 44) (v := ?_) (a' := ?_) #[true, true, true, true, false, false, false, false, false, false, false, false, false, false, false] rfl rfl (by kernel_rfl) (fun _ _ _ h => h) (Or.inl ⟨by rfl, ?_⟩) ?_ ?_
        rotate_left
        · intro w'
          go_simp
          with_reducible rfl
        rotate_left
        · simp only [Act.put, List.setIfInBounds_toArray, List.set_cons_zero, List.set_cons_succ]
          rfl
        refine pure_ (i := 4) (N := some 45) (v := ?_) (a' := ?_) #[true, true, true, true, true, false, false, false, false, false, false, false, false, false, false] rfl rfl (by kernel_rfl) (fun _ _ _ h => h) (Or.inl ⟨by rfl, ?_⟩) ?_ ?_
        rotate_left
        · intro w'
          go_simp
          with_reducible rfl
        rotate_left
        · simp only [Act.put, List.setIfInBounds_toArray, List.set_cons_zero, List.set_cons_succ]
          rfl
        refine pure_ (i := 5) (N := some 46) (v := ?_) (a' := ?_) #[true, true, true, true, true, true, false, false, false, false, false, false, false, false, false] rfl rfl (by kernel_rfl) (fun _ _ _ h => h) (Or.inl ⟨by rfl, ?_⟩) ?_ ?_
        rotate_left
        · intro w'
          go_simp
          with_reducible rfl
        rotate_left
        · simp only [Act.put, List.setIfInBounds_toArray, List.set_cons_zero, List.set_cons_succ]
          rfl
        refine pure_ (i := 6) (N := some 47) (v := ?_) (a' := ?_) #[true, true, true, true, true, true, true, false, false, false, false, false, false, false, false] rfl rfl (by kernel_rfl) (fun _ _ _ h => h) (Or.inl ⟨by rfl, ?_⟩) ?_ ?_
        rotate_left
        · intro w'
          go_simp
          with_reducible rfl
        rotate_left
        · simp only [Act.put, List.setIfInBounds_toArray, List.set_cons_zero, List.set_cons_succ]
          rfl
        refine pure_ (i := 8) (N := some 49) (v := ?_) (a' := ?_) #[true, true, true, true, true, true, true, false, true, false, false, false, false, false, false] rfl rfl (by kernel_rfl) (fun _ _ _ h => h) (Or.inl ⟨by rfl, ?_⟩) ?_ ?_
        rotate_left
        · intro w'
          go_simp
          with_reducible rfl
        rotate_left
        · simp only [Act.put, List.setIfInBounds_toArray, List.set_cons_zero, List.set_cons_succ]
          rfl
        refine pure_ (i := 9) (N := some 50) (v := ?_) (a' := ?_) #[true, true, true, true, true, true, true, false, true, true, false, false, false, false, false] rfl rfl (by kernel_rfl) (fun _ _ _ h => h) (Or.inl ⟨by rfl, ?_⟩) ?_ ?_
        rotate_left
        · intro w'
          go_simp
          with_reducible rfl
        rotate_left
        · simp only [Act.put, List.setIfInBounds_toArray, List.set_cons_zero, List.set_cons_succ]
          rfl
        refine take_ (i := 7) (N := some 48) (v := ?_) (a' := ?_) #[true, true, true, true, true, true, true, true, true, true, false, false, false, false, false] rfl rfl (by kernel_rfl) (fun _ _ _ h => h) (Or.inl ⟨by rfl, ?_⟩) hHeld ?_ ?_
        rotate_left
        · intro w' _
          go_simp
          with_reducible rfl
        rotate_left
        · simp only [Act.put, List.setIfInBounds_toArray, List.set_cons_zero, List.set_cons_succ]
          rfl
        refine pure_ (i := 11) (N := some 52) (v := ?_) (a' := ?_) #[true, true, true, true, true, true, true, true, true, true, false, true, false, false, false] rfl rfl (by kernel_rfl) (fun _ _ _ h => h) (Or.inl ⟨by rfl, ?_⟩) ?_ ?_
        rotate_left
        · intro w'
          go_simp
          with_reducible rfl
        rotate_left
        · simp only [Act.put, List.setIfInBounds_toArray, List.set_cons_zero, List.set_cons_succ]
          rfl
        refine take_ (i := 10) (N := some 51) (v := ?_) (a' := ?_) #[true, true, true, true, true, true, true, true, true, true, true, true, false, false, false] rfl rfl (by kernel_rfl) (fun _ _ _ h => h) (Or.inl ⟨by rfl, ?_⟩) hHeld ?_ ?_
        rotate_left
        · intro w' _
          go_simp
          with_reducible rfl
        rotate_left
        · simp only [Act.put, List.setIfInBounds_toArray, List.set_cons_zero, List.set_cons_succ]
          rfl
        refine one_ (i := 12) (N := none) #[true, true, true, true, true, true, true, true, true, true, true, true, true, false, false] rfl rfl (by kernel_rfl) (by decide) (fun K hK => ?_)
        refine skip_ (w1 := ?_) (by rfl) rfl ?_ ?_
        rotate_left
        · go_simp
          rfl
        refine hK.out _ _ trivial (fun hHeld => ?_)
        clear hK K
        refine pure_ (i := 13) (N := some 53) (v := ?_) (a' := ?_) #[true, true, true, true, true, true, true, true, true, true, true, true, true, true, false] rfl rfl (by kernel_rfl) (fun _ _ _ h => h) (Or.inl ⟨by rfl, ?_⟩) ?_ ?_
        rotate_left
        · intro w'
          go_simp
          with_reducible rfl
        rotate_left
        · simp only [Act.put, List.setIfInBounds_toArray, List.set_cons_zero, List.set_cons_succ]
          rfl
        refine last_ (i := 14) (N := none) #[true, true, true, true, true, true, true, true, true, true, true, true, true, true, true] rfl rfl (by kernel_rfl) (by decide) (fun K hK => ?_)
        refine skip_ (w1 := ?_) (by rfl) rfl ?_ ?_
        rotate_left
        · go_simp
          rfl
        refine hK.out _ _ ?_
        clear hK K
        refine done_ (by kernel_rfl) ?_

        obtain ⟨wz, hwz⟩ : ∃ wz, wz = ((wr.setCell ⟨gs, a, none⟩ (.int .u8 (hexDig q1))).setCell ⟨gs, b, none⟩ (.int .u8 (hexDig q2))).drew := ⟨_, rfl⟩
        have HZ3 : Aside0 (wz.heap[gs]? = some (.cells (digV H (k + 1)) 77 (0, 0))) := ⟨by rw [hwz]; exact blk_drew HZ2.out⟩
        have HG3 : Aside0 (wz.heap[gh]? = some (.cells (toldV H 32) 79 (0, 0))) := ⟨by rw [hwz]; exact blk_drew HG2.out⟩
        have HB3 : Aside0 (Below w.heap.size w wz) := ⟨by rw [hwz]; exact below_drew HB2.out⟩
        rw [← hwz]
        clear hwz HZ2 HG2 HB2 hHeld iw1 iw2 la lb hs1 hs2 ix1 ix2 ca cb fa fb c0
        go_wp2_with fail
        exact ⟨⟨k + 1, by omega, by rfl, HZ3, HG3, HB3⟩, by simp only [intOf]; omega⟩
      · obtain rfl : k = 8 := by omega
        have hcv := run_convert_bytes_arg (P := Tryz.prog) wr 22 5 (by kernel_rfl) (by kernel_rfl) gs 0 16 16 (digs H 8) (digs_length H 8 (by omega)) (fun i hi => by
          rw [blk_cell HZ.out, Nat.zero_add]
          have hl : i < (digs H 8).length := by rw [digs_length H 8 (by omega)]; exact hi
          simp [digV, hl, List.getD]) 9 (by kernel_rfl)
        clear hlt hk HZ HG
        go_wp2_with fail
        rw [HRES.out]
        exact bodyPost_ret (v := .tuple #[.string (strOfNums (digs H 8)), .int .i64 0]) (by simp [results, Tryz.results27, go_sem]) rfl ⟨rfl, HB.out⟩
  · have henb : (en == 0) = false := by rw [beq_eq_false_iff_ne]; exact hen
    have HRES : Aside0 (macR ks key d typ l = (⟨#[]⟩, en)) := ⟨by unfold macR; rw [← HBL.out, ← HEE.out, if_neg hen]⟩
    go_wp2_with fail
    rw [HRES.out]
    exact bodyPost_ret (v := .tuple #[.string ⟨#[]⟩, .int .i64 en]) (by simp [results, Tryz.results27, go_sem]) rfl ⟨rfl, W6.out⟩
end Go.Proofs.YtbnbplppgbmkpaaGreatDoor

namespace Go.Proofs.YtbnbplppgbmkpaaGreatDoor
open Go.RowKit Go.Extern.Stop Go.Stop Go.Extern Go.Proofs.YtbnbplppgbmkpaaGreatDoorW.PrintWords PSessionSeals

/-- What Check gives. -/
def holdR (ks key : List Int) (d typ : Int) (l : List S38) : Int :=
  if (macR ks key d typ l).2 = 0 then (if (getL 64 l).2 = true ∧ (getL 64 l).1 = (macR ks key d typ l).1 then 0 else 131) else (macR ks key d typ l).2

set_option maxHeartbeats 2000000 in
theorem Check_any (ks key : List Int) (code : ByteArray) (s0 s1 : Value) (d typ : Int) (l : List S38) (A AK : Option Addr) (cp ck : Nat) (w : World) (hr : Kd.C k38 w A l.length l) (hl : l.length ≤ 1000000000000) (hs : ∀ x ∈ l, x.f1.size ≤ maxLen) (ht : Env w) (hk : Kd.C (Kd.int .u8) w AK key.length key) (hkl : key.length ≤ 140737488355328) (hks : ∀ i, i < 64 → w.cell? ⟨4, i, none⟩ = some (.int .u32 (ks.getD i 0))) :
    Calls Tryz.prog 10 #[.agg #[.string code, .int .i64 d, .slice AK key.length ck, s0, s1], .agg #[.int .i64 typ, .slice A l.length cp]] w fun e w' => e = .returned (.int .i64 (holdR ks key d typ l)) ∧ Below w.heap.size w w' := by
  have b0 := below_alloc (below_alloc (Below.refl w.heap.size w) (.cells #[.string code, .int .i64 d, .slice AK key.length ck, s0, s1] 26)) (.cells #[.int .i64 typ, .slice A l.length cp] 29)
  have a1 := blk_new (w.alloc (.cells #[.string code, .int .i64 d, .slice AK key.length ck, s0, s1] 26)) (.cells #[.int .i64 typ, .slice A l.length cp] 29)
  rw [World.size_alloc] at a1
  have h4 : 4 < w.heap.size := Nat.lt_of_lt_of_le (by decide) ht.deb.lt
  have HM := Aside0.mk (mac_any ks key code s0 s1 d typ l A AK cp ck _ (Kd.C_below hr b0) hl hs (ht.below b0) (Kd.C_below hk b0) hkl (fun i hi => (b0.cell (p := ⟨4, i, none⟩) h4).trans (hks i hi)))
  have HR := Aside0.mk hr
  have HB0 := Aside0.mk b0
  have HA1 := Aside0.mk a1
  obtain ⟨r, hre⟩ : ∃ r, r = macR ks key d typ l := ⟨_, rfl⟩
  rw [← hre] at HM
  have HRE := Aside0.mk hre
  obtain ⟨s, en⟩ := r
  have am := blk_alloc (blk_new w (.cells #[.string code, .int .i64 d, .slice AK key.length ck, s0, s1] 26)) (.cells #[.int .i64 typ, .slice A l.length cp] 29)
  have m0 := blk_cell am 0
  have m1 := blk_cell am 1
  have m2 := blk_cell am 2
  have m5 := blk_cell am 3
  have m6 := blk_cell am 4
  have m3 := blk_cell a1 0
  have m4 := blk_cell a1 1
  simp only [List.getElem?_toArray, List.getElem?_cons_zero, List.getElem?_cons_succ] at m0 m1 m2 m3 m4 m5 m6
  clear hr hs ht hk hks b0 a1 h4 hre am
  go_enter Tryz.func10, Tryz.ntmps10
  go_wp2_with fail
  refine Calls.mono HM.out ?_
  rintro e w2 ⟨rfl, hb2⟩
  have HB2 := Aside0.mk (HB0.out.trans (hb2.mono HB0.out.size))
  have HA2 := Aside0.mk (blk_below HA1.out hb2)
  clear hb2 HB0 HA1 HM m0 m1 m2 m3 m4 m5 m6
  dsimp only
  by_cases hen : en = 0
  · subst hen
    have c0 := blk_cell HA2.out 0
    have c1 := blk_cell HA2.out 1
    simp only [List.getElem?_toArray, List.getElem?_cons_zero, List.getElem?_cons_succ] at c0 c1
    go_wp2_with fail
    refine (Get_any typ 64 l A cp w2 (Kd.C_below HR.out HB2.out)).mono ?_
    rintro e w3 ⟨rfl, hb3⟩
    have HB3 := Aside0.mk (HB2.out.trans (hb3.mono HB2.out.size))
    obtain ⟨t, htt⟩ : ∃ t, t = getL 64 l := ⟨_, rfl⟩
    rw [← htt]
    have HTT := Aside0.mk htt
    obtain ⟨t, is⟩ := t
    clear hb3 htt HB2 HA2 c0 c1
    dsimp only
    have hH : Aside0 (holdR ks key d typ l = if is = true ∧ t = s then 0 else 131) := ⟨by unfold holdR; rw [← HRE.out, ← HTT.out]; rfl⟩
    cases is with
    | false =>
      have hH2 : Aside0 (holdR ks key d typ l = 131) := ⟨by rw [hH.out]; rfl⟩
      go_wp2_with fail
      go_ret
      exact ⟨by rw [hH2.out]; rfl, HB3.out⟩
    | true =>
      by_cases he : t = s
      · have hH2 : Aside0 (holdR ks key d typ l = 0) := ⟨by rw [hH.out, if_pos ⟨rfl, he⟩]⟩
        subst he
        go_wp2_with fail
        go_ret
        exact ⟨by rw [hH2.out]; rfl, HB3.out⟩
      · have hH2 : Aside0 (holdR ks key d typ l = 131) := ⟨by rw [hH.out, if_neg (fun h => he h.2)]⟩
        have hb00 : (t == s) = false := Bool.eq_false_iff.2 (fun h => he ((Go.MapKept.bytes_beq _ _).1 h))
        have hb01 : (t.toList == s.toList) = false := by rw [← beq_toListBytes]; exact hb00
        go_wp2_with fail
        go_ret
        exact ⟨by rw [hH2.out]; rfl, HB3.out⟩
  · have hH : Aside0 (holdR ks key d typ l = en) := ⟨by unfold holdR; rw [← HRE.out, if_neg hen]⟩
    have henb : (en == 0) = false := by rw [beq_eq_false_iff_ne]; exact hen
    go_wp2_with fail
    go_ret
    exact ⟨by rw [hH.out]; rfl, HB2.out⟩
end Go.Proofs.YtbnbplppgbmkpaaGreatDoor

namespace Go.Proofs.YtbnbplppgbmkpaaGreatDoor
open Go.RowKit Go.Extern.Stop Go.Stop Go.Extern Go.Proofs.YtbnbplppgbmkpaaGreatDoorW.PrintLast Go.Proofs.YtbnbplppgbmkpaaGreatDoorW.PrintWords PSessionSeals

/-- A board's cells: six seats (signed, blocked), and how many are there. -/
def bV (n : Int) (s b : Nat → Bool) : Array Value := #[.bool (s 0), .bool (b 0), .bool (s 1), .bool (b 1), .bool (s 2), .bool (b 2), .bool (s 3), .bool (b 3), .bool (s 4), .bool (b 4), .bool (s 5), .bool (b 5), .int .i64 n]
def BAt (w : World) (g : Nat) (n : Int) (s b : Nat → Bool) : Prop := w.heap[g]? = some (.cells (bV n s b) 71 (0, 0))
def isIn (n m : Int) : Bool := decide (0 ≤ m) && decide (m < n)
def upd (s : Nat → Bool) (k : Nat) (v : Bool) : Nat → Bool := fun i => if i = k then v else s i
theorem seats {k : Nat} (h : k < 6) : k = 0 ∨ k = 1 ∨ k = 2 ∨ k = 3 ∨ k = 4 ∨ k = 5 := by omega
theorem bV_s (n : Int) (s b : Nat → Bool) (k : Nat) (h : k < 6) : (bV n s b)[k * 2]? = some (.bool (s k)) := by
  rcases seats h with rfl | rfl | rfl | rfl | rfl | rfl <;> rfl
theorem bV_b (n : Int) (s b : Nat → Bool) (k : Nat) (h : k < 6) : (bV n s b)[k * 2 + 1]? = some (.bool (b k)) := by
  rcases seats h with rfl | rfl | rfl | rfl | rfl | rfl <;> rfl
theorem bV_puts (n : Int) (s b : Nat → Bool) (k : Nat) (h : k < 6) (v : Bool) : (bV n s b).setIfInBounds (k * 2) (.bool v) = bV n (upd s k v) b := by
  rcases seats h with rfl | rfl | rfl | rfl | rfl | rfl <;> rfl
theorem bV_putb (n : Int) (s b : Nat → Bool) (k : Nat) (h : k < 6) (v : Bool) : (bV n s b).setIfInBounds (k * 2 + 1) (.bool v) = bV n s (upd b k v) := by
  rcases seats h with rfl | rfl | rfl | rfl | rfl | rfl <;> rfl

theorem there_any (g : Nat) (n m : Int) (s b : Nat → Bool) (w : World) (h : BAt w g n s b) :
    Calls Tryz.prog 31 #[.pointer (some ⟨g, 0, none⟩), .int .i64 m] w fun e w' => e = .returned (.bool (isIn n m)) ∧ w' = w := by
  have c := blk_cell h 12
  replace c : w.cell? ⟨g, 12, none⟩ = some (.int .i64 n) := c
  clear h
  by_cases h0 : 0 ≤ m
  · have hi : isIn n m = decide (m < n) := by unfold isIn; rw [decide_eq_true h0]; rfl
    rw [hi]
    go_enter Tryz.func31, Tryz.ntmps31
    go_wp2
    go_ret
    exact ⟨rfl, rfl⟩
  · have hi : isIn n m = false := by unfold isIn; rw [decide_eq_false h0]; rfl
    rw [hi]
    go_enter Tryz.func31, Tryz.ntmps31
    go_wp2
    go_ret
    exact ⟨rfl, rfl⟩

theorem Sign_any (g : Nat) (n m : Int) (on : Bool) (s b : Nat → Bool) (hn : n ≤ 6) (w : World) (h : BAt w g n s b) :
    Calls Tryz.prog 20 #[.pointer (some ⟨g, 0, none⟩), .int .i64 m, .bool on] w fun e w' => (isIn n m = false ∧ e = .returned (.int .i64 130) ∧ w' = w) ∨ (isIn n m = true ∧ e = .returned (.int .i64 0) ∧ w' = w.setCell ⟨g, m.toNat * 2, none⟩ (.bool on)) := by
  have HT := Aside0.mk (there_any g n m s b w h)
  cases hi : isIn n m with
  | false =>
    rw [hi] at HT
    go_enter Tryz.func20, Tryz.ntmps20
    go_wp2_with fail
    refine Calls.mono HT.out ?_
    rintro e w1 ⟨rfl, rfl⟩
    go_wp2_with fail
    go_ret
    exact .inl ⟨trivial, rfl, rfl⟩
  | true =>
    rw [hi] at HT
    obtain ⟨h0, h1⟩ : 0 ≤ m ∧ m < n := by
      unfold isIn at hi
      simpa using hi
    obtain ⟨k, rfl⟩ : ∃ k : Nat, m = k := ⟨m.toNat, by omega⟩
    have hk : k < 6 := by omega
    have c := blk_cell h (k * 2)
    rw [bV_s n s b k hk] at c
    have f := blk_frozen h (k * 2)
    have l1 : (k : Int) < 6 := by omega
    rw [Int.toNat_natCast]
    clear h hi h1
    go_enter Tryz.func20, Tryz.ntmps20
    go_wp2_with fail
    refine Calls.mono HT.out ?_
    rintro e w1 ⟨rfl, rfl⟩
    go_wp2_with fail
    go_ret
    exact .inr ⟨trivial, rfl, rfl⟩
theorem Block_any (g : Nat) (n m : Int) (on : Bool) (s b : Nat → Bool) (hn : n ≤ 6) (w : World) (h : BAt w g n s b) :
    Calls Tryz.prog 21 #[.pointer (some ⟨g, 0, none⟩), .int .i64 m, .bool on] w fun e w' => (isIn n m = false ∧ e = .returned (.int .i64 130) ∧ w' = w) ∨ (isIn n m = true ∧ e = .returned (.int .i64 0) ∧ w' = w.setCell ⟨g, m.toNat * 2 + 1, none⟩ (.bool on)) := by
  have HT := Aside0.mk (there_any g n m s b w h)
  cases hi : isIn n m with
  | false =>
    rw [hi] at HT
    go_enter Tryz.func21, Tryz.ntmps21
    go_wp2_with fail
    refine Calls.mono HT.out ?_
    rintro e w1 ⟨rfl, rfl⟩
    go_wp2_with fail
    go_ret
    exact .inl ⟨trivial, rfl, rfl⟩
  | true =>
    rw [hi] at HT
    obtain ⟨h0, h1⟩ : 0 ≤ m ∧ m < n := by
      unfold isIn at hi
      simpa using hi
    obtain ⟨k, rfl⟩ : ∃ k : Nat, m = k := ⟨m.toNat, by omega⟩
    have hk : k < 6 := by omega
    have c := blk_cell h (k * 2 + 1)
    rw [bV_b n s b k hk] at c
    have f := blk_frozen h (k * 2 + 1)
    have l1 : (k : Int) < 6 := by omega
    rw [Int.toNat_natCast]
    clear h hi h1
    go_enter Tryz.func21, Tryz.ntmps21
    go_wp2_with fail
    refine Calls.mono HT.out ?_
    rintro e w1 ⟨rfl, rfl⟩
    go_wp2_with fail
    go_ret
    exact .inr ⟨trivial, rfl, rfl⟩
theorem Sign_at {w : World} {g : Nat} {n : Int} {s b : Nat → Bool} (h : BAt w g n s b) (k : Nat) (hk : k < 6) (v : Bool) : BAt (w.setCell ⟨g, k * 2, none⟩ (.bool v)) g n (upd s k v) b :=
  blk_put h _ _ (bV_puts n s b k hk v)
theorem Block_at {w : World} {g : Nat} {n : Int} {s b : Nat → Bool} (h : BAt w g n s b) (k : Nat) (hk : k < 6) (v : Bool) : BAt (w.setCell ⟨g, k * 2 + 1, none⟩ (.bool v)) g n s (upd b k v) :=
  blk_put h _ _ (bV_putb n s b k hk v)

theorem Reset_any (g : Nat) (n : Int) (s b : Nat → Bool) (w : World) (h : BAt w g n s b) :
    Calls Tryz.prog 22 #[.pointer (some ⟨g, 0, none⟩)] w fun e w' => (∃ v, e = .returned v) ∧ BAt w' g n (fun i => if i < 6 then false else s i) b ∧ w.grownBy w' (some g) := by
  have H := Aside0.mk h
  clear h
  go_enter Tryz.func22, Tryz.ntmps22
  go_wp2_with fail
  go_loopw [3] (fun v3 wr => ∃ k : Nat, k ≤ 6 ∧ v3 = .int .i64 k ∧ Aside0 (BAt wr g n (fun i => if i < k then false else s i) b) ∧ Aside0 (w.grownBy wr (some g))) (fun i _ => 6 - (intOf i).toNat)
  case atStart => exact ⟨0, by omega, rfl, ⟨by simpa using H.out⟩, ⟨World.grownBy.refl w _⟩⟩
  case round =>
    obtain ⟨k, hk, rfl, HB, HG⟩ := hrel
    by_cases hlt : k < 6
    · have c := blk_cell HB.out (k * 2)
      rw [bV_s n _ b k hlt] at c
      have f := blk_frozen HB.out (k * 2)
      have l1 : (k : Int) < 6 := by omega
      have HB2 : Aside0 (BAt (wr.setCell ⟨g, k * 2, none⟩ (.bool false)) g n (fun i => if i < k + 1 then false else s i) b) := ⟨by
        have h := Sign_at HB.out k hlt false
        have e : upd (fun i => if i < k then false else s i) k false = (fun i => if i < k + 1 then false else s i) := by
          funext i
          unfold upd
          by_cases h1 : i = k
          · rw [if_pos h1, if_pos (by omega)]
          · rw [if_neg h1]
            show (if i < k then false else s i) = if i < k + 1 then false else s i
            by_cases h2 : i < k
            · rw [if_pos h2, if_pos (by omega)]
            · rw [if_neg h2, if_neg (by omega)]
        rw [e] at h
        exact h⟩
      have HG2 : Aside0 (w.grownBy (wr.setCell ⟨g, k * 2, none⟩ (.bool false)) (some g)) := ⟨grown_cell HG.out⟩
      clear HB HG
      go_wp2_with fail
      exact ⟨⟨k + 1, by omega, by rfl, HB2, HG2⟩, by simp only [intOf]; omega⟩
    · obtain rfl : k = 6 := by omega
      go_wp2_with fail
      go_end0
      exact ⟨⟨_, rfl⟩, HB.out, HG.out⟩
end Go.Proofs.YtbnbplppgbmkpaaGreatDoor

namespace Go.Proofs.YtbnbplppgbmkpaaGreatDoor
open Go.RowKit Go.Extern.Stop Go.Stop Go.Extern Go.Proofs.YtbnbplppgbmkpaaGreatDoorW.PrintLast Go.Proofs.YtbnbplppgbmkpaaGreatDoorW.PrintWords PSessionSeals

theorem Look_any (g : Nat) (n m : Int) (s b : Nat → Bool) (hn : n ≤ 6) (w : World) (h : BAt w g n s b) :
    Calls Tryz.prog 26 #[.pointer (some ⟨g, 0, none⟩), .int .i64 m] w fun e w' => e = .returned (.tuple #[.bool (isIn n m && s m.toNat), .bool (isIn n m && b m.toNat)]) ∧ Below w.heap.size w w' := by
  have HT := Aside0.mk (there_any g n m s b w h)
  cases hi : isIn n m with
  | false =>
    rw [hi] at HT
    go_enter Tryz.func26, Tryz.ntmps26
    go_wp2_with fail
    refine Calls.mono HT.out ?_
    rintro e w1 ⟨rfl, rfl⟩
    go_wp2_with fail
    exact bodyPost_ret (v := .tuple #[.bool false, .bool false]) (by simp [results, Tryz.results26, go_sem]) rfl ⟨rfl, Below.refl _ _⟩
  | true =>
    rw [hi] at HT
    obtain ⟨h0, h1⟩ : 0 ≤ m ∧ m < n := by
      unfold isIn at hi
      simpa using hi
    obtain ⟨k, rfl⟩ : ∃ k : Nat, m = k := ⟨m.toNat, by omega⟩
    have hk : k < 6 := by omega
    have c0 := blk_cell h (k * 2)
    rw [bV_s n s b k hk] at c0
    have c1 := blk_cell h (k * 2 + 1)
    rw [bV_b n s b k hk] at c1
    have l1 : (k : Int) < 6 := by omega
    rw [Int.toNat_natCast]
    clear h hi h1
    go_enter Tryz.func26, Tryz.ntmps26
    go_wp2_with fail
    refine Calls.mono HT.out ?_
    rintro e w1 ⟨rfl, rfl⟩
    go_wp2_with fail
    refine start_ (n := 16) (S := fun w' => w'.cell? ⟨g, k * 2, none⟩ = some (.bool (s k)) ∧ w'.cell? ⟨g, k * 2 + 1, none⟩ = some (.bool (b k))) (ds := []) #[false, false, false, false, false, false, false, false, false, false, false, false, false, false, false, false] (by kernel_rfl) rfl rfl ⟨c0, c1⟩ (fun hHeld => ?_)
    refine pure_ (i := 0) (N := some 10) (v := ?_) (a' := ?_) #[true, false, false, false, false, false, false, false, false, false, false, false, false, false, false, false] rfl rfl (by kernel_rfl) (fun _ _ _ h => h) (Or.inl ⟨by rfl, ?_⟩) ?_ ?_
    rotate_left
    · intro w'
      go_simp
      with_reducible rfl
    rotate_left
    · simp only [Act.put, List.setIfInBounds_toArray, List.set_cons_zero, List.set_cons_succ]
      rfl
    refine pure_ (i := 1) (N := some 11) (v := ?_) (a' := ?_) #[true, true, false, false, false, false, false, false, false, false, false, false, false, false, false, false] rfl rfl (by kernel_rfl) (fun _ _ _ h => h) (Or.inl ⟨by rfl, ?_⟩) ?_ ?_
    rotate_left
    · intro w'
      go_simp
      with_reducible rfl
    rotate_left
    · simp only [Act.put, List.setIfInBounds_toArray, List.set_cons_zero, List.set_cons_succ]
      rfl
    refine pure_ (i := 2) (N := some 12) (v := ?_) (a' := ?_) #[true, true, true, false, false, false, false, false, false, false, false, false, false, false, false, false] rfl rfl (by kernel_rfl) (fun _ _ _ h => h) (Or.inl ⟨by rfl, ?_⟩) ?_ ?_
    rotate_left
    · intro w'
      go_simp
      with_reducible rfl
    rotate_left
    · simp only [Act.put, List.setIfInBounds_toArray, List.set_cons_zero, List.set_cons_succ]
      rfl
    refine pure_ (i := 3) (N := some 13) (v := ?_) (a' := ?_) #[true, true, true, true, false, false, false, false, false, false, false, false, false, false, false, false] rfl rfl (by kernel_rfl) (fun _ _ _ h => h) (Or.inl ⟨by rfl, ?_⟩) ?_ ?_
    rotate_left
    · intro w'
      go_simp
      with_reducible rfl
    rotate_left
    · simp only [Act.put, List.setIfInBounds_toArray, List.set_cons_zero, List.set_cons_succ]
      rfl
    refine pure_ (i := 4) (N := some 14) (v := ?_) (a' := ?_) #[true, true, true, true, true, false, false, false, false, false, false, false, false, false, false, false] rfl rfl (by kernel_rfl) (fun _ _ _ h => h) (Or.inl ⟨by rfl, ?_⟩) ?_ ?_
    rotate_left
    · intro w'
      go_simp
      with_reducible rfl
    rotate_left
    · simp only [Act.put, List.setIfInBounds_toArray, List.set_cons_zero, List.set_cons_succ]
      rfl
    refine pure_ (i := 5) (N := some 15) (v := ?_) (a' := ?_) #[true, true, true, true, true, true, false, false, false, false, false, false, false, false, false, false] rfl rfl (by kernel_rfl) (fun _ _ _ h => h) (Or.inl ⟨by rfl, ?_⟩) ?_ ?_
    rotate_left
    · intro w'
      go_simp
      with_reducible rfl
    rotate_left
    · simp only [Act.put, List.setIfInBounds_toArray, List.set_cons_zero, List.set_cons_succ]
      rfl
    refine pure_ (i := 7) (N := some 17) (v := ?_) (a' := ?_) #[true, true, true, true, true, true, false, true, false, false, false, false, false, false, false, false] rfl rfl (by kernel_rfl) (fun _ _ _ h => h) (Or.inl ⟨by rfl, ?_⟩) ?_ ?_
    rotate_left
    · intro w'
      go_simp
      with_reducible rfl
    rotate_left
    · simp only [Act.put, List.setIfInBounds_toArray, List.set_cons_zero, List.set_cons_succ]
      rfl
    refine pure_ (i := 8) (N := some 18) (v := ?_) (a' := ?_) #[true, true, true, true, true, true, false, true, true, false, false, false, false, false, false, false] rfl rfl (by kernel_rfl) (fun _ _ _ h => h) (Or.inl ⟨by rfl, ?_⟩) ?_ ?_
    rotate_left
    · intro w'
      go_simp
      with_reducible rfl
    rotate_left
    · simp only [Act.put, List.setIfInBounds_toArray, List.set_cons_zero, List.set_cons_succ]
      rfl
    refine pure_ (i := 9) (N := some 19) (v := ?_) (a' := ?_) #[true, true, true, true, true, true, false, true, true, true, false, false, false, false, false, false] rfl rfl (by kernel_rfl) (fun _ _ _ h => h) (Or.inl ⟨by rfl, ?_⟩) ?_ ?_
    rotate_left
    · intro w'
      go_simp
      with_reducible rfl
    rotate_left
    · simp only [Act.put, List.setIfInBounds_toArray, List.set_cons_zero, List.set_cons_succ]
      rfl
    refine pure_ (i := 10) (N := some 20) (v := ?_) (a' := ?_) #[true, true, true, true, true, true, false, true, true, true, true, false, false, false, false, false] rfl rfl (by kernel_rfl) (fun _ _ _ h => h) (Or.inl ⟨by rfl, ?_⟩) ?_ ?_
    rotate_left
    · intro w'
      go_simp
      with_reducible rfl
    rotate_left
    · simp only [Act.put, List.setIfInBounds_toArray, List.set_cons_zero, List.set_cons_succ]
      rfl
    refine pure_ (i := 11) (N := some 21) (v := ?_) (a' := ?_) #[true, true, true, true, true, true, false, true, true, true, true, true, false, false, false, false] rfl rfl (by kernel_rfl) (fun _ _ _ h => h) (Or.inl ⟨by rfl, ?_⟩) ?_ ?_
    rotate_left
    · intro w'
      go_simp
      with_reducible rfl
    rotate_left
    · simp only [Act.put, List.setIfInBounds_toArray, List.set_cons_zero, List.set_cons_succ]
      rfl
    refine pure_ (i := 12) (N := some 22) (v := ?_) (a' := ?_) #[true, true, true, true, true, true, false, true, true, true, true, true, true, false, false, false] rfl rfl (by kernel_rfl) (fun _ _ _ h => h) (Or.inl ⟨by rfl, ?_⟩) ?_ ?_
    rotate_left
    · intro w'
      go_simp
      with_reducible rfl
    rotate_left
    · simp only [Act.put, List.setIfInBounds_toArray, List.set_cons_zero, List.set_cons_succ]
      rfl
    refine take_ (i := 6) (N := some 16) (v := ?_) (a' := ?_) #[true, true, true, true, true, true, true, true, true, true, true, true, true, false, false, false] rfl rfl (by kernel_rfl) (fun _ _ _ h => h) (Or.inl ⟨by rfl, ?_⟩) hHeld ?_ ?_
    rotate_left
    · rintro w' ⟨s0, s1⟩
      go_simp
      with_reducible rfl
    rotate_left
    · simp only [Act.put, List.setIfInBounds_toArray, List.set_cons_zero, List.set_cons_succ]
      rfl
    refine pure_ (i := 14) (N := some 4) (v := ?_) (a' := ?_) #[true, true, true, true, true, true, true, true, true, true, true, true, true, false, true, false] rfl rfl (by kernel_rfl) (fun _ _ _ h => h) (Or.inl ⟨by rfl, ?_⟩) ?_ ?_
    rotate_left
    · intro w'
      go_simp
      with_reducible rfl
    rotate_left
    · simp only [Act.put, List.setIfInBounds_toArray, List.set_cons_zero, List.set_cons_succ]
      rfl
    refine take_ (i := 13) (N := some 23) (v := ?_) (a' := ?_) #[true, true, true, true, true, true, true, true, true, true, true, true, true, true, true, false] rfl rfl (by kernel_rfl) (fun _ _ _ h => h) (Or.inl ⟨by rfl, ?_⟩) hHeld ?_ ?_
    rotate_left
    · rintro w' ⟨s0, s1⟩
      go_simp
      with_reducible rfl
    rotate_left
    · simp only [Act.put, List.setIfInBounds_toArray, List.set_cons_zero, List.set_cons_succ]
      rfl
    refine pure_ (i := 15) (N := some 5) (v := ?_) (a' := ?_) #[true, true, true, true, true, true, true, true, true, true, true, true, true, true, true, true] rfl rfl (by kernel_rfl) (fun _ _ _ h => h) (Or.inl ⟨by rfl, ?_⟩) ?_ ?_
    rotate_left
    · intro w'
      go_simp
      with_reducible rfl
    rotate_left
    · simp only [Act.put, List.setIfInBounds_toArray, List.set_cons_zero, List.set_cons_succ]
      rfl
    refine done_ (by kernel_rfl) ?_

    go_wp2_with fail
    exact bodyPost_ret (v := .tuple #[.bool (s k), .bool (b k)]) (by simp [results, Tryz.results26, go_sem]) rfl ⟨rfl, below_drew (Below.refl _ _)⟩
theorem Ready_any (g : Nat) (n m : Int) (s b : Nat → Bool) (hn : n ≤ 6) (w : World) (h : BAt w g n s b) :
    Calls Tryz.prog 25 #[.pointer (some ⟨g, 0, none⟩), .int .i64 m] w fun e w' => e = .returned (.bool (isIn n m && s m.toNat && !(isIn n m && b m.toNat))) ∧ Below w.heap.size w w' := by
  have HL := Aside0.mk (Look_any g n m s b hn w h)
  clear h
  generalize (isIn n m && s m.toNat) = x at HL ⊢
  generalize (isIn n m && b m.toNat) = y at HL ⊢
  go_enter Tryz.func25, Tryz.ntmps25
  go_wp2_with fail
  refine Calls.mono HL.out ?_
  rintro e w1 ⟨rfl, hb⟩
  cases x <;> cases y <;>
  (go_wp2_with fail
   go_ret
   exact ⟨rfl, hb⟩)
theorem New_no (n : Int) (h : n < 1 ∨ 6 < n) (w : World) :
    Calls Tryz.prog 15 #[.int .i64 n] w fun e w' => e = .returned (.tuple #[.pointer none, .int .i64 130]) ∧ w' = w := by
  have hc : n < 1 ∨ (¬ n < 1 ∧ 6 < n) := by omega
  clear h
  rcases hc with h | ⟨h, h2⟩ <;>
  (go_enter Tryz.func15, Tryz.ntmps15
   go_wp2
   exact bodyPost_ret (v := .tuple #[.pointer none, .int .i64 130]) (by simp [results, Tryz.results15, go_sem]) rfl ⟨rfl, rfl⟩)
theorem New_yes (n : Int) (h : 1 ≤ n ∧ n ≤ 6) (w : World) :
    Calls Tryz.prog 15 #[.int .i64 n] w fun e w' => e = .returned (.tuple #[.pointer (some ⟨w.heap.size, 0, none⟩), .int .i64 0]) ∧ BAt w' w.heap.size n (fun _ => false) (fun _ => false) ∧ Below w.heap.size w w' := by
  obtain ⟨h1, h2⟩ := h
  have t1 : ¬ n < 1 := by omega
  have t2 : ¬ 6 < n := by omega
  clear h1
  go_enter Tryz.func15, Tryz.ntmps15
  go_wp2
  exact bodyPost_ret (v := .tuple #[.pointer (some ⟨w.heap.size, 0, none⟩), .int .i64 0]) (by simp [results, Tryz.results15, go_sem]) rfl ⟨rfl, blk_new w _, below_alloc (Below.refl _ _) _⟩
end Go.Proofs.YtbnbplppgbmkpaaGreatDoor

namespace Go.Proofs.YtbnbplppgbmkpaaGreatDoor
open Go.RowKit Go.Extern.Stop Go.Stop Go.Extern Go.Proofs.YtbnbplppgbmkpaaGreatDoorW.PrintWords PSessionSeals

set_option maxHeartbeats 1000000 in
theorem BClone_any (g : Nat) (n : Int) (s b : Nat → Bool) (w : World) (h : BAt w g n s b) :
    Calls Tryz.prog 17 #[.pointer (some ⟨g, 0, none⟩)] w fun e w' => ∃ g', e = .returned (.pointer (some ⟨g', 0, none⟩)) ∧ w.heap.size ≤ g' ∧ BAt w' g' n s b ∧ Below w.heap.size w w' := by
  have c0 := blk_cell h 0
  have c1 := blk_cell h 1
  have c2 := blk_cell h 2
  have c3 := blk_cell h 3
  have c4 := blk_cell h 4
  have c5 := blk_cell h 5
  have c6 := blk_cell h 6
  have c7 := blk_cell h 7
  have c8 := blk_cell h 8
  have c9 := blk_cell h 9
  have c10 := blk_cell h 10
  have c11 := blk_cell h 11
  have c12 := blk_cell h 12
  simp only [bV, List.getElem?_toArray, List.getElem?_cons_zero, List.getElem?_cons_succ] at c0 c1 c2 c3 c4 c5 c6 c7 c8 c9 c10 c11 c12
  clear h
  go_enter Tryz.func17, Tryz.ntmps17
  go_wp2
  go_ret
  exact ⟨w.heap.size, rfl, Nat.le_refl _, blk_new w _, below_alloc (Below.refl _ _) _⟩
end Go.Proofs.YtbnbplppgbmkpaaGreatDoor

namespace Go.Proofs.YtbnbplppgbmkpaaGreatDoor
open Go.RowKit Go.Extern.Stop Go.Stop Go.Extern Go.Proofs.YtbnbplppgbmkpaaGreatDoorW.PrintWords PSessionSeals

theorem copy_run {W : World} (g o dl dc sl sc : Nat) (ad : Addr) (cur : Array Value) (cs : List Value) (ty : TypeId) (hg : W.heap[g]? = some (.cells cur 38 (0, 0))) (hn : cs.length = Nat.min sl dl * 2)
    (hc : ∀ j v, cs[j]? = some v → W.cell? (ad.add j) = some v) (hfit : o + cs.length ≤ cur.size) (h1 : ∀ v ∈ cs, v.oneCell' = true) :
    (Builtin.copy_ #[27, 27] ty #[.slice (some ⟨g, o, none⟩) dl dc, .slice (some ad) sl sc]).run Tryz.prog W = .ok (goInt (Nat.min sl dl)) (W.setRow g (cur.toList.take o ++ cs ++ cur.toList.drop (o + cs.length)).toArray) := by
  obtain ⟨i0, hi, hz0, hz1, hz2⟩ := info_parts fieldInfo
  have hst := run_storeCells_at (P := Tryz.prog) g o 38 cs 0 cur W hg (by omega) h1
  simp only [Nat.add_zero] at hst
  have hld : (loadCells ad (Nat.min sl dl * 2)).run Tryz.prog W = .ok cs.toArray W := by
    have := run_loadCells_list (P := Tryz.prog) W ad cs hc
    rw [hn] at this
    exact this
  simp [Builtin.copy_, run_underlying Tryz.underlying27, Builtin.lenOf, Builtin.firstCells, sizeOf, typeInfo, hi, hz1, hld, hst]
end Go.Proofs.YtbnbplppgbmkpaaGreatDoor

namespace Go.Proofs.YtbnbplppgbmkpaaGreatDoor
open Go.RowKit Go.Extern.Stop Go.Stop Go.Extern Go.Proofs.YtbnbplppgbmkpaaGreatDoorW.PrintWords PSessionSeals

theorem overlaps_eq (a b : Addr) (la ca lb cb : Nat) : Extern.SlicesOverlaps.overlaps #[27, 27] #[4] #[.slice (some a) la ca, .slice (some b) lb cb] = (do
    let .slice elem ← underlying 27 | stuck "slices.overlaps: slice type expected"
    let size ← sizeOf elem
    if la = 0 ∨ lb = 0 ∨ size = 0 then pure (.bool false)
    else if a.block != b.block && (← frozen a) && (← frozen b) then unsupported .addressObserved
    else do
      if a.block != b.block then do
        noView a; noView b
        if ← mayBeOne a b then return .bool ((← choose (.extern "sameAddr.stringBytes" 2)) == 1)
      pure (.bool (a.block == b.block && a.off < b.off + lb * size && b.off < a.off + la * size))) := rfl
theorem overlaps_no {W : World} (g g' o o' n c n' c' : Nat) (cs cs' : Array Value) (h : W.heap[g]? = some (.cells cs 38 (0, 0))) (h' : W.heap[g']? = some (.cells cs' 38 (0, 0))) (hne : g ≠ g') :
    (Extern.SlicesOverlaps.overlaps #[27, 27] #[4] #[.slice (some ⟨g, o, none⟩) n c, .slice (some ⟨g', o', none⟩) n' c']).run Tryz.prog W = .ok (.bool false) W := by
  obtain ⟨i0, hi, hz0, hz1, hz2⟩ := info_parts fieldInfo
  by_cases hn : n = 0 ∨ n' = 0
  · rw [overlaps_eq]; simp [run_underlying Tryz.underlying27, sizeOf, typeInfo, hi, hz1, hn]
  · rw [overlaps_eq]; simp [run_underlying Tryz.underlying27, sizeOf, typeInfo, hi, hz1, hn, hne, World.frozen?, h, h', noView, viewAt, World.shape?, mayBeOne, stringish]
end Go.Proofs.YtbnbplppgbmkpaaGreatDoor

namespace Go.Proofs.YtbnbplppgbmkpaaGreatDoor
open Go.RowKit Go.Extern.Stop Go.Stop Go.Extern Go.Proofs.YtbnbplppgbmkpaaGreatDoorW.PrintWords PSessionSeals

set_option maxHeartbeats 1000000 in
theorem ins_end (l : List S38) (x : S38) (A Av : Option Addr) (cp cv B : Nat) (w : World) (hr : FRow w B (.slice A l.length cp) l) (hv : Kd.C k38 w Av 1 [x]) (hB : B ≤ w.heap.size) (hl : l.length ≤ 100000000) :
    Calls Tryz.prog 41 #[.slice A l.length cp, .int .i64 l.length, .slice Av 1 cv] w fun e w' => ∃ A' c', e = .returned (.slice A' (l ++ [x]).length c') ∧ FRow w' B (.slice A' (l ++ [x]).length c') (l ++ [x]) ∧ Below B w w' := by
  have HR := Aside0.mk hr
  have HV := Aside0.mk hv
  have hcap : l.length ≤ cp := by
    obtain ⟨A', c', he, hc⟩ := frow_slice hr
    injection he with _ _ h
    omega
  clear hr hv
  go_enter Tryz.func41, Tryz.ntmps41
  go_wp2_with (first | (refine frow_join (w0 := w) (B := B) (v := .slice A l.length cp) (xs := l) (ys := [x]) rfl _ _ rfl rfl rfl HR.out HV.out hB (by omega) (Below.refl _ _) ?_; intro A2 c2 w2 hq2 hc2 hb2) | fail)
  all_goals (go_ret; exact ⟨A2, c2, rfl, by simpa using hq2, hb2⟩)
end Go.Proofs.YtbnbplppgbmkpaaGreatDoor
