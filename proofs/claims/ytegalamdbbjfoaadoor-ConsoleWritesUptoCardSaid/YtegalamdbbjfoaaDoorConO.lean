/- The document's Number and Say tell what the program's Itoa and Say tell. -/
import Derived.Test.YtegalamdbbjfoaaDoorConN
import Derived.Test.YtegalamdbbjfoaaDoorConV
namespace Go.Proofs.YtegalamdbbjfoaaDoor
open Go.RowKit Go.Proofs.YtegalamdbbjfoaaDoorW.PrintWords PConsoleWrites

theorem wrap_id {n : Int} (h0 : -9223372036854775808 ≤ n) (h1 : n ≤ 9223372036854775807) : wrap64 n = n := by unfold wrap64; omega
theorem tmod_ten (u : Nat) : Int.tmod (u : Int) 10 = ((u % 10 : Nat) : Int) := (Int.ofNat_tmod u 10).symm
theorem tdiv_ten (u : Nat) : Int.tdiv (u : Int) 10 = ((u / 10 : Nat) : Int) := (Int.ofNat_tdiv u 10).symm
theorem one_digit (u : Nat) : strOfNums ([(wrap64 (48 + (Int.tmod (u : Int) 10))) % 256] : List Int) = ⟨#[UInt8.ofNat (48 + u % 10)]⟩ := by
  rw [tmod_ten, wrap_id (by omega) (by omega), show ((48 + ((u % 10 : Nat) : Int)) % 256 : Int) = ((48 + u % 10 : Nat) : Int) by omega]
  unfold strOfNums
  simp only [List.map_cons, List.map_nil, Int.toNat_natCast]
theorem ba_append (x y : ByteArray) : x ++ y = ⟨(x.data.toList ++ y.data.toList).toArray⟩ := by
  apply ByteArray.ext
  apply Array.toList_inj.1
  simp
theorem number_loop : ∀ (d u k : Nat) (sign : ByteArray) (t : List UInt8), u < 10 ^ (d + 1) → u ≤ 9223372036854775807 → d < k → t.length + d ≤ 100 → sign.size ≤ 1 →
    groatref19_Number.l0 k (u : Int) sign ⟨(UInt8.ofNat (48 + u % 10) :: t).toArray⟩ = some ⟨(sign.data.toList ++ (Lib.decDigits u ++ t)).toArray⟩ := by
  intro d
  induction d with
  | zero =>
    intro u k sign t hu hm hk ht hs
    obtain ⟨k, rfl⟩ : ∃ m, k = m + 1 := ⟨k - 1, by omega⟩
    simp only [groatref19_Number.l0]
    have hz : (⟨(UInt8.ofNat (48 + u % 10) :: t).toArray⟩ : ByteArray).size = t.length + 1 := by simp [ByteArray.size]
    rw [if_neg (by omega), if_pos (by omega), Lib.decDigits_one (by omega), ba_append, Nat.mod_eq_of_lt (by omega : u < 10)]
    rfl
  | succ d ih =>
    intro u k sign t hu hm hk ht hs
    obtain ⟨k, rfl⟩ : ∃ m, k = m + 1 := ⟨k - 1, by omega⟩
    simp only [groatref19_Number.l0]
    have hz : (⟨(UInt8.ofNat (48 + u % 10) :: t).toArray⟩ : ByteArray).size = t.length + 1 := by simp [ByteArray.size]
    by_cases h : u < 10
    · rw [if_neg (by omega), if_pos (by omega), Lib.decDigits_one (by omega), ba_append, Nat.mod_eq_of_lt h]
      rfl
    · rw [if_pos (by omega)]
      simp only [Option.bind_some]
      rw [tdiv_ten, wrap_id (n := ((u / 10 : Nat) : Int)) (by omega) (by omega), one_digit, hz]
      have hz1 : (⟨#[UInt8.ofNat (48 + u / 10 % 10)]⟩ : ByteArray).size = 1 := rfl
      rw [hz1, if_pos (by omega), ba_append]
      have := ih (u / 10) k sign (UInt8.ofNat (48 + u % 10) :: t) (by rw [Nat.pow_succ] at hu; omega) (by omega) (by omega) (by simp only [List.length_cons]; omega) hs
      simp only [List.singleton_append] at this ⊢
      rw [this, show Lib.decDigits u = Lib.decDigits (u / 10) ++ [UInt8.ofNat (48 + u % 10)] from by rw [Lib.decDigits, dif_neg h]]
      simp
theorem number_is (n : Int) (h0 : -9223372036854775808 ≤ n) (h1 : n ≤ 9223372036854775807) : groatref19_Number.f 30 n = some ⟨(Lib.itoa n).toArray⟩ := by
  unfold groatref19_Number.f
  by_cases hm : n = -9223372036854775808
  · rw [if_pos hm]
    subst hm
    refine congrArg some (congrArg ByteArray.mk (congrArg List.toArray ?_))
    rw [show (-9223372036854775808 : Int) = -((9223372036854775808 : Nat) : Int) from rfl, Lib.itoa_neg _ (by omega)]
    decide +kernel
  · rw [if_neg hm]
    by_cases hn : n < 0
    · obtain ⟨u, rfl⟩ : ∃ u : Nat, n = -(u : Int) := ⟨n.natAbs, by omega⟩
      rw [if_pos hn, Int.neg_neg, wrap_id (by omega) (by omega), Lib.itoa_neg u (by omega)]
      simp only [groatref19_Number.j0]
      rw [one_digit]
      have := number_loop 20 u 29 ⟨#[45]⟩ [] (by omega) (by omega) (by omega) (by simp) (by decide)
      rw [List.append_nil] at this
      exact this
    · obtain ⟨u, rfl⟩ : ∃ u : Nat, n = (u : Int) := ⟨n.natAbs, by omega⟩
      rw [if_neg hn, Lib.itoa_nonneg]
      simp only [groatref19_Number.j0]
      rw [one_digit]
      have := number_loop 20 u 29 ⟨#[]⟩ [] (by omega) (by omega) (by omega) (by simp) (by decide)
      rw [List.append_nil] at this
      exact this
theorem ref_number (n : Int) (h0 : -9223372036854775808 ≤ n) (h1 : n ≤ 9223372036854775807) (w : World) :
    Calls Tryd.prog 24 #[.int .i64 n] w fun e w' => e = .returned (.string ⟨(Lib.itoa n).toArray⟩) ∧ Below w.heap.size w w' := groatref19_Number.calls 30 n _ w (number_is n h0 h1)

set_option maxRecDepth 100000 in
set_option maxHeartbeats 1000000 in
theorem ref_say (word : ByteArray) (A : Option Addr) (c : Nat) (l : List Int) (w : World) (hr : Kd.C (Kd.int .i64) w A l.length l) (hl : (l.length : Int) ≤ 9223372036854775807) (hi : Ints l)
    (hs : word.size + (sayL l).length ≤ 140737488355328) :
    Calls Tryd.prog 14 #[.string word, .slice A l.length c] w fun e w' => e = .returned (.string ⟨(word.data.toList ++ sayL l).toArray⟩) ∧ Below w.heap.size w w' := by
  have HI := Aside0.mk hi
  have HR := Aside0.mk hr
  have HS := Aside0.mk hs
  clear hi hr hs
  go_enter Tryd.func14, Tryd.ntmps14
  go_wp2_with fail
  go_loopw [0, 5] (fun s i wr => ∃ (k : Nat) (t : ByteArray), k ≤ l.length ∧ s = .string t ∧ i = .int .i64 k ∧ Aside0 (t = ⟨(word.data.toList ++ sayL (l.take k)).toArray⟩) ∧ Aside0 (Below w.heap.size w wr)) (fun _ i _ => l.length - (intOf i).toNat)
  case atStart =>
    exact ⟨0, word, Nat.zero_le _, rfl, rfl, ⟨by simp [sayL]⟩, ⟨Below.refl _ w⟩⟩
  case round =>
    obtain ⟨k, t, hk, rfl, rfl, HE, HBL⟩ := hrel
    by_cases hlt : k < l.length
    · obtain ⟨ad, hA, hcell⟩ := Kd.at_int HR.out k (by omega) (by omega)
      have hcw : wr.cell? (ad.add k) = some (.int .i64 (rd l k)) := (HBL.out.cell (World.block_lt_of_cell? w _ hcell)).trans (by simpa using hcell)
      subst hA
      clear hcell
      have hts : t.size = word.size + (sayL (l.take k)).length := by
        rw [HE.out]
        simp only [ByteArray.size, List.size_toArray, List.length_append, Array.length_toList]
      have hlen : t.size + 1 + (Lib.itoa (rd l k)).length ≤ 140737488355328 := by
        have h1 := HS.out
        have h2 : l = l.take k ++ rd l k :: l.drop (k + 1) := by
          have : rd l (k : Int) = l[k] := by simp [rd, hlt]
          rw [this, List.getElem_cons_drop, List.take_append_drop]
        rw [h2] at h1
        simp [sayL] at h1 hts ⊢
        omega
      have hr0 : rd l (k : Int) ∈ l := by
        have : rd l (k : Int) = l[k] := by simp [rd, hlt]
        rw [this]
        exact List.getElem_mem hlt
      have HM := Aside0.mk hr0
      clear hr0 hts
      have c0 : decide (t.size + 1 ≤ 9223372036854775807) = true := decide_eq_true (by omega)
      go_wp2_with fail
      refine (ref_number (rd l k) (HI.out _ HM.out).1 (HI.out _ HM.out).2 wr).mono ?_
      rintro e w1 ⟨rfl, hb1⟩
      have hB1 : Below w.heap.size w w1 := HBL.out.trans (hb1.mono HBL.out.size)
      have hz1 : (t ++ (⟨#[32]⟩ : ByteArray)).size = t.size + 1 := by rw [ByteArray.size_append]; rfl
      have hz2 : (⟨(Lib.itoa (rd l k)).toArray⟩ : ByteArray).size = (Lib.itoa (rd l k)).length := by simp [ByteArray.size]
      have c1 : decide ((t ++ (⟨#[32]⟩ : ByteArray)).size + (⟨(Lib.itoa (rd l k)).toArray⟩ : ByteArray).size ≤ 9223372036854775807) = true := decide_eq_true (by omega)
      clear hb1 hz1 hz2 hcw
      go_wp2
      go_roundw
      case rel =>
        refine ⟨k + 1, _, by omega, rfl, by go_num, ⟨?_⟩, ⟨hB1⟩⟩
        have h2 : l.take (k + 1) = l.take k ++ [rd l k] := by
          have : rd l (k : Int) = l[k] := by simp [rd, hlt]
          rw [this, List.take_succ_eq_append_getElem hlt]
        rw [h2, sayL_snoc, HE.out]
        simp [ba_append]
      case measure => simp [intOf]; omega
    · have hkk : k = l.length := by omega
      have HK := Aside0.mk hkk
      clear hkk
      go_wp2_with fail
      go_ret
      refine ⟨?_, HBL.out⟩
      rw [HE.out, HK.out, List.take_length]
      rfl
end Go.Proofs.YtegalamdbbjfoaaDoor
