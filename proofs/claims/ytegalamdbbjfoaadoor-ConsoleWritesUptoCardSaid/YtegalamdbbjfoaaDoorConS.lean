/- The contract of the console's 'Say'. -/
import Derived.Test.YtegalamdbbjfoaaDoorShelf
import Derived.Test.YtegalamdbbjfoaaDoorWMore
import Derived.WalkKit
import Derived.Handy
import Derived.Outline
import Derived.Lib.Hide
import Derived.Deep.LoopGhost
namespace Go.Proofs.YtegalamdbbjfoaaDoor
open Go.RowKit Go.Proofs.YtegalamdbbjfoaaDoorW.PrintWords

/-- What stands behind the word. -/
def sayL (l : List Int) : List UInt8 := l.flatMap fun n => 32 :: Lib.itoa n

theorem sayL_snoc (l : List Int) (n : Int) : sayL (l ++ [n]) = sayL l ++ 32 :: Lib.itoa n := by simp [sayL]

def Tab10 (w : World) : Prop := Lib.TabIs Tryd.prog w "internal/strconv.uint64pow10" .u64 Lib.pow10Tab

theorem Tab10.below {w w' : World} (h : Tab10 w) (hb : Below w.heap.size w w') : Tab10 w' := by
  have hg : Tryd.prog.globalNamed "internal/strconv.uint64pow10" = some 1 := by kernel_rfl
  unfold Tab10 Lib.TabIs World.var? at h ⊢
  rw [hg] at h ⊢
  simp only [Option.bind_some] at h ⊢
  have hlt : 1 < w.heap.size := by
    rcases Nat.lt_or_ge 1 w.heap.size with h' | h'
    · exact h'
    · rw [Array.getElem?_eq_none h'] at h; cases h
  rw [hb.block 1 hlt]
  exact h

theorem below_grow (w : World) (k : Nat) (os : Array Obj) : Below w.heap.size w (Sort.grow (w.drewN k) os) := by
  refine ⟨rfl, rfl, rfl, by simp [Sort.grow], fun i hi => ?_⟩
  show (w.heap ++ os)[i]? = w.heap[i]?
  rw [Array.getElem?_append_left hi]

theorem builder_below {T e : TypeId} {B b : Nat} {p : Value} {bs : List Value} {w w' : World} (h : Lib.BuilderAt T e B b p bs w) (hb : Below w.heap.size w w') : Lib.BuilderAt T e B b p bs w' := by
  obtain ⟨hB, v, hbk, hown, hne⟩ := h
  exact ⟨hB, v, blk_below hbk hb, pw_own_below hown hb, hne⟩

theorem itoa_any (n : Int) (h0 : -9223372036854775808 ≤ n) (h1 : n ≤ 9223372036854775807) (w : World) (ht : Tab10 w) :
    Calls Tryd.prog 22 #[.int .i64 n] w fun e w' => e = .returned (.string ⟨(Lib.itoa n).toArray⟩) ∧ Below w.heap.size w w' := by
  refine (Tryd.strconv_Itoa n h0 h1 w ht).mono ?_
  rintro e w' ⟨rfl, k, os, rfl⟩
  exact ⟨rfl, below_grow w k os⟩

set_option maxHeartbeats 1000000 in
theorem say_any (word : ByteArray) (A : Option Addr) (c : Nat) (l : List Int) (w : World) (hr : Kd.C (Kd.int .i64) w A l.length l) (hl : (l.length : Int) ≤ 9223372036854775807)
    (hi : ∀ n ∈ l, -9223372036854775808 ≤ n ∧ n ≤ 9223372036854775807) (hs : word.size + (sayL l).length ≤ 140737488355328) (ht : Tab10 w) :
    Calls Tryd.prog 13 #[.string word, .slice A l.length c] w fun e w' => e = .returned (.string ⟨(word.data.toList ++ sayL l).toArray⟩) ∧ Below w.heap.size w w' := by
  have HT := Aside0.mk ht
  have HI := Aside0.mk hi
  have HR := Aside0.mk hr
  have HS := Aside0.mk hs
  clear ht hi hr hs
  go_enter Tryd.func13, Tryd.ntmps13
  go_wp2_with fail
  refine (Tryd.Builder_WriteString w.heap.size w.heap.size [] word _ ?_ ?_ ?_).mono ?_
  · exact Or.inl ⟨Nat.le_refl _, _, blk_new _ _, own_nil _ _ _ _, by simp [Value.ownBlock]⟩
  · have := HS.out
    simp
    omega
  · simp
  rintro e w1 ⟨rfl, hb1, hB1⟩
  have HB1 := Aside0.mk hb1
  have hB : Below w.heap.size w w1 := ((Below.refl _ w).alloc (Nat.le_refl _) _).trans (hB1.mono (Nat.le_refl _))
  have hz : Aside0 (w.heap.size < w1.heap.size) := ⟨by have := hB1.size; simp at this; omega⟩
  have HBB := Aside0.mk hB
  clear hb1 hB1 hB
  go_wp2
  go_loopw [12] (fun i wr => ∃ k : Nat, k ≤ l.length ∧ i = .int .i64 k ∧ Aside0 (Lib.IsBuilder 46 5 w.heap.size w.heap.size (Lib.byteCells (word.data.toList ++ sayL (l.take k))) wr) ∧ Aside0 (Below w.heap.size w wr) ∧ Aside0 (w.heap.size < wr.heap.size)) (fun i _ => l.length - (intOf i).toNat)
  case atStart =>
    refine ⟨0, Nat.zero_le _, rfl, ⟨Or.inr ?_⟩, HBB, hz⟩
    have := HB1.out
    simpa [Lib.byteCells, Lib.strCells, sayL] using this
  case round =>
    obtain ⟨k, hk, rfl, HBD, HBL, HZ⟩ := hrel
    by_cases hlt : k < l.length
    · obtain ⟨ad, hA, hcell⟩ := Kd.at_int HR.out k (by omega) (by omega)
      have hcw : wr.cell? (ad.add k) = some (.int .i64 (rd l k)) := (HBL.out.cell (World.block_lt_of_cell? w _ hcell)).trans (by simpa using hcell)
      subst hA
      clear hcell
      have hlen : (word.data.toList ++ sayL (l.take k)).length + 1 + (Lib.itoa (rd l k)).length ≤ 140737488355328 := by
        have h1 := HS.out
        have h2 : l = l.take k ++ rd l k :: l.drop (k + 1) := by
          have : rd l (k : Int) = l[k] := by simp [rd, hlt]
          rw [this, List.getElem_cons_drop, List.take_append_drop]
        rw [h2] at h1
        simp [sayL] at h1 ⊢
        omega
      have hr0 : rd l (k : Int) ∈ l := by
        have : rd l (k : Int) = l[k] := by simp [rd, hlt]
        rw [this]
        exact List.getElem_mem hlt
      have HL := Aside0.mk hlen
      have HM := Aside0.mk hr0
      clear hlen hr0
      go_wp2_with fail
      refine (Tryd.Builder_WriteByte w.heap.size w.heap.size _ 32 _ HBD.out (by have := HL.out; rw [Lib.byteCells_length]; omega) (Nat.le_of_lt HZ.out)).mono ?_
      rintro e w2 ⟨rfl, hb2, hB2⟩
      have HB2 := Aside0.mk hb2
      have HBL2 : Aside0 (Below w.heap.size w w2) := ⟨HBL.out.trans hB2⟩
      have HZ2 : Aside0 (w.heap.size < w2.heap.size) := ⟨Nat.lt_of_lt_of_le HZ.out hB2.size⟩
      clear hb2 hB2 hcw
      go_wp2_with fail
      refine (itoa_any (rd l k) (HI.out _ HM.out).1 (HI.out _ HM.out).2 w2 (HT.out.below HBL2.out)).mono ?_
      rintro e w3 ⟨rfl, hB3⟩
      have HB3 : Aside0 (Lib.BuilderAt 46 5 w.heap.size w.heap.size (.pointer (some ⟨w.heap.size, 0, none⟩)) (Lib.byteCells (word.data.toList ++ sayL (l.take k)) ++ [.int .u8 32]) w3) := ⟨builder_below HB2.out hB3⟩
      have HBL3 : Aside0 (Below w.heap.size w w3) := ⟨HBL2.out.trans (hB3.mono (Nat.le_of_lt HZ2.out))⟩
      have HZ3 : Aside0 (w.heap.size < w3.heap.size) := ⟨Nat.lt_of_lt_of_le HZ2.out hB3.size⟩
      clear hB3
      go_wp2_with fail
      refine (Tryd.Builder_WriteString w.heap.size w.heap.size _ _ _ (Or.inr HB3.out) ?_ (Nat.le_of_lt HZ3.out)).mono ?_
      · have := HL.out
        simp only [List.length_append, Lib.byteCells_length, List.length_cons, List.length_nil] at this ⊢
        simp only [ByteArray.size, List.size_toArray]
        omega
      rintro e w4 ⟨rfl, hb4, hB4⟩
      have HB4 := Aside0.mk hb4
      have HBL4 : Aside0 (Below w.heap.size w w4) := ⟨HBL3.out.trans hB4⟩
      have HZ4 : Aside0 (w.heap.size < w4.heap.size) := ⟨Nat.lt_of_lt_of_le HZ3.out hB4.size⟩
      clear hb4 hB4
      go_wp2
      go_roundw
      case rel =>
        refine ⟨k + 1, by omega, by go_num, ⟨Or.inr ?_⟩, HBL4, HZ4⟩
        have h := HB4.out
        have h2 : l.take (k + 1) = l.take k ++ [rd l k] := by
          have : rd l (k : Int) = l[k] := by simp [rd, hlt]
          rw [this, List.take_succ_eq_append_getElem hlt]
        rw [h2, sayL_snoc]
        simpa [Lib.byteCells, Lib.strCells] using h
      case measure => simp [intOf]; omega
    · have hkk : k = l.length := by omega
      have HK := Aside0.mk hkk
      clear hkk
      go_wp2_with fail
      refine (Tryd.Builder_String_any w.heap.size w.heap.size _ _ HBD.out (Nat.le_of_lt HZ.out)).mono ?_
      rintro e w2 ⟨rfl, hB2⟩
      have HBL2 : Aside0 (Below w.heap.size w w2) := ⟨HBL.out.trans hB2⟩
      clear hB2
      go_wp2
      go_ret
      refine ⟨?_, HBL2.out⟩
      simp [HK.out]
end Go.Proofs.YtegalamdbbjfoaaDoor
