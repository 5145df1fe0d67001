/- Fields: copy of elements of two cells, as a step of a walk. Fields: slices.Insert (41) of one field, in place. Fields: slices.Insert (41) of one field, where the row grows. Fields: slices.Insert (41) of one field. Message: Set (28). Session: Seal (8). Session: what shown's calls give, reckoned. Session: the walk of shown (7). -/
import Derived.Test.YtbnbplppgbmkpaaGreatDoorGrF
import Derived.Lib.AppendZerosOnto
import Derived.Lib.SlBytesConst
namespace Go.Proofs.YtbnbplppgbmkpaaGreatDoor
open Go.RowKit Go.Extern.Stop Go.Stop Go.Extern Go.Proofs.YtbnbplppgbmkpaaGreatDoorW.PrintWords PSessionSeals

/-- What a store of cells leaves of a row. -/
def spl (C : List Value) (o : Nat) (cs : List Value) : List Value := C.take o ++ cs ++ C.drop (o + cs.length)
theorem spl_length (C : List Value) (o : Nat) (cs : List Value) (h : o + cs.length ≤ C.length) : (spl C o cs).length = C.length := by
  unfold spl
  simp only [List.length_append, List.length_take, List.length_drop]
  omega
section
variable {ops : Array Oper} {rest : List Oper} {o : Oper} {a : Act} {Q : Exit → Act → World → Prop} {K : Act → World → Prop} {E : Prop}
theorem cpy_run {W : World} (g off dl dc sl sc : Nat) (ad : Addr) (C cs : List Value) (ty : TypeId) (hg : W.heap[g]? = some (.cells C.toArray 38 (0, 0))) (hn : cs.length = Nat.min sl dl * 2)
    (hc : ∀ j v, cs[j]? = some v → W.cell? (ad.add j) = some v) (hfit : off + cs.length ≤ C.length) (h1 : ∀ v ∈ cs, v.oneCell' = true) :
    ∃ w', (Builtin.copy_ #[27, 27] ty #[.slice (some ⟨g, off, none⟩) dl dc, .slice (some ad) sl sc]).run Tryz.prog W = .ok (goInt (Nat.min sl dl)) w' ∧ w'.heap[g]? = some (.cells (spl C off cs).toArray 38 (0, 0)) ∧ W.grownBy w' (some g) := by
  refine ⟨_, copy_run g off dl dc sl sc ad C.toArray cs ty hg hn hc (by simpa using hfit) h1, ?_, ?_⟩
  · rw [List.toList_toArray]
    exact setRow_heap W g _ _ 38 (0, 0) hg
  · exact ⟨rfl, rfl, rfl, by simp, fun k _ hne => setRow_other W g k _ (fun h => hne (by rw [h]))⟩
theorem cpy_one {W : World} (hgd : o.guard = none) (d s : Operand) (ho : o.op = .call { callee := .builtin .copy, args := #[d, s], argTypes := #[27, 27] })
    (g off dl dc sl sc : Nat) (ad : Addr) (C cs : List Value) (hd : a.eval d = .slice (some ⟨g, off, none⟩) dl dc) (hs : a.eval s = .slice (some ad) sl sc) (hg : W.heap[g]? = some (.cells C.toArray 38 (0, 0))) (hn : cs.length = Nat.min sl dl * 2)
    (hc : ∀ j v, cs[j]? = some v → W.cell? (ad.add j) = some v) (hfit : off + cs.length ≤ C.length) (h1 : ∀ v ∈ cs, v.oneCell' = true)
    (hK : ∀ w', w'.heap[g]? = some (.cells (spl C off cs).toArray 38 (0, 0)) → W.grownBy w' (some g) → wpList Tryz.prog ops Q rest (a.put o.dst (goInt (Nat.min sl dl))) w') : wpList Tryz.prog ops Q (o :: rest) a W := by
  obtain ⟨w', hr, h2, h3⟩ := cpy_run g off dl dc sl sc ad C cs o.type hg hn hc hfit h1
  refine wpList_plain hgd fun K' hK' => ?_
  unfold Oper.wp execOp
  simp only [ho, resolve, invoke, builtin, Sem.run_bind, Sem.run_pure, Result.andThen_ok, List.map_toArray, List.map_cons, List.map_nil, hd, hs, hr]
  exact hK' _ _ (hK w' h2 h3)
theorem cpy_step {W : World} (hgd : o.guard = none) (d s : Operand) (ho : o.op = .call { callee := .builtin .copy, args := #[d, s], argTypes := #[27, 27] })
    (g off dl dc sl sc : Nat) (ad : Addr) (C cs : List Value) (hd : a.eval d = .slice (some ⟨g, off, none⟩) dl dc) (hs : a.eval s = .slice (some ad) sl sc) (hg : W.heap[g]? = some (.cells C.toArray 38 (0, 0))) (hn : cs.length = Nat.min sl dl * 2)
    (hc : ∀ j v, cs[j]? = some v → W.cell? (ad.add j) = some v) (hfit : off + cs.length ≤ C.length) (h1 : ∀ v ∈ cs, v.oneCell' = true)
    (hK : ∀ w', w'.heap[g]? = some (.cells (spl C off cs).toArray 38 (0, 0)) → W.grownBy w' (some g) → K (a.put o.dst (goInt (Nat.min sl dl))) w') : if Region.wanted o (yielded ops a.tmps) = true then Oper.wp Tryz.prog o a W K Q else E := by
  have hw : Region.wanted o (yielded ops a.tmps) = true := by simp [Region.wanted, hgd]
  rw [if_pos hw]
  obtain ⟨w', hr, h2, h3⟩ := cpy_run g off dl dc sl sc ad C cs o.type hg hn hc hfit h1
  unfold Oper.wp execOp
  simp only [ho, resolve, invoke, builtin, Sem.run_bind, Sem.run_pure, Result.andThen_ok, List.map_toArray, List.map_cons, List.map_nil, hd, hs, hr]
  exact hK w' h2 h3
end
theorem spl_cell {W : World} {g : Nat} {C : List Value} (h : W.heap[g]? = some (.cells C.toArray 38 (0, 0))) (o n : Nat) (j : Nat) (v : Value) (hj : ((C.drop o).take n)[j]? = some v) : W.cell? ((⟨g, o, none⟩ : Addr).add j) = some v := by
  rw [List.getElem?_take] at hj
  split at hj
  · rw [List.getElem?_drop] at hj
    rw [add_at, cell_of_row W g _ _ 38 (0, 0) h]
    simpa using hj
  · cases hj
end Go.Proofs.YtbnbplppgbmkpaaGreatDoor

namespace Go.Proofs.YtbnbplppgbmkpaaGreatDoor
open Go.RowKit Go.Extern.Stop Go.Stop Go.Extern Go.Proofs.YtbnbplppgbmkpaaGreatDoorW.PrintWords Go.Proofs.YtbnbplppgbmkpaaGreatDoorW.PrintLast PSessionSeals

theorem spl_at (P Q : List Value) (i : Nat) (cs : List Value) : spl (P ++ Q) (P.length + i) cs = P ++ spl Q i cs := by
  unfold spl
  rw [List.take_length_add_append, Nat.add_assoc, List.drop_length_add_append]
  simp only [List.append_assoc]
/-- The two copies of an insertion. -/
theorem spl_two (P T D R X : List Value) (hX : X.length = 2) (hDR : 2 ≤ (D ++ R).length) :
    spl (spl (P ++ (T ++ (D ++ R))) (P.length + (T.length + 2)) D) (P.length + T.length) X = P ++ (T ++ (X ++ (D ++ R.drop 2))) := by
  rw [spl_at, spl_at]
  rw [spl_at T _ 2 D]
  have h2 := spl_at T (spl (D ++ R) 2 D) 0 X
  rw [Nat.add_zero] at h2
  rw [h2]
  congr 2
  unfold spl
  rw [List.take_zero, List.nil_append, Nat.zero_add, hX]
  congr 1
  rw [List.append_assoc, List.drop_append_of_le_length (by rw [List.length_take]; omega), Nat.add_comm 2 D.length, List.drop_length_add_append]
  rw [List.drop_eq_nil_of_le (by rw [List.length_take]; omega), List.nil_append]
theorem spl_ins (l : List S38) (x : S38) (k o m : Nat) (C : List Value) (hk : k ≤ l.length) (hlen : C.length = o + m * 2) (hm : l.length + 1 ≤ m) (hl0 : (C.drop o).take (l.length * 2) = cells38 l) :
    ((spl (spl C (o + (k + 1) * 2) (cells38 (l.drop k))) (o + k * 2) (cells38 [x])).drop o).take ((l.length + 1) * 2) = cells38 (l.take k ++ x :: l.drop k) := by
  have e : C = C.take o ++ (cells38 (l.take k) ++ (cells38 (l.drop k) ++ (C.drop o).drop (l.length * 2))) := by
    rw [← List.append_assoc (cells38 (l.take k)), ← cells38_append, List.take_append_drop, ← hl0, List.take_append_drop, List.take_append_drop]
  have ho : (C.take o).length = o := by rw [List.length_take]; omega
  have ht : (cells38 (l.take k)).length = k * 2 := by rw [cells38_length, List.length_take]; omega
  obtain ⟨P, hP⟩ : ∃ P, P = C.take o := ⟨_, rfl⟩
  obtain ⟨R, hR⟩ : ∃ R, R = (C.drop o).drop (l.length * 2) := ⟨_, rfl⟩
  have hRl : R.length = (m - l.length) * 2 := by rw [hR]; simp only [List.length_drop]; omega
  rw [← hP] at e ho
  rw [← hR] at e
  have := spl_two P (cells38 (l.take k)) (cells38 (l.drop k)) R (cells38 [x]) rfl (by rw [List.length_append, hRl]; omega)
  rw [ht, ho] at this
  rw [show (k + 1) * 2 = k * 2 + 2 by omega, e, this, ← ho, List.drop_left]
  rw [← List.append_assoc (cells38 [x]), ← List.append_assoc (cells38 (l.take k)), ← cells38_append, ← cells38_append]
  exact List.take_left' (by rw [cells38_length]; simp only [List.length_append, List.length_take, List.length_drop, List.length_cons, List.length_nil]; omega)
theorem tail_cells (l : List S38) (k o : Nat) (C : List Value) (hk : k ≤ l.length) (hl0 : (C.drop o).take (l.length * 2) = cells38 l) : (C.drop (o + k * 2)).take ((l.length - k) * 2) = cells38 (l.drop k) := by
  have : cells38 (l.drop k) = (cells38 l).drop (k * 2) := by
    conv => rhs; rw [← List.take_append_drop k l, cells38_append]
    exact (List.drop_left' (by rw [cells38_length, List.length_take]; omega)).symm
  rw [this, ← hl0, List.drop_take, List.drop_drop]
  congr 1
  omega

set_option maxRecDepth 8000 in
set_option maxHeartbeats 400000 in
theorem ins_in (l : List S38) (x : S38) (k : Nat) (hk : k < l.length) (g o gv cp cv : Nat) (C : List Value) (w : World) (hC : w.heap[g]? = some (.cells C.toArray 38 (0, 0))) (hlen : C.length = o + cp * 2) (hl0 : (C.drop o).take (l.length * 2) = cells38 l)
    (hv : w.heap[gv]? = some (.cells #[.int .i64 x.f0, .string x.f1] 38 (0, 0))) (hne : gv ≠ g) (hl : l.length ≤ 100000000) (hcp : l.length + 1 ≤ cp) :
    Calls Tryz.prog 41 #[.slice (some ⟨g, o, none⟩) l.length cp, .int .i64 k, .slice (some ⟨gv, 0, none⟩) 1 cv] w fun e w' => e = .returned (.slice (some ⟨g, o, none⟩) (l.length + 1) cp) ∧ w.grownBy w' (some g) ∧ ∃ C' : List Value, w'.heap[g]? = some (.cells C'.toArray 38 (0, 0)) ∧ C'.length = C.length ∧ (C'.drop o).take ((l.length + 1) * 2) = cells38 (l.take k ++ x :: l.drop k) := by
  have HC := Aside0.mk hC
  have HV := Aside0.mk hv
  have HL := Aside0.mk hl0
  have hov : ∀ a b c d e f : Nat, (Extern.SlicesOverlaps.overlaps #[27, 27] #[4] #[.slice (some ⟨gv, a, none⟩) b c, .slice (some ⟨g, d, none⟩) e f]).run Tryz.prog w = .ok (.bool false) w := fun a b c d e f => overlaps_no gv g a d b c e f _ _ hv hC hne
  have h53 := @run_callFunc_extern Tryz.prog 53 _ (Extern.SlicesOverlaps.overlaps #[27, 27] #[4]) Tryz.func53 (by kernel_rfl) (by kernel_rfl) (by kernel_rfl) (by kernel_rfl)
  have t1 : ((k : Int) == (l.length : Int)) = false := by rw [beq_eq_false_iff_ne]; omega
  have t2 : ¬ ((cp : Int) < (l.length : Int) + 1) := by omega
  clear hC hv hl0
  go_enter Tryz.func41, Tryz.ntmps41
  go_wp2_with fail
  have hwk : IntKind.i64.wrap ((k : Int) + 1) = ((k + 1 : Nat) : Int) := by rw [IntKind.wrap_i64]; omega
  have hb1 : ¬ ((l.length : Int) + 1 < ((k + 1 : Nat) : Int)) := by omega
  have hk0 : (0 : Int) ≤ (k : Int) + 1 := by omega
  have hkl : k ≤ l.length := by omega
  have hk1 : (k : Int) ≤ (l.length : Int) + 1 := by omega
  have hck : ¬ (cp = k) := by omega
  have hcq : ¬ (cp = k + 1) := by omega
  have hDl : (cells38 (l.drop k)).length = (l.length - k) * 2 := by rw [cells38_length, List.length_drop]
  have hD1 : ∀ v ∈ cells38 (l.drop k), v.oneCell' = true := cells38_one _
  have hT := tail_cells l k o C hkl HL.out
  refine start_ (n := 9) (S := fun w' => True) (ds := [8]) #[false, false, false, false, false, false, false, false, false] (by kernel_rfl) rfl rfl trivial (fun hHeld => ?_)
  refine pure_ (i := 0) (N := some 69) (v := ?_) (a' := ?_) #[true, false, false, false, false, false, false, false, false] rfl rfl (by kernel_rfl) (fun _ _ _ h => h) (Or.inl ⟨by rfl, ?_⟩) ?_ ?_
  rotate_left
  · intro w'
    go_simp
    with_reducible rfl
  rotate_left
  · simp only [Act.put, List.setIfInBounds_toArray, List.set_cons_zero, List.set_cons_succ]
    rfl
  refine pure_ (i := 1) (N := some 70) (v := ?_) (a' := ?_) #[true, true, false, false, false, false, false, false, false] rfl rfl (by kernel_rfl) (fun _ _ _ h => h) (Or.inl ⟨by rfl, ?_⟩) ?_ ?_
  rotate_left
  · intro w'
    go_simp
    with_reducible rfl
  rotate_left
  · simp only [Act.put, List.setIfInBounds_toArray, List.set_cons_zero, List.set_cons_succ]
    rfl
  refine pure_ (i := 2) (N := some 71) (v := ?_) (a' := ?_) #[true, true, true, false, false, false, false, false, false] rfl rfl (by kernel_rfl) (fun _ _ _ h => h) (Or.inl ⟨by rfl, ?_⟩) ?_ ?_
  rotate_left
  · intro w'
    go_simp
    with_reducible rfl
  rotate_left
  · simp only [Act.put, List.setIfInBounds_toArray, List.set_cons_zero, List.set_cons_succ]
    rfl
  refine pure_ (i := 3) (N := some 72) (v := ?_) (a' := ?_) #[true, true, true, true, false, false, false, false, false] rfl rfl (by kernel_rfl) (fun _ _ _ h => h) (Or.inl ⟨by rfl, ?_⟩) ?_ ?_
  rotate_left
  · intro w'
    go_simp
    with_reducible rfl
  rotate_left
  · simp only [Act.put, List.setIfInBounds_toArray, List.set_cons_zero, List.set_cons_succ]
    rfl
  refine pure_ (i := 4) (N := some 73) (v := ?_) (a' := ?_) #[true, true, true, true, true, false, false, false, false] rfl rfl (by kernel_rfl) (fun _ _ _ h => h) (Or.inl ⟨by rfl, ?_⟩) ?_ ?_
  rotate_left
  · intro w'
    go_simp
    with_reducible rfl
  rotate_left
  · simp only [Act.put, List.setIfInBounds_toArray, List.set_cons_zero, List.set_cons_succ]
    rfl
  refine pure_ (i := 5) (N := some 74) (v := ?_) (a' := ?_) #[true, true, true, true, true, true, false, false, false] rfl rfl (by kernel_rfl) (fun _ _ _ h => h) (Or.inl ⟨by rfl, ?_⟩) ?_ ?_
  rotate_left
  · intro w'
    go_simp
    with_reducible rfl
  rotate_left
  · simp only [Act.put, List.setIfInBounds_toArray, List.set_cons_zero, List.set_cons_succ]
    rfl
  refine pure_ (i := 6) (N := some 75) (v := ?_) (a' := ?_) #[true, true, true, true, true, true, true, false, false] rfl rfl (by kernel_rfl) (fun _ _ _ h => h) (Or.inl ⟨by rfl, ?_⟩) ?_ ?_
  rotate_left
  · intro w'
    go_simp
    with_reducible rfl
  rotate_left
  · simp only [Act.put, List.setIfInBounds_toArray, List.set_cons_zero, List.set_cons_succ]
    rfl
  refine pure_ (i := 7) (N := some 76) (v := ?_) (a' := ?_) #[true, true, true, true, true, true, true, true, false] rfl rfl (by kernel_rfl) (fun _ _ _ h => h) (Or.inl ⟨by rfl, ?_⟩) ?_ ?_
  rotate_left
  · intro w'
    go_simp
    with_reducible rfl
  rotate_left
  · simp only [Act.put, List.setIfInBounds_toArray, List.set_cons_zero, List.set_cons_succ]
    rfl
  refine last_ (i := 8) (N := some 77) #[true, true, true, true, true, true, true, true, true] rfl rfl (by kernel_rfl) (by decide) (fun K hK => ?_)
  refine cpy_step rfl (.tmp 73) (.tmp 76) rfl g (o + (k + 1) * 2) _ _ _ _ ⟨g, o + k * 2, none⟩ C (cells38 (l.drop k)) rfl rfl ?_ ?_ ?_ ?_ hD1 ?_
  · exact HC.out
  · rw [hDl, show (l.length + 1 - k).min (l.length - k) = min (l.length + 1 - k) (l.length - k) from rfl]; omega
  · intro j v hj; exact spl_cell (W := w.drew) HC.out (o + k * 2) ((l.length - k) * 2) j v (by rw [hT]; exact hj)
  · rw [hDl]; omega
  intro w1 hw1 hg1
  refine hK.out _ _ ?_
  clear hK K
  refine norm_ (a' := ?_) ?_ ?_
  rotate_left
  · show Act.put _ (some 77) _ = _
    simp only [Act.put, List.setIfInBounds_toArray, List.set_cons_zero, List.set_cons_succ]
    rfl
  refine done_ (by kernel_rfl) ?_

  have HC1 := Aside0.mk hw1
  have hn1 : (spl C (o + (k + 1) * 2) (cells38 (l.drop k))).length = C.length := spl_length _ _ _ (by rw [hDl]; omega)
  have hgvl : gv < w.heap.size := (Array.getElem?_eq_some_iff.1 HV.out).1
  have HV1 : Aside0 (w1.heap[gv]? = some (.cells [Value.int .i64 x.f0, .string x.f1].toArray 38 (0, 0))) := ⟨(hg1.block gv hgvl (fun h => hne (Option.some.inj h))).trans HV.out⟩
  have HG1 := Aside0.mk hg1
  clear hw1 hg1
  have h2l : (cells38 [x]).length = 2 := rfl
  go_wp2_with (first | (refine cpy_one rfl (.tmp 80) (.tmp 81) rfl g (o + k * 2) _ _ _ _ ⟨gv, 0, none⟩ (spl C (o + (k + 1) * 2) (cells38 (l.drop k))) (cells38 [x]) rfl rfl ?_ ?_ ?_ ?_ (cells38_one _) ?_; (focus exact HC1.out); (focus (rw [h2l, show ∀ a b : Nat, Nat.min a b = min a b from fun _ _ => rfl]; omega)); (focus exact fun j v hj => spl_cell HV1.out 0 2 j v hj); (focus (rw [hn1, h2l]; omega)); intro w2 hw2 hg2) | fail)
  go_ret
  refine ⟨rfl, ?_, _, hw2, ?_, ?_⟩
  · exact ⟨by rw [hg2.os, HG1.out.os]; rfl, by rw [hg2.tape, HG1.out.tape]; rfl, by rw [hg2.output, HG1.out.output]; rfl, Nat.le_trans HG1.out.size hg2.size, fun q hq hqn => (hg2.block q (Nat.lt_of_lt_of_le hq HG1.out.size) hqn).trans (HG1.out.block q hq hqn)⟩
  · rw [spl_length _ _ _ (by rw [hn1, h2l]; omega), hn1]; exact hlen
  · exact spl_ins l x k o cp C hkl hlen hcp HL.out
end Go.Proofs.YtbnbplppgbmkpaaGreatDoor

namespace Go.Proofs.YtbnbplppgbmkpaaGreatDoor
open Go.RowKit Go.Extern.Stop Go.Stop Go.Extern Go.Proofs.YtbnbplppgbmkpaaGreatDoorW.PrintWords Go.Proofs.YtbnbplppgbmkpaaGreatDoorW.PrintLast PSessionSeals

theorem arr_cat (T : List Value) (A B : Array Value) : T.toArray ++ A ++ B = (T ++ (A.toList ++ B.toList)).toArray := by
  apply Array.toList_inj.1
  simp
section
variable {ops : Array Oper} {rest : List Oper} {o : Oper} {a : Act} {Q : Exit → Act → World → Prop}
theorem grow_one {W : World} (hgd : o.guard = none) (s x : Operand) (ho : o.op = .call { callee := .builtin .append, args := #[s, x], argTypes := #[27, 3] })
    (ad : Addr) (k m cp : Nat) (z : Int) (T : List Value) (hs : a.eval s = .slice (some ad) k cp) (hx : a.eval x = .int .i64 z) (hz : z = (m : Nat)) (hT : ∀ j v, T[j]? = some v → W.cell? (ad.add j) = some v) (hTl : T.length = k * 2)
    (N : Nat) (hN : k + m = N) (hg : cp < k + m) (h0 : 0 < m) (hsmall : k + m ≤ 1000000000)
    (hK : ∀ c' w' Z, w'.heap[W.heap.size]? = some (.cells (T ++ Z).toArray 38 (0, 0)) → (T ++ Z).length = c' * 2 → N ≤ c' → c' ≤ maxLen → W.grownBy w' none → wpList Tryz.prog ops Q rest (a.put o.dst (.slice (some ⟨W.heap.size, 0, none⟩) N c')) w') : wpList Tryz.prog ops Q (o :: rest) a W := by
  subst hz
  subst hN
  obtain ⟨i0, hi, hz0, hz1, hz2⟩ := info_parts fieldInfo
  have hold : (Builtin.firstCells i0.size k (.slice (some ad) k cp)).run Tryz.prog W.drew = .ok T.toArray W.drew :=
    run_firstCells_some (P := Tryz.prog) W.drew i0.size k ad k cp T (by rw [hz1]; exact hTl) (fun j v hj => hT j v hj)
  have hr := Lib.run_append_grow_zeros (P := Tryz.prog) W 27 3 o.type 38 i0 _ .i64 .i64 Tryz.underlying27 Tryz.underlying3 hi hz0 (some ad) k cp T hold m h0 (by rw [hz1]; decide) hg (by omega) (by rw [hz2]; omega) (growslice_fits hg (by rw [hz2]; omega))
  have hge := grownCap_ge W (k + m) cp 38
  have hcm : grownCap W (k + m) cp 38 ≤ maxLen := grownCap_le_maxLen W (k + m) cp 38 (by simp only [maxLen]; omega)
  refine wpList_plain hgd fun K' hK' => ?_
  unfold Oper.wp execOp
  simp only [ho, resolve, invoke, builtin, Sem.run_bind, Sem.run_pure, Result.andThen_ok, List.map_toArray, List.map_cons, List.map_nil, hs, hx, hr]
  refine hK' _ _ (hK _ _ ((Builtin.zeroCells (Value.agg #[.int .i64 0, .string ⟨#[]⟩]).cells m).toList ++ (Builtin.zeroCells (Value.agg #[.int .i64 0, .string ⟨#[]⟩]).cells (grownCap W (k + m) cp 38 - (k + m))).toList) ?_ ?_ hge hcm ⟨rfl, rfl, rfl, by simp, fun q hq => fun _ => heap_alloc_old W.drew _ hq⟩)
  · exact (heap_alloc_new W.drew _).trans (by rw [arr_cat])
  · have e : (Value.agg #[.int .i64 0, .string ⟨#[]⟩]).cells.size = 2 := rfl
    simp only [List.length_append, hTl, Array.length_toList, size_zeroCells, e]
    omega
end
theorem spl_grow (T D X Z : List Value) (hX : X.length = 2) : spl (spl (T ++ Z) T.length X) (T.length + 2) D = T ++ (X ++ (D ++ Z.drop (2 + D.length))) := by
  have h1 := spl_at T Z 0 X
  rw [Nat.add_zero] at h1
  rw [h1, spl_at]
  congr 1
  have e : spl Z 0 X = X ++ Z.drop 2 := by unfold spl; rw [List.take_zero, List.nil_append, Nat.zero_add, hX]
  have h2 := spl_at X (Z.drop 2) 0 D
  rw [Nat.add_zero, hX] at h2
  rw [e, h2]
  unfold spl
  rw [List.take_zero, List.nil_append, Nat.zero_add, List.drop_drop]

set_option maxRecDepth 8000 in
set_option maxHeartbeats 400000 in
theorem ins_grow (l : List S38) (x : S38) (k : Nat) (hk : k < l.length) (g o gv cp cv : Nat) (C : List Value) (w : World) (hC : w.heap[g]? = some (.cells C.toArray 38 (0, 0))) (hl0 : (C.drop o).take (l.length * 2) = cells38 l)
    (hv : w.heap[gv]? = some (.cells #[.int .i64 x.f0, .string x.f1] 38 (0, 0))) (hl : l.length ≤ 100000000) (hcl : l.length ≤ cp) (hcp : cp < l.length + 1) :
    Calls Tryz.prog 41 #[.slice (some ⟨g, o, none⟩) l.length cp, .int .i64 k, .slice (some ⟨gv, 0, none⟩) 1 cv] w fun e w' => w.grownBy w' none ∧ ∃ (C' : List Value) (c' : Nat), e = .returned (.slice (some ⟨w.heap.size, 0, none⟩) (l.length + 1) c') ∧ w'.heap[w.heap.size]? = some (.cells C'.toArray 38 (0, 0)) ∧ C'.length = c' * 2 ∧ l.length + 1 ≤ c' ∧ c' ≤ maxLen ∧ C'.take ((l.length + 1) * 2) = cells38 (l.take k ++ x :: l.drop k) := by
  have HC := Aside0.mk hC
  have HV := Aside0.mk hv
  have HL := Aside0.mk hl0
  have t1 : ((k : Int) == (l.length : Int)) = false := by rw [beq_eq_false_iff_ne]; omega
  have t2 : (cp : Int) < (l.length : Int) + 1 := by omega
  have hkc : (k : Int) ≤ cp := by omega
  clear hC hv hl0
  go_enter Tryz.func41, Tryz.ntmps41
  have hkl : k ≤ l.length := by omega
  have hTl : (cells38 (l.take k)).length = k * 2 := by rw [cells38_length, List.length_take]; omega
  have hDl : (cells38 (l.drop k)).length = (l.length - k) * 2 := by rw [cells38_length, List.length_drop]
  have hD1 : ∀ v ∈ cells38 (l.drop k), v.oneCell' = true := cells38_one _
  have hT := tail_cells l k o C hkl HL.out
  have hT0 : (C.drop o).take (k * 2) = cells38 (l.take k) := by rw [cells38_take, ← HL.out, List.take_take]; congr 1; omega
  have h2l : (cells38 [x]).length = 2 := rfl
  have hk1 : (k : Int) ≤ (l.length : Int) + 1 := by omega
  have hgl : g < w.heap.size := (Array.getElem?_eq_some_iff.1 HC.out).1
  have hgvl : gv < w.heap.size := (Array.getElem?_eq_some_iff.1 HV.out).1
  go_wp2_with (first | (at_builtin; (refine grow_one rfl (.tmp 34) (.tmp 39) rfl ⟨g, o, none⟩ k (l.length + 1 - k) cp _ (cells38 (l.take k)) (by rfl) (by rfl) ?_ ?_ hTl (l.length + 1) ?_ ?_ ?_ ?_ ?_); (focus omega); (focus exact fun j v hj => spl_cell HC.out o (k * 2) j v (by rw [hT0]; exact hj)); (focus omega); (focus omega); (focus omega); (focus omega); (intro c1 w1 Z hw1 hz1 hc1 hm1 hg1; have HW1 := Aside0.mk hw1; have HG1 := Aside0.mk hg1; have hc1k : ¬ (c1 = k) := (by omega); have HV1 : Aside0 (w1.heap[gv]? = some (.cells [Value.int .i64 x.f0, .string x.f1].toArray 38 (0, 0))) := ⟨(hg1.block gv hgvl (by simp)).trans HV.out⟩; have HC1 : Aside0 (w1.heap[g]? = some (.cells C.toArray 38 (0, 0))) := ⟨(hg1.block g hgl (by simp)).trans HC.out⟩; clear hw1 hg1)) | ((refine cpy_one rfl (.tmp 43) (.tmp 44) rfl w.heap.size (k * 2) _ _ _ _ ⟨gv, 0, none⟩ (cells38 (l.take k) ++ Z) (cells38 [x]) rfl rfl ?_ ?_ ?_ ?_ (cells38_one _) ?_); (focus exact HW1.out); (focus (rw [h2l, show ∀ a b : Nat, Nat.min a b = min a b from fun _ _ => rfl]; omega)); (focus exact fun j v hj => spl_cell HV1.out 0 2 j v hj); (focus (rw [hz1, h2l]; omega)); (intro w2 hw2 hg2; have HW2 := Aside0.mk hw2; have HC2 : Aside0 (w2.heap[g]? = some (.cells C.toArray 38 (0, 0))) := ⟨(hg2.block g (Nat.lt_of_lt_of_le hgl HG1.out.size) (by simp; omega)).trans HC1.out⟩; have HG2 := Aside0.mk hg2; clear hw2 hg2)) | fail)
  have hwk : IntKind.i64.wrap ((k : Int) + 1) = ((k + 1 : Nat) : Int) := by rw [IntKind.wrap_i64]; omega
  have hk0 : (0 : Int) ≤ (k : Int) + 1 := by omega
  have hcq : ¬ (c1 = k + 1) := by omega
  have hck : ¬ (cp = k) := by omega
  have hkz : (k : Int) ≤ (l.length : Int) := by omega
  have hn1 : (spl (cells38 (l.take k) ++ Z) (k * 2) (cells38 [x])).length = c1 * 2 := (spl_length _ _ _ (by rw [hz1, h2l]; omega)).trans hz1
  refine start_ (n := 9) (S := fun w' => True) (ds := [8]) #[false, false, false, false, false, false, false, false, false] (by kernel_rfl) rfl rfl trivial (fun hHeld => ?_)
  refine pure_ (i := 0) (N := some 46) (v := ?_) (a' := ?_) #[true, false, false, false, false, false, false, false, false] rfl rfl (by kernel_rfl) (fun _ _ _ h => h) (Or.inl ⟨by rfl, ?_⟩) ?_ ?_
  rotate_left
  · intro w'
    go_simp
    with_reducible rfl
  rotate_left
  · simp only [Act.put, List.setIfInBounds_toArray, List.set_cons_zero, List.set_cons_succ]
    rfl
  refine pure_ (i := 1) (N := some 47) (v := ?_) (a' := ?_) #[true, true, false, false, false, false, false, false, false] rfl rfl (by kernel_rfl) (fun _ _ _ h => h) (Or.inl ⟨by rfl, ?_⟩) ?_ ?_
  rotate_left
  · intro w'
    go_simp
    with_reducible rfl
  rotate_left
  · simp only [Act.put, List.setIfInBounds_toArray, List.set_cons_zero, List.set_cons_succ]
    rfl
  refine pure_ (i := 2) (N := some 48) (v := ?_) (a' := ?_) #[true, true, true, false, false, false, false, false, false] rfl rfl (by kernel_rfl) (fun _ _ _ h => h) (Or.inl ⟨by rfl, ?_⟩) ?_ ?_
  rotate_left
  · intro w'
    go_simp
    with_reducible rfl
  rotate_left
  · simp only [Act.put, List.setIfInBounds_toArray, List.set_cons_zero, List.set_cons_succ]
    rfl
  refine pure_ (i := 3) (N := some 49) (v := ?_) (a' := ?_) #[true, true, true, true, false, false, false, false, false] rfl rfl (by kernel_rfl) (fun _ _ _ h => h) (Or.inl ⟨by rfl, ?_⟩) ?_ ?_
  rotate_left
  · intro w'
    go_simp
    with_reducible rfl
  rotate_left
  · simp only [Act.put, List.setIfInBounds_toArray, List.set_cons_zero, List.set_cons_succ]
    rfl
  refine pure_ (i := 4) (N := some 50) (v := ?_) (a' := ?_) #[true, true, true, true, true, false, false, false, false] rfl rfl (by kernel_rfl) (fun _ _ _ h => h) (Or.inl ⟨by rfl, ?_⟩) ?_ ?_
  rotate_left
  · intro w'
    go_simp
    with_reducible rfl
  rotate_left
  · simp only [Act.put, List.setIfInBounds_toArray, List.set_cons_zero, List.set_cons_succ]
    rfl
  refine pure_ (i := 5) (N := some 51) (v := ?_) (a' := ?_) #[true, true, true, true, true, true, false, false, false] rfl rfl (by kernel_rfl) (fun _ _ _ h => h) (Or.inl ⟨by rfl, ?_⟩) ?_ ?_
  rotate_left
  · intro w'
    go_simp
    with_reducible rfl
  rotate_left
  · simp only [Act.put, List.setIfInBounds_toArray, List.set_cons_zero, List.set_cons_succ]
    rfl
  refine pure_ (i := 6) (N := some 52) (v := ?_) (a' := ?_) #[true, true, true, true, true, true, true, false, false] rfl rfl (by kernel_rfl) (fun _ _ _ h => h) (Or.inl ⟨by rfl, ?_⟩) ?_ ?_
  rotate_left
  · intro w'
    go_simp
    with_reducible rfl
  rotate_left
  · simp only [Act.put, List.setIfInBounds_toArray, List.set_cons_zero, List.set_cons_succ]
    rfl
  refine pure_ (i := 7) (N := some 53) (v := ?_) (a' := ?_) #[true, true, true, true, true, true, true, true, false] rfl rfl (by kernel_rfl) (fun _ _ _ h => h) (Or.inl ⟨by rfl, ?_⟩) ?_ ?_
  rotate_left
  · intro w'
    go_simp
    with_reducible rfl
  rotate_left
  · simp only [Act.put, List.setIfInBounds_toArray, List.set_cons_zero, List.set_cons_succ]
    rfl
  refine last_ (i := 8) (N := some 54) #[true, true, true, true, true, true, true, true, true] rfl rfl (by kernel_rfl) (by decide) (fun K hK => ?_)
  refine cpy_step rfl (.tmp 50) (.tmp 53) rfl w.heap.size ((k + 1) * 2) _ _ _ _ ⟨g, o + k * 2, none⟩ (spl (cells38 (l.take k) ++ Z) (k * 2) (cells38 [x])) (cells38 (l.drop k)) rfl rfl ?_ ?_ ?_ ?_ hD1 ?_
  · exact HW2.out
  · rw [hDl]; show _ = (min _ _ : Nat) * 2; omega
  · intro j v hj; exact spl_cell (W := w2.drew) HC2.out (o + k * 2) ((l.length - k) * 2) j v (by rw [hT]; exact hj)
  · rw [hDl, hn1]; omega
  intro w3 hw3 hg3
  refine hK.out _ _ ?_
  clear hK K
  refine norm_ (a' := ?_) ?_ ?_
  rotate_left
  · show Act.put _ (some 54) _ = _
    simp only [Act.put, List.setIfInBounds_toArray, List.set_cons_zero, List.set_cons_succ]
    rfl
  refine done_ (by kernel_rfl) ?_

  have HW3 := Aside0.mk hw3
  have HG3 := Aside0.mk hg3
  clear hw3 hg3
  go_wp2_with fail
  go_ret
  have hsz2 : w1.heap.size ≤ w2.heap.size := HG2.out.size
  have hsz1 : w.heap.size ≤ w1.heap.size := HG1.out.size
  refine ⟨⟨?_, ?_, ?_, ?_, ?_⟩, _, c1, rfl, HW3.out, ?_, hc1, hm1, ?_⟩
  · rw [HG3.out.os]; exact HG2.out.os.trans HG1.out.os
  · rw [HG3.out.tape]; exact HG2.out.tape.trans HG1.out.tape
  · rw [HG3.out.output]; exact HG2.out.output.trans HG1.out.output
  · exact Nat.le_trans hsz1 (Nat.le_trans hsz2 HG3.out.size)
  · intro q hq _
    refine (HG3.out.block q (Nat.lt_of_lt_of_le hq (Nat.le_trans hsz1 hsz2)) (by simp; omega)).trans ?_
    refine (HG2.out.block q (Nat.lt_of_lt_of_le hq hsz1) (by simp; omega)).trans ?_
    exact HG1.out.block q hq (by simp)
  · rw [spl_length _ _ _ (by rw [hn1, hDl]; omega), hn1]
  · have e := spl_grow (cells38 (l.take k)) (cells38 (l.drop k)) (cells38 [x]) Z rfl
    rw [hTl] at e
    rw [show (k + 1) * 2 = k * 2 + 2 by omega, e]
    rw [← List.append_assoc (cells38 [x]), ← List.append_assoc (cells38 (l.take k)), ← cells38_append, ← cells38_append]
    exact List.take_left' (by rw [cells38_length]; simp only [List.length_append, List.length_take, List.length_drop, List.length_cons, List.length_nil]; omega)
end Go.Proofs.YtbnbplppgbmkpaaGreatDoor

namespace Go.Proofs.YtbnbplppgbmkpaaGreatDoor
open Go.RowKit Go.Extern.Stop Go.Stop Go.Extern Go.Proofs.YtbnbplppgbmkpaaGreatDoorW.PrintWords PSessionSeals

theorem one_field {w : World} {gv : Nat} {x : S38} (hv : w.heap[gv]? = some (.cells #[.int .i64 x.f0, .string x.f1] 38 (0, 0))) : Kd.C k38 w (some ⟨gv, 0, none⟩) 1 [x] := by
  refine ⟨rfl, by decide, fun _ => ⟨_, rfl, fun j p hj => ?_⟩⟩
  cases j with
  | succ j => simp at hj
  | zero =>
    simp only [List.getElem?_cons_zero, Option.some.injEq] at hj
    subst hj
    refine ⟨[.int .i64 x.f0, .string x.f1], rfl, k38_mk _ _, fun i u hu => ?_⟩
    rw [add_at, cell_of_row w gv _ _ 38 (0, 0) hv]
    simpa using hu
theorem Insert_any (l : List S38) (x : S38) (k : Nat) (hk : k ≤ l.length) (A : Option Addr) (gv cp cv B : Nat) (w : World) (hr : FRow w B (.slice A l.length cp) l) (hv : w.heap[gv]? = some (.cells #[.int .i64 x.f0, .string x.f1] 38 (0, 0))) (hne : (Value.slice A l.length cp).ownBlock ≠ some gv) (hB : B ≤ w.heap.size) (hl : l.length ≤ 100000000) :
    Calls Tryz.prog 41 #[.slice A l.length cp, .int .i64 k, .slice (some ⟨gv, 0, none⟩) 1 cv] w fun e w' => ∃ A' c', e = .returned (.slice A' (l.take k ++ x :: l.drop k).length c') ∧ FRow w' B (.slice A' (l.take k ++ x :: l.drop k).length c') (l.take k ++ x :: l.drop k) ∧ Below B w w' := by
  have hL : (l.take k ++ x :: l.drop k).length = l.length + 1 := by simp only [List.length_append, List.length_take, List.length_drop, List.length_cons]; omega
  rcases Nat.lt_or_eq_of_le hk with hk' | hk'
  · rcases id hr.2 with ⟨h0, _⟩ | ⟨g, off, cap, cur, he, hb, hh, hnc, hcm, hcs, ht⟩
    · omega
    · injection he with ha _ hc
      subst ha; subst hc
      have hC : w.heap[g]? = some (.cells cur.toList.toArray 38 (0, 0)) := by simpa using hh
      have hne' : gv ≠ g := fun h => hne (by rw [h]; rfl)
      by_cases hcap : l.length + 1 ≤ cp
      · refine Calls.mono (ins_in l x k hk' g (off * 2) gv cp cv cur.toList w hC (by rw [Array.length_toList, hcs, Nat.add_mul]) ht hv hne' hl hcap) ?_
        rintro e w' ⟨rfl, hg, C', hC', hlen, hcell⟩
        refine ⟨some ⟨g, off * 2, none⟩, cp, by rw [hL], ⟨by rw [cells38_length], .inr ⟨g, off, cp, C'.toArray, rfl, hb, hC', by rw [hL]; exact hcap, hcm, ?_, ?_⟩⟩, ?_⟩
        · rw [List.size_toArray, hlen, Array.length_toList, hcs]
        · rw [hL, List.toList_toArray]; exact hcell
        · exact (Below.refl B w).grown hg hB (fun q hq => by obtain rfl := Option.some.inj hq; exact hb)
      · refine Calls.mono (ins_grow l x k hk' g (off * 2) gv cp cv cur.toList w hC ht hv hl (by omega) (by omega)) ?_
        rintro e w' ⟨hg, C', c', rfl, hC', hlen, hc', hm', hcell⟩
        refine ⟨some ⟨w.heap.size, 0, none⟩, c', by rw [hL], ⟨by rw [cells38_length], .inr ⟨w.heap.size, 0, c', C'.toArray, by rw [Nat.zero_mul], hB, hC', by rw [hL]; exact hc', by rw [Nat.zero_add]; exact hm', ?_, ?_⟩⟩, ?_⟩
        · rw [List.size_toArray, hlen, Nat.zero_add]
        · rw [hL, List.toList_toArray, Nat.zero_mul, List.drop_zero]; exact hcell
        · exact (Below.refl B w).grown hg hB (fun q hq => by cases hq)
  · subst hk'
    rw [List.take_length, List.drop_length]
    exact ins_end l x A (some ⟨gv, 0, none⟩) cp cv B w hr (one_field hv) hB hl
end Go.Proofs.YtbnbplppgbmkpaaGreatDoor

namespace Go.Proofs.YtbnbplppgbmkpaaGreatDoor
open Go.RowKit Go.Extern.Stop Go.Stop Go.Extern Go.Proofs.YtbnbplppgbmkpaaGreatDoorW.PrintLast Go.Proofs.YtbnbplppgbmkpaaGreatDoorW.PrintWords PSessionSeals

/-- Where a field comes in. -/
def setK (no : Int) (m : List S38) : Nat := if idxP (isBig no) m < 0 then m.length else (idxP (isBig no) m).toNat
/-- What Set gives. -/
def setL (no : Int) (t : ByteArray) (l : List S38) : List S38 :=
  (l.filter (fun x => !(isNo no) x)).take (setK no (l.filter (fun x => !(isNo no) x))) ++ ⟨no, t⟩ :: (l.filter (fun x => !(isNo no) x)).drop (setK no (l.filter (fun x => !(isNo no) x)))
theorem idxP_le (p : S38 → Bool) : ∀ l : List S38, -1 ≤ idxP p l ∧ idxP p l < l.length ∨ l = [] ∧ idxP p l = -1
  | [] => .inr ⟨rfl, rfl⟩
  | x :: r => by
    left
    unfold idxP
    rcases idxP_le p r with ⟨h1, h2⟩ | ⟨rfl, h⟩
    · split
      · exact ⟨by decide, by simp⟩
      · split
        · exact ⟨by decide, by simp; omega⟩
        · simp only [List.length_cons]; omega
    · split
      · exact ⟨by decide, by simp⟩
      · exact ⟨by decide, by simp⟩
theorem setK_le (no : Int) (m : List S38) : setK no m ≤ m.length := by
  unfold setK
  rcases idxP_le (isBig no) m with ⟨h1, h2⟩ | ⟨rfl, h⟩
  · split <;> omega
  · simp [h]
theorem setL_length (no : Int) (t : ByteArray) (l : List S38) : (setL no t l).length ≤ l.length + 1 := by
  have := setK_le no (l.filter (fun x => !(isNo no) x))
  have h2 : (l.filter (fun x => !(isNo no) x)).length ≤ l.length := List.length_filter_le _ _
  unfold setL
  simp only [List.length_append, List.length_take, List.length_drop, List.length_cons]
  omega

/-- A row of fields whose length is named. -/
def FR0 (W : World) (B : Nat) (v : Value) (n : Nat) (xs : List S38) : Prop := QRow W B 38 2 v n (cells38 xs)
theorem fr0_move {W W1 : World} {B n : Nat} {v : Value} {xs : List S38} (h : FR0 W B v n xs) (hm : ∀ k, v.ownBlock = some k → W1.heap[k]? = W.heap[k]?) : FR0 W1 B v n xs := q_move h hm
theorem frow_base' {W : World} {B n : Nat} {v : Value} {xs : List S38} (h : FR0 W B v n xs) : ∀ k, v.ownBlock = some k → B ≤ k := fun k hk => (q_typed h k hk).1
set_option maxRecDepth 4000 in
set_option maxHeartbeats 1000000 in
theorem Set_any (typ no : Int) (t : ByteArray) (l : List S38) (A : Option Addr) (cp : Nat) (w : World) (hr : Kd.C k38 w A l.length l) (hl : l.length ≤ 90000000) :
    Calls Tryz.prog 28 #[.agg #[.int .i64 typ, .slice A l.length cp], .int .i64 no, .string t] w fun e w' => ∃ A' c', e = .returned (.agg #[.int .i64 typ, .slice A' (setL no t l).length c']) ∧ FRow w' w.heap.size (.slice A' (setL no t l).length c') (setL no t l) ∧ Below w.heap.size w w' := by
  have b1 := below_alloc (Below.refl w.heap.size w) (.cells #[.int .i64 typ, .slice A l.length cp] 29)
  have b2 := below_alloc b1 (.cells #[.int .i64 no] 3)
  have b3 := below_alloc b2 (.cells #[.int .i64 0, .slice none 0 0] 29)
  have p1 := blk_alloc (blk_alloc (blk_new w (.cells #[.int .i64 typ, .slice A l.length cp] 29)) (.cells #[.int .i64 no] 3)) (.cells #[.int .i64 0, .slice none 0 0] 29)
  have p2 := blk_alloc (blk_new (w.alloc (.cells #[.int .i64 typ, .slice A l.length cp] 29)) (.cells #[.int .i64 no] 3)) (.cells #[.int .i64 0, .slice none 0 0] 29)
  have p3 := blk_new ((w.alloc (.cells #[.int .i64 typ, .slice A l.length cp] 29)).alloc (.cells #[.int .i64 no] 3)) (.cells #[.int .i64 0, .slice none 0 0] 29)
  simp only [World.size_alloc] at p2 p3
  have m0 := blk_cell p1 0
  have m1 := blk_cell p1 1
  simp only [List.getElem?_toArray, List.getElem?_cons_zero, List.getElem?_cons_succ] at m0 m1
  have HR := Aside0.mk (Kd.C_below hr b3)
  have HB := Aside0.mk b3
  have HP := Aside0.mk p1
  have HN := Aside0.mk p2
  have HO := Aside0.mk p3
  clear b1 b2 b3 p1 p2 p3 hr
  go_enter Tryz.func28, Tryz.ntmps28
  go_wp2_with fail
  have hz : (((w.alloc (.cells #[.int .i64 typ, .slice A l.length cp] 29)).alloc (.cells #[.int .i64 no] 3)).alloc (.cells #[.int .i64 0, .slice none 0 0] 29)).heap.size = w.heap.size + 3 := by simp
  generalize (((w.alloc (.cells #[.int .i64 typ, .slice A l.length cp] 29)).alloc (.cells #[.int .i64 no] 3)).alloc (.cells #[.int .i64 0, .slice none 0 0] 29)) = W0 at *
  clear m0 m1
  refine (Clone_any l A cp W0 HR.out (by omega)).mono ?_
  rintro e w2 ⟨A2, c2, rfl, hq2, hb2⟩
  have hx2 := blk_below HN.out hb2
  have HQ2 := Aside0.mk hq2
  have HB2 := Aside0.mk hb2
  have HX2 := Aside0.mk hx2
  clear hq2 hb2 hx2
  dsimp only
  go_wp2_with fail
  refine (del_no no (w.heap.size + 1) l A2 c2 W0.heap.size w2 HX2.out HQ2.out HB2.out.size).mono ?_
  rintro e w3 ⟨A3, c3, rfl, hq3, hg3⟩
  have HQ3 := Aside0.mk hq3
  have HB3 := Aside0.mk (HB2.out.grown hg3 HB2.out.size (fun k hk => frow_base HQ2.out k hk))
  clear hq3 hg3
  have hml : (l.filter (fun x => !(isNo no) x)).length ≤ l.length := List.length_filter_le _ _
  have hSL : Aside0 (setL no t l = (l.filter (fun x => !(isNo no) x)).take (setK no (l.filter (fun x => !(isNo no) x))) ++ ⟨no, t⟩ :: (l.filter (fun x => !(isNo no) x)).drop (setK no (l.filter (fun x => !(isNo no) x)))) := ⟨rfl⟩
  have hKL := setK_le no (l.filter (fun x => !(isNo no) x))
  dsimp only
  go_wp2_with fail
  refine (idx_big no (w.heap.size + 1) (l.filter (fun x => !(isNo no) x)) A3 c3 w3 (blk_below HN.out HB3.out) (frow_reads HQ3.out)).mono ?_
  rintro e w4 ⟨rfl, hb4⟩
  have hq4 := frow_below HQ3.out hb4
  have hb4x := HB3.out.trans (hb4.mono HB3.out.size)
  clear hb4
  have HQ4 := Aside0.mk hq4
  have HB4 := Aside0.mk hb4x
  clear hq4 hb4x
  dsimp only
  by_cases hneg : idxP (isBig no) (l.filter (fun x => !(isNo no) x)) < 0
  · have hkn : setK no (l.filter (fun x => !(isNo no) x)) = (l.filter (fun x => !(isNo no) x)).length := by unfold setK; rw [if_pos hneg]
    have hnb : decide (idxP (isBig no) (l.filter (fun x => !(isNo no) x)) < 0) = true := decide_eq_true hneg
    go_wp2_with fail
    have hq4 := HQ4.out
    have hb4x := HB4.out
    refine start_ (n := 11) (S := fun w' => w'.cell? ⟨w.heap.size, 0, none⟩ = some (.int .i64 typ) ∧ w'.cell? ⟨w.heap.size + 1, 0, none⟩ = some (.int .i64 no)) (ds := [10]) #[false, false, false, false, false, false, false, false, false, false, false] (by kernel_rfl) rfl rfl ⟨(blk_cell (blk_below HP.out (below_drew hb4x)) 0), (blk_cell (blk_below HN.out (below_drew hb4x)) 0)⟩ (fun hHeld => ?_)
    refine pure_ (i := 0) (N := some 21) (v := ?_) (a' := ?_) #[true, false, false, false, false, false, false, false, false, false, false] rfl rfl (by kernel_rfl) (fun _ _ _ h => h) (Or.inl ⟨by rfl, ?_⟩) ?_ ?_
    rotate_left
    · intro w'
      go_simp
      with_reducible rfl
    rotate_left
    · simp only [Act.put, List.setIfInBounds_toArray, List.set_cons_zero, List.set_cons_succ]
      rfl
    refine pure_ (i := 2) (N := some 23) (v := ?_) (a' := ?_) #[true, false, true, false, false, false, false, false, false, false, false] rfl rfl (by kernel_rfl) (fun _ _ _ h => h) (Or.inl ⟨by rfl, ?_⟩) ?_ ?_
    rotate_left
    · intro w'
      go_simp
      with_reducible rfl
    rotate_left
    · simp only [Act.put, List.setIfInBounds_toArray, List.set_cons_zero, List.set_cons_succ]
      rfl
    refine pure_ (i := 3) (N := some 24) (v := ?_) (a' := ?_) #[true, false, true, true, false, false, false, false, false, false, false] rfl rfl (by kernel_rfl) (fun _ _ _ h => h) (Or.inl ⟨by rfl, ?_⟩) ?_ ?_
    rotate_left
    · intro w'
      go_simp
      with_reducible rfl
    rotate_left
    · simp only [Act.put, List.setIfInBounds_toArray, List.set_cons_zero, List.set_cons_succ]
      rfl
    refine pure_ (i := 5) (N := some 26) (v := ?_) (a' := ?_) #[true, false, true, true, false, true, false, false, false, false, false] rfl rfl (by kernel_rfl) (fun _ _ _ h => h) (Or.inl ⟨by rfl, ?_⟩) ?_ ?_
    rotate_left
    · intro w'
      go_simp
      with_reducible rfl
    rotate_left
    · simp only [Act.put, List.setIfInBounds_toArray, List.set_cons_zero, List.set_cons_succ]
      rfl
    refine take_ (i := 1) (N := some 22) (v := ?_) (a' := ?_) #[true, true, true, true, false, true, false, false, false, false, false] rfl rfl (by kernel_rfl) (fun _ _ _ h => h) (Or.inl ⟨by rfl, ?_⟩) hHeld ?_ ?_
    rotate_left
    · rintro w' ⟨s0, s1⟩
      go_simp
      with_reducible rfl
    rotate_left
    · simp only [Act.put, List.setIfInBounds_toArray, List.set_cons_zero, List.set_cons_succ]
      rfl
    refine take_ (i := 4) (N := some 25) (v := ?_) (a' := ?_) #[true, true, true, true, true, true, false, false, false, false, false] rfl rfl (by kernel_rfl) (fun _ _ _ h => h) (Or.inl ⟨by rfl, ?_⟩) hHeld ?_ ?_
    rotate_left
    · rintro w' ⟨s0, s1⟩
      go_simp
      with_reducible rfl
    rotate_left
    · simp only [Act.put, List.setIfInBounds_toArray, List.set_cons_zero, List.set_cons_succ]
      rfl
    refine pure_ (i := 6) (N := some 27) (v := ?_) (a' := ?_) #[true, true, true, true, true, true, true, false, false, false, false] rfl rfl (by kernel_rfl) (fun _ _ _ h => h) (Or.inl ⟨by rfl, ?_⟩) ?_ ?_
    rotate_left
    · intro w'
      go_simp
      with_reducible rfl
    rotate_left
    · simp only [Act.put, List.setIfInBounds_toArray, List.set_cons_zero, List.set_cons_succ]
      rfl
    refine one_ (i := 7) (N := some 28) #[true, true, true, true, true, true, true, true, false, false, false] rfl rfl (by kernel_rfl) (by decide) (fun K hK => ?_)
    refine value_ (w1 := ?_) (v := ?_) (by rfl) rfl ?_ ?_
    rotate_left 2
    · go_simp
      constructor
      · rfl
      · rfl
    have hv5 := blk_drew (blk_new w4 (.cells #[.int .i64 no, .string t] 38))
    have hb5a := below_drew (below_alloc hb4x (.cells #[.int .i64 no, .string t] 38))
    refine hK.out _ _ ⟨(blk_cell (blk_below HP.out hb5a) 0), (blk_cell (blk_below HN.out hb5a) 0)⟩ (fun hHeld => ?_)
    clear hK K
    refine norm_ (a' := ?_) ?_ ?_
    rotate_left
    · show Act.put _ (some 28) _ = _
      simp only [Act.put, List.setIfInBounds_toArray, List.set_cons_zero, List.set_cons_succ]
      rfl
    refine one_ (i := 8) (N := some 29) #[true, true, true, true, true, true, true, true, true, false, false] rfl rfl (by kernel_rfl) (by decide) (fun K hK => ?_)
    refine goes_ Tryz.func41 (by kernel_rfl) rfl #[.slice A3 (l.filter (fun x => !(isNo no) x)).length c3, .int .i64 (((l.filter (fun x => !(isNo no) x)).length : Nat) : Int), .slice (some ⟨w4.heap.size, 0, none⟩) 1 1] (by rfl) rfl rfl (by simp only [List.map_toArray, List.map_cons, List.map_nil]; rfl) ?_
    with_reducible refine (Insert_any (l.filter (fun x => !(isNo no) x)) ⟨no, t⟩ (l.filter (fun x => !(isNo no) x)).length (Nat.le_refl _) A3 w4.heap.size c3 1 W0.heap.size _ (frow_below hq4 (below_drew (below_alloc (Below.refl _ _) _))) hv5 (fun h => absurd (frow_lt hq4 _ h) (Nat.lt_irrefl _)) hb5a.size (by omega)).mono ?_
    rintro e w5 ⟨A5, c5, rfl, hq5, hb5⟩
    refine ⟨_, rfl, ?_⟩
    obtain ⟨LL, hLL⟩ : ∃ LL : Nat, LL = ((l.filter (fun x => !(isNo no) x)).take (l.filter (fun x => !(isNo no) x)).length ++ (⟨no, t⟩ : S38) :: (l.filter (fun x => !(isNo no) x)).drop (l.filter (fun x => !(isNo no) x)).length).length := ⟨_, rfl⟩
    unfold FRow at hq5
    rw [← hLL] at hq5 ⊢
    replace hq5 : FR0 w5 W0.heap.size (.slice A5 LL c5) LL ((l.filter (fun x => !(isNo no) x)).take (l.filter (fun x => !(isNo no) x)).length ++ (⟨no, t⟩ : S38) :: (l.filter (fun x => !(isNo no) x)).drop (l.filter (fun x => !(isNo no) x)).length) := hq5
    have HLL := Aside0.mk hLL
    clear hLL
    have hb5x : Below W0.heap.size W0 w5 := hb5a.trans hb5
    have e0 := blk_cell (blk_below HO.out hb5x) 0
    have e1 := blk_cell (blk_below HO.out hb5x) 1
    simp only [List.getElem?_toArray, List.getElem?_cons_zero, List.getElem?_cons_succ] at e0 e1
    have ef0 := blk_frozen (blk_below HO.out hb5x) 0
    have ef1 := blk_frozen (blk_below HO.out hb5x) 1
    refine hK.out _ _ ⟨(blk_cell (blk_below HP.out hb5x) 0), (blk_cell (blk_below HN.out hb5x) 0)⟩ (fun hHeld => ?_)
    clear hK K
    refine norm_ (a' := ?_) ?_ ?_
    rotate_left
    · show Act.put _ (some 29) _ = _
      simp only [Act.put, List.setIfInBounds_toArray, List.set_cons_zero, List.set_cons_succ]
      rfl
    refine pure_ (i := 9) (N := some 30) (v := ?_) (a' := ?_) #[true, true, true, true, true, true, true, true, true, true, false] rfl rfl (by kernel_rfl) (fun _ _ _ h => h) (Or.inl ⟨by rfl, ?_⟩) ?_ ?_
    rotate_left
    · intro w'
      go_simp
      with_reducible rfl
    rotate_left
    · simp only [Act.put, List.setIfInBounds_toArray, List.set_cons_zero, List.set_cons_succ]
      rfl
    refine last_ (i := 10) (N := none) #[true, true, true, true, true, true, true, true, true, true, true] rfl rfl (by kernel_rfl) (by decide) (fun K hK => ?_)
    refine skip_ (w1 := ?_) (by rfl) rfl ?_ ?_
    rotate_left
    · go_simp
      rfl
    refine hK.out _ _ ?_
    clear hK K
    refine done_ (by kernel_rfl) ?_

    obtain ⟨w9, hw9⟩ : ∃ w9, w9 = (w5.setCell ⟨w.heap.size + 1 + 1, 0, none⟩ (.int .i64 typ)).setCell ⟨w.heap.size + 1 + 1, 1, none⟩ (.slice A5 LL c5) := ⟨_, rfl⟩
    have q1 : w9.heap[w.heap.size + 1 + 1]? = some (.cells #[.int .i64 typ, .slice A5 LL c5] 29 (0, 0)) := by rw [hw9]; exact blk_put (blk_put (blk_below HO.out hb5x) 0 (.int .i64 typ) rfl) 1 (.slice A5 LL c5) rfl
    have hrow : ∀ k, (Value.slice A5 LL c5).ownBlock = some k → k ≠ w.heap.size + 1 + 1 := fun k hk => by have := frow_base' hq5 k hk; omega
    have hq9 : Aside0 (FR0 w9 W0.heap.size (.slice A5 LL c5) LL ((l.filter (fun x => !(isNo no) x)).take (l.filter (fun x => !(isNo no) x)).length ++ (⟨no, t⟩ : S38) :: (l.filter (fun x => !(isNo no) x)).drop (l.filter (fun x => !(isNo no) x)).length)) := ⟨by rw [hw9]; exact fr0_move hq5 (fun k hk => (Below.heap_setCell _ _ _ k (hrow k hk)).trans (Below.heap_setCell _ _ _ k (hrow k hk)))⟩
    have hb9 : Aside0 (Below w.heap.size w w9) := ⟨by rw [hw9]; exact ((HB.out.trans (hb5x.mono HB.out.size)).setCell (by show w.heap.size ≤ w.heap.size + 1 + 1; omega) _).setCell (by show w.heap.size ≤ w.heap.size + 1 + 1; omega) _⟩
    have d0 := blk_cell q1 0
    have d1 := blk_cell q1 1
    simp only [List.getElem?_toArray, List.getElem?_cons_zero, List.getElem?_cons_succ] at d0 d1
    rw [← hw9]
    clear hw9 q1 e0 e1 ef0 ef1 hq5 hb5 hb5x hb5a hv5 hHeld hrow
    go_wp2_with fail
    refine bodyPost_ret (v := .agg #[.int .i64 typ, .slice A5 LL c5]) ?_ rfl ?_
    · simp [results, Tryz.results28, go_sem, d0, d1]
    have hS : setL no t l = (l.filter (fun x => !(isNo no) x)).take (l.filter (fun x => !(isNo no) x)).length ++ (⟨no, t⟩ : S38) :: (l.filter (fun x => !(isNo no) x)).drop (l.filter (fun x => !(isNo no) x)).length := by unfold setL; rw [hkn]
    have hlen : (setL no t l).length = LL := by rw [hS]; exact HLL.out.symm
    refine ⟨A5, c5, by rw [hlen], ?_, hb9.out⟩
    have h := hq9.out
    unfold FR0 at h
    rw [← hS] at h
    unfold FRow
    rw [hlen]
    exact q_lower h (by omega)
  · have hki : idxP (isBig no) (l.filter (fun x => !(isNo no) x)) = ((setK no (l.filter (fun x => !(isNo no) x)) : Nat) : Int) := by unfold setK; rw [if_neg hneg]; omega
    have hnb : decide (((setK no (l.filter (fun x => !(isNo no) x)) : Nat) : Int) < 0) = false := decide_eq_false (by omega)
    rw [hki]
    clear hki hneg
    go_wp2_with fail
    have hq4 := HQ4.out
    have hb4x := HB4.out
    refine start_ (n := 11) (S := fun w' => w'.cell? ⟨w.heap.size, 0, none⟩ = some (.int .i64 typ) ∧ w'.cell? ⟨w.heap.size + 1, 0, none⟩ = some (.int .i64 no)) (ds := [10]) #[false, false, false, false, false, false, false, false, false, false, false] (by kernel_rfl) rfl rfl ⟨(blk_cell (blk_below HP.out (below_drew hb4x)) 0), (blk_cell (blk_below HN.out (below_drew hb4x)) 0)⟩ (fun hHeld => ?_)
    refine pure_ (i := 0) (N := some 21) (v := ?_) (a' := ?_) #[true, false, false, false, false, false, false, false, false, false, false] rfl rfl (by kernel_rfl) (fun _ _ _ h => h) (Or.inl ⟨by rfl, ?_⟩) ?_ ?_
    rotate_left
    · intro w'
      go_simp
      with_reducible rfl
    rotate_left
    · simp only [Act.put, List.setIfInBounds_toArray, List.set_cons_zero, List.set_cons_succ]
      rfl
    refine pure_ (i := 2) (N := some 23) (v := ?_) (a' := ?_) #[true, false, true, false, false, false, false, false, false, false, false] rfl rfl (by kernel_rfl) (fun _ _ _ h => h) (Or.inl ⟨by rfl, ?_⟩) ?_ ?_
    rotate_left
    · intro w'
      go_simp
      with_reducible rfl
    rotate_left
    · simp only [Act.put, List.setIfInBounds_toArray, List.set_cons_zero, List.set_cons_succ]
      rfl
    refine pure_ (i := 3) (N := some 24) (v := ?_) (a' := ?_) #[true, false, true, true, false, false, false, false, false, false, false] rfl rfl (by kernel_rfl) (fun _ _ _ h => h) (Or.inl ⟨by rfl, ?_⟩) ?_ ?_
    rotate_left
    · intro w'
      go_simp
      with_reducible rfl
    rotate_left
    · simp only [Act.put, List.setIfInBounds_toArray, List.set_cons_zero, List.set_cons_succ]
      rfl
    refine pure_ (i := 5) (N := some 26) (v := ?_) (a' := ?_) #[true, false, true, true, false, true, false, false, false, false, false] rfl rfl (by kernel_rfl) (fun _ _ _ h => h) (Or.inl ⟨by rfl, ?_⟩) ?_ ?_
    rotate_left
    · intro w'
      go_simp
      with_reducible rfl
    rotate_left
    · simp only [Act.put, List.setIfInBounds_toArray, List.set_cons_zero, List.set_cons_succ]
      rfl
    refine take_ (i := 1) (N := some 22) (v := ?_) (a' := ?_) #[true, true, true, true, false, true, false, false, false, false, false] rfl rfl (by kernel_rfl) (fun _ _ _ h => h) (Or.inl ⟨by rfl, ?_⟩) hHeld ?_ ?_
    rotate_left
    · rintro w' ⟨s0, s1⟩
      go_simp
      with_reducible rfl
    rotate_left
    · simp only [Act.put, List.setIfInBounds_toArray, List.set_cons_zero, List.set_cons_succ]
      rfl
    refine take_ (i := 4) (N := some 25) (v := ?_) (a' := ?_) #[true, true, true, true, true, true, false, false, false, false, false] rfl rfl (by kernel_rfl) (fun _ _ _ h => h) (Or.inl ⟨by rfl, ?_⟩) hHeld ?_ ?_
    rotate_left
    · rintro w' ⟨s0, s1⟩
      go_simp
      with_reducible rfl
    rotate_left
    · simp only [Act.put, List.setIfInBounds_toArray, List.set_cons_zero, List.set_cons_succ]
      rfl
    refine pure_ (i := 6) (N := some 27) (v := ?_) (a' := ?_) #[true, true, true, true, true, true, true, false, false, false, false] rfl rfl (by kernel_rfl) (fun _ _ _ h => h) (Or.inl ⟨by rfl, ?_⟩) ?_ ?_
    rotate_left
    · intro w'
      go_simp
      with_reducible rfl
    rotate_left
    · simp only [Act.put, List.setIfInBounds_toArray, List.set_cons_zero, List.set_cons_succ]
      rfl
    refine one_ (i := 7) (N := some 28) #[true, true, true, true, true, true, true, true, false, false, false] rfl rfl (by kernel_rfl) (by decide) (fun K hK => ?_)
    refine value_ (w1 := ?_) (v := ?_) (by rfl) rfl ?_ ?_
    rotate_left 2
    · go_simp
      constructor
      · rfl
      · rfl
    have hv5 := blk_drew (blk_new w4 (.cells #[.int .i64 no, .string t] 38))
    have hb5a := below_drew (below_alloc hb4x (.cells #[.int .i64 no, .string t] 38))
    refine hK.out _ _ ⟨(blk_cell (blk_below HP.out hb5a) 0), (blk_cell (blk_below HN.out hb5a) 0)⟩ (fun hHeld => ?_)
    clear hK K
    refine norm_ (a' := ?_) ?_ ?_
    rotate_left
    · show Act.put _ (some 28) _ = _
      simp only [Act.put, List.setIfInBounds_toArray, List.set_cons_zero, List.set_cons_succ]
      rfl
    refine one_ (i := 8) (N := some 29) #[true, true, true, true, true, true, true, true, true, false, false] rfl rfl (by kernel_rfl) (by decide) (fun K hK => ?_)
    refine goes_ Tryz.func41 (by kernel_rfl) rfl #[.slice A3 (l.filter (fun x => !(isNo no) x)).length c3, .int .i64 (((setK no (l.filter (fun x => !(isNo no) x))) : Nat) : Int), .slice (some ⟨w4.heap.size, 0, none⟩) 1 1] (by rfl) rfl rfl (by simp only [List.map_toArray, List.map_cons, List.map_nil]; rfl) ?_
    with_reducible refine (Insert_any (l.filter (fun x => !(isNo no) x)) ⟨no, t⟩ (setK no (l.filter (fun x => !(isNo no) x))) hKL A3 w4.heap.size c3 1 W0.heap.size _ (frow_below hq4 (below_drew (below_alloc (Below.refl _ _) _))) hv5 (fun h => absurd (frow_lt hq4 _ h) (Nat.lt_irrefl _)) hb5a.size (by omega)).mono ?_
    rintro e w5 ⟨A5, c5, rfl, hq5, hb5⟩
    refine ⟨_, rfl, ?_⟩
    obtain ⟨LL, hLL⟩ : ∃ LL : Nat, LL = ((l.filter (fun x => !(isNo no) x)).take (setK no (l.filter (fun x => !(isNo no) x))) ++ (⟨no, t⟩ : S38) :: (l.filter (fun x => !(isNo no) x)).drop (setK no (l.filter (fun x => !(isNo no) x)))).length := ⟨_, rfl⟩
    unfold FRow at hq5
    rw [← hLL] at hq5 ⊢
    replace hq5 : FR0 w5 W0.heap.size (.slice A5 LL c5) LL ((l.filter (fun x => !(isNo no) x)).take (setK no (l.filter (fun x => !(isNo no) x))) ++ (⟨no, t⟩ : S38) :: (l.filter (fun x => !(isNo no) x)).drop (setK no (l.filter (fun x => !(isNo no) x)))) := hq5
    have HLL := Aside0.mk hLL
    clear hLL
    have hb5x : Below W0.heap.size W0 w5 := hb5a.trans hb5
    have e0 := blk_cell (blk_below HO.out hb5x) 0
    have e1 := blk_cell (blk_below HO.out hb5x) 1
    simp only [List.getElem?_toArray, List.getElem?_cons_zero, List.getElem?_cons_succ] at e0 e1
    have ef0 := blk_frozen (blk_below HO.out hb5x) 0
    have ef1 := blk_frozen (blk_below HO.out hb5x) 1
    refine hK.out _ _ ⟨(blk_cell (blk_below HP.out hb5x) 0), (blk_cell (blk_below HN.out hb5x) 0)⟩ (fun hHeld => ?_)
    clear hK K
    refine norm_ (a' := ?_) ?_ ?_
    rotate_left
    · show Act.put _ (some 29) _ = _
      simp only [Act.put, List.setIfInBounds_toArray, List.set_cons_zero, List.set_cons_succ]
      rfl
    refine pure_ (i := 9) (N := some 30) (v := ?_) (a' := ?_) #[true, true, true, true, true, true, true, true, true, true, false] rfl rfl (by kernel_rfl) (fun _ _ _ h => h) (Or.inl ⟨by rfl, ?_⟩) ?_ ?_
    rotate_left
    · intro w'
      go_simp
      with_reducible rfl
    rotate_left
    · simp only [Act.put, List.setIfInBounds_toArray, List.set_cons_zero, List.set_cons_succ]
      rfl
    refine last_ (i := 10) (N := none) #[true, true, true, true, true, true, true, true, true, true, true] rfl rfl (by kernel_rfl) (by decide) (fun K hK => ?_)
    refine skip_ (w1 := ?_) (by rfl) rfl ?_ ?_
    rotate_left
    · go_simp
      rfl
    refine hK.out _ _ ?_
    clear hK K
    refine done_ (by kernel_rfl) ?_

    obtain ⟨w9, hw9⟩ : ∃ w9, w9 = (w5.setCell ⟨w.heap.size + 1 + 1, 0, none⟩ (.int .i64 typ)).setCell ⟨w.heap.size + 1 + 1, 1, none⟩ (.slice A5 LL c5) := ⟨_, rfl⟩
    have q1 : w9.heap[w.heap.size + 1 + 1]? = some (.cells #[.int .i64 typ, .slice A5 LL c5] 29 (0, 0)) := by rw [hw9]; exact blk_put (blk_put (blk_below HO.out hb5x) 0 (.int .i64 typ) rfl) 1 (.slice A5 LL c5) rfl
    have hrow : ∀ k, (Value.slice A5 LL c5).ownBlock = some k → k ≠ w.heap.size + 1 + 1 := fun k hk => by have := frow_base' hq5 k hk; omega
    have hq9 : Aside0 (FR0 w9 W0.heap.size (.slice A5 LL c5) LL ((l.filter (fun x => !(isNo no) x)).take (setK no (l.filter (fun x => !(isNo no) x))) ++ (⟨no, t⟩ : S38) :: (l.filter (fun x => !(isNo no) x)).drop (setK no (l.filter (fun x => !(isNo no) x))))) := ⟨by rw [hw9]; exact fr0_move hq5 (fun k hk => (Below.heap_setCell _ _ _ k (hrow k hk)).trans (Below.heap_setCell _ _ _ k (hrow k hk)))⟩
    have hb9 : Aside0 (Below w.heap.size w w9) := ⟨by rw [hw9]; exact ((HB.out.trans (hb5x.mono HB.out.size)).setCell (by show w.heap.size ≤ w.heap.size + 1 + 1; omega) _).setCell (by show w.heap.size ≤ w.heap.size + 1 + 1; omega) _⟩
    have d0 := blk_cell q1 0
    have d1 := blk_cell q1 1
    simp only [List.getElem?_toArray, List.getElem?_cons_zero, List.getElem?_cons_succ] at d0 d1
    rw [← hw9]
    clear hw9 q1 e0 e1 ef0 ef1 hq5 hb5 hb5x hb5a hv5 hHeld hrow
    go_wp2_with fail
    refine bodyPost_ret (v := .agg #[.int .i64 typ, .slice A5 LL c5]) ?_ rfl ?_
    · simp [results, Tryz.results28, go_sem, d0, d1]
    have hS : setL no t l = (l.filter (fun x => !(isNo no) x)).take (setK no (l.filter (fun x => !(isNo no) x))) ++ (⟨no, t⟩ : S38) :: (l.filter (fun x => !(isNo no) x)).drop (setK no (l.filter (fun x => !(isNo no) x))) := by unfold setL; rfl
    have hlen : (setL no t l).length = LL := by rw [hS]; exact HLL.out.symm
    refine ⟨A5, c5, by rw [hlen], ?_, hb9.out⟩
    have h := hq9.out
    unfold FR0 at h
    rw [← hS] at h
    unfold FRow
    rw [hlen]
    exact q_lower h (by omega)
end Go.Proofs.YtbnbplppgbmkpaaGreatDoor

namespace Go.Proofs.YtbnbplppgbmkpaaGreatDoor
open Go.RowKit Go.Extern.Stop Go.Stop Go.Extern Go.Proofs.YtbnbplppgbmkpaaGreatDoorW.PrintWords PSessionSeals

/-- What Seal gives. -/
def sealT (ks key : List Int) (d typ : Int) (l : List S38) : Int × List S38 × Int :=
  if (macR ks key d typ l).2 = 0 then (typ, setL 64 (macR ks key d typ l).1 l, 0) else (0, [], (macR ks key d typ l).2)

set_option maxRecDepth 4000 in
set_option maxHeartbeats 2000000 in
theorem Seal_any (ks key : List Int) (code : ByteArray) (s0 s1 : Value) (d typ : Int) (l : List S38) (A AK : Option Addr) (cp ck : Nat) (w : World) (hr : Kd.C k38 w A l.length l) (hl : l.length ≤ 90000000) (hs : ∀ x ∈ l, x.f1.size ≤ maxLen) (ht : Env w) (hk : Kd.C (Kd.int .u8) w AK key.length key) (hkl : key.length ≤ 140737488355328) (hks : ∀ i, i < 64 → w.cell? ⟨4, i, none⟩ = some (.int .u32 (ks.getD i 0))) :
    Calls Tryz.prog 8 #[.agg #[.string code, .int .i64 d, .slice AK key.length ck, s0, s1], .agg #[.int .i64 typ, .slice A l.length cp]] w fun e w' => ∃ A' c', e = .returned (.tuple #[.agg #[.int .i64 (sealT ks key d typ l).1, .slice A' (sealT ks key d typ l).2.1.length c'], .int .i64 (sealT ks key d typ l).2.2]) ∧ FRow w' w.heap.size (.slice A' (sealT ks key d typ l).2.1.length c') (sealT ks key d typ l).2.1 ∧ Below w.heap.size w w' := by
  have b0 := below_alloc (below_alloc (below_alloc (Below.refl w.heap.size w) (.cells #[.string code, .int .i64 d, .slice AK key.length ck, s0, s1] 26)) (.cells #[.int .i64 typ, .slice A l.length cp] 29)) (.cells #[.int .i64 0, .slice none 0 0] 29)
  have a1 := blk_alloc (blk_new (w.alloc (.cells #[.string code, .int .i64 d, .slice AK key.length ck, s0, s1] 26)) (.cells #[.int .i64 typ, .slice A l.length cp] 29)) (.cells #[.int .i64 0, .slice none 0 0] 29)
  have a2 := blk_new ((w.alloc (.cells #[.string code, .int .i64 d, .slice AK key.length ck, s0, s1] 26)).alloc (.cells #[.int .i64 typ, .slice A l.length cp] 29)) (.cells #[.int .i64 0, .slice none 0 0] 29)
  simp only [World.size_alloc] at a1 a2
  have h4 : 4 < w.heap.size := Nat.lt_of_lt_of_le (by decide) ht.deb.lt
  have HM := Aside0.mk (mac_any ks key code s0 s1 d typ l A AK cp ck _ (Kd.C_below hr b0) (by omega) hs (ht.below b0) (Kd.C_below hk b0) hkl (fun i hi => (b0.cell (p := ⟨4, i, none⟩) h4).trans (hks i hi)))
  have HR := Aside0.mk (Kd.C_below hr b0)
  have HB0 := Aside0.mk b0
  have HA1 := Aside0.mk a1
  have HA2 := Aside0.mk a2
  obtain ⟨r, hre⟩ : ∃ r, r = macR ks key d typ l := ⟨_, rfl⟩
  rw [← hre] at HM
  have HRE := Aside0.mk hre
  obtain ⟨s, en⟩ := r
  have am := blk_alloc (blk_alloc (blk_new w (.cells #[.string code, .int .i64 d, .slice AK key.length ck, s0, s1] 26)) (.cells #[.int .i64 typ, .slice A l.length cp] 29)) (.cells #[.int .i64 0, .slice none 0 0] 29)
  have m0 := blk_cell am 0
  have m1 := blk_cell am 1
  have m2 := blk_cell am 2
  have m5 := blk_cell am 3
  have m6 := blk_cell am 4
  have m3 := blk_cell a1 0
  have m4 := blk_cell a1 1
  simp only [List.getElem?_toArray, List.getElem?_cons_zero, List.getElem?_cons_succ] at m0 m1 m2 m3 m4 m5 m6
  clear hr hs ht hk hks b0 a1 a2 h4 hre am
  go_enter Tryz.func8, Tryz.ntmps8
  go_wp2_with fail
  have hz : (((w.alloc (.cells #[.string code, .int .i64 d, .slice AK key.length ck, s0, s1] 26)).alloc (.cells #[.int .i64 typ, .slice A l.length cp] 29)).alloc (.cells #[.int .i64 0, .slice none 0 0] 29)).heap.size = w.heap.size + 3 := by simp
  generalize (((w.alloc (.cells #[.string code, .int .i64 d, .slice AK key.length ck, s0, s1] 26)).alloc (.cells #[.int .i64 typ, .slice A l.length cp] 29)).alloc (.cells #[.int .i64 0, .slice none 0 0] 29)) = W0 at *
  refine Calls.mono HM.out ?_
  rintro e w2 ⟨rfl, hb2⟩
  have HB2 := Aside0.mk hb2
  clear hb2 HM m0 m1 m2 m3 m4 m5 m6
  dsimp only
  by_cases hen : en = 0
  · subst hen
    have HST : Aside0 (sealT ks key d typ l = (typ, setL 64 s l, 0)) := ⟨by unfold sealT; rw [← HRE.out, if_pos rfl]⟩
    have c0 := blk_cell (blk_below HA1.out HB2.out) 0
    have c1 := blk_cell (blk_below HA1.out HB2.out) 1
    simp only [List.getElem?_toArray, List.getElem?_cons_zero, List.getElem?_cons_succ] at c0 c1
    go_wp2_with fail
    refine (Set_any typ 64 s l A cp w2 (Kd.C_below HR.out HB2.out) hl).mono ?_
    rintro e w3 ⟨A3, c3, rfl, hq3, hb3⟩
    have hL := setL_length 64 s l
    obtain ⟨L, hLe⟩ : ∃ L, L = setL 64 s l := ⟨_, rfl⟩
    rw [← hLe] at hq3 hL ⊢
    have HLE := Aside0.mk hLe
    obtain ⟨n, hn⟩ : ∃ n, n = L.length := ⟨_, rfl⟩
    unfold FRow at hq3
    rw [← hn] at hq3 ⊢
    have HN := Aside0.mk hn
    replace hq3 : FR0 w3 w2.heap.size (.slice A3 n c3) n L := hq3
    have HQ3 := Aside0.mk hq3
    have HB3 := Aside0.mk (HB2.out.trans (hb3.mono HB2.out.size))
    clear c0 c1 hLe hn hq3 hb3
    have e0 := blk_cell (blk_below HA2.out HB3.out) 0
    have e1 := blk_cell (blk_below HA2.out HB3.out) 1
    have ef0 := blk_frozen (blk_below HA2.out HB3.out) 0
    have ef1 := blk_frozen (blk_below HA2.out HB3.out) 1
    simp only [List.getElem?_toArray, List.getElem?_cons_zero, List.getElem?_cons_succ] at e0 e1
    dsimp only
    go_wp2_with fail
    obtain ⟨w9, hw9⟩ : ∃ w9, w9 = (w3.setCell ⟨w.heap.size + 1 + 1, 0, none⟩ (.int .i64 typ)).setCell ⟨w.heap.size + 1 + 1, 1, none⟩ (.slice A3 n c3) := ⟨_, rfl⟩
    have q1 : w9.heap[w.heap.size + 1 + 1]? = some (.cells #[(.int .i64 typ), (.slice A3 n c3)] 29 (0, 0)) := by rw [hw9]; exact blk_put (blk_put (blk_below HA2.out HB3.out) 0 (.int .i64 typ) rfl) 1 (.slice A3 n c3) rfl
    have hb9 : Aside0 (Below w.heap.size w w9) := ⟨by rw [hw9]; exact ((HB0.out.trans (HB3.out.mono HB0.out.size)).setCell (by show w.heap.size ≤ w.heap.size + 1 + 1; omega) _).setCell (by show w.heap.size ≤ w.heap.size + 1 + 1; omega) _⟩
    have hrow : ∀ k, (Value.slice A3 n c3).ownBlock = some k → k ≠ w.heap.size + 1 + 1 := fun k hk => by have := frow_base' HQ3.out k hk; have := HB2.out.size; omega
    have hq9 : Aside0 (FR0 w9 w2.heap.size (.slice A3 n c3) n L) := ⟨by rw [hw9]; exact fr0_move HQ3.out (fun k hk => (Below.heap_setCell _ _ _ k (hrow k hk)).trans (Below.heap_setCell _ _ _ k (hrow k hk)))⟩
    have d0 := blk_cell q1 0
    have d1 := blk_cell q1 1
    simp only [List.getElem?_toArray, List.getElem?_cons_zero, List.getElem?_cons_succ] at d0 d1
    rw [← hw9]
    clear hw9 q1 e0 e1 ef0 ef1
    refine bodyPost_ret (v := .tuple #[.agg #[.int .i64 typ, (.slice A3 n c3)], .int .i64 0]) (by simp [results, Tryz.results8, go_sem, d0, d1]) rfl ?_
    rw [HST.out]
    refine ⟨A3, c3, ?_, ?_, hb9.out⟩
    · dsimp only; rw [← HLE.out, ← HN.out]
    · dsimp only
      rw [← HLE.out]
      unfold FRow
      rw [← HN.out]
      exact q_lower hq9.out (by have := HB2.out.size; omega)
  · have henb : (en == 0) = false := by rw [beq_eq_false_iff_ne]; exact hen
    have HST : Aside0 (sealT ks key d typ l = (0, [], en)) := ⟨by unfold sealT; rw [← HRE.out, if_neg hen]⟩
    have e0 := blk_cell (blk_below HA2.out HB2.out) 0
    have e1 := blk_cell (blk_below HA2.out HB2.out) 1
    have ef0 := blk_frozen (blk_below HA2.out HB2.out) 0
    have ef1 := blk_frozen (blk_below HA2.out HB2.out) 1
    simp only [List.getElem?_toArray, List.getElem?_cons_zero, List.getElem?_cons_succ] at e0 e1
    go_wp2_with fail
    obtain ⟨w9, hw9⟩ : ∃ w9, w9 = (w2.setCell ⟨w.heap.size + 1 + 1, 0, none⟩ (.int .i64 0)).setCell ⟨w.heap.size + 1 + 1, 1, none⟩ (.slice none 0 0) := ⟨_, rfl⟩
    have q1 : w9.heap[w.heap.size + 1 + 1]? = some (.cells #[(.int .i64 0), (.slice none 0 0)] 29 (0, 0)) := by rw [hw9]; exact blk_put (blk_put (blk_below HA2.out HB2.out) 0 (.int .i64 0) rfl) 1 (.slice none 0 0) rfl
    have hb9 : Aside0 (Below w.heap.size w w9) := ⟨by rw [hw9]; exact ((HB0.out.trans (HB2.out.mono HB0.out.size)).setCell (by show w.heap.size ≤ w.heap.size + 1 + 1; omega) _).setCell (by show w.heap.size ≤ w.heap.size + 1 + 1; omega) _⟩
    have d0 := blk_cell q1 0
    have d1 := blk_cell q1 1
    simp only [List.getElem?_toArray, List.getElem?_cons_zero, List.getElem?_cons_succ] at d0 d1
    rw [← hw9]
    clear hw9 q1 e0 e1 ef0 ef1
    refine bodyPost_ret (v := .tuple #[.agg #[.int .i64 0, (.slice none 0 0)], .int .i64 en]) (by simp [results, Tryz.results8, go_sem, d0, d1]) rfl ?_
    rw [HST.out]
    exact ⟨none, 0, rfl, frow_nil _ _, hb9.out⟩
end Go.Proofs.YtbnbplppgbmkpaaGreatDoor

namespace Go.Proofs.YtbnbplppgbmkpaaGreatDoor
open Go.RowKit Go.Extern.Stop Go.Stop Go.Extern Go.Proofs.YtbnbplppgbmkpaaGreatDoorW.PrintWords PSessionSeals

def ksL : List Int := [1116352408, 1899447441, 3049323471, 3921009573, 961987163, 1508970993, 2453635748, 2870763221, 3624381080, 310598401, 607225278, 1426881987, 1925078388, 2162078206, 2614888103, 3248222580, 3835390401, 4022224774, 264347078, 604807628, 770255983, 1249150122, 1555081692, 1996064986, 2554220882, 2821834349, 2952996808, 3210313671, 3336571891, 3584528711, 113926993, 338241895, 666307205, 773529912, 1294757372, 1396182291, 1695183700, 1986661051, 2177026350, 2456956037, 2730485921, 2820302411, 3259730800, 3345764771, 3516065817, 3600352804, 4094571909, 275423344, 430227734, 506948616, 659060556, 883997877, 958139571, 1322822218, 1537002063, 1747873779, 1955562222, 2024104815, 2227730452, 2361852424, 2428436474, 2756734187, 3204031479, 3329325298]
abbrev mac1 : ByteArray := ⟨#[57, 100, 51, 49, 50, 99, 102, 97, 98, 56, 97, 54, 49, 97, 48, 98]⟩
def shown1 : List S38 := [⟨11, ⟨#[48, 48, 48, 48, 48, 49]⟩⟩]
def shown2 : List S38 := [⟨11, ⟨#[48, 48, 48, 48, 48, 49]⟩⟩, ⟨64, mac1⟩]
def shown3 : List S38 := [⟨11, ⟨#[48, 48, 48, 48, 48, 50]⟩⟩, ⟨64, mac1⟩]
theorem mac_1 : macR ksL [107] 1 800 shown1 = (mac1, 0) := by
  have h1 : (macR ksL [107] 1 800 shown1).1.data = mac1.data := by decide +kernel
  have h2 : (macR ksL [107] 1 800 shown1).2 = 0 := by decide +kernel
  exact Prod.ext (ByteArray.ext h1) h2
theorem hold_2 : holdR ksL [107] 1 800 shown2 = 0 := by decide +kernel
theorem hold_3 : holdR ksL [107] 1 800 shown3 = 131 := by decide +kernel
end Go.Proofs.YtbnbplppgbmkpaaGreatDoor

namespace Go.Proofs.YtbnbplppgbmkpaaGreatDoor
open Go.RowKit Go.Extern.Stop Go.Stop Go.Extern Go.Proofs.YtbnbplppgbmkpaaGreatDoorW.PrintWords PSessionSeals

theorem seal_1 : sealT ksL [107] 1 800 shown1 = (800, shown2, 0) := by
  unfold sealT
  rw [mac_1]
  rfl
theorem key_row {w : World} {g : Nat} (h : w.heap[g]? = some (.cells #[.int .u8 107] 5 (1, 2))) : Kd.C (Kd.int .u8) w (some ⟨g, 0, none⟩) [(107 : Int)].length [107] := by
  refine Kd.C_of_reads (d := 0) ⟨rfl, by decide, fun _ => ⟨_, rfl, fun j hj => ?_⟩⟩
  obtain rfl : j = 0 := by simp at hj; omega
  rw [add_at, cell_of_row w g _ _ 5 (1, 2) h]
  rfl

/-- What shown keeps from call to call: its message. -/
structure Sh (W1 W : World) (g o c p : Nat) (l : List S38) : Prop where
  bel : Below W1.heap.size W1 W
  row : FRow W W1.heap.size (.slice (some ⟨g, o, none⟩) l.length c) l
  msg : W.heap[p]? = some (.cells #[.int .i64 800, .slice (some ⟨g, o, none⟩) 2 c] 29 (0, 0))
theorem Sh.below {W1 W W' : World} {g o c p : Nat} {l : List S38} (h : Sh W1 W g o c p l) (hb : Below W.heap.size W W') : Sh W1 W' g o c p l :=
  ⟨h.bel.trans (hb.mono h.bel.size), frow_below h.row hb, blk_below h.msg hb⟩
theorem Sh.grown {W1 W W' : World} {g o c p q : Nat} {l : List S38} (h : Sh W1 W g o c p l) (hg : W.grownBy W' (some q)) (hB : W1.heap.size ≤ q) (hgq : g ≠ q) (hpq : p ≠ q) : Sh W1 W' g o c p l :=
  ⟨h.bel.grown hg h.bel.size (fun k hk => by obtain rfl := Option.some.inj hk; exact hB), frow_move h.row (fun k hk => hg.block k (frow_lt h.row k hk) (fun e => hgq (by have h1 : g = k := Option.some.inj hk; have h2 : k = q := Option.some.inj e; omega))), blk_grown h.msg hg (fun e => hpq (Option.some.inj e))⟩

set_option maxRecDepth 4000 in
set_option maxHeartbeats 2000000 in
theorem shown_any (w : World) (ht : Env w) (hks : ∀ i, i < 64 → w.cell? ⟨4, i, none⟩ = some (.int .u32 (ksL.getD i 0))) :
    Calls Tryz.prog 7 #[] w fun e w' => e = .returned (.bool true) ∧ Below w.heap.size w w' := by
  have h4 : 4 < w.heap.size := Nat.lt_of_lt_of_le (by decide) ht.deb.lt
  have hcv := Lib.run_convert_bytes_const (P := Tryz.prog) w 22 5 #[.int .u8 107] 1 1 Tryz.underlying22 Tryz.underlying5
  have b1 := below_alloc (below_alloc (below_alloc (Below.refl w.heap.size w) (.cells #[.int .u8 107] 5 (1, 2))) (.cells #[.string ⟨#[]⟩, .int .i64 1, .slice (some ⟨w.heap.size, 0, none⟩) 1 1, .int .i64 0, .int .i64 0] 26)) (.cells #[.int .i64 11, .string ⟨#[48, 48, 48, 48, 48, 49]⟩] 38)
  have kb := blk_alloc (blk_alloc (blk_new w (.cells #[.int .u8 107] 5 (1, 2))) (.cells #[.string ⟨#[]⟩, .int .i64 1, .slice (some ⟨w.heap.size, 0, none⟩) 1 1, .int .i64 0, .int .i64 0] 26)) (.cells #[.int .i64 11, .string ⟨#[48, 48, 48, 48, 48, 49]⟩] 38)
  have mb := blk_alloc (blk_new (w.alloc (.cells #[.int .u8 107] 5 (1, 2))) (.cells #[.string ⟨#[]⟩, .int .i64 1, .slice (some ⟨w.heap.size, 0, none⟩) 1 1, .int .i64 0, .int .i64 0] 26)) (.cells #[.int .i64 11, .string ⟨#[48, 48, 48, 48, 48, 49]⟩] 38)
  have fb := blk_new ((w.alloc (.cells #[.int .u8 107] 5 (1, 2))).alloc (.cells #[.string ⟨#[]⟩, .int .i64 1, .slice (some ⟨w.heap.size, 0, none⟩) 1 1, .int .i64 0, .int .i64 0] 26)) (.cells #[.int .i64 11, .string ⟨#[48, 48, 48, 48, 48, 49]⟩] 38)
  simp only [World.size_alloc] at mb fb
  obtain ⟨W1, hW1⟩ : ∃ W1, W1 = ((w.alloc (.cells #[.int .u8 107] 5 (1, 2))).alloc (.cells #[.string ⟨#[]⟩, .int .i64 1, .slice (some ⟨w.heap.size, 0, none⟩) 1 1, .int .i64 0, .int .i64 0] 26)).alloc (.cells #[.int .i64 11, .string ⟨#[48, 48, 48, 48, 48, 49]⟩] 38) := ⟨_, rfl⟩
  rw [← hW1] at b1 kb mb fb
  have HB1 := Aside0.mk b1
  have HKB := Aside0.mk kb
  have HMB := Aside0.mk mb
  have HFB := Aside0.mk fb
  have HT := Aside0.mk (ht.below b1)
  have HKS : Aside0 (∀ i, i < 64 → W1.cell? ⟨4, i, none⟩ = some (.int .u32 (ksL.getD i 0))) := ⟨fun i hi => (b1.cell (p := ⟨4, i, none⟩) h4).trans (hks i hi)⟩
  have HSE := Seal_any ksL [107] ⟨#[]⟩ (.int .i64 0) (.int .i64 0) 1 800 shown1 (some ⟨w.heap.size + 1 + 1, 0, none⟩) (some ⟨w.heap.size, 0, none⟩) 1 1 W1 (one_field HFB.out) (by decide) (by intro x hx; simp [shown1] at hx; subst hx; decide) HT.out (key_row HKB.out) (by decide) HKS.out
  rw [seal_1] at HSE
  have HSE := Aside0.mk HSE
  have HW1 := Aside0.mk hW1
  clear ht hks b1 kb mb fb h4 hW1
  go_enter Tryz.func7, Tryz.ntmps7
  go_wp2_with fail
  rw [← HW1.out]
  refine HSE.out.mono ?_
  rintro e w2 ⟨A2, c2, rfl, hq2, hb2⟩
  obtain ⟨g, o, rfl, hg⟩ := frow_form hq2 (by decide)
  have hpg : w2.heap.size ≠ g := fun e => absurd (frow_lt hq2 g rfl) (by omega)
  have HQ2 := Aside0.mk hq2
  have HB2 := Aside0.mk hb2
  clear hq2 hb2 HSE HW1 hcv
  have hp3 := blk_new w2 (.cells #[.int .i64 800, .slice (some ⟨g, o, none⟩) shown2.length c2] 29)
  have hb3 := below_alloc HB2.out (.cells #[.int .i64 800, .slice (some ⟨g, o, none⟩) shown2.length c2] 29)
  have hq3 := frow_below HQ2.out (below_alloc (Below.refl w2.heap.size w2) (.cells #[.int .i64 800, .slice (some ⟨g, o, none⟩) shown2.length c2] 29))
  have m0 := blk_cell (blk_below HMB.out hb3) 0
  have m1 := blk_cell (blk_below HMB.out hb3) 1
  have m2 := blk_cell (blk_below HMB.out hb3) 2
  have m5 := blk_cell (blk_below HMB.out hb3) 3
  have m6 := blk_cell (blk_below HMB.out hb3) 4
  have m3 := blk_cell hp3 0
  have m4 := blk_cell hp3 1
  simp only [List.getElem?_toArray, List.getElem?_cons_zero, List.getElem?_cons_succ] at m0 m1 m2 m3 m4 m5 m6
  obtain ⟨W3, hW3⟩ : ∃ W3, W3 = w2.alloc (.cells #[.int .i64 800, .slice (some ⟨g, o, none⟩) shown2.length c2] 29) := ⟨_, rfl⟩
  rw [← hW3] at hp3 hb3 hq3
  have HP3 := Aside0.mk hp3
  have HB3 := Aside0.mk hb3
  have HQ3 := Aside0.mk hq3
  have HZ3 : Aside0 (W1.heap.size ≤ w2.heap.size) := ⟨HB2.out.size⟩
  have HCK := Check_any ksL [107] ⟨#[]⟩ (.int .i64 0) (.int .i64 0) 1 800 shown2 (some ⟨g, o, none⟩) (some ⟨w.heap.size, 0, none⟩) c2 1 W3 (frow_reads hq3) (by decide) (by intro x hx; simp [shown2] at hx; rcases hx with rfl | rfl <;> decide) (HT.out.below hb3) (Kd.C_below (key_row HKB.out) hb3) (by decide) (fun i hi => (hb3.cell (p := ⟨4, i, none⟩) (Nat.lt_of_lt_of_le (show 4 < W1.heap.size from Nat.lt_of_lt_of_le (by decide) HT.out.deb.lt) (Nat.le_refl _))).trans (HKS.out i hi))
  rw [hold_2] at HCK
  have HCK := Aside0.mk HCK
  have HW3 := Aside0.mk hW3
  clear hp3 hb3 hq3 hW3
  dsimp only
  go_wp2_with fail
  rw [← HW3.out]
  refine HCK.out.mono ?_
  rintro e w4 ⟨rfl, hb4⟩
  have HB4 := Aside0.mk (HB3.out.trans (hb4.mono HB3.out.size))
  have HQ4 := Aside0.mk (frow_below HQ3.out hb4)
  have HP4 := Aside0.mk (blk_below HP3.out hb4)
  clear hb4 m0 m1 m2 m3 m4 m5 m6 HCK HW3
  have m3 := blk_cell HP4.out 0
  have m4 := blk_cell HP4.out 1
  simp only [List.getElem?_toArray, List.getElem?_cons_zero, List.getElem?_cons_succ] at m3 m4
  have f0 : w4.cell? ⟨g, o + 1 * 2, none⟩ = some (.int .i64 64) := (frow_cells HQ4.out 1 (by decide)).1
  have f3 : w4.cell? ⟨g, o + 0 * 2 + 1, none⟩ = some (.string ⟨#[48, 48, 48, 48, 48, 49]⟩) := (frow_cells HQ4.out 0 (by decide)).2
  have ff := frow_frozen HQ4.out (o + 1)
  simp only [show shown2.length = 2 from rfl] at m4 ⊢
  have hgl : g < w4.heap.size := frow_lt HQ4.out g rfl
  have hpl : w2.heap.size < w4.heap.size := blk_lt HP4.out
  have hS5 : Sh W1 (w4.setCell ⟨g, o + 1, none⟩ (.string ⟨#[48, 48, 48, 48, 48, 50]⟩)) g o c2 w2.heap.size shown3 := ⟨HB4.out.setCell hg _, q_put HQ4.out (show 1 < shown2.length * 2 by decide) _, blk_far HP4.out (fun e => by have := hpg; exact absurd e (fun e => this e)) _⟩
  have HS5 := Aside0.mk hS5
  have hg5 : g < (w4.setCell ⟨g, o + 1, none⟩ (.string ⟨#[48, 48, 48, 48, 48, 50]⟩)).heap.size := by simpa using hgl
  have hp5 : w2.heap.size < (w4.setCell ⟨g, o + 1, none⟩ (.string ⟨#[48, 48, 48, 48, 48, 50]⟩)).heap.size := by simpa using hpl
  clear hS5 hgl hpl
  go_wp2_with fail
  clear f0 f3 ff m3 m4
  generalize w4.setCell ⟨g, o + 1, none⟩ (.string ⟨#[48, 48, 48, 48, 48, 50]⟩) = w5 at *
  refine (New_yes 2 (by decide) w5).mono ?_
  rintro e w6 ⟨rfl, hd6, hb6⟩
  have hq1 : W1.heap.size ≤ w5.heap.size := HS5.out.bel.size
  obtain ⟨q, hq⟩ : ∃ q, q = w5.heap.size := ⟨_, rfl⟩
  rw [← hq] at hd6 hg5 hp5 hq1 ⊢
  have HS6 := Aside0.mk (HS5.out.below hb6)
  have HD6 := Aside0.mk hd6
  clear hd6 hb6 hq
  have hgq : g ≠ q := by omega
  have hpq : w2.heap.size ≠ q := by omega
  have HQ := Aside0.mk (And.intro hq1 (And.intro hgq hpq))
  clear hq1 hgq hpq hg5 hp5
  dsimp only
  go_wp2_with fail
  refine (Sign_any q 2 0 true _ _ (by decide) w6 HD6.out).mono ?_
  rintro e w7 hc7
  obtain ⟨_, rfl, hw7⟩ : _ := hc7.resolve_left (fun h => by cases h.1)
  clear hc7
  have HD7 : Aside0 (BAt w7 q 2 (upd (fun _ => false) 0 true) (fun _ => false)) := ⟨by rw [hw7]; exact Sign_at HD6.out 0 (by decide) true⟩
  have HS7 : Aside0 (Sh W1 w7 g o c2 w2.heap.size shown3) := ⟨by rw [hw7]; exact HS6.out.grown (grown_cell (World.grownBy.refl w6 (some q))) HQ.out.1 HQ.out.2.1 HQ.out.2.2⟩
  clear hw7 HD6 HS6
  dsimp only
  go_wp2_with fail
  refine (Ready_any q 2 0 _ _ (by decide) w7 HD7.out).mono ?_
  rintro e w8 ⟨he, hb8⟩
  obtain rfl : e = .returned (.bool true) := he.trans (by rfl)
  have HD8 := Aside0.mk (blk_below HD7.out hb8)
  have HS8 := Aside0.mk (HS7.out.below hb8)
  clear he hb8 HD7 HS7
  dsimp only
  go_wp2_with fail
  refine (Block_any q 2 0 true _ _ (by decide) w8 HD8.out).mono ?_
  rintro e w9 hc9
  obtain ⟨_, rfl, hw9⟩ : _ := hc9.resolve_left (fun h => by cases h.1)
  clear hc9
  have HD9 : Aside0 (BAt w9 q 2 (upd (fun _ => false) 0 true) (upd (fun _ => false) 0 true)) := ⟨by rw [hw9]; exact Block_at HD8.out 0 (by decide) true⟩
  have HS9 : Aside0 (Sh W1 w9 g o c2 w2.heap.size shown3) := ⟨by rw [hw9]; exact HS8.out.grown (grown_cell (World.grownBy.refl w8 (some q))) HQ.out.1 HQ.out.2.1 HQ.out.2.2⟩
  clear hw9 HD8 HS8
  dsimp only
  go_wp2_with fail
  refine (Ready_any q 2 0 _ _ (by decide) w9 HD9.out).mono ?_
  rintro e w10 ⟨he, hb10⟩
  obtain rfl : e = .returned (.bool false) := he.trans (by rfl)
  have HD10 := Aside0.mk (blk_below HD9.out hb10)
  have HS10 := Aside0.mk (HS9.out.below hb10)
  clear he hb10 HD9 HS9
  dsimp only
  go_wp2_with fail
  refine (Reset_any q 2 _ _ w10 HD10.out).mono ?_
  rintro e w11 ⟨⟨v11, rfl⟩, hd11, hg11⟩
  have HD11 := Aside0.mk hd11
  have HS11 := Aside0.mk (HS10.out.grown hg11 HQ.out.1 HQ.out.2.1 HQ.out.2.2)
  clear hd11 hg11 HD10 HS10
  dsimp only
  go_wp2_with fail
  refine (Look_any q 2 0 _ _ (by decide) w11 HD11.out).mono ?_
  rintro e w12 ⟨he, hb12⟩
  obtain rfl : e = .returned (.tuple #[.bool false, .bool true]) := he.trans (by rfl)
  have HS12 := Aside0.mk (HS11.out.below hb12)
  clear he hb12 HD11 HS11
  have m0 := blk_cell (blk_below HMB.out HS12.out.bel) 0
  have m1 := blk_cell (blk_below HMB.out HS12.out.bel) 1
  have m2 := blk_cell (blk_below HMB.out HS12.out.bel) 2
  have m5 := blk_cell (blk_below HMB.out HS12.out.bel) 3
  have m6 := blk_cell (blk_below HMB.out HS12.out.bel) 4
  have m3 := blk_cell HS12.out.msg 0
  have m4 := blk_cell HS12.out.msg 1
  simp only [List.getElem?_toArray, List.getElem?_cons_zero, List.getElem?_cons_succ] at m0 m1 m2 m3 m4 m5 m6
  have HCK := Check_any ksL [107] ⟨#[]⟩ (.int .i64 0) (.int .i64 0) 1 800 shown3 (some ⟨g, o, none⟩) (some ⟨w.heap.size, 0, none⟩) c2 1 w12 (frow_reads HS12.out.row) (by decide) (by intro x hx; simp [shown3] at hx; rcases hx with rfl | rfl <;> decide) (HT.out.below HS12.out.bel) (Kd.C_below (key_row HKB.out) HS12.out.bel) (by decide) (fun i hi => (HS12.out.bel.cell (p := ⟨4, i, none⟩) (show 4 < W1.heap.size from Nat.lt_of_lt_of_le (by decide) HT.out.deb.lt)).trans (HKS.out i hi))
  rw [hold_3] at HCK
  have HCK := Aside0.mk HCK
  dsimp only
  go_wp2_with fail
  refine HCK.out.mono ?_
  rintro e w13 ⟨rfl, hb13⟩
  have HS13 := Aside0.mk (HS12.out.below hb13)
  clear hb13 HCK HS12 m0 m1 m2 m3 m4 m5 m6
  dsimp only
  go_wp2_with fail
  go_ret
  exact ⟨rfl, HB1.out.trans (HS13.out.bel.mono HB1.out.size)⟩
end Go.Proofs.YtbnbplppgbmkpaaGreatDoor
