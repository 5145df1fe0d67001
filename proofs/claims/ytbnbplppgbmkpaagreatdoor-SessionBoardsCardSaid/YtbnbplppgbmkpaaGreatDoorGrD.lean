/- Messages: the tables; which, form. Messages: what is wrong with one. Messages: an error's number (errors.Is, errors.As). Messages: an error's number (told). Numbers in base 16, as strconv.FormatUint writes them. Messages: what Encode calls: the tables of the program, a dialect, digits, Put at any code. Messages: what Encode writes, in plain functions. -/
import Derived.Test.YtbnbplppgbmkpaaGreatDoorGrB
import Derived.Test.YtbnbplppgbmkpaaGreatDoorGrA
import Derived.LaidEql
import Derived.Stop.Asserts
import Derived.RowKitTokens
import Derived.Test.YtbnbplppgbmkpaaGreatDoorGrC
namespace Go.Proofs.YtbnbplppgbmkpaaGreatDoor
open Go.RowKit Go.Proofs.YtbnbplppgbmkpaaGreatDoorW.PrintLast Go.Proofs.YtbnbplppgbmkpaaGreatDoorW.PrintWords PSessionSeals

/-- Number, kind and size of all fields. -/
def fieldsL : List (Int × Int × Int) := [(2, 2, 19), (3, 1, 6), (4, 1, 12), (7, 1, 10), (11, 1, 6), (32, 2, 11), (38, 3, 6), (39, 3, 2), (49, 1, 3), (64, 4, 8), (70, 1, 3), (74, 1, 10), (76, 1, 10), (86, 1, 16), (88, 1, 16), (90, 1, 20), (97, 5, 16)]
def fld (k : Nat) : Int × Int × Int := fieldsL.getD k (0, 0, 0)
def typesL : List Int := [100, 101, 110, 200, 201, 210, 220, 221, 230, 420, 421, 430, 500, 510, 800, 810]
def diaL : List (Int × Int × Int) := [(0, 0, 0), (1, 48, 0), (2, 49, 0), (3, 57, 2)]
/-- What the walks ask of the package-level tables. -/
structure Tabs (w : World) : Prop where
  fld : ∀ k, k < 17 → w.cell? ⟨2, k * 3, none⟩ = some (.int .i64 (fld k).1) ∧ w.cell? ⟨2, k * 3 + 1, none⟩ = some (.int .i64 (fld k).2.1) ∧ w.cell? ⟨2, k * 3 + 2, none⟩ = some (.int .i64 (fld k).2.2)
  typ : ∀ k, k < 16 → w.cell? ⟨1, k, none⟩ = some (.int .i64 (typesL.getD k 0))
  dia : ∀ k, k < 4 → w.cell? ⟨0, k * 3, none⟩ = some (.int .i64 (diaL.getD k (0, 0, 0)).1) ∧ w.cell? ⟨0, k * 3 + 1, none⟩ = some (.int .u8 (diaL.getD k (0, 0, 0)).2.1) ∧ w.cell? ⟨0, k * 3 + 2, none⟩ = some (.int .i64 (diaL.getD k (0, 0, 0)).2.2)
theorem Tabs.below {w w1 : World} (h : Tabs w) (hb : Below w.heap.size w w1) : Tabs w1 :=
  ⟨fun k hk => ⟨pw_cell_below hb (h.fld k hk).1, pw_cell_below hb (h.fld k hk).2.1, pw_cell_below hb (h.fld k hk).2.2⟩, fun k hk => pw_cell_below hb (h.typ k hk), fun k hk => ⟨pw_cell_below hb (h.dia k hk).1, pw_cell_below hb (h.dia k hk).2.1, pw_cell_below hb (h.dia k hk).2.2⟩⟩

theorem same_no (a b c no : Int) (p : Nat) (w : World) (hp : w.heap[p]? = some (.cells #[.int .i64 no] 3 (0, 0))) :
    Calls Tryz.prog 84 #[.agg #[.int .i64 a, .int .i64 b, .int .i64 c], .pointer (some ⟨p, 0, none⟩)] w fun e w' => e = .returned (.bool (a == no)) ∧ Below w.heap.size w w' := by
  have cp := blk_cell (blk_alloc hp (.cells #[Value.int .i64 a, .int .i64 b, .int .i64 c] 150)) 0
  simp only [List.getElem?_toArray, List.getElem?_cons_zero] at cp
  clear hp
  go_enter Tryz.func84, Tryz.ntmps84
  go_wp2
  go_ret
  exact ⟨rfl, by go_grown⟩

/-- The place of a field's number; -1: there is none. -/
def idxNo (no : Int) : Int := match fieldsL.findIdx? (fun x => x.1 == no) with | some k => (k : Int) | none => -1
theorem idxNo_at {no : Int} {k : Nat} (hk : k < 17) (h : (fld k).1 = no) (hn : ∀ j, j < k → (fld j).1 ≠ no) : idxNo no = k := by
  have : fieldsL.findIdx? (fun x => x.1 == no) = some k := by
    rw [List.findIdx?_eq_some_iff_getElem]
    have hk' : k < fieldsL.length := hk
    have e : fld k = fieldsL[k] := by simp [fld, List.getD, hk']
    refine ⟨hk', by rw [← e]; simpa using h, fun j hj => ?_⟩
    have hj' : j < fieldsL.length := Nat.lt_trans hj hk
    simpa [fld, List.getD, hj'] using hn j hj
  unfold idxNo
  rw [this]
theorem idxNo_none {no : Int} (hn : ∀ j, j < 17 → (fld j).1 ≠ no) : idxNo no = -1 := by
  have : fieldsL.findIdx? (fun x => x.1 == no) = none := by
    rw [List.findIdx?_eq_none_iff]
    intro x hx
    obtain ⟨j, hj, rfl⟩ := List.getElem_of_mem hx
    simpa [fld, List.getD, hj] using hn j hj
  unfold idxNo
  rw [this]

set_option maxHeartbeats 1000000 in
theorem idx_shape (no : Int) (p : Nat) (w : World) (hp : w.heap[p]? = some (.cells #[.int .i64 no] 3 (0, 0))) (ht : Tabs w) :
    Calls Tryz.prog 83 #[.slice (some ⟨2, 0, none⟩) 17 17, .func (.func 84) #[] #[.pointer (some ⟨p, 0, none⟩)]] w fun e w' => e = .returned (.int .i64 (idxNo no)) ∧ Below w.heap.size w w' := by
  have HP := Aside0.mk hp
  have HT := Aside0.mk ht
  clear hp ht
  go_enter Tryz.func83, Tryz.ntmps83
  go_wp2_with fail
  go_loopw [8] (fun i wr => ∃ k : Nat, k ≤ 17 ∧ i = .int .i64 k ∧ Aside0 (∀ j, j < k → (fld j).1 ≠ no) ∧ Aside0 (Below w.heap.size w wr)) (fun i _ => 17 - (intOf i).toNat)
  case atStart => exact ⟨0, by omega, rfl, ⟨fun j hj => absurd hj (Nat.not_lt_zero _)⟩, ⟨Below.refl _ _⟩⟩
  case round =>
    obtain ⟨k, hk, rfl, HN, HB⟩ := hrel
    by_cases hlt : k < 17
    · obtain ⟨c0, c1, c2⟩ := (HT.out.below HB.out).fld k hlt
      obtain ⟨⟨x0, x1, x2⟩, hx⟩ : ∃ x, x = fld k := ⟨_, rfl⟩
      rw [← hx] at c0 c1 c2
      dsimp only at c0 c1 c2
      have HX := Aside0.mk hx
      clear hx
      go_wp2_with fail
      by_cases hx0 : x0 = no
      · have hb0 : (x0 == no) = true := by simpa using hx0
        refine (same_no x0 x1 x2 no p wr (blk_below HP.out HB.out)).mono ?_
        rw [hb0]
        rintro e w1 ⟨rfl, hb1⟩
        have HB1 := Aside0.mk (HB.out.trans (hb1.mono HB.out.size))
        have HXN := Aside0.mk hx0
        clear hb1 hb0 hx0 c0 c1 c2
        go_wp2_with fail
        go_ret
        refine ⟨?_, HB1.out⟩
        rw [idxNo_at hlt (by rw [← HX.out]; exact HXN.out) HN.out]
        rfl
      · have hb0 : (x0 == no) = false := by simpa using hx0
        refine (same_no x0 x1 x2 no p wr (blk_below HP.out HB.out)).mono ?_
        rw [hb0]
        rintro e w1 ⟨rfl, hb1⟩
        have HB1 := Aside0.mk (HB.out.trans (hb1.mono HB.out.size))
        have HXN := Aside0.mk hx0
        clear hb1 hb0 hx0 c0 c1 c2
        go_wp2_with fail
        go_roundw
        case rel =>
          refine ⟨k + 1, by omega, by go_num, ⟨fun j hj => ?_⟩, HB1⟩
          rcases Nat.lt_or_eq_of_le (Nat.le_of_lt_succ hj) with h | h
          · exact HN.out j h
          · subst h; rw [← HX.out]; exact HXN.out
        case measure => simp [intOf]; omega
    · obtain rfl : k = 17 := by omega
      clear hlt hk
      go_wp2_with fail
      go_ret
      refine ⟨?_, HB.out⟩
      rw [idxNo_none HN.out]
      rfl

/-- A field's kind and size, if there is such a field. -/
def kindOf (no : Int) : Option (Int × Int) := match fieldsL.findIdx? (fun x => x.1 == no) with | some k => some ((fld k).2.1, (fld k).2.2) | none => none
theorem idxNo_cases (no : Int) : (idxNo no = -1 ∧ kindOf no = none) ∨ ∃ k : Nat, k < 17 ∧ idxNo no = k ∧ kindOf no = some ((fld k).2.1, (fld k).2.2) := by
  unfold idxNo kindOf
  cases h : fieldsL.findIdx? (fun x => x.1 == no) with
  | none => exact .inl ⟨rfl, rfl⟩
  | some k => exact .inr ⟨k, (List.findIdx?_eq_some_iff_getElem.1 h).1, rfl, rfl⟩
theorem fld_size : ∀ k, k < 17 → 2 ≤ (fld k).2.2 ∧ (fld k).2.2 ≤ 20 := by decide
/-- A field's form in a dialect; a zero one where there is no such field. -/
def formV (c o no : Int) : Value × Bool :=
  match kindOf no with
  | none => (.agg #[.int .i64 0, .int .i64 0, .int .i64 0], false)
  | some (k, n) => (.agg #[.int .i64 k, .int .i64 (if no = 4 then n - o else n), .int .i64 c], true)

set_option maxRecDepth 100000 in
set_option maxHeartbeats 1000000 in
theorem form_any (c v o no : Int) (ho : 0 ≤ o ∧ o ≤ 2) (w : World) (ht : Tabs w) :
    Calls Tryz.prog 62 #[.agg #[.int .i64 c, .int .u8 v, .int .i64 o], .int .i64 no] w fun e w' => e = .returned (.tuple #[(formV c o no).1, .bool (formV c o no).2]) ∧ Below w.heap.size w w' := by
  have HT := Aside0.mk ht
  clear ht
  have b1 : (((w.alloc (.cells #[.int .i64 c, .int .u8 v, .int .i64 o] 86)).alloc (.cells #[.int .i64 no] 3)).alloc (.cells #[.int .i64 0, .int .i64 0, .int .i64 0] 107)).heap[w.heap.size]? = some (.cells #[.int .i64 c, .int .u8 v, .int .i64 o] 86 (0, 0)) := blk_alloc (heap_alloc2_old w _ _) _
  have b2 : (((w.alloc (.cells #[.int .i64 c, .int .u8 v, .int .i64 o] 86)).alloc (.cells #[.int .i64 no] 3)).alloc (.cells #[.int .i64 0, .int .i64 0, .int .i64 0] 107)).heap[w.heap.size + 1]? = some (.cells #[.int .i64 no] 3 (0, 0)) := blk_alloc (heap_alloc2_new w _ _) _
  have b3 : (((w.alloc (.cells #[.int .i64 c, .int .u8 v, .int .i64 o] 86)).alloc (.cells #[.int .i64 no] 3)).alloc (.cells #[.int .i64 0, .int .i64 0, .int .i64 0] 107)).heap[w.heap.size + 1 + 1]? = some (.cells #[.int .i64 0, .int .i64 0, .int .i64 0] 107 (0, 0)) := by
    have h := blk_new ((w.alloc (.cells #[Value.int .i64 c, .int .u8 v, .int .i64 o] 86)).alloc (.cells #[Value.int .i64 no] 3)) (.cells #[Value.int .i64 0, .int .i64 0, .int .i64 0] 107)
    simpa using h
  have hB0 : Below w.heap.size w (((w.alloc (.cells #[.int .i64 c, .int .u8 v, .int .i64 o] 86)).alloc (.cells #[.int .i64 no] 3)).alloc (.cells #[.int .i64 0, .int .i64 0, .int .i64 0] 107)) := below_alloc (below_alloc (below_alloc (Below.refl _ _) _) _) _
  have X0 := Aside0.mk hB0
  have X1 := Aside0.mk b1
  have X2 := Aside0.mk b2
  have X3 := Aside0.mk b3
  clear hB0 b1 b2 b3
  go_enter Tryz.func62, Tryz.ntmps62
  go_wp2_with fail
  refine (idx_shape no (w.heap.size + 1) _ X2.out (HT.out.below X0.out)).mono ?_
  rintro e w1 ⟨rfl, hb1⟩
  have Y0 := Aside0.mk (X0.out.trans (hb1.mono X0.out.size))
  have Y1 := Aside0.mk (blk_below X1.out hb1)
  have Y2 := Aside0.mk (blk_below X2.out hb1)
  have Y3 := Aside0.mk (blk_below X3.out hb1)
  clear hb1 X0 X1 X2 X3
  have r0 := blk_cell Y3.out 0
  have r1 := blk_cell Y3.out 1
  have r2 := blk_cell Y3.out 2
  have f0 := blk_frozen Y3.out 0
  have f1 := blk_frozen Y3.out 1
  have f2 := blk_frozen Y3.out 2
  simp only [List.getElem?_toArray, List.getElem?_cons_zero, List.getElem?_cons_succ] at r0 r1 r2
  have hs1 : w.heap.size + 1 + 1 < w1.heap.size := blk_lt Y3.out
  rcases idxNo_cases no with ⟨h1, h2⟩ | ⟨k, hk, h1, h2⟩
  · rw [h1]
    have HV : Aside0 (formV c o no = (.agg #[.int .i64 0, .int .i64 0, .int .i64 0], false)) := ⟨by unfold formV; rw [h2]⟩
    clear h1 h2
    go_wp2_with fail
    have hb := Below.setCell (p := ⟨w.heap.size + 1 + 1, 2, none⟩) (Below.setCell (p := ⟨w.heap.size + 1 + 1, 1, none⟩) (Below.setCell (p := ⟨w.heap.size + 1 + 1, 0, none⟩) Y0.out (by dsimp only; omega) (.int .i64 0)) (by dsimp only; omega) (.int .i64 0)) (by dsimp only; omega) (.int .i64 0)
    have hg := blk_set (blk_set (blk_set Y3.out 0 (.int .i64 0)) 1 (.int .i64 0)) 2 (.int .i64 0)
    simp only [List.setIfInBounds_toArray, List.set_cons_zero, List.set_cons_succ] at hg
    rw [HV.out]
    generalize (World.setCell (World.setCell (World.setCell w1 ⟨w.heap.size + 1 + 1, 0, none⟩ (Value.int .i64 0)) ⟨w.heap.size + 1 + 1, 1, none⟩ (Value.int .i64 0)) ⟨w.heap.size + 1 + 1, 2, none⟩ (Value.int .i64 0)) = wz at hg hb ⊢
    have d0 := blk_cell hg 0
    have d1 := blk_cell hg 1
    have d2 := blk_cell hg 2
    simp only [List.getElem?_toArray, List.getElem?_cons_zero, List.getElem?_cons_succ] at d0 d1 d2
    exact bodyPost_ret (v := .tuple #[.agg #[.int .i64 0, .int .i64 0, .int .i64 0], .bool false]) (by simp [results, Tryz.results62, go_sem, d0, d1, d2]) rfl ⟨rfl, hb⟩
  · rw [h1]
    obtain ⟨_, c1, c2⟩ := (HT.out.below Y0.out).fld k hk
    have d0 := blk_cell Y1.out 0
    have d2 := blk_cell Y1.out 2
    have n0 := blk_cell Y2.out 0
    simp only [List.getElem?_toArray, List.getElem?_cons_zero, List.getElem?_cons_succ] at d0 d2 n0
    have HV : Aside0 (formV c o no = (.agg #[.int .i64 (fld k).2.1, .int .i64 (if no = 4 then (fld k).2.2 - o else (fld k).2.2), .int .i64 c], true)) := ⟨by unfold formV; rw [h2]⟩
    have hn := fld_size k hk
    obtain ⟨⟨x0, x1, x2⟩, hx⟩ : ∃ x, x = fld k := ⟨_, rfl⟩
    rw [← hx] at c1 c2 HV hn
    dsimp only at c1 c2 HV hn
    have hki : (k : Int) < 17 := by omega
    clear h1 h2 hx
    by_cases h4 : no = 4
    · have h4b : (no == 4) = true := by simpa using h4
      have HV2 : Aside0 (formV c o no = (.agg #[.int .i64 x1, .int .i64 (x2 - o), .int .i64 c], true)) := ⟨by rw [HV.out, if_pos h4]⟩
      clear h4 HV
      go_wp2_with fail
      refine start_ (n := 13) (S := fun w' => w'.cell? ⟨2, k * 3 + 1, none⟩ = some (.int .i64 x1) ∧ w'.cell? ⟨2, k * 3 + 2, none⟩ = some (.int .i64 x2) ∧ w'.cell? ⟨w.heap.size, 0, none⟩ = some (.int .i64 c)) (ds := [12]) #[false, false, false, false, false, false, false, false, false, false, false, false, false] (by kernel_rfl) rfl rfl ⟨c1, c2, d0⟩ (fun hHeld => ?_)
      refine pure_ (i := 0) (N := some 14) (v := ?_) (a' := ?_) #[true, false, false, false, false, false, false, false, false, false, false, false, false] rfl rfl (by kernel_rfl) (fun _ _ _ h => h) (Or.inl ⟨by rfl, ?_⟩) ?_ ?_
      rotate_left
      · intro w'
        go_simp
        with_reducible rfl
      rotate_left
      · simp only [Act.put, List.setIfInBounds_toArray, List.set_cons_zero, List.set_cons_succ]
        rfl
      refine pure_ (i := 1) (N := some 15) (v := ?_) (a' := ?_) #[true, true, false, false, false, false, false, false, false, false, false, false, false] rfl rfl (by kernel_rfl) (fun _ _ _ h => h) (Or.inl ⟨by rfl, ?_⟩) ?_ ?_
      rotate_left
      · intro w'
        go_simp
        with_reducible rfl
      rotate_left
      · simp only [Act.put, List.setIfInBounds_toArray, List.set_cons_zero, List.set_cons_succ]
        rfl
      refine pure_ (i := 2) (N := some 16) (v := ?_) (a' := ?_) #[true, true, true, false, false, false, false, false, false, false, false, false, false] rfl rfl (by kernel_rfl) (fun _ _ _ h => h) (Or.inl ⟨by rfl, ?_⟩) ?_ ?_
      rotate_left
      · intro w'
        go_simp
        with_reducible rfl
      rotate_left
      · simp only [Act.put, List.setIfInBounds_toArray, List.set_cons_zero, List.set_cons_succ]
        rfl
      refine pure_ (i := 4) (N := some 18) (v := ?_) (a' := ?_) #[true, true, true, false, true, false, false, false, false, false, false, false, false] rfl rfl (by kernel_rfl) (fun _ _ _ h => h) (Or.inl ⟨by rfl, ?_⟩) ?_ ?_
      rotate_left
      · intro w'
        go_simp
        with_reducible rfl
      rotate_left
      · simp only [Act.put, List.setIfInBounds_toArray, List.set_cons_zero, List.set_cons_succ]
        rfl
      refine pure_ (i := 5) (N := some 19) (v := ?_) (a' := ?_) #[true, true, true, false, true, true, false, false, false, false, false, false, false] rfl rfl (by kernel_rfl) (fun _ _ _ h => h) (Or.inl ⟨by rfl, ?_⟩) ?_ ?_
      rotate_left
      · intro w'
        go_simp
        with_reducible rfl
      rotate_left
      · simp only [Act.put, List.setIfInBounds_toArray, List.set_cons_zero, List.set_cons_succ]
        rfl
      refine pure_ (i := 6) (N := some 20) (v := ?_) (a' := ?_) #[true, true, true, false, true, true, true, false, false, false, false, false, false] rfl rfl (by kernel_rfl) (fun _ _ _ h => h) (Or.inl ⟨by rfl, ?_⟩) ?_ ?_
      rotate_left
      · intro w'
        go_simp
        with_reducible rfl
      rotate_left
      · simp only [Act.put, List.setIfInBounds_toArray, List.set_cons_zero, List.set_cons_succ]
        rfl
      refine pure_ (i := 8) (N := some 22) (v := ?_) (a' := ?_) #[true, true, true, false, true, true, true, false, true, false, false, false, false] rfl rfl (by kernel_rfl) (fun _ _ _ h => h) (Or.inl ⟨by rfl, ?_⟩) ?_ ?_
      rotate_left
      · intro w'
        go_simp
        with_reducible rfl
      rotate_left
      · simp only [Act.put, List.setIfInBounds_toArray, List.set_cons_zero, List.set_cons_succ]
        rfl
      refine take_ (i := 3) (N := some 17) (v := ?_) (a' := ?_) #[true, true, true, true, true, true, true, false, true, false, false, false, false] rfl rfl (by kernel_rfl) (fun _ _ _ h => h) (Or.inl ⟨by rfl, ?_⟩) hHeld ?_ ?_
      rotate_left
      · rintro w' ⟨s0, s1, s2⟩
        go_simp
        with_reducible rfl
      rotate_left
      · simp only [Act.put, List.setIfInBounds_toArray, List.set_cons_zero, List.set_cons_succ]
        rfl
      refine take_ (i := 7) (N := some 21) (v := ?_) (a' := ?_) #[true, true, true, true, true, true, true, true, true, false, false, false, false] rfl rfl (by kernel_rfl) (fun _ _ _ h => h) (Or.inl ⟨by rfl, ?_⟩) hHeld ?_ ?_
      rotate_left
      · rintro w' ⟨s0, s1, s2⟩
        go_simp
        with_reducible rfl
      rotate_left
      · simp only [Act.put, List.setIfInBounds_toArray, List.set_cons_zero, List.set_cons_succ]
        rfl
      refine take_ (i := 9) (N := some 23) (v := ?_) (a' := ?_) #[true, true, true, true, true, true, true, true, true, true, false, false, false] rfl rfl (by kernel_rfl) (fun _ _ _ h => h) (Or.inl ⟨by rfl, ?_⟩) hHeld ?_ ?_
      rotate_left
      · rintro w' ⟨s0, s1, s2⟩
        go_simp
        with_reducible rfl
      rotate_left
      · simp only [Act.put, List.setIfInBounds_toArray, List.set_cons_zero, List.set_cons_succ]
        rfl
      refine pure_ (i := 10) (N := some 24) (v := ?_) (a' := ?_) #[true, true, true, true, true, true, true, true, true, true, true, false, false] rfl rfl (by kernel_rfl) (fun _ _ _ h => h) (Or.inl ⟨by rfl, ?_⟩) ?_ ?_
      rotate_left
      · intro w'
        go_simp
        with_reducible rfl
      rotate_left
      · simp only [Act.put, List.setIfInBounds_toArray, List.set_cons_zero, List.set_cons_succ]
        rfl
      refine one_ (i := 11) (N := some 7) #[true, true, true, true, true, true, true, true, true, true, true, true, false] rfl rfl (by kernel_rfl) (by decide) (fun K hK => ?_)
      refine value_ (w1 := ?_) (v := ?_) (by rfl) rfl ?_ ?_
      rotate_left 2
      · go_simp
        constructor
        · rfl
        · rfl
      refine hK.out _ _ ⟨(show (World.drew _).cell? _ = _ from pw_cell_below (w := w1) (below_alloc (Below.refl _ _) _) c1), (show (World.drew _).cell? _ = _ from pw_cell_below (w := w1) (below_alloc (Below.refl _ _) _) c2), (show (World.drew _).cell? _ = _ from pw_cell_below (w := w1) (below_alloc (Below.refl _ _) _) d0)⟩ (fun hHeld => ?_)
      clear hK K
      refine norm_ (a' := ?_) ?_ ?_
      rotate_left
      · show Act.put _ (some 7) _ = _
        simp only [Act.put, List.setIfInBounds_toArray, List.set_cons_zero, List.set_cons_succ]
        rfl
      refine last_ (i := 12) (N := none) #[true, true, true, true, true, true, true, true, true, true, true, true, true] rfl rfl (by kernel_rfl) (by decide) (fun K hK => ?_)
      refine skip_ (w1 := ?_) (by rfl) rfl ?_ ?_
      rotate_left
      · go_simp
        rfl
      refine hK.out _ _ ?_
      clear hK K
      refine done_ (by kernel_rfl) ?_
      clear hHeld c1 c2 r0 r1 r2 f0 f1 f2
      have hz1 : Aside0 (∃ w2 : World, (w1.alloc (.cells #[.int .i64 x1, .int .i64 x2, .int .i64 c] 107)).drew = w2 ∧ Below w.heap.size w w2 ∧ w2.heap[w.heap.size]? = some (.cells #[.int .i64 c, .int .u8 v, .int .i64 o] 86 (0, 0)) ∧ w2.heap[w.heap.size + 1]? = some (.cells #[.int .i64 no] 3 (0, 0)) ∧ w2.heap[w.heap.size + 1 + 1]? = some (.cells #[.int .i64 0, .int .i64 0, .int .i64 0] 107 (0, 0)) ∧ w2.heap[w1.heap.size]? = some (.cells #[.int .i64 x1, .int .i64 x2, .int .i64 c] 107 (0, 0))) := ⟨_, rfl, below_drew (below_alloc Y0.out _), blk_drew (blk_alloc Y1.out _), blk_drew (blk_alloc Y2.out _), blk_drew (blk_alloc Y3.out _), blk_drew (blk_new w1 _)⟩
      obtain ⟨w2, hw2, z0, z1, z2, z3, z4⟩ := hz1.out
      rw [hw2]
      obtain ⟨g, hg⟩ : ∃ g, g = w1.heap.size := ⟨_, rfl⟩
      rw [← hg] at z4 hs1 ⊢
      clear hw2 hg hz1 Y0 Y1 Y2 Y3 d0 d2 n0
      have Z0 := Aside0.mk z0
      have Z3 := Aside0.mk z3
      have Z4 := Aside0.mk z4
      have d2 := blk_cell z1 2
      have n0 := blk_cell z2 0
      have r0 := blk_cell z3 0
      have r1 := blk_cell z3 1
      have r2 := blk_cell z3 2
      have f0 := blk_frozen z3 0
      have f1 := blk_frozen z3 1
      have f2 := blk_frozen z3 2
      have q0 := blk_cell z4 0
      have q1 := blk_cell z4 1
      have q2 := blk_cell z4 2
      have u1 := blk_frozen z4 1
      simp only [List.getElem?_toArray, List.getElem?_cons_zero, List.getElem?_cons_succ] at d2 n0 r0 r1 r2 q0 q1 q2
      clear z0 z1 z2 z3 z4
      go_wp2_with fail
      have hg := (blk_set (blk_set (blk_set (blk_far Z3.out (p := ⟨g, 1, none⟩) (by dsimp only; omega) (.int .i64 (x2 - o))) 0 (Value.int .i64 x1)) 1 (Value.int .i64 (x2 - o))) 2 (Value.int .i64 c))
      have hb := (Below.setCell (p := ⟨w.heap.size + 1 + 1, 2, none⟩) (Below.setCell (p := ⟨w.heap.size + 1 + 1, 1, none⟩) (Below.setCell (p := ⟨w.heap.size + 1 + 1, 0, none⟩) (Below.setCell (p := ⟨g, 1, none⟩) Z0.out (by dsimp only; omega) (.int .i64 (x2 - o))) (by dsimp only; omega) (Value.int .i64 x1)) (by dsimp only; omega) (Value.int .i64 (x2 - o))) (by dsimp only; omega) (Value.int .i64 c))
      simp only [List.setIfInBounds_toArray, List.set_cons_zero, List.set_cons_succ] at hg
      rw [HV2.out]
      generalize (World.setCell (World.setCell (World.setCell (World.setCell w2 ⟨g, 1, none⟩ (.int .i64 (x2 - o))) ⟨w.heap.size + 1 + 1, 0, none⟩ (Value.int .i64 x1)) ⟨w.heap.size + 1 + 1, 1, none⟩ (Value.int .i64 (x2 - o))) ⟨w.heap.size + 1 + 1, 2, none⟩ (Value.int .i64 c)) = wz at hg hb ⊢
      have d0 := blk_cell hg 0
      have d1 := blk_cell hg 1
      have d2 := blk_cell hg 2
      simp only [List.getElem?_toArray, List.getElem?_cons_zero, List.getElem?_cons_succ] at d0 d1 d2
      exact bodyPost_ret (v := .tuple #[.agg #[.int .i64 x1, .int .i64 (x2 - o), .int .i64 c], .bool true]) (by simp [results, Tryz.results62, go_sem, d0, d1, d2]) rfl ⟨rfl, hb⟩
    · have h4b : (no == 4) = false := by simpa using h4
      have HV2 : Aside0 (formV c o no = (.agg #[.int .i64 x1, .int .i64 x2, .int .i64 c], true)) := ⟨by rw [HV.out, if_neg h4]⟩
      clear h4 HV
      go_wp2_with fail
      refine start_ (n := 13) (S := fun w' => w'.cell? ⟨2, k * 3 + 1, none⟩ = some (.int .i64 x1) ∧ w'.cell? ⟨2, k * 3 + 2, none⟩ = some (.int .i64 x2) ∧ w'.cell? ⟨w.heap.size, 0, none⟩ = some (.int .i64 c)) (ds := [12]) #[false, false, false, false, false, false, false, false, false, false, false, false, false] (by kernel_rfl) rfl rfl ⟨c1, c2, d0⟩ (fun hHeld => ?_)
      refine pure_ (i := 0) (N := some 14) (v := ?_) (a' := ?_) #[true, false, false, false, false, false, false, false, false, false, false, false, false] rfl rfl (by kernel_rfl) (fun _ _ _ h => h) (Or.inl ⟨by rfl, ?_⟩) ?_ ?_
      rotate_left
      · intro w'
        go_simp
        with_reducible rfl
      rotate_left
      · simp only [Act.put, List.setIfInBounds_toArray, List.set_cons_zero, List.set_cons_succ]
        rfl
      refine pure_ (i := 1) (N := some 15) (v := ?_) (a' := ?_) #[true, true, false, false, false, false, false, false, false, false, false, false, false] rfl rfl (by kernel_rfl) (fun _ _ _ h => h) (Or.inl ⟨by rfl, ?_⟩) ?_ ?_
      rotate_left
      · intro w'
        go_simp
        with_reducible rfl
      rotate_left
      · simp only [Act.put, List.setIfInBounds_toArray, List.set_cons_zero, List.set_cons_succ]
        rfl
      refine pure_ (i := 2) (N := some 16) (v := ?_) (a' := ?_) #[true, true, true, false, false, false, false, false, false, false, false, false, false] rfl rfl (by kernel_rfl) (fun _ _ _ h => h) (Or.inl ⟨by rfl, ?_⟩) ?_ ?_
      rotate_left
      · intro w'
        go_simp
        with_reducible rfl
      rotate_left
      · simp only [Act.put, List.setIfInBounds_toArray, List.set_cons_zero, List.set_cons_succ]
        rfl
      refine pure_ (i := 4) (N := some 18) (v := ?_) (a' := ?_) #[true, true, true, false, true, false, false, false, false, false, false, false, false] rfl rfl (by kernel_rfl) (fun _ _ _ h => h) (Or.inl ⟨by rfl, ?_⟩) ?_ ?_
      rotate_left
      · intro w'
        go_simp
        with_reducible rfl
      rotate_left
      · simp only [Act.put, List.setIfInBounds_toArray, List.set_cons_zero, List.set_cons_succ]
        rfl
      refine pure_ (i := 5) (N := some 19) (v := ?_) (a' := ?_) #[true, true, true, false, true, true, false, false, false, false, false, false, false] rfl rfl (by kernel_rfl) (fun _ _ _ h => h) (Or.inl ⟨by rfl, ?_⟩) ?_ ?_
      rotate_left
      · intro w'
        go_simp
        with_reducible rfl
      rotate_left
      · simp only [Act.put, List.setIfInBounds_toArray, List.set_cons_zero, List.set_cons_succ]
        rfl
      refine pure_ (i := 6) (N := some 20) (v := ?_) (a' := ?_) #[true, true, true, false, true, true, true, false, false, false, false, false, false] rfl rfl (by kernel_rfl) (fun _ _ _ h => h) (Or.inl ⟨by rfl, ?_⟩) ?_ ?_
      rotate_left
      · intro w'
        go_simp
        with_reducible rfl
      rotate_left
      · simp only [Act.put, List.setIfInBounds_toArray, List.set_cons_zero, List.set_cons_succ]
        rfl
      refine pure_ (i := 8) (N := some 22) (v := ?_) (a' := ?_) #[true, true, true, false, true, true, true, false, true, false, false, false, false] rfl rfl (by kernel_rfl) (fun _ _ _ h => h) (Or.inl ⟨by rfl, ?_⟩) ?_ ?_
      rotate_left
      · intro w'
        go_simp
        with_reducible rfl
      rotate_left
      · simp only [Act.put, List.setIfInBounds_toArray, List.set_cons_zero, List.set_cons_succ]
        rfl
      refine take_ (i := 3) (N := some 17) (v := ?_) (a' := ?_) #[true, true, true, true, true, true, true, false, true, false, false, false, false] rfl rfl (by kernel_rfl) (fun _ _ _ h => h) (Or.inl ⟨by rfl, ?_⟩) hHeld ?_ ?_
      rotate_left
      · rintro w' ⟨s0, s1, s2⟩
        go_simp
        with_reducible rfl
      rotate_left
      · simp only [Act.put, List.setIfInBounds_toArray, List.set_cons_zero, List.set_cons_succ]
        rfl
      refine take_ (i := 7) (N := some 21) (v := ?_) (a' := ?_) #[true, true, true, true, true, true, true, true, true, false, false, false, false] rfl rfl (by kernel_rfl) (fun _ _ _ h => h) (Or.inl ⟨by rfl, ?_⟩) hHeld ?_ ?_
      rotate_left
      · rintro w' ⟨s0, s1, s2⟩
        go_simp
        with_reducible rfl
      rotate_left
      · simp only [Act.put, List.setIfInBounds_toArray, List.set_cons_zero, List.set_cons_succ]
        rfl
      refine take_ (i := 9) (N := some 23) (v := ?_) (a' := ?_) #[true, true, true, true, true, true, true, true, true, true, false, false, false] rfl rfl (by kernel_rfl) (fun _ _ _ h => h) (Or.inl ⟨by rfl, ?_⟩) hHeld ?_ ?_
      rotate_left
      · rintro w' ⟨s0, s1, s2⟩
        go_simp
        with_reducible rfl
      rotate_left
      · simp only [Act.put, List.setIfInBounds_toArray, List.set_cons_zero, List.set_cons_succ]
        rfl
      refine pure_ (i := 10) (N := some 24) (v := ?_) (a' := ?_) #[true, true, true, true, true, true, true, true, true, true, true, false, false] rfl rfl (by kernel_rfl) (fun _ _ _ h => h) (Or.inl ⟨by rfl, ?_⟩) ?_ ?_
      rotate_left
      · intro w'
        go_simp
        with_reducible rfl
      rotate_left
      · simp only [Act.put, List.setIfInBounds_toArray, List.set_cons_zero, List.set_cons_succ]
        rfl
      refine one_ (i := 11) (N := some 7) #[true, true, true, true, true, true, true, true, true, true, true, true, false] rfl rfl (by kernel_rfl) (by decide) (fun K hK => ?_)
      refine value_ (w1 := ?_) (v := ?_) (by rfl) rfl ?_ ?_
      rotate_left 2
      · go_simp
        constructor
        · rfl
        · rfl
      refine hK.out _ _ ⟨(show (World.drew _).cell? _ = _ from pw_cell_below (w := w1) (below_alloc (Below.refl _ _) _) c1), (show (World.drew _).cell? _ = _ from pw_cell_below (w := w1) (below_alloc (Below.refl _ _) _) c2), (show (World.drew _).cell? _ = _ from pw_cell_below (w := w1) (below_alloc (Below.refl _ _) _) d0)⟩ (fun hHeld => ?_)
      clear hK K
      refine norm_ (a' := ?_) ?_ ?_
      rotate_left
      · show Act.put _ (some 7) _ = _
        simp only [Act.put, List.setIfInBounds_toArray, List.set_cons_zero, List.set_cons_succ]
        rfl
      refine last_ (i := 12) (N := none) #[true, true, true, true, true, true, true, true, true, true, true, true, true] rfl rfl (by kernel_rfl) (by decide) (fun K hK => ?_)
      refine skip_ (w1 := ?_) (by rfl) rfl ?_ ?_
      rotate_left
      · go_simp
        rfl
      refine hK.out _ _ ?_
      clear hK K
      refine done_ (by kernel_rfl) ?_
      clear hHeld c1 c2 r0 r1 r2 f0 f1 f2
      have hz1 : Aside0 (∃ w2 : World, (w1.alloc (.cells #[.int .i64 x1, .int .i64 x2, .int .i64 c] 107)).drew = w2 ∧ Below w.heap.size w w2 ∧ w2.heap[w.heap.size]? = some (.cells #[.int .i64 c, .int .u8 v, .int .i64 o] 86 (0, 0)) ∧ w2.heap[w.heap.size + 1]? = some (.cells #[.int .i64 no] 3 (0, 0)) ∧ w2.heap[w.heap.size + 1 + 1]? = some (.cells #[.int .i64 0, .int .i64 0, .int .i64 0] 107 (0, 0)) ∧ w2.heap[w1.heap.size]? = some (.cells #[.int .i64 x1, .int .i64 x2, .int .i64 c] 107 (0, 0))) := ⟨_, rfl, below_drew (below_alloc Y0.out _), blk_drew (blk_alloc Y1.out _), blk_drew (blk_alloc Y2.out _), blk_drew (blk_alloc Y3.out _), blk_drew (blk_new w1 _)⟩
      obtain ⟨w2, hw2, z0, z1, z2, z3, z4⟩ := hz1.out
      rw [hw2]
      obtain ⟨g, hg⟩ : ∃ g, g = w1.heap.size := ⟨_, rfl⟩
      rw [← hg] at z4 hs1 ⊢
      clear hw2 hg hz1 Y0 Y1 Y2 Y3 d0 d2 n0
      have Z0 := Aside0.mk z0
      have Z3 := Aside0.mk z3
      have Z4 := Aside0.mk z4
      have d2 := blk_cell z1 2
      have n0 := blk_cell z2 0
      have r0 := blk_cell z3 0
      have r1 := blk_cell z3 1
      have r2 := blk_cell z3 2
      have f0 := blk_frozen z3 0
      have f1 := blk_frozen z3 1
      have f2 := blk_frozen z3 2
      have q0 := blk_cell z4 0
      have q1 := blk_cell z4 1
      have q2 := blk_cell z4 2
      have u1 := blk_frozen z4 1
      simp only [List.getElem?_toArray, List.getElem?_cons_zero, List.getElem?_cons_succ] at d2 n0 r0 r1 r2 q0 q1 q2
      clear z0 z1 z2 z3 z4
      go_wp2_with fail
      have hg := (blk_set (blk_set (blk_set Z3.out 0 (Value.int .i64 x1)) 1 (Value.int .i64 x2)) 2 (Value.int .i64 c))
      have hb := (Below.setCell (p := ⟨w.heap.size + 1 + 1, 2, none⟩) (Below.setCell (p := ⟨w.heap.size + 1 + 1, 1, none⟩) (Below.setCell (p := ⟨w.heap.size + 1 + 1, 0, none⟩) Z0.out (by dsimp only; omega) (Value.int .i64 x1)) (by dsimp only; omega) (Value.int .i64 x2)) (by dsimp only; omega) (Value.int .i64 c))
      simp only [List.setIfInBounds_toArray, List.set_cons_zero, List.set_cons_succ] at hg
      rw [HV2.out]
      generalize (World.setCell (World.setCell (World.setCell w2 ⟨w.heap.size + 1 + 1, 0, none⟩ (Value.int .i64 x1)) ⟨w.heap.size + 1 + 1, 1, none⟩ (Value.int .i64 x2)) ⟨w.heap.size + 1 + 1, 2, none⟩ (Value.int .i64 c)) = wz at hg hb ⊢
      have d0 := blk_cell hg 0
      have d1 := blk_cell hg 1
      have d2 := blk_cell hg 2
      simp only [List.getElem?_toArray, List.getElem?_cons_zero, List.getElem?_cons_succ] at d0 d1 d2
      exact bodyPost_ret (v := .tuple #[.agg #[.int .i64 x1, .int .i64 x2, .int .i64 c], .bool true]) (by simp [results, Tryz.results62, go_sem, d0, d1, d2]) rfl ⟨rfl, hb⟩
end Go.Proofs.YtbnbplppgbmkpaaGreatDoor

namespace Go.Proofs.YtbnbplppgbmkpaaGreatDoor
open Go.RowKit Go.Proofs.YtbnbplppgbmkpaaGreatDoorW.PrintLast Go.Proofs.YtbnbplppgbmkpaaGreatDoorW.PrintWords PSessionSeals

theorem has_type (typ : Int) (w : World) (ht : Tabs w) :
    Calls Tryz.prog 80 #[.slice (some ⟨1, 0, none⟩) 16 16, .int .i64 typ] w fun e w' => e = .returned (.bool (typesL.contains typ)) ∧ w = w' := by
  refine (Tryz.slices_Contains_int 1 0 16 16 typesL typ w (by decide) (by omega) (fun j hj => by rw [Nat.zero_add]; exact ht.typ j hj)).mono ?_
  rintro e w' ⟨rfl, rfl⟩
  exact ⟨rfl, rfl⟩

/-- An error's value, by its number; 0: none. -/
def ErrAt (w : World) (v : Value) (n : Int) : Prop :=
  (n = 0 ∧ v = .nilIface) ∨ (n ≠ 0 ∧ v = .iface 119 (.int .i64 n)) ∨ (n ≠ 0 ∧ ∃ p no, v = .iface 118 (.pointer (some ⟨p, 0, none⟩)) ∧ w.heap[p]? = some (.cells #[.int .i64 no, .iface 119 (.int .i64 n)] 121 (0, 0)))

/-- What is wrong with fields, behind a number. -/
def checkL : Int → List S38 → Int
  | _, [] => 0
  | last, x :: r =>
    match kindOf x.f0 with
    | none => 52
    | some (k, n) => if x.f0 ≤ last then 52 else if wrongOf k n x.f1 = 0 then checkL x.f0 r else wrongOf k n x.f1
/-- What is wrong with a message. -/
def checkN (typ : Int) (l : List S38) : Int := if typesL.contains typ = true then (if 24 < l.length then 5 else checkL 0 l) else 51
theorem kind_ok {no k n : Int} (h : kindOf no = some (k, n)) : FormOk k n 1 := by
  unfold kindOf at h
  cases hf : fieldsL.findIdx? (fun x => x.1 == no) with
  | none => rw [hf] at h; cases h
  | some j =>
    rw [hf] at h
    have hj : j < 17 := (List.findIdx?_eq_some_iff_getElem.1 hf).1
    injection h with h
    injection h with h1 h2
    subst h1 h2
    have : ∀ j, j < 17 → ((1 ≤ (fld j).2.1 ∧ (fld j).2.1 ≤ 5) ∧ 1 ≤ (fld j).2.2 ∧ (fld j).2.2 ≤ 64) := by decide
    obtain ⟨a, b⟩ := this j hj
    exact ⟨a, b, by omega, by omega⟩
theorem wrongOf_cases (k n : Int) (s : ByteArray) : wrongOf k n s = 0 ∨ wrongOf k n s = 41 := by
  unfold wrongOf
  split
  · exact .inl rfl
  · exact .inr rfl
theorem formV_1 (no : Int) : formV 1 0 no = (match kindOf no with | none => (.agg #[.int .i64 0, .int .i64 0, .int .i64 0], false) | some (k, n) => (.agg #[.int .i64 k, .int .i64 n, .int .i64 1], true)) := by
  unfold formV
  cases kindOf no with
  | none => rfl
  | some x => obtain ⟨k, n⟩ := x; simp

set_option maxRecDepth 100000 in
set_option maxHeartbeats 4000000 in
theorem check_msg (typ : Int) (l : List S38) (A : Option Addr) (c : Nat) (w : World) (hr : Kd.C k38 w A l.length l) (hs : ∀ x ∈ l, x.f1.size ≤ maxLen) (ht : Tabs w) :
    Calls Tryz.prog 61 #[.agg #[.int .i64 typ, .slice A l.length c]] w fun e w' => ∃ v, e = .returned v ∧ ErrAt w' v (checkN typ l) ∧ Below w.heap.size w w' := by
  have HT := Aside0.mk ht
  have HR := Aside0.mk hr
  have HS := Aside0.mk hs
  have hlm := Kd.C_max hr
  clear ht hr hs
  by_cases hty : typesL.contains typ = true
  · go_enter Tryz.func61, Tryz.ntmps61
    go_wp2_with fail
    refine start_ (n := 6) (S := fun w' => w'.cell? ⟨w.heap.size, 0, none⟩ = some (.int .i64 typ)) (ds := [3]) #[false, false, false, false, false, false] (by kernel_rfl) rfl rfl ((by simp)) (fun hHeld => ?_)
    refine pure_ (i := 0) (N := some 10) (v := ?_) (a' := ?_) #[true, false, false, false, false, false] rfl rfl (by kernel_rfl) (fun _ _ _ h => h) (Or.inl ⟨by rfl, ?_⟩) ?_ ?_
    rotate_left
    · intro w'
      go_simp
      with_reducible rfl
    rotate_left
    · simp only [Act.put, List.setIfInBounds_toArray, List.set_cons_zero, List.set_cons_succ]
      rfl
    refine pure_ (i := 1) (N := some 11) (v := ?_) (a' := ?_) #[true, true, false, false, false, false] rfl rfl (by kernel_rfl) (fun _ _ _ h => h) (Or.inl ⟨by rfl, ?_⟩) ?_ ?_
    rotate_left
    · intro w'
      go_simp
      with_reducible rfl
    rotate_left
    · simp only [Act.put, List.setIfInBounds_toArray, List.set_cons_zero, List.set_cons_succ]
      rfl
    refine take_ (i := 2) (N := some 12) (v := ?_) (a' := ?_) #[true, true, true, false, false, false] rfl rfl (by kernel_rfl) (fun _ _ _ h => h) (Or.inl ⟨by rfl, ?_⟩) hHeld ?_ ?_
    rotate_left
    · intro w' s0
      go_simp
      with_reducible rfl
    rotate_left
    · simp only [Act.put, List.setIfInBounds_toArray, List.set_cons_zero, List.set_cons_succ]
      rfl
    refine last_ (i := 3) (N := some 13) #[true, true, true, true, false, false] rfl rfl (by kernel_rfl) (by decide) (fun K hK => ?_)
    refine goes_ Tryz.func80 (by kernel_rfl) rfl #[.slice (some ⟨1, 0, none⟩) 16 16, .int .i64 typ] (by rfl) rfl rfl (by simp only [List.map_toArray, List.map_cons, List.map_nil]; rfl) ?_
    with_reducible refine (has_type typ _ (by exact HT.out.below (below_drew (below_alloc (Below.refl _ _) _)))).mono ?_
    rintro e w3 ⟨rfl, rfl⟩
    rw [hty]
    refine ⟨_, rfl, ?_⟩
    refine hK.out _ _ ?_
    clear hK K
    refine norm_ (a' := ?_) ?_ ?_
    rotate_left
    · show Act.put _ (some 13) _ = _
      simp only [Act.put, List.setIfInBounds_toArray, List.set_cons_zero, List.set_cons_succ]
      rfl
    refine pure_ (i := 4) (N := some 14) (v := ?_) (a' := ?_) #[true, true, true, true, true, false] rfl rfl (by kernel_rfl) (fun _ _ _ h => h) (Or.inl ⟨by rfl, ?_⟩) ?_ ?_
    rotate_left
    · intro w'
      go_simp
      with_reducible rfl
    rotate_left
    · simp only [Act.put, List.setIfInBounds_toArray, List.set_cons_zero, List.set_cons_succ]
      rfl
    refine pure_ (i := 5) (N := some 9) (v := ?_) (a' := ?_) #[true, true, true, true, true, true] rfl rfl (by kernel_rfl) (fun _ _ _ h => h) (Or.inl ⟨by rfl, ?_⟩) ?_ ?_
    rotate_left
    · intro w'
      go_simp
      with_reducible rfl
    rotate_left
    · simp only [Act.put, List.setIfInBounds_toArray, List.set_cons_zero, List.set_cons_succ]
      rfl
    refine done_ (by kernel_rfl) ?_
    clear hHeld
    have X0 : Aside0 (Below w.heap.size w ((w.alloc (.cells #[.int .i64 typ, .slice A l.length c] 29)).drew)) := ⟨below_drew (below_alloc (Below.refl _ _) _)⟩
    have X1 : Aside0 (((w.alloc (.cells #[.int .i64 typ, .slice A l.length c] 29)).drew).heap[w.heap.size]? = some (.cells #[.int .i64 typ, .slice A l.length c] 29 (0, 0))) := ⟨blk_drew (blk_new w _)⟩
    by_cases h24 : 24 < l.length
    · have h24i : (24 : Int) < (l.length : Int) := by omega
      have HN : Aside0 (checkN typ l = 5) := ⟨by unfold checkN; rw [if_pos hty, if_pos h24]⟩
      go_wp2_with fail
      go_ret
      exact ⟨_, rfl, .inr (.inl ⟨by rw [HN.out]; decide, by rw [HN.out]; rfl⟩), X0.out⟩
    · have h24i : decide ((24 : Int) < (l.length : Int)) = false := decide_eq_false (by omega)
      have HN : Aside0 (checkN typ l = checkL 0 l) := ⟨by unfold checkN; rw [if_pos hty, if_neg h24]⟩
      have hl24 : l.length ≤ 24 := by omega
      clear hty h24
      go_wp2_with fail
      go_loopw [25, 3] (fun v25 v3 wr => ∃ (k : Nat) (last : Int), k ≤ l.length ∧ v25 = .int .i64 k ∧ v3 = .int .i64 last ∧ Aside0 (checkN typ l = checkL last (l.drop k)) ∧ Aside0 (Below w.heap.size w wr)) (fun i _ _ => l.length - (intOf i).toNat)
      case atStart => exact ⟨0, 0, Nat.zero_le _, rfl, rfl, ⟨by rw [HN.out]; rfl⟩, X0⟩
      case round =>
        clear X0 X1 HN h24i
        obtain ⟨k, last, hk, rfl, rfl, HN, HB⟩ := hrel
        by_cases hlt : k < l.length
        · obtain ⟨ad, hA, c0, c1⟩ := at_T38 (Kd.C_below HR.out HB.out) (k : Int) (by omega) (by omega)
          subst hA
          obtain ⟨no, hno⟩ : ∃ no, no = (rd_T38 l (k : Int)).f0 := ⟨_, rfl⟩
          obtain ⟨s, hs⟩ : ∃ s, s = (rd_T38 l (k : Int)).f1 := ⟨_, rfl⟩
          rw [← hno] at c0
          rw [← hs] at c1
          rw [Int.toNat_natCast] at c0 c1
          have hmem : rd_T38 l (k : Int) ∈ l := by
            have : rd_T38 l (k : Int) = l[k] := by simp [rd_T38, hlt]
            rw [this]
            exact List.getElem_mem hlt
          have hsm : s.size ≤ maxLen := by rw [hs]; exact HS.out _ hmem
          have hdr : l.drop k = ⟨no, s⟩ :: l.drop (k + 1) := by
            have : rd_T38 l (k : Int) = l[k] := by simp [rd_T38, hlt]
            rw [hno, hs, this, List.drop_eq_getElem_cons hlt]
          have HN2 : Aside0 (checkN typ l = checkL last (⟨no, s⟩ :: l.drop (k + 1))) := ⟨by rw [HN.out, hdr]⟩
          have hlti : (k : Int) < (l.length : Int) := by omega
          clear hno hs hmem hdr HN
          obtain ⟨e0, e1, e2⟩ := (HT.out.below (below_alloc HB.out (.cells #[.int .i64 no, .string s] 38))).dia 1 (by decide)
          have e0' : (wr.alloc (.cells #[.int .i64 no, .string s] 38)).cell? ⟨0, 3, none⟩ = some (.int .i64 1) := e0
          have e1' : (wr.alloc (.cells #[.int .i64 no, .string s] 38)).cell? ⟨0, 4, none⟩ = some (.int .u8 48) := e1
          have e2' : (wr.alloc (.cells #[.int .i64 no, .string s] 38)).cell? ⟨0, 5, none⟩ = some (.int .i64 0) := e2
          clear e0 e1 e2
          go_wp2_with fail
          refine (form_any 1 48 0 no (by omega) _ (HT.out.below (below_alloc HB.out _))).mono ?_
          rw [formV_1]
          rintro e w1 ⟨rfl, hb1⟩
          have Y0 := Aside0.mk ((below_alloc HB.out _).trans (hb1.mono (Nat.le_trans HB.out.size (by simp))))
          obtain ⟨g, hg⟩ : ∃ g, g = wr.heap.size := ⟨_, rfl⟩
          have y1 := blk_below (blk_new wr _) hb1
          rw [← hg] at y1 ⊢
          have hgs : w.heap.size ≤ g := by rw [hg]; exact HB.out.size
          have hgw : g < w1.heap.size := blk_lt y1
          have Y1 := Aside0.mk y1
          have d0 := blk_cell Y1.out 0
          have d1 := blk_cell Y1.out 1
          simp only [List.getElem?_toArray, List.getElem?_cons_zero, List.getElem?_cons_succ] at d0 d1
          clear hb1 hg y1 c0 c1 e0' e1' e2'
          cases hkd : kindOf no with
          | none =>
            have HC : Aside0 (checkN typ l = 52) := ⟨by rw [HN2.out]; unfold checkL; rw [hkd]⟩
            clear hkd
            dsimp only
            go_wp2_with fail
            go_ret
            exact ⟨_, rfl, .inr (.inr ⟨by rw [HC.out]; decide, w1.heap.size + 1, no, rfl, by rw [HC.out]; exact heap_alloc2_new w1 _ _⟩), below_alloc (below_alloc Y0.out _) _⟩
          | some kn =>
            obtain ⟨kk, nn⟩ := kn
            have hfo := kind_ok hkd
            by_cases hle : no ≤ last
            · have HC : Aside0 (checkN typ l = 52) := ⟨by rw [HN2.out]; unfold checkL; rw [hkd]; dsimp only; rw [if_pos hle]⟩
              clear hkd
              dsimp only
              go_wp2_with fail
              go_ret
              exact ⟨_, rfl, .inr (.inr ⟨by rw [HC.out]; decide, w1.heap.size + 1, no, rfl, by rw [HC.out]; exact heap_alloc2_new w1 _ _⟩), below_alloc (below_alloc Y0.out _) _⟩
            · have hlei : decide (no ≤ last) = false := decide_eq_false hle
              have HC : Aside0 (checkN typ l = if wrongOf kk nn s = 0 then checkL no (l.drop (k + 1)) else wrongOf kk nn s) := ⟨by rw [HN2.out]; conv => lhs; unfold checkL; rw [hkd]; dsimp only; rw [if_neg hle]⟩
              have HF := Aside0.mk hfo
              clear hkd hfo
              dsimp only
              go_wp2_with fail
              refine (check_any kk nn 1 HF.out s hsm _).mono ?_
              rintro e w2 ⟨rfl, hb2⟩
              have Z0 := Aside0.mk ((below_alloc Y0.out _).trans (hb2.mono (Nat.le_trans Y0.out.size (by simp))))
              have Z1 := Aside0.mk (blk_below (blk_alloc Y1.out _) hb2)
              clear hb2 d0 d1
              have d0 := blk_cell Z1.out 0
              simp only [List.getElem?_toArray, List.getElem?_cons_zero] at d0
              rcases wrongOf_cases kk nn s with hw | hw
              · rw [hw]
                have HC2 : Aside0 (checkN typ l = checkL no (l.drop (k + 1))) := ⟨by rw [HC.out, if_pos hw]⟩
                clear hw
                go_wp2
                go_roundw
                case rel => exact ⟨k + 1, no, by omega, by go_num, rfl, HC2, Z0⟩
                case measure => simp [intOf]; omega
              · rw [hw]
                have HC2 : Aside0 (checkN typ l = 41) := ⟨by rw [HC.out, hw]; rfl⟩
                clear hw
                go_wp2
                go_ret
                exact ⟨_, rfl, .inr (.inr ⟨by rw [HC2.out]; decide, w2.heap.size, no, rfl, by rw [HC2.out]; exact blk_new w2 _⟩), below_alloc Z0.out _⟩
        · obtain rfl : k = l.length := by omega
          clear hlt hk
          go_wp2_with fail
          go_ret
          refine ⟨_, rfl, .inl ⟨?_, rfl⟩, HB.out⟩
          rw [HN.out, List.drop_length]
          rfl
  · have hty := Bool.eq_false_iff.2 hty
    go_enter Tryz.func61, Tryz.ntmps61
    go_wp2_with fail
    refine start_ (n := 6) (S := fun w' => w'.cell? ⟨w.heap.size, 0, none⟩ = some (.int .i64 typ)) (ds := [3]) #[false, false, false, false, false, false] (by kernel_rfl) rfl rfl ((by simp)) (fun hHeld => ?_)
    refine pure_ (i := 0) (N := some 10) (v := ?_) (a' := ?_) #[true, false, false, false, false, false] rfl rfl (by kernel_rfl) (fun _ _ _ h => h) (Or.inl ⟨by rfl, ?_⟩) ?_ ?_
    rotate_left
    · intro w'
      go_simp
      with_reducible rfl
    rotate_left
    · simp only [Act.put, List.setIfInBounds_toArray, List.set_cons_zero, List.set_cons_succ]
      rfl
    refine pure_ (i := 1) (N := some 11) (v := ?_) (a' := ?_) #[true, true, false, false, false, false] rfl rfl (by kernel_rfl) (fun _ _ _ h => h) (Or.inl ⟨by rfl, ?_⟩) ?_ ?_
    rotate_left
    · intro w'
      go_simp
      with_reducible rfl
    rotate_left
    · simp only [Act.put, List.setIfInBounds_toArray, List.set_cons_zero, List.set_cons_succ]
      rfl
    refine take_ (i := 2) (N := some 12) (v := ?_) (a' := ?_) #[true, true, true, false, false, false] rfl rfl (by kernel_rfl) (fun _ _ _ h => h) (Or.inl ⟨by rfl, ?_⟩) hHeld ?_ ?_
    rotate_left
    · intro w' s0
      go_simp
      with_reducible rfl
    rotate_left
    · simp only [Act.put, List.setIfInBounds_toArray, List.set_cons_zero, List.set_cons_succ]
      rfl
    refine last_ (i := 3) (N := some 13) #[true, true, true, true, false, false] rfl rfl (by kernel_rfl) (by decide) (fun K hK => ?_)
    refine goes_ Tryz.func80 (by kernel_rfl) rfl #[.slice (some ⟨1, 0, none⟩) 16 16, .int .i64 typ] (by rfl) rfl rfl (by simp only [List.map_toArray, List.map_cons, List.map_nil]; rfl) ?_
    with_reducible refine (has_type typ _ (by exact HT.out.below (below_drew (below_alloc (Below.refl _ _) _)))).mono ?_
    rintro e w3 ⟨rfl, rfl⟩
    rw [hty]
    refine ⟨_, rfl, ?_⟩
    refine hK.out _ _ ?_
    clear hK K
    refine norm_ (a' := ?_) ?_ ?_
    rotate_left
    · show Act.put _ (some 13) _ = _
      simp only [Act.put, List.setIfInBounds_toArray, List.set_cons_zero, List.set_cons_succ]
      rfl
    refine pure_ (i := 4) (N := some 14) (v := ?_) (a' := ?_) #[true, true, true, true, true, false] rfl rfl (by kernel_rfl) (fun _ _ _ h => h) (Or.inl ⟨by rfl, ?_⟩) ?_ ?_
    rotate_left
    · intro w'
      go_simp
      with_reducible rfl
    rotate_left
    · simp only [Act.put, List.setIfInBounds_toArray, List.set_cons_zero, List.set_cons_succ]
      rfl
    refine pure_ (i := 5) (N := some 9) (v := ?_) (a' := ?_) #[true, true, true, true, true, true] rfl rfl (by kernel_rfl) (fun _ _ _ h => h) (Or.inl ⟨by rfl, ?_⟩) ?_ ?_
    rotate_left
    · intro w'
      go_simp
      with_reducible rfl
    rotate_left
    · simp only [Act.put, List.setIfInBounds_toArray, List.set_cons_zero, List.set_cons_succ]
      rfl
    refine done_ (by kernel_rfl) ?_
    clear hHeld
    go_wp2_with fail
    go_ret
    have HN : checkN typ l = 51 := by unfold checkN; rw [hty]; rfl
    exact ⟨_, rfl, .inr (.inl ⟨by rw [HN]; decide, by rw [HN]; rfl⟩), below_drew (below_alloc (Below.refl _ _) _)⟩
end Go.Proofs.YtbnbplppgbmkpaaGreatDoor

namespace Go.Proofs.YtbnbplppgbmkpaaGreatDoor
open Go.RowKit Go.Extern.Stop Go.Stop Go.Extern Go.Proofs.YtbnbplppgbmkpaaGreatDoorW.PrintWords PSessionSeals

theorem isTypeOf (v : Value) (w : World) : (Extern.ReflectliteType.typeOf #[.iface 119 v]).run Tryz.prog w = .ok (.iface 209 (.agg #[.pointer (some ⟨9, 119, none⟩)])) w := by kernel_rfl
theorem isComparable (w : World) : ((Extern.ReflectliteType.method fun t => do Rtype.noPackHeld "Comparable" t; pure (.bool (← typeInfo t).comparable)) #[.agg #[.pointer (some ⟨9, 119, none⟩)]]).run Tryz.prog w = .ok (.bool true) w := by kernel_rfl
theorem isComparableCall (w : World) : (callFunc 183 #[.agg #[.pointer (some ⟨9, 119, none⟩)]]).run Tryz.prog w = .ok (.value (.bool true)) w := by
  have h := @run_callFunc_extern Tryz.prog 183 _ (Extern.ReflectliteType.method fun t => do Rtype.noPackHeld "Comparable" t; pure (.bool (← typeInfo t).comparable)) Tryz.func183 (by kernel_rfl) (by kernel_rfl) (by kernel_rfl) (by kernel_rfl)
  rw [h, isComparable]; rfl
theorem isMethodComparable (v : Value) (w : World) : (Go.method 206 209 v "Comparable").run Tryz.prog w = .ok (183, v) w := by kernel_rfl
theorem noIsE (v : Value) (xT : TypeId) (w : World) : (Instr.typeAssert (.iface 119 v) xT 211 true).run Tryz.prog w = .ok (.tuple #[.nilIface, .bool false]) w := run_typeAssert_lacksB Tryz.underlying211 (by kernel_rfl) (by kernel_rfl) v xT w
theorem noUnwrapE (v : Value) (xT : TypeId) (w : World) : (Instr.typeAssert (.iface 119 v) xT 214 true).run Tryz.prog w = .ok (.tuple #[.nilIface, .bool false]) w := run_typeAssert_lacksB Tryz.underlying214 (by kernel_rfl) (by kernel_rfl) v xT w
theorem noUnwrapsE (v : Value) (xT : TypeId) (w : World) : (Instr.typeAssert (.iface 119 v) xT 216 true).run Tryz.prog w = .ok (.tuple #[.nilIface, .bool false]) w := run_typeAssert_lacksB Tryz.underlying216 (by kernel_rfl) (by kernel_rfl) v xT w
theorem noIsW (v : Value) (xT : TypeId) (w : World) : (Instr.typeAssert (.iface 118 v) xT 211 true).run Tryz.prog w = .ok (.tuple #[.nilIface, .bool false]) w := run_typeAssert_lacksB Tryz.underlying211 (by kernel_rfl) (by kernel_rfl) v xT w
theorem hasUnwrapW (v : Value) (xT : TypeId) (w : World) : (Instr.typeAssert (.iface 118 v) xT 214 true).run Tryz.prog w = .ok (.tuple #[.iface 118 v, .bool true]) w := run_typeAssert_hasB Tryz.underlying214 (by kernel_rfl) v xT w
theorem methodUnwrap (v : Value) (w : World) : (Go.method 206 118 v "Unwrap").run Tryz.prog w = .ok (175, v) w := by kernel_rfl



theorem eqW (n m : Int) (w : World) : (binOp .eql 90 (.iface 119 (.int .i64 n)) (.iface 119 (.int .i64 m))).run Tryz.prog w = .ok (.bool (n == m)) w := by
  obtain ⟨i, hi, hcmp⟩ := Option.map_eq_some_iff.1 (show (Tryz.prog.info? 119).map (·.comparable) = some true by kernel_rfl)
  have h : ∀ d : Nat, (Op.equalIn (d + 2) 90 (.iface 119 (.int .i64 n)) (.iface 119 (.int .i64 m))).run Tryz.prog w = .ok (n == m) w := fun d => by
    simp [Op.equalIn, run_underlying Tryz.underlying90, run_underlying Tryz.underlying119, typeInfo, hi, hcmp]
  simp only [binOp]
  simp [Op.equal, Op.maxDepth, h 9998]
theorem eqF (p : Value) (m : Int) (w : World) : (binOp .eql 90 (.iface 118 p) (.iface 119 (.int .i64 m))).run Tryz.prog w = .ok (.bool false) w :=
  run_eql_iface_types (P := Tryz.prog) 118 119 p (.int .i64 m) Tryz.underlying90 (by decide) w

theorem is_plain (n : Int) (w : World) :
    Calls Tryz.prog 69 #[.iface 119 (.int .i64 n), .iface 119 (.int .i64 43)] w fun e w' => e = .returned (.bool (n == 43)) ∧ w' = w := by
  have h8 := @run_callFunc_extern Tryz.prog 94 _ Extern.ReflectliteType.typeOf Tryz.func94 (by kernel_rfl) (by kernel_rfl) (by kernel_rfl) (by kernel_rfl)
  have h32 := isComparableCall
  have tT := isTypeOf
  have mR := isMethodComparable
  have nE := noIsE
  have uE := noUnwrapE
  have vE := noUnwrapsE
  have hEq := eqW n 43
  go_enter Tryz.func69, Tryz.ntmps69
  rcases hb : n == 43
  · rw [hb] at hEq
    go_wp2
    refine wp_loop_rounds 1 ?_
    rw [rounds_succ]
    go_wp2
    go_ret
    exact ⟨rfl, rfl⟩
  · rw [hb] at hEq
    go_wp2
    refine wp_loop_rounds 1 ?_
    rw [rounds_succ]
    go_wp2
    go_ret
    exact ⟨rfl, rfl⟩

theorem is_field (p : Nat) (n : Int) (w : World) (h1 : w.cell? ⟨p, 1, none⟩ = some (.iface 119 (.int .i64 n))) :
    Calls Tryz.prog 69 #[.iface 118 (.pointer (some ⟨p, 0, none⟩)), .iface 119 (.int .i64 43)] w fun e w' => e = .returned (.bool (n == 43)) ∧ w' = w := by
  have h8 := @run_callFunc_extern Tryz.prog 94 _ Extern.ReflectliteType.typeOf Tryz.func94 (by kernel_rfl) (by kernel_rfl) (by kernel_rfl) (by kernel_rfl)
  have h32 := isComparableCall
  have tT := isTypeOf
  have mR := isMethodComparable
  have nE := noIsE
  have uE := noUnwrapE
  have vE := noUnwrapsE
  have nW := noIsW
  have uW := hasUnwrapW
  have mU := methodUnwrap
  have hEq := eqW n 43
  have hty := eqF (.pointer (some ⟨p, 0, none⟩)) 43
  go_enter Tryz.func69, Tryz.ntmps69
  rcases hb : n == 43
  · rw [hb] at hEq
    go_wp2
    refine wp_loop_rounds 2 ?_
    rw [rounds_succ]
    go_wp2
    rw [rounds_succ]
    go_wp2
    go_ret
    exact ⟨rfl, rfl⟩
  · rw [hb] at hEq
    go_wp2
    refine wp_loop_rounds 2 ?_
    rw [rounds_succ]
    go_wp2
    rw [rounds_succ]
    go_wp2
    go_ret
    exact ⟨rfl, rfl⟩

/-! ### errors.As at a target of *wrong -/
theorem valueOf129 (t : Addr) (w : World) : (ReflectliteValue.unpack (.iface 129 (.pointer (some t)))).run Tryz.prog w
    = .ok (.agg #[.pointer (some ⟨9, 129, none⟩), .pointer (some ⟨w.heap.size, 0, none⟩), .int .u64 150]) (w.alloc (.cells #[.pointer (some t)] 129)) := by kernel_rfl
theorem type129 (a : Addr) (w : World) : (ReflectliteValue.methodAny (ReflectliteValue.valueError "reflectlite.Value.Type" 0) (fun t _ _ _ => ReflectliteType.toType t) #[.agg #[.pointer (some ⟨9, 129, none⟩), .pointer (some a), .int .u64 150]]).run Tryz.prog w
    = .ok (.iface 209 (.agg #[.pointer (some ⟨9, 129, none⟩)])) w := by kernel_rfl
theorem methodKind (h : Value) (w : World) : (Go.method 206 209 (.agg #[h]) "Kind").run Tryz.prog w = .ok (171, h) w := by kernel_rfl
theorem kind129 (w : World) : ((ReflectliteType.abiMethod fun t => (fun a : Nat => Value.int IntKind.u8 (a : Int)) <$> Rtype.kind t) #[.pointer (some ⟨9, 129, none⟩)]).run Tryz.prog w = .ok (.int .u8 22) w := by kernel_rfl
theorem kind119 (w : World) : ((ReflectliteType.abiMethod fun t => (fun a : Nat => Value.int IntKind.u8 (a : Int)) <$> Rtype.kind t) #[.pointer (some ⟨9, 119, none⟩)]).run Tryz.prog w = .ok (.int .u8 2) w := by kernel_rfl
theorem rlm (z : Sem Value) (f : TypeId → Addr → Nat → Nat → Sem Value) (v : Value) :
    ReflectliteValue.method z f #[v] = (do match ← ReflectliteValue.parts v with | none => z | some (t, a, fl) => f t a fl (fl % 32)) := rfl
theorem parts129 (a : Addr) (w : World) : (ReflectliteValue.parts (.agg #[.pointer (some ⟨9, 129, none⟩), .pointer (some a), .int .u64 150])).run Tryz.prog w = .ok (some (129, a, 150)) w := by kernel_rfl
theorem isNil129 (a p : Addr) (W : World) (ha : W.cell? a = some (.pointer (some p))) :
    (ReflectliteValue.method (ReflectliteValue.valueError "reflectlite.Value.IsNil" 0) ReflectliteValue.isNil #[.agg #[.pointer (some ⟨9, 129, none⟩), .pointer (some a), .int .u64 150]]).run Tryz.prog W = .ok (.bool false) W := by
  rw [rlm]
  simp only [Sem.run_bind, parts129, Result.andThen]
  simp [ReflectliteValue.isNil, loadVar, isAgg, underlying, Tryz.underlying129, ha, Result.andThen]
theorem methodElem (h : Value) (w : World) : (Go.method 206 209 (.agg #[h]) "Elem").run Tryz.prog w = .ok (184, .agg #[h]) w := by kernel_rfl
theorem methodImplements (h : Value) (w : World) : (Go.method 206 209 (.agg #[h]) "Implements").run Tryz.prog w = .ok (185, .agg #[h]) w := by kernel_rfl
theorem methodAssignableTo (h : Value) (w : World) : (Go.method 206 209 (.agg #[h]) "AssignableTo").run Tryz.prog w = .ok (182, .agg #[h]) w := by kernel_rfl
theorem elem129 (w : World) : (ReflectliteType.method ReflectliteType.elem #[.agg #[.pointer (some ⟨9, 129, none⟩)]]).run Tryz.prog w = .ok (.iface 209 (.agg #[.pointer (some ⟨9, 119, none⟩)])) w := by kernel_rfl
theorem implements119 (w : World) : (ReflectliteType.relation "Implements" ReflectliteType.implements_ #[.agg #[.pointer (some ⟨9, 119, none⟩)], .iface 209 (.agg #[.pointer (some ⟨9, 90, none⟩)])]).run Tryz.prog w = .ok (.bool true) w := by kernel_rfl
theorem typeOf118 (v : Value) (w : World) : (ReflectliteType.typeOf #[.iface 118 v]).run Tryz.prog w = .ok (.iface 209 (.agg #[.pointer (some ⟨9, 118, none⟩)])) w := by kernel_rfl
theorem assignable119 (w : World) : (ReflectliteType.relation "AssignableTo" ReflectliteType.assignableTo #[.agg #[.pointer (some ⟨9, 119, none⟩)], .iface 209 (.agg #[.pointer (some ⟨9, 119, none⟩)])]).run Tryz.prog w = .ok (.bool true) w := by kernel_rfl
theorem assignable118 (w : World) : (ReflectliteType.relation "AssignableTo" ReflectliteType.assignableTo #[.agg #[.pointer (some ⟨9, 118, none⟩)], .iface 209 (.agg #[.pointer (some ⟨9, 119, none⟩)])]).run Tryz.prog w = .ok (.bool false) w := by kernel_rfl
theorem valueOf119 (n : Int) (w : World) : (ReflectliteValue.unpack (.iface 119 (.int .i64 n))).run Tryz.prog w
    = .ok (.agg #[.pointer (some ⟨9, 119, none⟩), .pointer (some ⟨w.heap.size, 0, none⟩), .int .u64 130]) (w.alloc (.cells #[.int .i64 n] 119)) := by kernel_rfl
theorem elemOf129 (w : World) : (Rtype.elem? 129).run Tryz.prog w = .ok (some 119) w := by kernel_rfl
theorem mk119 (p : Addr) (w : World) : (ReflectliteValue.mk 119 p ReflectliteValue.flagAddr).run Tryz.prog w = .ok (.agg #[.pointer (some ⟨9, 119, none⟩), .pointer (some p), .int .u64 386]) w := by kernel_rfl
theorem elemV129 (a p : Addr) (W : World) (ha : W.cell? a = some (.pointer (some p))) :
    (ReflectliteValue.method (ReflectliteValue.valueError "reflectlite.Value.Elem" 0) ReflectliteValue.elem #[.agg #[.pointer (some ⟨9, 129, none⟩), .pointer (some a), .int .u64 150]]).run Tryz.prog W
      = .ok (.agg #[.pointer (some ⟨9, 119, none⟩), .pointer (some p), .int .u64 386]) W := by
  rw [rlm]
  simp only [Sem.run_bind, parts129, Result.andThen]
  simp [ReflectliteValue.elem, loadVar, isAgg, underlying, Tryz.underlying129, ha, Result.andThen, elemOf129, mk119]
theorem rls (v x : Value) : ReflectliteValue.set #[v, x] = (do
    let (some (dst, a, fl), some (src, b, _)) := (← ReflectliteValue.parts v, ← ReflectliteValue.parts x)
      | unsupported (.noEntry "extern/(internal/reflectlite.Value).Set.zeroValue")
    if fl / ReflectliteValue.flagAddr % 2 == 0 then unsupported (.noEntry "extern/(internal/reflectlite.Value).Set.unaddressable")
    let val ← loadVar src b
    if ← Rtype.directlyAssignable dst src then storeVar dst a val
    else if ← Rtype.implements dst src then
      if (← Rtype.kind src) == 20 then
        match val with
        | .nilIface => unsupported (.noEntry "extern/reflectlite: a nil value of one interface type handed on as a value of another")
        | _ => storeVar dst a val
      else storeVar dst a (.iface src val)
    else panicString ("reflectlite.Set: value of type " ++ (← Rtype.spelt src) ++ " is not assignable to type " ++ (← Rtype.spelt dst))
    pure (.tuple #[])) := rfl
theorem parts119a (a : Addr) (w : World) : (ReflectliteValue.parts (.agg #[.pointer (some ⟨9, 119, none⟩), .pointer (some a), .int .u64 386])).run Tryz.prog w = .ok (some (119, a, 386)) w := by kernel_rfl
theorem parts119 (a : Addr) (w : World) : (ReflectliteValue.parts (.agg #[.pointer (some ⟨9, 119, none⟩), .pointer (some a), .int .u64 130])).run Tryz.prog w = .ok (some (119, a, 130)) w := by kernel_rfl
theorem direct119 (w : World) : (Rtype.directlyAssignable 119 119).run Tryz.prog w = .ok true w := by kernel_rfl
theorem set119 (ta b : Addr) (n : Int) (old : Value) (W : World) (hb : W.cell? b = some (.int .i64 n)) (ht : W.cell? ta = some old) (hf : W.frozen? ta = false) :
    (ReflectliteValue.set #[.agg #[.pointer (some ⟨9, 119, none⟩), .pointer (some ta), .int .u64 386], .agg #[.pointer (some ⟨9, 119, none⟩), .pointer (some b), .int .u64 130]]).run Tryz.prog W
      = .ok (.tuple #[]) (W.setCell ta (.int .i64 n)) := by
  rw [rls]
  simp only [Sem.run_bind, parts119a, parts119, Result.andThen]
  simp [ReflectliteValue.flagAddr, loadVar, isAgg, underlying, Tryz.underlying119, hb, Result.andThen, direct119, storeVar, Value.cells, storeCells, Addr.add]
  rw [run_store Tryz.prog W ta _ _ (by rfl)]
  simp [ht, hf]
theorem noAsW (v : Value) (xT : TypeId) (w : World) : (Instr.typeAssert (.iface 118 v) xT 221 true).run Tryz.prog w = .ok (.tuple #[.nilIface, .bool false]) w := run_typeAssert_lacksB Tryz.underlying221 (by kernel_rfl) (by kernel_rfl) v xT w

set_option maxHeartbeats 4000000 in
theorem as_plain (n : Int) (t : Addr) (old : Value) (w : World) (hg : w.cell? ⟨3, 0, none⟩ = some (.iface 209 (.agg #[.pointer (some ⟨9, 90, none⟩)]))) (ht0 : w.cell? t = some old) (hf0 : w.frozen? t = false) :
    Calls Tryz.prog 70 #[.iface 119 (.int .i64 n), .iface 129 (.pointer (some t))] w fun ev w' => ev = .returned (.bool true) ∧ w' = ((((w.alloc (.cells #[.pointer (some t)] 129)).alloc (.cells #[.pointer (some ⟨9, 129, none⟩), .pointer (some ⟨w.heap.size, 0, none⟩), .int .u64 150] 178)).alloc (.cells #[.pointer (some ⟨9, 129, none⟩), .pointer (some ⟨w.heap.size, 0, none⟩), .int .u64 150] 178)).alloc (.cells #[.int .i64 n] 119)).setCell t (.int .i64 n) := by
  have h6 := @run_callFunc_extern Tryz.prog 96 _ (fun args => ReflectliteValue.unpack (args.getD 0 (.tuple #[]))) Tryz.func96 (by kernel_rfl) (by kernel_rfl) (by kernel_rfl) (by kernel_rfl)
  have h7 := @run_callFunc_extern Tryz.prog 97 _ (ReflectliteValue.methodAny (ReflectliteValue.valueError "reflectlite.Value.Type" 0) (fun t _ _ _ => ReflectliteType.toType t)) Tryz.func97 (by kernel_rfl) (by kernel_rfl) (by kernel_rfl) (by kernel_rfl)
  have h8 := @run_callFunc_extern Tryz.prog 98 _ (ReflectliteValue.method (ReflectliteValue.valueError "reflectlite.Value.IsNil" 0) ReflectliteValue.isNil) Tryz.func98 (by kernel_rfl) (by kernel_rfl) (by kernel_rfl) (by kernel_rfl)
  have h27 := @run_callFunc_extern Tryz.prog 171 _ (ReflectliteType.abiMethod fun t => do pure (.int .u8 (← Rtype.kind t))) Tryz.func171 (by kernel_rfl) (by kernel_rfl) (by kernel_rfl) (by kernel_rfl)
  have h37 := @run_callFunc_extern Tryz.prog 184 _ (ReflectliteType.method ReflectliteType.elem) Tryz.func184 (by kernel_rfl) (by kernel_rfl) (by kernel_rfl) (by kernel_rfl)
  have h38 := @run_callFunc_extern Tryz.prog 185 _ (ReflectliteType.relation "Implements" ReflectliteType.implements_) Tryz.func185 (by kernel_rfl) (by kernel_rfl) (by kernel_rfl) (by kernel_rfl)
  have h10 := @run_callFunc_extern Tryz.prog 94 _ ReflectliteType.typeOf Tryz.func94 (by kernel_rfl) (by kernel_rfl) (by kernel_rfl) (by kernel_rfl)
  have h35 := @run_callFunc_extern Tryz.prog 182 _ (ReflectliteType.relation "AssignableTo" ReflectliteType.assignableTo) Tryz.func182 (by kernel_rfl) (by kernel_rfl) (by kernel_rfl) (by kernel_rfl)
  have h11 := @run_callFunc_extern Tryz.prog 126 _ (ReflectliteValue.method (ReflectliteValue.valueError "reflectlite.Value.Elem" 0) ReflectliteValue.elem) Tryz.func126 (by kernel_rfl) (by kernel_rfl) (by kernel_rfl) (by kernel_rfl)
  have h12 := @run_callFunc_extern Tryz.prog 127 _ ReflectliteValue.set Tryz.func127 (by kernel_rfl) (by kernel_rfl) (by kernel_rfl) (by kernel_rfl)
  have tO := isTypeOf
  have tF := typeOf118
  have mA := methodAssignableTo
  have a25 := assignable119
  have a18 := assignable118
  have v25 := valueOf119
  have f6 := valueOf129
  have f7 := type129
  have mK := methodKind
  have mE := methodElem
  have mI := methodImplements
  have k27 := kind129
  have k25 := kind119
  have e27 := elem129
  have i25 := implements119
  have nAs := noAsW
  have uW := hasUnwrapW
  have mU := methodUnwrap
  have n8 := isNil129 ⟨w.heap.size, 0, none⟩ t ((w.alloc (.cells #[.pointer (some t)] 129)).alloc (.cells #[.pointer (some ⟨9, 129, none⟩), .pointer (some ⟨w.heap.size, 0, none⟩), .int .u64 150] 178)) (by simp)
  have hlt : 3 < w.heap.size := by
    rcases Nat.lt_or_ge 3 w.heap.size with h | h
    · exact h
    · simp [World.cell?, Array.getElem?_eq_none h] at hg
  have hg2 : ((w.alloc (.cells #[.pointer (some t)] 129)).alloc (.cells #[.pointer (some ⟨9, 129, none⟩), .pointer (some ⟨w.heap.size, 0, none⟩), .int .u64 150] 178)).cell? ⟨3, 0, none⟩ = some (.iface 209 (.agg #[.pointer (some ⟨9, 90, none⟩)])) := by
    rw [World.cell?_alloc_lt _ _ ⟨3, 0, none⟩ (by simp; omega), World.cell?_alloc_lt _ _ ⟨3, 0, none⟩ hlt]; exact hg
  have htl : t.block < w.heap.size := by
    rcases Nat.lt_or_ge t.block w.heap.size with h | h
    · exact h
    · simp [World.cell?, Array.getElem?_eq_none h] at ht0
  have el := elemV129 ⟨w.heap.size, 0, none⟩ t (((w.alloc (.cells #[.pointer (some t)] 129)).alloc (.cells #[.pointer (some ⟨9, 129, none⟩), .pointer (some ⟨w.heap.size, 0, none⟩), .int .u64 150] 178)).alloc (.cells #[.pointer (some ⟨9, 129, none⟩), .pointer (some ⟨w.heap.size, 0, none⟩), .int .u64 150] 178)) (by rw [World.cell?_alloc_lt _ _ ⟨w.heap.size, 0, none⟩ (by simp; omega)]; simp)
  have st := set119 t ⟨w.heap.size + 1 + 1 + 1, 0, none⟩ n old ((((w.alloc (.cells #[.pointer (some t)] 129)).alloc (.cells #[.pointer (some ⟨9, 129, none⟩), .pointer (some ⟨w.heap.size, 0, none⟩), .int .u64 150] 178)).alloc (.cells #[.pointer (some ⟨9, 129, none⟩), .pointer (some ⟨w.heap.size, 0, none⟩), .int .u64 150] 178)).alloc (.cells #[.int .i64 n] 119))
    (by rw [World.cell?_alloc_at _ _ _ _ (by simp)]; rfl)
    (by rw [World.cell?_alloc_lt _ _ t (by simp; omega), World.cell?_alloc_lt _ _ t (by simp; omega), World.cell?_alloc_lt _ _ t (by simp; omega), World.cell?_alloc_lt _ _ t htl]; exact ht0)
    (by rw [World.frozen?_alloc_old _ _ t (by simp; omega), World.frozen?_alloc_old _ _ t (by simp; omega), World.frozen?_alloc_old _ _ t (by simp; omega), World.frozen?_alloc_old _ _ t (Nat.ne_of_lt htl)]; exact hf0)
  go_enter Tryz.func70, Tryz.ntmps70
  go_wp2
  refine wp_loop_rounds 1 ?_
  rw [rounds_succ]
  go_wp2
  go_ret
  exact ⟨rfl, rfl⟩

set_option maxHeartbeats 4000000 in
theorem as_field (p : Nat) (n : Int) (t : Addr) (old : Value) (w : World) (h1 : w.cell? ⟨p, 1, none⟩ = some (.iface 119 (.int .i64 n))) (hg : w.cell? ⟨3, 0, none⟩ = some (.iface 209 (.agg #[.pointer (some ⟨9, 90, none⟩)]))) (ht0 : w.cell? t = some old) (hf0 : w.frozen? t = false) :
    Calls Tryz.prog 70 #[.iface 118 (.pointer (some ⟨p, 0, none⟩)), .iface 129 (.pointer (some t))] w fun ev w' => ev = .returned (.bool true) ∧ w' = ((((w.alloc (.cells #[.pointer (some t)] 129)).alloc (.cells #[.pointer (some ⟨9, 129, none⟩), .pointer (some ⟨w.heap.size, 0, none⟩), .int .u64 150] 178)).alloc (.cells #[.pointer (some ⟨9, 129, none⟩), .pointer (some ⟨w.heap.size, 0, none⟩), .int .u64 150] 178)).alloc (.cells #[.int .i64 n] 119)).setCell t (.int .i64 n) := by
  have h6 := @run_callFunc_extern Tryz.prog 96 _ (fun args => ReflectliteValue.unpack (args.getD 0 (.tuple #[]))) Tryz.func96 (by kernel_rfl) (by kernel_rfl) (by kernel_rfl) (by kernel_rfl)
  have h7 := @run_callFunc_extern Tryz.prog 97 _ (ReflectliteValue.methodAny (ReflectliteValue.valueError "reflectlite.Value.Type" 0) (fun t _ _ _ => ReflectliteType.toType t)) Tryz.func97 (by kernel_rfl) (by kernel_rfl) (by kernel_rfl) (by kernel_rfl)
  have h8 := @run_callFunc_extern Tryz.prog 98 _ (ReflectliteValue.method (ReflectliteValue.valueError "reflectlite.Value.IsNil" 0) ReflectliteValue.isNil) Tryz.func98 (by kernel_rfl) (by kernel_rfl) (by kernel_rfl) (by kernel_rfl)
  have h27 := @run_callFunc_extern Tryz.prog 171 _ (ReflectliteType.abiMethod fun t => do pure (.int .u8 (← Rtype.kind t))) Tryz.func171 (by kernel_rfl) (by kernel_rfl) (by kernel_rfl) (by kernel_rfl)
  have h37 := @run_callFunc_extern Tryz.prog 184 _ (ReflectliteType.method ReflectliteType.elem) Tryz.func184 (by kernel_rfl) (by kernel_rfl) (by kernel_rfl) (by kernel_rfl)
  have h38 := @run_callFunc_extern Tryz.prog 185 _ (ReflectliteType.relation "Implements" ReflectliteType.implements_) Tryz.func185 (by kernel_rfl) (by kernel_rfl) (by kernel_rfl) (by kernel_rfl)
  have h10 := @run_callFunc_extern Tryz.prog 94 _ ReflectliteType.typeOf Tryz.func94 (by kernel_rfl) (by kernel_rfl) (by kernel_rfl) (by kernel_rfl)
  have h35 := @run_callFunc_extern Tryz.prog 182 _ (ReflectliteType.relation "AssignableTo" ReflectliteType.assignableTo) Tryz.func182 (by kernel_rfl) (by kernel_rfl) (by kernel_rfl) (by kernel_rfl)
  have h11 := @run_callFunc_extern Tryz.prog 126 _ (ReflectliteValue.method (ReflectliteValue.valueError "reflectlite.Value.Elem" 0) ReflectliteValue.elem) Tryz.func126 (by kernel_rfl) (by kernel_rfl) (by kernel_rfl) (by kernel_rfl)
  have h12 := @run_callFunc_extern Tryz.prog 127 _ ReflectliteValue.set Tryz.func127 (by kernel_rfl) (by kernel_rfl) (by kernel_rfl) (by kernel_rfl)
  have tO := isTypeOf
  have tF := typeOf118
  have mA := methodAssignableTo
  have a25 := assignable119
  have a18 := assignable118
  have v25 := valueOf119
  have f6 := valueOf129
  have f7 := type129
  have mK := methodKind
  have mE := methodElem
  have mI := methodImplements
  have k27 := kind129
  have k25 := kind119
  have e27 := elem129
  have i25 := implements119
  have nAs := noAsW
  have uW := hasUnwrapW
  have mU := methodUnwrap
  have n8 := isNil129 ⟨w.heap.size, 0, none⟩ t ((w.alloc (.cells #[.pointer (some t)] 129)).alloc (.cells #[.pointer (some ⟨9, 129, none⟩), .pointer (some ⟨w.heap.size, 0, none⟩), .int .u64 150] 178)) (by simp)
  have hlt : 3 < w.heap.size := by
    rcases Nat.lt_or_ge 3 w.heap.size with h | h
    · exact h
    · simp [World.cell?, Array.getElem?_eq_none h] at hg
  have hg2 : ((w.alloc (.cells #[.pointer (some t)] 129)).alloc (.cells #[.pointer (some ⟨9, 129, none⟩), .pointer (some ⟨w.heap.size, 0, none⟩), .int .u64 150] 178)).cell? ⟨3, 0, none⟩ = some (.iface 209 (.agg #[.pointer (some ⟨9, 90, none⟩)])) := by
    rw [World.cell?_alloc_lt _ _ ⟨3, 0, none⟩ (by simp; omega), World.cell?_alloc_lt _ _ ⟨3, 0, none⟩ hlt]; exact hg
  have htl : t.block < w.heap.size := by
    rcases Nat.lt_or_ge t.block w.heap.size with h | h
    · exact h
    · simp [World.cell?, Array.getElem?_eq_none h] at ht0
  have hpl : p < w.heap.size := by
    rcases Nat.lt_or_ge p w.heap.size with h | h
    · exact h
    · simp [World.cell?, Array.getElem?_eq_none h] at h1
  have h13 : (((w.alloc (.cells #[.pointer (some t)] 129)).alloc (.cells #[.pointer (some ⟨9, 129, none⟩), .pointer (some ⟨w.heap.size, 0, none⟩), .int .u64 150] 178)).alloc (.cells #[.pointer (some ⟨9, 129, none⟩), .pointer (some ⟨w.heap.size, 0, none⟩), .int .u64 150] 178)).cell? ⟨p, 1, none⟩ = some (.iface 119 (.int .i64 n)) := by
    rw [World.cell?_alloc_lt _ _ ⟨p, 1, none⟩ (by simp; omega), World.cell?_alloc_lt _ _ ⟨p, 1, none⟩ (by simp; omega), World.cell?_alloc_lt _ _ ⟨p, 1, none⟩ hpl]; exact h1
  have el := elemV129 ⟨w.heap.size, 0, none⟩ t (((w.alloc (.cells #[.pointer (some t)] 129)).alloc (.cells #[.pointer (some ⟨9, 129, none⟩), .pointer (some ⟨w.heap.size, 0, none⟩), .int .u64 150] 178)).alloc (.cells #[.pointer (some ⟨9, 129, none⟩), .pointer (some ⟨w.heap.size, 0, none⟩), .int .u64 150] 178)) (by rw [World.cell?_alloc_lt _ _ ⟨w.heap.size, 0, none⟩ (by simp; omega)]; simp)
  have st := set119 t ⟨w.heap.size + 1 + 1 + 1, 0, none⟩ n old ((((w.alloc (.cells #[.pointer (some t)] 129)).alloc (.cells #[.pointer (some ⟨9, 129, none⟩), .pointer (some ⟨w.heap.size, 0, none⟩), .int .u64 150] 178)).alloc (.cells #[.pointer (some ⟨9, 129, none⟩), .pointer (some ⟨w.heap.size, 0, none⟩), .int .u64 150] 178)).alloc (.cells #[.int .i64 n] 119))
    (by rw [World.cell?_alloc_at _ _ _ _ (by simp)]; rfl)
    (by rw [World.cell?_alloc_lt _ _ t (by simp; omega), World.cell?_alloc_lt _ _ t (by simp; omega), World.cell?_alloc_lt _ _ t (by simp; omega), World.cell?_alloc_lt _ _ t htl]; exact ht0)
    (by rw [World.frozen?_alloc_old _ _ t (by simp; omega), World.frozen?_alloc_old _ _ t (by simp; omega), World.frozen?_alloc_old _ _ t (by simp; omega), World.frozen?_alloc_old _ _ t (Nat.ne_of_lt htl)]; exact hf0)
  go_enter Tryz.func70, Tryz.ntmps70
  go_wp2
  refine wp_loop_rounds 2 ?_
  rw [rounds_succ]
  go_wp2
  rw [rounds_succ]
  go_wp2
  go_ret
  exact ⟨rfl, rfl⟩
end Go.Proofs.YtbnbplppgbmkpaaGreatDoor

namespace Go.Proofs.YtbnbplppgbmkpaaGreatDoor
open Go.RowKit Go.Extern.Stop Go.Stop Go.Extern Go.Proofs.YtbnbplppgbmkpaaGreatDoorW.PrintWords PSessionSeals

set_option maxHeartbeats 4000000 in
/-- An error's number. -/
theorem toldErr_any {w : World} {v : Value} {n : Int} (hg : w.cell? ⟨3, 0, none⟩ = some (.iface 209 (.agg #[.pointer (some ⟨9, 90, none⟩)]))) (hv : ErrAt w v n) :
    Calls Tryz.prog 47 #[v] w fun e w' => e = .returned (.int .i64 n) ∧ Below w.heap.size w w' := by
  have hlt : 3 < w.heap.size := by
    rcases Nat.lt_or_ge 3 w.heap.size with h | h
    · exact h
    · simp [World.cell?, Array.getElem?_eq_none h] at hg
  have hg' : (w.alloc (.cells #[.int .i64 0] 119)).cell? ⟨3, 0, none⟩ = some (.iface 209 (.agg #[.pointer (some ⟨9, 90, none⟩)])) := by
    rw [World.cell?_alloc_lt _ _ ⟨3, 0, none⟩ hlt]; exact hg
  rcases hv with ⟨rfl, rfl⟩ | ⟨h0, rfl⟩ | ⟨h0, p, no, rfl, hp⟩
  · go_enter Tryz.func47, Tryz.ntmps47
    go_wp2
    go_ret
    exact ⟨rfl, (Below.refl _ _).alloc (Nat.le_refl _) _⟩
  · have HI := Aside0.mk (is_plain n (w.alloc (.cells #[.int .i64 0] 119)))
    have HA := Aside0.mk (as_plain n ⟨w.heap.size, 0, none⟩ (.int .i64 0) (w.alloc (.cells #[.int .i64 0] 119)) hg' (by simp) (by simp))
    clear hg hg' hlt
    go_enter Tryz.func47, Tryz.ntmps47
    go_wp2_with fail
    refine Calls.mono HI.out ?_
    rintro e w1 ⟨rfl, rfl⟩
    clear HI
    rcases hb : n == 43
    · go_wp2_with fail
      refine Calls.mono HA.out ?_
      rintro e w1 ⟨rfl, rfl⟩
      clear HA
      go_wp2_with fail
      go_ret
      refine ⟨rfl, ?_⟩
      refine Below.alloc (Below.alloc (Below.alloc (Below.alloc (Below.alloc (Below.refl _ _) (Nat.le_refl _) _) ?_ _) ?_ _) ?_ _) ?_ _ <;> (simp only [World.size_alloc]; omega)
    · go_wp2_with fail
      go_ret
      refine ⟨by rw [beq_iff_eq.1 hb]; rfl, (Below.refl _ _).alloc (Nat.le_refl _) _⟩
  · have hp1 : w.cell? ⟨p, 1, none⟩ = some (.iface 119 (.int .i64 n)) := by
      simp [World.cell?, hp]
    have hpl : p < w.heap.size := by
      rcases Nat.lt_or_ge p w.heap.size with h | h
      · exact h
      · simp [Array.getElem?_eq_none h] at hp
    have hp2 : (w.alloc (.cells #[.int .i64 0] 119)).cell? ⟨p, 1, none⟩ = some (.iface 119 (.int .i64 n)) := by
      rw [World.cell?_alloc_lt _ _ ⟨p, 1, none⟩ hpl]; exact hp1
    have HI := Aside0.mk (is_field p n (w.alloc (.cells #[.int .i64 0] 119)) hp2)
    have HA := Aside0.mk (as_field p n ⟨w.heap.size, 0, none⟩ (.int .i64 0) (w.alloc (.cells #[.int .i64 0] 119)) hp2 hg' (by simp) (by simp))
    clear hg hg' hlt hp hp1 hp2 hpl
    go_enter Tryz.func47, Tryz.ntmps47
    go_wp2_with fail
    refine Calls.mono HI.out ?_
    rintro e w1 ⟨rfl, rfl⟩
    clear HI
    rcases hb : n == 43
    · go_wp2_with fail
      refine Calls.mono HA.out ?_
      rintro e w1 ⟨rfl, rfl⟩
      clear HA
      go_wp2_with fail
      go_ret
      refine ⟨rfl, ?_⟩
      refine Below.alloc (Below.alloc (Below.alloc (Below.alloc (Below.alloc (Below.refl _ _) (Nat.le_refl _) _) ?_ _) ?_ _) ?_ _) ?_ _ <;> (simp only [World.size_alloc]; omega)
    · go_wp2_with fail
      go_ret
      refine ⟨by rw [beq_iff_eq.1 hb]; rfl, (Below.refl _ _).alloc (Nat.le_refl _) _⟩
end Go.Proofs.YtbnbplppgbmkpaaGreatDoor

namespace Go.Proofs.YtbnbplppgbmkpaaGreatDoor
open Go.RowKit Go.Extern.Stop Go.Stop Go.Extern Go.Proofs.YtbnbplppgbmkpaaGreatDoorW.PrintWords PSessionSeals

/-- The cell of the table that TrailingZeros64 looks up at 16. -/
def Deb (w : World) : Prop := w.cell? ⟨8, 15, none⟩ = some (.int .u8 4)
theorem Deb.lt {w : World} (h : Deb w) : 8 < w.heap.size := by
  unfold Deb at h
  rcases Nat.lt_or_ge 8 w.heap.size with h' | h'
  · exact h'
  · simp [World.cell?, Array.getElem?_eq_none h'] at h
theorem Deb.below {w w1 : World} (h : Deb w) (hb : Below w.heap.size w w1) : Deb w1 := by
  have := h.lt
  unfold Deb at *
  rw [Below.cell hb (by simpa using this)]; exact h

theorem tz16 (w : World) (h : Deb w) : Calls Tryz.prog 147 #[.int .u64 16] w fun e w' => e = .returned (.int .i64 4) ∧ w' = w := by
  unfold Deb at h
  have e1 : Go.bits .and .u64 16 (IntKind.u64.wrap (-16)) = 16 := by decide +kernel
  have e2 : IntKind.u64.wrap (16 * 285870213051353865) / 288230376151711744 = 15 := by decide +kernel
  have e3 : IntKind.u64.wrap 4573923408821661840 / 288230376151711744 = 15 := by decide +kernel
  go_enter Tryz.func147, Tryz.ntmps147
  go_wp2
  go_ret
  exact ⟨rfl, rfl⟩
theorem pow16 (w : World) : Calls Tryz.prog 146 #[.int .i64 16] w fun e w' => e = .returned (.bool true) ∧ w' = w := by
  go_enter Tryz.func146, Tryz.ntmps146
  go_wp2
  go_ret
  exact ⟨rfl, rfl⟩

def hexDig (d : Nat) : Int := if d < 10 then 48 + (d : Int) else 87 + (d : Int)
def hexF : Nat → Nat → List Int → List Int
  | 0, _, acc => acc
  | f + 1, u, acc => if u < 16 then hexDig u :: acc else hexF f (u / 16) (hexDig (u % 16) :: acc)
/-- A number in base 16. -/
def hexN (n : Nat) : List Int := hexF 16 n []

theorem dig_at (d : Nat) (hd : d < 16) (w : World) : (Instr.index 9 (.string ⟨#[48, 49, 50, 51, 52, 53, 54, 55, 56, 57, 97, 98, 99, 100, 101, 102, 103, 104, 105, 106, 107, 108, 109, 110, 111, 112, 113, 114, 115, 116, 117, 118, 119, 120, 121, 122]⟩) (.int .u64 (d : Int))).run Tryz.prog w = .ok (.int .u8 (hexDig d)) w := by
  have : d = 0 ∨ d = 1 ∨ d = 2 ∨ d = 3 ∨ d = 4 ∨ d = 5 ∨ d = 6 ∨ d = 7 ∨ d = 8 ∨ d = 9 ∨ d = 10 ∨ d = 11 ∨ d = 12 ∨ d = 13 ∨ d = 14 ∨ d = 15 := by omega
  clear hd
  rcases this with h | h | h | h | h | h | h | h | h | h | h | h | h | h | h | h <;> (subst h; exact Eq.trans (by kernel_rfl) rfl)

/-- The buffer, behind so many digits. -/
def bufV (l : List Int) : Array Value := (List.replicate (65 - l.length) (Value.int .u8 0) ++ l.map (Value.int .u8)).toArray
theorem bufV_nil : bufV [] = Tryz.zeroCells233 := by kernel_rfl
theorem bufV_put (l : List Int) (h : l.length < 65) (x : Int) : (bufV l).setIfInBounds (65 - l.length - 1) (.int .u8 x) = bufV (x :: l) := by
  unfold bufV
  rw [List.setIfInBounds_toArray]
  congr 1
  obtain ⟨m, hm⟩ : ∃ m, 65 - l.length = m + 1 := ⟨65 - l.length - 1, by omega⟩
  have hm2 : 65 - (x :: l).length = m := by simp only [List.length_cons]; omega
  rw [hm, hm2, List.replicate_succ', List.append_assoc]
  rw [List.set_append]
  simp
theorem bufV_at (l : List Int) (_ : l.length ≤ 65) (i : Nat) (hi : i < l.length) : (bufV l)[65 - l.length + i]? = some (.int .u8 (l.getD i 0)) := by
  unfold bufV
  rw [List.getElem?_toArray, List.getElem?_append_right (by simp)]
  simp [List.getD, List.getElem?_eq_getElem hi]
theorem u64_nat (n : Nat) (h : n < 18446744073709551616) : IntKind.u64.wrap (n : Int) = n := by
  unfold IntKind.wrap; simp [IntKind.signed, IntKind.bits]; omega

theorem sl65 (g m L : Nat) (h : m + L = 65) (h1 : 1 ≤ L) (h2 : L ≤ 16) (w : World) : (Instr.sliceAt 233 (.pointer (some ⟨g, 0, none⟩)) (some (.int .i64 (m : Int))) none none).run Tryz.prog w = .ok (.slice (some ⟨g, m, none⟩) L L) w := by
  have : L = 1 ∨ L = 2 ∨ L = 3 ∨ L = 4 ∨ L = 5 ∨ L = 6 ∨ L = 7 ∨ L = 8 ∨ L = 9 ∨ L = 10 ∨ L = 11 ∨ L = 12 ∨ L = 13 ∨ L = 14 ∨ L = 15 ∨ L = 16 := by omega
  clear h1 h2
  rcases this with h' | h' | h' | h' | h' | h' | h' | h' | h' | h' | h' | h' | h' | h' | h' | h' <;> (subst h'; obtain rfl := Nat.eq_sub_of_add_eq h; clear h; exact Eq.trans (by kernel_rfl) rfl)
theorem conv65 (g m : Nat) (xs : List Int) (c : Nat) (W : World) (h : W.heap[g]? = some (.cells (bufV xs) 233 (0, 0))) (hm : m + xs.length = 65) :
    (convert 22 9 (.slice (some ⟨g, m, none⟩) xs.length c)).run Tryz.prog W = .ok (.string (strOfNums xs)) W :=
  run_convert_bytes_arg (P := Tryz.prog) W 22 5 (by kernel_rfl) (by kernel_rfl) g m xs.length c xs rfl (fun i hi => by
    rw [blk_cell h, show m + i = 65 - xs.length + i by omega]
    exact bufV_at xs (by omega) i hi) 9 (by kernel_rfl)

set_option maxRecDepth 4000 in
set_option maxHeartbeats 4000000 in
theorem bits16 (n : Nat) (hn : n < 18446744073709551616) (w : World) (h : Deb w) :
    Calls Tryz.prog 120 #[.slice none 0 0, .int .u64 n, .int .i64 16, .bool false, .bool false] w fun e w' => e = .returned (.tuple #[.slice none 0 0, .string (strOfNums (hexN n))]) ∧ Below w.heap.size w w' := by
  have H := Aside0.mk h
  clear h
  go_enter Tryz.func120, Tryz.ntmps120
  go_wp2_with fail
  refine (pow16 _).mono ?_
  rintro e w1 ⟨rfl, rfl⟩
  go_wp2_with fail
  refine (tz16 _ (H.out.below ((Below.refl _ _).alloc (Nat.le_refl _) _))).mono ?_
  rintro e w1 ⟨rfl, rfl⟩
  have HN := Aside0.mk hn
  clear hn
  go_wp2_with fail
  have hz : ∃ w9 : World, w9 = w.alloc (.cells Tryz.zeroCells233 233) ∧ w9.heap[w.heap.size]? = some (.cells (bufV []) 233 (0, 0)) ∧ Below w.heap.size w w9 := ⟨_, rfl, by rw [bufV_nil]; exact blk_new _ _, (Below.refl _ _).alloc (Nat.le_refl _) _⟩
  obtain ⟨w9, e9, hz, hb⟩ := hz
  rw [← e9]
  clear e9
  go_loopw [1, 13] (fun v1 v13 wr => ∃ (u f : Nat) (l : List Int), v1 = .int .u64 u ∧ v13 = .int .i64 ((65 - l.length : Nat) : Int) ∧ Aside0 (u < 16 ^ (f + 1) ∧ l.length + f + 1 = 16 ∧ hexF (f + 1) u l = hexN n) ∧ Aside0 (wr.heap[w.heap.size]? = some (.cells (bufV l) 233 (0, 0))) ∧ Aside0 (Below w.heap.size w wr)) (fun i _ _ => (intOf i).toNat)
  case atStart =>
    exact ⟨n, 15, [], rfl, rfl, ⟨HN.out, rfl, rfl⟩, ⟨hz⟩, ⟨hb⟩⟩
  case round =>
    clear hz hb
    obtain ⟨u, f, l, rfl, rfl, ⟨hu, hl, hx⟩, HZ, HB⟩ := hrel
    obtain ⟨m, hm⟩ : ∃ m, 65 - l.length = m + 1 := ⟨65 - l.length - 1, by omega⟩
    rw [hm]
    have hwm : wrap64 (m : Int) = m := by unfold wrap64; omega
    have hm65 : (m : Int) < 65 := by omega
    have hc : wr.cell? ⟨w.heap.size, m, none⟩ = some (.int .u8 0) := by
      rw [blk_cell HZ.out]
      unfold bufV
      rw [List.getElem?_toArray, List.getElem?_append_left (by rw [List.length_replicate]; omega)]
      rw [List.getElem?_replicate]
      exact if_pos (by omega)
    have hf : wr.frozen? ⟨w.heap.size, m, none⟩ = false := blk_frozen HZ.out _
    by_cases h16 : u < 16
    · have hF : strOfNums (hexN n) = strOfNums (hexDig u :: l) := by
        rw [← hx]; unfold hexF; rw [if_pos h16]
      have hix := dig_at u h16
      have hst : (wr.setCell ⟨w.heap.size, m, none⟩ (.int .u8 (hexDig u))).heap[w.heap.size]? = some (.cells (bufV (hexDig u :: l)) 233 (0, 0)) :=
        blk_put HZ.out m _ (by rw [← bufV_put l (by omega), hm]; rfl)
      have hsl := sl65 w.heap.size m (l.length + 1) (by omega) (by omega) (by omega)
      have hcv := conv65 w.heap.size m (hexDig u :: l) (l.length + 1) _ hst (by simp only [List.length_cons]; omega)
      rw [List.length_cons] at hcv
      have HF := Aside0.mk hF
      have t2 : decide ((u : Int) ≥ 16) = false := decide_eq_false (by omega)
      clear hF hx hu hst hm h16 hl
      go_wp2_with fail
      exact bodyPost_ret (v := .tuple #[.slice none 0 0, .string (strOfNums (hexDig u :: l))]) (by simp [results, Tryz.results120, go_sem]) rfl ⟨by rw [HF.out], HB.out.setCell (Nat.le_refl _) _⟩
    · have hd : u % 16 < 16 := Nat.mod_lt _ (by omega)
      have hix := dig_at (u % 16) hd
      rw [show ((u % 16 : Nat) : Int) = (u : Int) % 16 by omega] at hix
      have hst : (wr.setCell ⟨w.heap.size, m, none⟩ (.int .u8 (hexDig (u % 16)))).heap[w.heap.size]? = some (.cells (bufV (hexDig (u % 16) :: l)) 233 (0, 0)) :=
        blk_put HZ.out m _ (by rw [← bufV_put l (by omega), hm]; rfl)
      have hand : Go.bits .and .u64 (u : Int) 15 = (u : Int) % 16 := by
        have := bits_and_u64_nat u 15 (Nat.lt_of_lt_of_le hu (by have : 16 ^ (f + 1) ≤ 16 ^ 16 := Nat.pow_le_pow_right (by omega) (by omega); exact Nat.le_trans this (by decide))) (by decide)
        rw [show ((15 : Nat) : Int) = 15 from rfl] at this
        rw [this, show u &&& 15 = u % 16 from Nat.and_two_pow_sub_one_eq_mod u 4]
        omega
      have HX := Aside0.mk hx
      have HU := Aside0.mk hu
      have HS := Aside0.mk hst
      have HL := Aside0.mk hl
      have HM := Aside0.mk hm
      have t2 : decide ((u : Int) ≥ 16) = true := decide_eq_true (by omega)
      clear hx hu hst hm hl
      go_wp2_with fail
      refine ⟨⟨u / 16, f - 1, hexDig (u % 16) :: l, by rfl, ?_, ?_, HS, ⟨HB.out.setCell (Nat.le_refl _) _⟩⟩, ?_⟩
      · have := HM.out
        rw [List.length_cons, show 65 - (l.length + 1) = m by omega]
      · have h1 := HX.out
        have h2 := HU.out
        have h3 := HL.out
        obtain ⟨f', rfl⟩ : ∃ f', f = f' + 1 := by
          rcases f with _ | f'
          · simp at h2; omega
          · exact ⟨f', rfl⟩
        refine ⟨?_, ?_, ?_⟩
        · rw [Nat.div_lt_iff_lt_mul (by omega)]; exact h2
        · simp only [List.length_cons]; omega
        · rw [← h1, show hexF (f' + 1 + 1) u l = hexF (f' + 1) (u / 16) (hexDig (u % 16) :: l) by rw [hexF, if_neg h16]]; rfl
      · simp only [intOf]; omega

theorem formatUint16 (n : Nat) (hn : n < 18446744073709551616) (w : World) (h : Deb w) :
    Calls Tryz.prog 66 #[.int .u64 n, .int .i64 16] w fun e w' => e = .returned (.string (strOfNums (hexN n))) ∧ Below w.heap.size w w' := by
  have hc : Calls Tryz.prog 87 #[.int .u64 n, .int .i64 16] w fun e w' => e = .returned (.string (strOfNums (hexN n))) ∧ Below w.heap.size w w' := by
    have H := Aside0.mk (bits16 n hn w h)
    clear h hn
    go_enter Tryz.func87, Tryz.ntmps87
    go_wp2_with fail
    refine Calls.mono H.out ?_
    rintro e w1 ⟨rfl, hb⟩
    go_wp2_with fail
    go_ret
    exact ⟨rfl, hb⟩
  have H := Aside0.mk hc
  clear hc h hn
  go_enter Tryz.func66, Tryz.ntmps66
  go_wp2_with fail
  refine Calls.mono H.out ?_
  rintro e w1 ⟨rfl, hb⟩
  go_wp2_with fail
  go_ret
  exact ⟨rfl, hb⟩
theorem hexF_length : ∀ (f u : Nat) (l : List Int), (hexF f u l).length ≤ l.length + f
  | 0, _, l => by simp [hexF]
  | f + 1, u, l => by
    unfold hexF
    split
    · simp
    · refine Nat.le_trans (hexF_length f _ _) ?_
      simp only [List.length_cons]; omega
theorem hexN_length (n : Nat) : (hexN n).length ≤ 16 := by
  have := hexF_length 16 n []
  unfold hexN
  simpa using this
end Go.Proofs.YtbnbplppgbmkpaaGreatDoor

namespace Go.Proofs.YtbnbplppgbmkpaaGreatDoor
open Go.RowKit Go.Extern.Stop Go.Stop Go.Extern Go.Proofs.YtbnbplppgbmkpaaGreatDoorW.PrintWords PSessionSeals

def Tab10 (w : World) : Prop := Lib.TabIs Tryz.prog w "internal/strconv.uint64pow10" .u64 Lib.pow10Tab
theorem Tab10.below {w w' : World} (h : Tab10 w) (hb : Below w.heap.size w w') : Tab10 w' := by
  have hg : ∃ g, Tryz.prog.globalNamed "internal/strconv.uint64pow10" = some g := ⟨5, by kernel_rfl⟩
  obtain ⟨g, hg⟩ := hg
  unfold Tab10 Lib.TabIs World.var? at h ⊢
  rw [hg] at h ⊢
  simp only [Option.bind_some] at h ⊢
  have hlt : g < w.heap.size := by
    rcases Nat.lt_or_ge g w.heap.size with h' | h'
    · exact h'
    · rw [Array.getElem?_eq_none h'] at h; cases h
  rw [hb.block g hlt]
  exact h
theorem below_grow (w : World) (k : Nat) (os : Array Obj) : Below w.heap.size w (Sort.grow (w.drewN k) os) := by
  refine ⟨rfl, rfl, rfl, by simp [Sort.grow], fun i hi => ?_⟩
  show (w.heap ++ os)[i]? = w.heap[i]?
  rw [Array.getElem?_append_left hi]
theorem itoa_any (n : Int) (h0 : -9223372036854775808 ≤ n) (h1 : n ≤ 9223372036854775807) (w : World) (ht : Tab10 w) :
    Calls Tryz.prog 65 #[.int .i64 n] w fun e w' => e = .returned (.string ⟨(Lib.itoa n).toArray⟩) ∧ Below w.heap.size w w' := by
  refine (Tryz.strconv_Itoa n h0 h1 w ht).mono ?_
  rintro e w' ⟨rfl, k, os, rfl⟩
  exact ⟨rfl, below_grow w k os⟩

/-- The program's tables. -/
structure Env (w : World) : Prop where
  tabs : Tabs w
  deb : Deb w
  err : w.cell? ⟨3, 0, none⟩ = some (.iface 209 (.agg #[.pointer (some ⟨9, 90, none⟩)]))
  pow : Tab10 w
theorem Env.below {w w1 : World} (h : Env w) (hb : Below w.heap.size w w1) : Env w1 := by
  have hlt : 3 < w.heap.size := by
    have hg := h.err
    rcases Nat.lt_or_ge 3 w.heap.size with h' | h'
    · exact h'
    · simp [World.cell?, Array.getElem?_eq_none h'] at hg
  exact ⟨h.tabs.below hb, h.deb.below hb, (Below.cell hb (by exact hlt)).trans h.err, h.pow.below hb⟩

/-- A dialect's code, version, and digits left out. -/
def diaV (n : Int) : Int × Int × Int := if 1 ≤ n ∧ n < 4 then diaL.getD n.toNat (0, 0, 0) else (0, 0, 0)
theorem dia_cases (n : Int) (h : 1 ≤ n ∧ n < 4) : ∃ k : Nat, n = k ∧ k < 4 ∧ 1 ≤ k ∧ diaV n = diaL.getD k (0, 0, 0) := ⟨n.toNat, by omega, by omega, by omega, by unfold diaV; rw [if_pos h]⟩

theorem which_any (n : Int) (w : World) (ht : Tabs w) :
    Calls Tryz.prog 45 #[.int .i64 n] w fun e w' => e = .returned (.tuple #[.agg #[.int .i64 (diaV n).1, .int .u8 (diaV n).2.1, .int .i64 (diaV n).2.2], .bool (decide (1 ≤ n ∧ n < 4))]) ∧ Below w.heap.size w w' := by
  by_cases h : 1 ≤ n ∧ n < 4
  · obtain ⟨k, rfl, hk, hk1, hd⟩ := dia_cases n h
    have hb : Below w.heap.size w (w.alloc (.cells #[.int .i64 0, .int .u8 0, .int .i64 0] 86)) := (Below.refl _ _).alloc (Nat.le_refl _) _
    obtain ⟨c0, c1, c2⟩ := ht.dia k hk
    have hs : 0 < w.heap.size := by
      rcases Nat.eq_zero_or_pos w.heap.size with h0 | h0
      · simp [World.cell?, h0] at c0
      · exact h0
    have d0 : (w.alloc (.cells #[.int .i64 0, .int .u8 0, .int .i64 0] 86)).cell? ⟨0, k * 3, none⟩ = some (.int .i64 (diaV k).1) := by rw [hd, Below.cell hb (by exact hs)]; exact c0
    have d1 : (w.alloc (.cells #[.int .i64 0, .int .u8 0, .int .i64 0] 86)).cell? ⟨0, k * 3 + 1, none⟩ = some (.int .u8 (diaV k).2.1) := by rw [hd, Below.cell hb (by exact hs)]; exact c1
    have d2 : (w.alloc (.cells #[.int .i64 0, .int .u8 0, .int .i64 0] 86)).cell? ⟨0, k * 3 + 2, none⟩ = some (.int .i64 (diaV k).2.2) := by rw [hd, Below.cell hb (by exact hs)]; exact c2
    rw [decide_eq_true h]
    clear c0 c1 c2 hd
    have t1 : ¬ ((k : Int) < 1) := by omega
    have t2 : ¬ (4 ≤ (k : Int)) := by omega
    have t3 : (k : Int) < 4 := by omega
    go_enter Tryz.func45, Tryz.ntmps45
    go_wp2
    have e0 := blk_cell (blk_new w (.cells #[.int .i64 (diaV k).1, .int .u8 (diaV k).2.1, .int .i64 (diaV k).2.2] 86)) 0
    have e1 := blk_cell (blk_new w (.cells #[.int .i64 (diaV k).1, .int .u8 (diaV k).2.1, .int .i64 (diaV k).2.2] 86)) 1
    have e2 := blk_cell (blk_new w (.cells #[.int .i64 (diaV k).1, .int .u8 (diaV k).2.1, .int .i64 (diaV k).2.2] 86)) 2
    simp only [List.getElem?_toArray, List.getElem?_cons_zero, List.getElem?_cons_succ] at e0 e1 e2
    exact bodyPost_ret (v := .tuple #[.agg #[.int .i64 (diaV k).1, .int .u8 (diaV k).2.1, .int .i64 (diaV k).2.2], .bool true]) (by simp [results, Tryz.results45, go_sem, e0, e1, e2]) rfl ⟨rfl, (Below.refl _ _).alloc (Nat.le_refl _) _⟩
  · have hd : diaV n = (0, 0, 0) := by unfold diaV; rw [if_neg h]
    rw [decide_eq_false h, hd]
    have hn : n < 1 ∨ 4 ≤ n := by omega
    have hcase : (n < 1) ∨ (¬ (n < 1) ∧ 4 ≤ n) := by omega
    clear hn h
    rcases hcase with hn | ⟨hn, hn'⟩ <;>
    (go_enter Tryz.func45, Tryz.ntmps45
     go_wp2
     have e0 := blk_cell (blk_new w (.cells #[.int .i64 0, .int .u8 0, .int .i64 0] 86)) 0
     have e1 := blk_cell (blk_new w (.cells #[.int .i64 0, .int .u8 0, .int .i64 0] 86)) 1
     have e2 := blk_cell (blk_new w (.cells #[.int .i64 0, .int .u8 0, .int .i64 0] 86)) 2
     simp only [List.getElem?_toArray, List.getElem?_cons_zero, List.getElem?_cons_succ] at e0 e1 e2
     exact bodyPost_ret (v := .tuple #[.agg #[.int .i64 0, .int .u8 0, .int .i64 0], .bool false]) (by simp [results, Tryz.results45, go_sem, e0, e1, e2]) rfl ⟨rfl, (Below.refl _ _).alloc (Nat.le_refl _) _⟩)

theorem brow_weaken {W : World} {B B' : Nat} {v : Value} {xs : List Int} (h : BRow W B v xs) (hB : B' ≤ B) : BRow W B' v xs := by
  obtain ⟨h1, h2⟩ := h
  refine ⟨h1, ?_⟩
  rcases h2 with ⟨h0, A, hv, ha⟩ | ⟨g, off, cap, cur, hv, hb, hr⟩
  · exact .inl ⟨h0, A, hv, fun a h => ⟨Nat.le_trans hB (ha a h).1, (ha a h).2⟩⟩
  · exact .inr ⟨g, off, cap, cur, hv, Nat.le_trans hB hb, hr⟩

theorem put_any (k n c : Int) (hk : FormOk k n c) (s : ByteArray) (hr : rightB k n s = true) (A : Option Addr) (cb : Nat) (bs : List Int) (w : World) (hb0 : Kd.C (Kd.int .u8) w A bs.length bs) (hl : bs.length ≤ 1048576) (hs : s.size ≤ 1048575) :
    Calls Tryz.prog 63 #[.slice A bs.length cb, .agg #[.int .i64 k, .int .i64 n, .int .i64 c], .string s] w fun e w' => ∃ A' c', e = .returned (.tuple #[.slice A' (bs ++ bytesOf (putF k c s)).length c', .int .i64 0]) ∧ BRow w' w.heap.size (.slice A' (bs ++ bytesOf (putF k c s)).length c') (bs ++ bytesOf (putF k c s)) ∧ Below w.heap.size w w' := by
  have hp : Calls Tryz.prog 63 #[.slice A bs.length cb, .agg #[.int .i64 k, .int .i64 n, .int .i64 c], .string s] w (PutPost w bs (putF k c s)) := by
    obtain ⟨h1, h2, h3, h4⟩ := hk
    have hc : c = 1 ∨ c = 2 ∨ c = 3 := by omega
    rcases hc with rfl | rfl | rfl
    · exact put_1 k n ⟨h1, h2, h3, h4⟩ s hr A cb bs w hb0 hl hs
    · exact put_2 k n ⟨h1, h2, h3, h4⟩ s hr A cb bs w hb0 hl hs
    · exact put_3 k n ⟨h1, h2, h3, h4⟩ s hr A cb bs w hb0 hl hs
  refine hp.mono ?_
  rintro e w' ⟨v, rfl, ho, hb⟩
  obtain ⟨A', c', rfl⟩ := own_slice ho
  exact ⟨A', c', rfl, q_of_own ho, hb⟩

theorem put_nil (k n c : Int) (hk : FormOk k n c) (s : ByteArray) (hr : rightB k n s = true) (w : World) (hs : s.size ≤ 1048575) :
    Calls Tryz.prog 63 #[.slice none 0 0, .agg #[.int .i64 k, .int .i64 n, .int .i64 c], .string s] w fun e w' => ∃ A' c', e = .returned (.tuple #[.slice A' (bytesOf (putF k c s)).length c', .int .i64 0]) ∧ BRow w' w.heap.size (.slice A' (bytesOf (putF k c s)).length c') (bytesOf (putF k c s)) ∧ Below w.heap.size w w' :=
  put_any k n c hk s hr none 0 [] w (brow_reads (brow_nil w 0)) (by simp) hs

set_option maxHeartbeats 1000000 in
/-- A number's digits, as a dialect writes them. -/
theorem digits_any (c v o : Int) (s : ByteArray) (hc : 1 ≤ c ∧ c ≤ 3) (h0 : 1 ≤ s.size) (h1 : s.size ≤ 64) (hall : allW tenS s = true) (w : World) :
    Calls Tryz.prog 64 #[.agg #[.int .i64 c, .int .u8 v, .int .i64 o], .slice none 0 0, .string s] w fun e w' => ∃ A' c', e = .returned (.slice A' (bytesOf (putF 1 c s)).length c') ∧ BRow w' w.heap.size (.slice A' (bytesOf (putF 1 c s)).length c') (bytesOf (putF 1 c s)) ∧ Below w.heap.size w w' := by
  have hp := fun W : World => put_nil 1 (s.size : Int) c ⟨by omega, by omega, by omega, by omega⟩ s (by unfold rightB ofB; simp [hall]) W (by omega)
  have HP := Aside0.mk hp
  clear hp
  go_enter Tryz.func64, Tryz.ntmps64
  go_wp2_with fail
  refine Calls.mono (HP.out _) ?_
  rintro e w1 ⟨A', c', rfl, hq, hb⟩
  have hb0 := ((Below.refl w.heap.size w).alloc (Nat.le_refl _) (.cells #[.int .i64 c, .int .u8 v, .int .i64 o] 86)).trans (hb.mono (by simp))
  have hq0 := brow_weaken hq (B' := w.heap.size) (by simp)
  go_wp2_with fail
  go_ret
  exact ⟨A', c', rfl, hq0, hb0⟩
theorem bits_any (c v o : Int) (w : World) :
    Calls Tryz.prog 67 #[.agg #[.int .i64 c, .int .u8 v, .int .i64 o]] w fun e w' => e = .returned (.agg #[.int .i64 4, .int .i64 8, .int .i64 c]) ∧ Below w.heap.size w w' := by
  go_enter Tryz.func67, Tryz.ntmps67
  go_wp2
  have e0 := blk_cell (blk_new (w.alloc (.cells #[.int .i64 c, .int .u8 v, .int .i64 o] 86)) (.cells #[.int .i64 4, .int .i64 8, .int .i64 c] 107)) 0
  have e1 := blk_cell (blk_new (w.alloc (.cells #[.int .i64 c, .int .u8 v, .int .i64 o] 86)) (.cells #[.int .i64 4, .int .i64 8, .int .i64 c] 107)) 1
  have e2 := blk_cell (blk_new (w.alloc (.cells #[.int .i64 c, .int .u8 v, .int .i64 o] 86)) (.cells #[.int .i64 4, .int .i64 8, .int .i64 c] 107)) 2
  simp only [List.getElem?_toArray, List.getElem?_cons_zero, List.getElem?_cons_succ, World.size_alloc] at e0 e1 e2
  exact bodyPost_ret (v := .agg #[.int .i64 4, .int .i64 8, .int .i64 c]) (by simp [results, Tryz.results67, go_sem, e0, e1, e2]) rfl ⟨rfl, ((Below.refl _ _).alloc (Nat.le_refl _) _).alloc (by simp) _⟩
end Go.Proofs.YtbnbplppgbmkpaaGreatDoor

namespace Go.Proofs.YtbnbplppgbmkpaaGreatDoor
open Go.RowKit Go.Extern.Stop Go.Stop Go.Extern Go.Proofs.YtbnbplppgbmkpaaGreatDoorW.PrintWords PSessionSeals

/-- A field's bytes in a dialect; none: it cannot be written. -/
def outF (c o : Int) (x : S38) : Option ByteArray :=
  match kindOf x.f0 with
  | none => none
  | some (k, _) => if x.f0 = 4 ∧ 0 < o then (if x.f1.extract 0 2 = ⟨#[48, 48]⟩ then some (putF k c (x.f1.extract 2 x.f1.size)) else none) else some (putF k c x.f1)
/-- The maps with a field's bit. -/
def bitF (m : Nat × Nat) (no : Int) : Nat × Nat :=
  if (no - 1).toNat < 64 then (m.1 ||| 2 ^ (63 - (no - 1).toNat), m.2) else (m.1, m.2 ||| 2 ^ (127 - (no - 1).toNat))
/-- The body and the maps, behind fields; none: a field cannot be written. -/
def encL (c o : Int) : List S38 → List Int → Nat × Nat → Option (List Int × Nat × Nat)
  | [], b, m => some (b, m)
  | x :: r, b, m => match outF c o x with | none => none | some t => encL c o r (b ++ bytesOf t) (bitF m x.f0)
/-- Sixteen digits. -/
def hex16 (n : Nat) : ByteArray := strOfNums (List.replicate (16 - (hexN n).length) 48 ++ hexN n)
def headS (v typ : Int) : ByteArray := strOfNums [v] ++ ⟨(Lib.itoa typ).toArray⟩
/-- The head, the maps and the body. -/
def allF (c v typ : Int) (b : List Int) (m : Nat × Nat) : List Int :=
  bytesOf (putF 1 c (headS v typ)) ++ (if m.2 = 0 then bytesOf (putF 4 c (hex16 m.1)) else bytesOf (putF 4 c (hex16 (m.1 ||| 2 ^ 63))) ++ bytesOf (putF 4 c (hex16 m.2))) ++ b
/-- What Encode writes, and the error's number. -/
def encF (d typ : Int) (l : List S38) : List Int × Int :=
  if checkN typ l = 0 then
    match encL (diaV d).1 (diaV d).2.2 l [] (0, 0) with
    | none => ([], 41)
    | some (b, m) => (allF (diaV d).1 (diaV d).2.1 typ b m, 0)
  else ([], checkN typ l)

/-- What a message that is right has. -/
theorem check_ok : ∀ (l : List S38) (last : Int), checkL last l = 0 → ∀ x ∈ l, ∃ k n, kindOf x.f0 = some (k, n) ∧ rightB k n x.f1 = true
  | [], _, _ => by simp
  | y :: r, last, h => by
    unfold checkL at h
    cases hk : kindOf y.f0 with
    | none => rw [hk] at h; simp at h
    | some kn =>
      obtain ⟨k, n⟩ := kn
      rw [hk] at h
      dsimp only at h
      by_cases hle : y.f0 ≤ last
      · rw [if_pos hle] at h; simp at h
      · rw [if_neg hle] at h
        by_cases hw : wrongOf k n y.f1 = 0
        · rw [if_pos hw] at h
          intro x hx
          rcases List.mem_cons.1 hx with rfl | hx
          · refine ⟨k, n, hk, ?_⟩
            unfold wrongOf at hw
            by_cases hr : rightB k n x.f1 = true
            · exact hr
            · rw [if_neg hr] at hw; simp at hw
          · exact check_ok r _ h x hx
        · rw [if_neg hw] at h; exact absurd h hw
theorem checkN_ok {typ : Int} {l : List S38} (h : checkN typ l = 0) : typesL.contains typ = true ∧ l.length ≤ 24 ∧ ∀ x ∈ l, ∃ k n, kindOf x.f0 = some (k, n) ∧ rightB k n x.f1 = true := by
  unfold checkN at h
  by_cases ht : typesL.contains typ = true
  · rw [if_pos ht] at h
    by_cases h24 : 24 < l.length
    · rw [if_pos h24] at h; simp at h
    · rw [if_neg h24] at h
      exact ⟨ht, by omega, check_ok l 0 h⟩
  · rw [if_neg ht] at h; simp at h
theorem right_size {k n : Int} {s : ByteArray} (hk : FormOk k n 1) (h : rightB k n s = true) : s.size ≤ 200 := by
  obtain ⟨⟨h1, h2⟩, ⟨h3, h4⟩, _⟩ := hk
  unfold rightB at h
  split at h
  · simp only [Bool.and_eq_true] at h
    have := ofB_size h.2
    have h5 : (s.extract 1 s.size).size = s.size - 1 := by simp [ByteArray.size_extract]
    omega
  · split at h
    · have := ofB_size h; omega
    · split at h
      · simp only [Bool.and_eq_true, decide_eq_true_eq] at h; omega
      · split at h
        · have := ofB_size h; omega
        · have := ofB_size h; omega
theorem putF_size (k c : Int) (s : ByteArray) : (putF k c s).size ≤ s.size + 5 := by
  unfold putF
  split
  · exact Nat.le_trans (digF_size c s) (by omega)
  · split
    · have := digF_size c s
      have h2 := digF_size c (twoS s.size)
      have h3 : (twoS s.size).size = 2 := rfl
      rw [ByteArray.size_append]; omega
    · split
      · rw [letF_size]; omega
      · split
        · exact Nat.le_trans (rawF_size c s) (by omega)
        · have h1 := letF_size c (s.extract 0 1)
          have h2 := digF_size c (s.extract 1 s.size)
          rw [ByteArray.size_append]
          simp only [ByteArray.size_extract] at h1 h2
          omega
theorem allW_extract {which s : ByteArray} (i j : Nat) (h : allW which s = true) : allW which (s.extract i j) = true := by
  unfold allW at h ⊢
  rw [List.all_eq_true] at h ⊢
  intro x hx
  refine h x ?_
  rw [ByteArray.data_extract, Array.toList_extract] at hx
  exact List.mem_of_mem_drop (List.mem_of_mem_take hx)
theorem bit_lt {a b : Nat} (ha : a < 18446744073709551616) (hb : b < 64) : a ||| 2 ^ b < 18446744073709551616 := by
  have h : 2 ^ b < 2 ^ 64 := Nat.pow_lt_pow_right (by omega) hb
  exact Nat.or_lt_two_pow (n := 64) ha h
theorem hex16_size (n : Nat) : (hex16 n).size = 16 := by
  have := hexN_length n
  unfold hex16
  rw [strOfNums_size]
  simp only [List.length_append, List.length_replicate]
  omega
theorem hexF_low : ∀ (f u : Nat) (l : List Int), (∀ x ∈ l, inW lowS (UInt8.ofNat x.toNat) = true) → ∀ x ∈ hexF f u l, inW lowS (UInt8.ofNat x.toNat) = true
  | 0, _, l, h => by simpa [hexF] using h
  | f + 1, u, l, h => by
    have hd : ∀ d : Nat, d < 16 → inW lowS (UInt8.ofNat (hexDig d).toNat) = true := by decide +kernel
    unfold hexF
    split
    · rename_i hu
      intro x hx
      rcases List.mem_cons.1 hx with rfl | hx
      · exact hd u hu
      · exact h x hx
    · refine hexF_low f _ _ ?_
      intro x hx
      rcases List.mem_cons.1 hx with rfl | hx
      · exact hd _ (Nat.mod_lt _ (by omega))
      · exact h x hx
theorem hex16_all (n : Nat) : allW lowS (hex16 n) = true := by
  unfold allW hex16
  rw [strOfNums_data, List.all_eq_true]
  intro x hx
  obtain ⟨y, hy, rfl⟩ := List.mem_map.1 hx
  rcases List.mem_append.1 hy with hy | hy
  · rw [List.eq_of_mem_replicate hy]
    decide +kernel
  · exact hexF_low 16 n [] (by simp) y hy
theorem head_ok (v typ : Int) (hv : v = 48 ∨ v = 49 ∨ v = 57) (ht : typesL.contains typ = true) : allW tenS (headS v typ) = true ∧ (headS v typ).size = 4 := by
  have h : ∀ t ∈ typesL, ∀ u ∈ [(48 : Int), 49, 57], allW tenS (headS u t) = true ∧ (headS u t).size = 4 := by decide +kernel
  exact h typ (List.contains_iff_mem.1 ht) v (by simpa using hv)
theorem dia_ok {d : Int} (h : 1 ≤ d ∧ d < 4) : (1 ≤ (diaV d).1 ∧ (diaV d).1 ≤ 3) ∧ ((diaV d).2.1 = 48 ∨ (diaV d).2.1 = 49 ∨ (diaV d).2.1 = 57) ∧ ((diaV d).2.2 = 0 ∨ (diaV d).2.2 = 2) := by
  have hc : d = 1 ∨ d = 2 ∨ d = 3 := by omega
  rcases hc with rfl | rfl | rfl <;> decide
theorem kind_ok' {no k n c : Int} (h : kindOf no = some (k, n)) (hc : 1 ≤ c ∧ c ≤ 3) : FormOk k n c := by
  obtain ⟨h1, h2, _⟩ := kind_ok h
  exact ⟨h1, h2, hc⟩
theorem kind_no {no k n : Int} (h : kindOf no = some (k, n)) : 2 ≤ no ∧ no ≤ 97 := by
  unfold kindOf at h
  cases hf : fieldsL.findIdx? (fun x => x.1 == no) with
  | none => rw [hf] at h; cases h
  | some j =>
    obtain ⟨hj, hj2, _⟩ := List.findIdx?_eq_some_iff_getElem.1 hf
    have : ∀ j, (h : j < 17) → 2 ≤ (fieldsL[j]'h).1 ∧ (fieldsL[j]'h).1 ≤ 97 := by decide
    have h2 := this j hj
    have h3 : (fieldsL[j]).1 = no := by simpa using hj2
    rw [h3] at h2
    exact h2
theorem kind_4 : kindOf 4 = some (1, 12) := by decide
end Go.Proofs.YtbnbplppgbmkpaaGreatDoor
