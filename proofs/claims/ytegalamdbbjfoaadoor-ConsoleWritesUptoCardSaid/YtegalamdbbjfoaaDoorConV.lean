/- The contract of the console's 'Print'. -/
import Derived.Test.YtegalamdbbjfoaaDoorConI
import Derived.Test.YtegalamdbbjfoaaDoorConU
import Derived.Deep.DeepCutAuto
import Derived.Deep.CutBlock
namespace Go.Proofs.YtegalamdbbjfoaaDoor
open Go.RowKit Go.Proofs.YtegalamdbbjfoaaDoorW.PrintWords

/-- Numbers that are int's. -/
def Ints (l : List Int) : Prop := ∀ n ∈ l, -9223372036854775808 ≤ n ∧ n ≤ 9223372036854775807

theorem parse_any (line : ByteArray) (w : World) (m : Int) (hg : w.cell? ⟨0, 0, none⟩ = some (.int .i64 m)) : Calls Tryd.prog 8 #[.string line] w (CmdPost (parseOf line) w) := by
  unfold parseOf
  by_cases h : 100 < line.size
  · rw [if_pos h]
    exact parse_long line w (by omega)
  · rw [if_neg h]
    exact parse_short line w m hg (by omega)

def sameB (x y : Cmd) : Bool := x.1.toList == y.1.toList && x.2.1 == y.2.1 && x.2.2.1.toList == y.2.2.1.toList && x.2.2.2.2.toList == y.2.2.2.2.toList && sayL x.2.2.2.1 == sayL y.2.2.2.1

theorem same_any (wd wd' pf pf' key key' : ByteArray) (m m' : Int) (A A' : Option Addr) (c c' : Nat) (l l' : List Int) (w : World)
    (hr : Kd.C (Kd.int .i64) w A l.length l) (hr' : Kd.C (Kd.int .i64) w A' l'.length l') (hl : (l.length : Int) ≤ 9223372036854775807) (hl' : (l'.length : Int) ≤ 9223372036854775807)
    (hi : Ints l) (hi' : Ints l') (hs : (sayL l).length ≤ 140737488355328) (hs' : (sayL l').length ≤ 140737488355328) (ht : Tab10 w) :
    Calls Tryd.prog 19 #[.agg #[.string wd, .int .i64 m, .string pf, .slice A l.length c, .string key], .agg #[.string wd', .int .i64 m', .string pf', .slice A' l'.length c', .string key']] w fun e w' =>
      e = .returned (.bool (sameB (wd, m, pf, l, key) (wd', m', pf', l', key'))) ∧ Below w.heap.size w w' := by
  unfold sameB
  dsimp only
  by_cases h0 : (wd.toList == wd'.toList) = true
  · by_cases h1 : (m == m') = true
    · by_cases h2 : (pf.toList == pf'.toList) = true
      · by_cases h3 : (key.toList == key'.toList) = true
        · simp only [h0, h1, h2, h3, Bool.true_and]
          exact same_lists wd wd' pf pf' key key' m m' A A' c c' l l' w h0 h1 h2 h3 hr hr' hl hl' hi hi' hs hs' ht
        · have h3' := Bool.eq_false_iff.2 h3
          simp only [h0, h1, h2, h3', Bool.true_and, Bool.false_and]
          exact same_key wd wd' pf pf' key key' m m' A A' c c' l l' w h0 h1 h2 h3'
      · have h2' := Bool.eq_false_iff.2 h2
        simp only [h0, h1, h2', Bool.true_and, Bool.false_and]
        exact same_prefix wd wd' pf pf' key key' m m' A A' c c' l l' w h0 h1 h2'
    · have h1' := Bool.eq_false_iff.2 h1
      simp only [h0, h1', Bool.true_and, Bool.false_and]
      exact same_member wd wd' pf pf' key key' m m' A A' c c' l l' w h0 h1'
  · have h0' := Bool.eq_false_iff.2 h0
    simp only [h0', Bool.false_and]
    exact same_word wd wd' pf pf' key key' m m' A A' c c' l l' w h0'

/-- The line of a command, if it has one. -/
def lineOf (x : Cmd) : ByteArray :=
  if (x.1.toList == [98, 108, 111, 99, 107] || x.1.toList == [117, 110, 98, 108, 111, 99, 107] || x.1.toList == [115, 97, 102] || x.1.toList == [98, 97, 108, 97, 110, 99, 101]) = true then ⟨(x.1.data.toList ++ sayL [x.2.1]).toArray⟩
  else if (x.1.toList == [114, 111, 117, 116, 101]) = true then ⟨(x.1.data.toList ++ 32 :: (x.2.2.1.data.toList ++ sayL x.2.2.2.1)).toArray⟩
  else if (x.1.toList == [117, 110, 114, 111, 117, 116, 101]) = true then x.1 ++ (⟨#[32]⟩ ++ x.2.2.1)
  else if (x.1.toList == [115, 116, 97, 116, 101]) = true then x.1 ++ (⟨#[32]⟩ ++ x.2.2.2.2)
  else x.1

def printOf (x : Cmd) : ByteArray × Int :=
  match parseOf (lineOf x) with
  | (some y, _) => if sameB y x then (lineOf x, 0) else (⟨#[]⟩, 210)
  | (none, _) => (⟨#[]⟩, 210)

theorem nDigits_le (k : Nat) : ∀ u, u < 10 ^ (k + 1) → Lib.nDigits u ≤ k + 1 := by
  induction k with
  | zero =>
    intro u h
    rw [Lib.nDigits_small (by omega)]
    exact Nat.le_refl _
  | succ k ih =>
    intro u h
    rw [Lib.nDigits]
    split
    · omega
    · have := ih (u / 10) (by rw [Nat.pow_succ] at h; omega)
      omega

theorem decDigits_le (n : Nat) (h : n < 10 ^ 19) : (Lib.decDigits n).length ≤ 19 := by
  rw [Lib.decDigits_length]
  exact nDigits_le 18 n h

theorem itoa_le (n : Int) (h0 : -9223372036854775808 ≤ n) (h1 : n ≤ 9223372036854775807) : (Lib.itoa n).length ≤ 20 := by
  unfold Lib.itoa
  split
  · have := decDigits_le n.natAbs (by omega)
    simp only [List.length_cons]
    omega
  · have := decDigits_le n.toNat (by omega)
    omega

theorem sayL_le : ∀ (l : List Int), Ints l → (sayL l).length ≤ 21 * l.length
  | [], _ => by simp [sayL]
  | n :: l, h => by
    have h1 := sayL_le l (fun x hx => h x (List.mem_cons_of_mem _ hx))
    have h2 := itoa_le n (h n (by simp)).1 (h n (by simp)).2
    simp only [sayL, List.flatMap_cons, List.length_append, List.length_cons] at h1 ⊢
    omega

theorem say_one (wd : ByteArray) (m : Int) (W : World) (b : Nat) (hb : b = W.heap.size) (him : Ints [m]) (hwd : wd.size ≤ 1048576) (ht : Tab10 W) :
    Calls Tryd.prog 13 #[.string wd, .slice (some ⟨b, 0, none⟩) 1 1] (W.alloc (.cells #[.int .i64 m] 3)) fun e w' => e = .returned (.string ⟨(wd.data.toList ++ sayL [m]).toArray⟩) ∧ Below W.heap.size W w' := by
  subst hb
  have hb := below_alloc (Below.refl W.heap.size W) (.cells #[.int .i64 m] 3)
  refine (say_any wd (some ⟨W.heap.size, 0, none⟩) 1 [m] _ ?_ (by simp) him ?_ (ht.below hb)).mono ?_
  · refine Kd.C_of_reads (d := 0) ⟨rfl, by simp, fun _ => ⟨_, rfl, fun j hj => ?_⟩⟩
    obtain rfl : j = 0 := by simp at hj; omega
    simp [Addr.add]
  · have := sayL_le [m] him
    simp only [List.length_cons, List.length_nil] at this
    omega
  · rintro e w' ⟨rfl, h⟩
    exact ⟨rfl, hb.trans (h.mono (by simp))⟩

theorem pw_cell_below_at {w w1 : World} (h : Below w.heap.size w w1) {a : Addr} {v : Value} (hc : w.cell? a = some v) : w1.cell? a = some v := (h.cell (World.block_lt_of_cell? w a hc)).trans hc

theorem say_list (s : ByteArray) (A : Option Addr) (c : Nat) (l : List Int) (w W : World) (hr : Kd.C (Kd.int .i64) w A l.length l) (hl : l.length ≤ 1048576) (hi : Ints l) (hs : s.size ≤ 4194304) (ht : Tab10 w) (hb : Below w.heap.size w W) :
    Calls Tryd.prog 13 #[.string s, .slice A l.length c] W fun e w' => e = .returned (.string ⟨(s.data.toList ++ sayL l).toArray⟩) ∧ Below W.heap.size W w' := by
  have := sayL_le l hi
  exact say_any s A c l W (Kd.C_below hr hb) (by omega) hi (by omega) (ht.below hb)

theorem dgv_le {n : Int} {s : ByteArray} {d : Int} (h : dgv n s = some d) : 0 ≤ d ∧ d < n := by
  unfold dgv at h
  split at h
  · split at h
    · next h1 h2 => injection h with h; subst h; omega
    · cases h
  · cases h

theorem cmdOf_ints {ws : List ByteArray} {a : ByteArray} {b : Int} {c : ByteArray} {ts : List Int} {d : ByteArray} (h : cmdOf ws = some (a, b, c, ts, d)) : Ints ts ∧ ts.length ≤ 1048576 := by
  have hn : ∀ {o : Option Int} {x y z : ByteArray}, o.map (fun d => ((x, d, y, [], z) : Cmd)) = some (a, b, c, ts, d) → ts = [] := by
    intro o x y z h
    cases o with
    | none => cases h
    | some q => injection h with h; injection h with _ h; injection h with _ h; injection h with _ h; injection h with h _; exact h.symm
  have hk : ∀ {x y z : ByteArray} {i : Int}, (some (x, i, y, [], z) : Option Cmd) = some (a, b, c, ts, d) → ts = [] := by
    intro x y z i h
    injection h with h; injection h with _ h; injection h with _ h; injection h with _ h; injection h with h _; exact h.symm
  have nil : ts = [] → Ints ts ∧ ts.length ≤ 1048576 := by
    rintro rfl
    exact ⟨(fun n hn => by cases hn), by simp⟩
  unfold cmdOf at h
  split at h
  · cases h
  · split at h
    · split at h
      · exact nil (hn h)
      · cases h
    · split at h
      · split at h
        · exact nil (hn h)
        · cases h
      · split at h
        · split at h
          · split at h
            · exact nil (hk h)
            · cases h
          · cases h
        · split at h
          · split at h
            · split at h
              · exact nil (hk h)
              · cases h
            · cases h
          · split at h
            · split at h
              · exact nil (hk h)
              · cases h
            · split at h
              · split at h
                · split at h
                  · next hq =>
                    injection h with h; injection h with _ h; injection h with _ h; injection h with _ h; injection h with h _
                    subst h
                    refine ⟨?_, ?_⟩
                    · intro n hn
                      obtain ⟨s, _, hs⟩ := List.mem_filterMap.1 hn
                      have := dgv_le hs
                      omega
                    · have h1 : ∀ q : List ByteArray, (q.filterMap (dgv 6)).length ≤ q.length := fun q => List.length_filterMap_le _ _
                      have := h1 ‹List ByteArray›
                      omega
                  · cases h
                · cases h
              · cases h

set_option maxRecDepth 100000 in
set_option maxHeartbeats 4000000 in
theorem print_any (wd pf key : ByteArray) (m : Int) (A : Option Addr) (c : Nat) (l : List Int) (w : World) (g : Int) (hg : w.cell? ⟨0, 0, none⟩ = some (.int .i64 g))
    (hr : Kd.C (Kd.int .i64) w A l.length l) (hl : l.length ≤ 1048576) (hi : Ints l) (him : Ints [m]) (ht : Tab10 w)
    (hwd : wd.size ≤ 1048576) (hpf : pf.size ≤ 1048576) (hkey : key.size ≤ 1048576) :
    Calls Tryd.prog 11 #[.agg #[.string wd, .int .i64 m, .string pf, .slice A l.length c, .string key]] w fun e w' =>
      e = .returned (.tuple #[.string (printOf (wd, m, pf, l, key)).1, .int .i64 (printOf (wd, m, pf, l, key)).2]) ∧ Below w.heap.size w w' := by
  have HG := Aside0.mk hg
  have HR := Aside0.mk hr
  have HI := Aside0.mk hi
  have HIM := Aside0.mk him
  have HT := Aside0.mk ht
  clear hg hr hi him ht
  go_enter Tryd.func11, Tryd.ntmps11
  go_upto_block 0 with fail
  go_cut [4] (fun v4 wx => ∃ s : ByteArray, v4 = .string s ∧ Aside0 (s = lineOf (wd, m, pf, l, key)) ∧ Aside0 (Below w.heap.size w wx ∧ w.heap.size < wx.heap.size) ∧ Aside0 (wx.heap[w.heap.size]? = some (.cells #[.string wd, .int .i64 m, .string pf, .slice A l.length c, .string key] 25 (0, 0))))
  case first =>
    go_wp2_with (first
      | (go_at_call 13; ((with_reducible refine (say_one _ m _ _ (by simp) HIM.out hwd (HT.out.below (by go_grown))).mono ?_); rintro e w1 ⟨rfl, hb1⟩))
      | (go_at_call 13; ((with_reducible refine (say_list _ A c l w _ HR.out hl HI.out (by simp only [ByteArray.size_append]; simp only [ByteArray.size, List.size_toArray, List.length_cons, List.length_nil] at *; omega) HT.out (by go_grown)).mono ?_); rintro e w1 ⟨rfl, hb2⟩)))
    all_goals go_meet
    all_goals first
      | (exfalso; simp_all; done)
      | (refine ⟨_, rfl, ⟨by simp [lineOf, *]⟩, ⟨?_⟩, ⟨?_⟩⟩
         · first
           | exact ⟨((Below.refl _ w).alloc (Nat.le_refl _) _).trans (hb1.mono (by simp)), by have := hb1.size; simp at this; omega⟩
           | exact ⟨((Below.refl _ w).alloc (Nat.le_refl _) _).trans (hb2.mono (by simp)), by have := hb2.size; simp at this; omega⟩
           | exact ⟨(Below.refl _ w).alloc (Nat.le_refl _) _, by simp⟩
         · first
           | exact blk_below (blk_new _ _) hb1
           | exact blk_below (blk_new _ _) hb2
           | exact blk_new _ _)
  case rest =>
    obtain ⟨s, rfl, HS, HB, HC⟩ := hcut
    have e0 : wc.cell? ⟨w.heap.size, 0, none⟩ = some (.string wd) := blk_cell HC.out 0
    have e1 : wc.cell? ⟨w.heap.size, 1, none⟩ = some (.int .i64 m) := blk_cell HC.out 1
    have e2 : wc.cell? ⟨w.heap.size, 2, none⟩ = some (.string pf) := blk_cell HC.out 2
    have e3 : wc.cell? ⟨w.heap.size, 3, none⟩ = some (.slice A l.length c) := blk_cell HC.out 3
    have e4 : wc.cell? ⟨w.heap.size, 4, none⟩ = some (.string key) := blk_cell HC.out 4
    have hgc : Aside0 (wc.cell? ⟨0, 0, none⟩ = some (.int .i64 g)) := ⟨pw_cell_below_at HB.out.1 HG.out⟩
    go_wp2_with fail
    refine (parse_any s wc g hgc.out).mono ?_
    intro e w1 hp
    have hn : (parseOf s).1 = none → (parseOf s).2 = 5 ∨ (parseOf s).2 = 210 := by
      unfold parseOf
      split
      · exact fun _ => Or.inl rfl
      · exact fun _ => Or.inr rfl
    have hts : ∀ a b c ts d, (parseOf s).1 = some (a, b, c, ts, d) → Ints ts ∧ ts.length ≤ 1048576 := by
      unfold parseOf
      split
      · intro a b c ts d h; cases h
      · intro a b c ts d h; exact cmdOf_ints h
    obtain ⟨⟨o, n⟩, ho⟩ : ∃ q, parseOf s = q := ⟨_, rfl⟩
    rw [ho] at hp hn hts
    have HO := Aside0.mk ho
    clear ho
    match o, hp, hn, hts, HO with
    | none, hp, hn, hts, HO =>
      obtain ⟨rfl, hb⟩ := hp
      have hn := hn rfl
      dsimp only at hn
      have hb0 : w.heap.size < w1.heap.size := Nat.lt_of_lt_of_le HB.out.2 hb.size
      have HB1 : Aside0 (Below w.heap.size w w1) := ⟨HB.out.1.trans (hb.mono (Nat.le_of_lt HB.out.2))⟩
      have hpo : ∀ k : Int, (parseOf s) = (none, k) → printOf (wd, m, pf, l, key) = (⟨#[]⟩, 210) := by
        intro k hk
        unfold printOf
        rw [← HS.out, hk]
      have HPO := Aside0.mk (hpo n HO.out)
      clear hb hts hpo HO HS
      rcases hn with rfl | rfl
      all_goals
        go_wp2
        go_ret2
        refine ⟨by rw [HPO.out]; rfl, ?_⟩
        exact HB1.out.alloc (by omega) _
    | some (wd', m', pf', l', key'), hp, hn, hts, HO =>
      obtain ⟨⟨v, rfl, hR⟩, hb⟩ := hp
      obtain ⟨A', c', rfl, hle, hC⟩ := Kd.R_reads hR
      have hti := hts _ _ _ _ _ rfl
      have hb0 : w.heap.size < w1.heap.size := Nat.lt_of_lt_of_le HB.out.2 hb.size
      have HB1 : Aside0 (Below w.heap.size w w1) := ⟨HB.out.1.trans (hb.mono (Nat.le_of_lt HB.out.2))⟩
      have f0 : w1.cell? ⟨w.heap.size, 0, none⟩ = some (.string wd) := pw_cell_below_at hb e0
      have f1 : w1.cell? ⟨w.heap.size, 1, none⟩ = some (.int .i64 m) := pw_cell_below_at hb e1
      have f2 : w1.cell? ⟨w.heap.size, 2, none⟩ = some (.string pf) := pw_cell_below_at hb e2
      have f3 : w1.cell? ⟨w.heap.size, 3, none⟩ = some (.slice A l.length c) := pw_cell_below_at hb e3
      have f4 : w1.cell? ⟨w.heap.size, 4, none⟩ = some (.string key) := pw_cell_below_at hb e4
      have HCC := Aside0.mk hC
      have HTI := Aside0.mk hti
      clear hb hts hR hC hti e0 e1 e2 e3 e4 hn
      have hpo : printOf (wd, m, pf, l, key) = if sameB (wd', m', pf', l', key') (wd, m, pf, l, key) = true then (s, 0) else (⟨#[]⟩, 210) := by
        unfold printOf
        rw [← HS.out, HO.out]
      have HPO := Aside0.mk hpo
      clear hpo HO
      cases hsb : sameB (wd', m', pf', l', key') (wd, m, pf, l, key) with
      | true =>
        have HSB := Aside0.mk hsb
        clear hsb
        go_wp2_with fail
        refine (same_any wd' wd pf' pf key' key m' m A' A c' c l' l _ (Kd.C_below HCC.out (below_alloc (Below.refl _ _) _)) (Kd.C_below HR.out (HB1.out.alloc (Nat.le_of_lt hb0) _))
          (by have := HTI.out.2; omega) (by omega) HTI.out.1 HI.out (by have := sayL_le _ HTI.out.1; have := HTI.out.2; omega) (by have := sayL_le _ HI.out; omega) (HT.out.below (HB1.out.alloc (Nat.le_of_lt hb0) _))).mono ?_
        rintro e w2 ⟨rfl, hb2⟩
        rw [HSB.out]
        have HB2 : Aside0 (Below w.heap.size w w2) := ⟨(HB1.out.alloc (Nat.le_of_lt hb0) _).trans (hb2.mono (by simp; omega))⟩
        clear hb2
        go_wp2
        go_ret2
        refine ⟨?_, HB2.out⟩
        rw [HPO.out, HSB.out]
        rfl
      | false =>
        have HSB := Aside0.mk hsb
        clear hsb
        go_wp2_with fail
        refine (same_any wd' wd pf' pf key' key m' m A' A c' c l' l _ (Kd.C_below HCC.out (below_alloc (Below.refl _ _) _)) (Kd.C_below HR.out (HB1.out.alloc (Nat.le_of_lt hb0) _))
          (by have := HTI.out.2; omega) (by omega) HTI.out.1 HI.out (by have := sayL_le _ HTI.out.1; have := HTI.out.2; omega) (by have := sayL_le _ HI.out; omega) (HT.out.below (HB1.out.alloc (Nat.le_of_lt hb0) _))).mono ?_
        rintro e w2 ⟨rfl, hb2⟩
        rw [HSB.out]
        have HB2 : Aside0 (Below w.heap.size w w2) := ⟨(HB1.out.alloc (Nat.le_of_lt hb0) _).trans (hb2.mono (by simp; omega))⟩
        clear hb2
        go_wp2
        go_ret2
        refine ⟨?_, HB2.out⟩
        rw [HPO.out, HSB.out]
        rfl
end Go.Proofs.YtegalamdbbjfoaaDoor
