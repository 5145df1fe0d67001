/- For any command: the law ConsoleWrites returns true: the command is written as a line, or refused, as the document says, and what was written is read as it was; what was handed in stays. Conditions: those of the given second card (what came in is of bulk at most 1048576; what its row lists of the package-level tables, tied to the text by the program); no other. -/
import Derived.Test.YtegalamdbbjfoaaDoorConM
import Derived.Test.YtegalamdbbjfoaaDoorConX
import Derived.Test.YtegalamdbbjfoaaDoorConO
import Derived.Test.YtegalamdbbjfoaaDoorConK
namespace Go.Proofs.YtegalamdbbjfoaaDoor
open Go.RowKit Go.Proofs.YtegalamdbbjfoaaDoorW.PrintWords PConsoleReads

theorem ref_say_one (wd : ByteArray) (m : Int) (W : World) (b : Nat) (hb : b = W.heap.size) (him : Ints [m]) (hwd : wd.size ≤ 1048576) :
    Calls Tryd.prog 14 #[.string wd, .slice (some ⟨b, 0, none⟩) 1 1] (W.alloc (.cells #[.int .i64 m] 3)) fun e w' => e = .returned (.string ⟨(wd.data.toList ++ sayL [m]).toArray⟩) ∧ Below W.heap.size W w' := by
  subst hb
  have hb := below_alloc (Below.refl W.heap.size W) (.cells #[.int .i64 m] 3)
  refine (ref_say wd (some ⟨W.heap.size, 0, none⟩) 1 [m] _ ?_ (by simp) him ?_).mono ?_
  · refine Kd.C_of_reads (d := 0) ⟨rfl, by simp, fun _ => ⟨_, rfl, fun j hj => ?_⟩⟩
    obtain rfl : j = 0 := by simp at hj; omega
    simp [Addr.add]
  · have := sayL_le [m] him
    simp only [List.length_cons, List.length_nil] at this
    omega
  · rintro e w' ⟨rfl, h⟩
    exact ⟨rfl, hb.trans (h.mono (by simp))⟩
theorem ref_say_list (s : ByteArray) (A : Option Addr) (c : Nat) (l : List Int) (w W : World) (hr : Kd.C (Kd.int .i64) w A l.length l) (hl : l.length ≤ 1048576) (hi : Ints l) (hs : s.size ≤ 4194304) (hb : Below w.heap.size w W) :
    Calls Tryd.prog 14 #[.string s, .slice A l.length c] W fun e w' => e = .returned (.string ⟨(s.data.toList ++ sayL l).toArray⟩) ∧ Below W.heap.size W w' := by
  have := sayL_le l hi
  exact ref_say s A c l W (Kd.C_below hr hb) (by omega) hi (by omega)

theorem print_yes (x : Cmd) (h : (parseT (lineOf x)).2 = 0) (hx : (parseT (lineOf x)).1 = x) : printOf x = (lineOf x, 0) := by
  have h1 := (parseT_facts (lineOf x)).2.2.2 h
  unfold printOf
  rw [h1, hx]
  simp only [sameB_self, if_true]
theorem print_no (x : Cmd) (h : ¬((parseT (lineOf x)).2 = 0 ∧ (parseT (lineOf x)).1 = x)) : printOf x = (⟨#[]⟩, 210) := by
  rcases printOf_cases x with ⟨_, h2⟩ | h1
  · refine absurd ?_ h
    unfold parseT
    rw [h2]
    exact ⟨rfl, rfl⟩
  · exact h1

set_option maxRecDepth 100000 in
set_option maxHeartbeats 1000000 in
theorem ref_print (wd pf key : ByteArray) (m : Int) (A : Option Addr) (c : Nat) (l : List Int) (w : World) (hs : Small (wd, m, pf, l, key)) (hr : Kd.C (Kd.int .i64) w A l.length l) (hc : l.length ≤ c) :
    Calls Tryd.prog 12 #[.agg #[.string wd, .int .i64 m, .string pf, .slice A l.length c, .string key]] w fun e w' =>
      e = .returned (.tuple #[.string (printOf (wd, m, pf, l, key)).1, .int .i64 (printOf (wd, m, pf, l, key)).2]) ∧ Below w.heap.size w w' := by
  have HR := Aside0.mk hr
  have HI : Aside0 (Ints l) := ⟨hs.ts⟩
  have HIM : Aside0 (Ints [m]) := ⟨hs.m⟩
  have hwd : wd.size ≤ 1048576 := hs.wd
  have hpf : pf.size ≤ 1048576 := hs.pf
  have hkey : key.size ≤ 1048576 := hs.key
  have hl : l.length ≤ 1048576 := hs.tl
  have c0 : decide (wd.size + 1 ≤ 9223372036854775807) = true := decide_eq_true (by omega)
  have hz1 : (wd ++ (⟨#[32]⟩ : ByteArray)).size = wd.size + 1 := by rw [ByteArray.size_append]; rfl
  have c1 : decide ((wd ++ (⟨#[32]⟩ : ByteArray)).size + pf.size ≤ 9223372036854775807) = true := decide_eq_true (by omega)
  have c2 : decide ((wd ++ (⟨#[32]⟩ : ByteArray)).size + key.size ≤ 9223372036854775807) = true := decide_eq_true (by omega)
  clear hr
  go_enter Tryd.func12, Tryd.ntmps12
  go_upto_block 0 with fail
  go_cut [4] (fun v4 wx => ∃ s : ByteArray, v4 = .string s ∧ Aside0 (s = lineOf (wd, m, pf, l, key)) ∧ Aside0 (Below w.heap.size w wx ∧ w.heap.size < wx.heap.size) ∧ Aside0 (wx.heap[w.heap.size]? = some (.cells #[.string wd, .int .i64 m, .string pf, .slice A l.length c, .string key] 25 (0, 0))))
  case first =>
    go_wp2_with (first
      | (go_at_call 14; ((with_reducible refine (ref_say_one _ m _ _ (by simp) HIM.out hwd).mono ?_); rintro e w1 ⟨rfl, hb1⟩))
      | (go_at_call 14; ((with_reducible refine (ref_say_list _ A c l w _ HR.out hl HI.out (by simp only [ByteArray.size_append]; simp only [ByteArray.size, List.size_toArray, List.length_cons, List.length_nil] at *; omega) (by go_grown)).mono ?_); rintro e w1 ⟨rfl, hb2⟩)))
    all_goals go_meet
    all_goals first
      | (exfalso; simp_all; done)
      | (refine ⟨_, rfl, ⟨by simp [lineOf, ByteArray.append_assoc, *]⟩, ⟨?_⟩, ⟨?_⟩⟩
         · first
           | exact ⟨((Below.refl _ w).alloc (Nat.le_refl _) _).trans (hb1.mono (by simp)), by have := hb1.size; simp at this; omega⟩
           | exact ⟨((Below.refl _ w).alloc (Nat.le_refl _) _).trans (hb2.mono (by simp)), by have := hb2.size; simp at this; omega⟩
           | exact ⟨(Below.refl _ w).alloc (Nat.le_refl _) _, by simp⟩
         · first
           | exact blk_below (blk_new _ _) hb1
           | exact blk_below (blk_new _ _) hb2
           | exact blk_new _ _)
  case rest =>
    obtain ⟨s, rfl, HS, HB, HX⟩ := hcut
    have e0 := blk_cell HX.out 0
    have f0 := blk_frozen HX.out 0
    go_wp2_with fail
    refine (ref_parse_all s wc).mono ?_
    intro e w1 hp
    have hyes := print_yes (wd, m, pf, l, key)
    have hno := print_no (wd, m, pf, l, key)
    obtain ⟨hsm, hn, _, _⟩ := parseT_facts s
    rw [← HS.out] at hyes hno
    generalize (parseT s).1 = y at hp hyes hno hsm
    generalize (parseT s).2 = n at hp hyes hno hn
    obtain ⟨wd', m', pf', l', key'⟩ := y
    obtain ⟨A', c', rfl, hle, hC, hb1⟩ := hp
    have HB1 : Aside0 (Below w.heap.size w w1) := ⟨HB.out.1.trans (hb1.mono (Nat.le_of_lt HB.out.2))⟩
    have hz1 : w.heap.size < w1.heap.size := Nat.lt_of_lt_of_le HB.out.2 hb1.size
    have HX1 := Aside0.mk (blk_below HX.out hb1)
    have HC := Aside0.mk hC
    have HY := Aside0.mk hyes
    have HN := Aside0.mk hno
    have HM := Aside0.mk hsm
    clear hb1 hC hyes hno hsm e0 f0 HX HB HS
    have e0 := blk_cell HX1.out 0
    have e1 := blk_cell HX1.out 1
    have e2 := blk_cell HX1.out 2
    have e3 := blk_cell HX1.out 3
    have e4 := blk_cell HX1.out 4
    have f0 := blk_frozen HX1.out 0
    rcases hn with rfl | hn
    · go_wp2_with fail
      have hb1' := below_alloc (Below.refl w1.heap.size w1) (.cells #[Value.string wd', .int .i64 m', .string pf', .slice A' l'.length c', .string key'] 25)
      have hB1' : Below w.heap.size w (w1.alloc (.cells #[Value.string wd', .int .i64 m', .string pf', .slice A' l'.length c', .string key'] 25)) := below_alloc HB1.out _
      refine (groatref21_Same.calls (l'.length + 2) wd' m' pf' A' c' l' key' wd m pf A c l key _ _ (Kd.C_below HC.out hb1') hle (Kd.C_below HR.out hB1') hc (Same_is (wd', m', pf', l', key') (wd, m, pf, l, key) (Nat.le_trans HM.out.tl (by omega)) _ (by dsimp only; omega))).mono ?_
      rintro e w2 ⟨rfl, hb2⟩
      have HB2 : Aside0 (Below w.heap.size w w2) := ⟨hB1'.trans (hb2.mono hB1'.size)⟩
      clear hb2 hb1' hB1'
      by_cases hx : (wd', m', pf', l', key') = (wd, m, pf, l, key)
      · rw [decide_eq_true hx]
        have HP := Aside0.mk (HY.out trivial hx)
        clear hx
        go_wp2
        go_ret2
        rw [HP.out]
        exact ⟨rfl, HB2.out⟩
      · rw [decide_eq_false hx]
        have HP := Aside0.mk (HN.out (fun h => hx h.2))
        clear hx
        go_wp2
        go_ret2
        rw [HP.out]
        exact ⟨rfl, HB2.out⟩
    · have HP := Aside0.mk (HN.out (fun h => by omega))
      rcases hn with rfl | rfl
      all_goals
        go_wp2
        go_ret2
        rw [HP.out]
        exact ⟨rfl, below_alloc HB1.out _⟩
end Go.Proofs.YtegalamdbbjfoaaDoor
namespace Go.Proofs.YtegalamdbbjfoaaDoor
open Go.RowKit Go.Proofs.YtegalamdbbjfoaaDoorW.PrintWords PConsoleReads

set_option maxRecDepth 100000 in
set_option maxHeartbeats 1000000 in
theorem writes_any (wd pf key : ByteArray) (m : Int) (A : Option Addr) (c : Nat) (l : List Int) (w : World) (g : Int) (hg : w.cell? ⟨0, 0, none⟩ = some (.int .i64 g)) (ht : Tab10 w)
    (hs : Small (wd, m, pf, l, key)) (hr : Kd.C (Kd.int .i64) w A l.length l) (hc : l.length ≤ c) :
    Calls Tryd.prog 4 #[.agg #[.string wd, .int .i64 m, .string pf, .slice A l.length c, .string key]] w fun e w' => e = .returned (.bool true) ∧ Below w.heap.size w w' := by
  have HG := Aside0.mk hg
  have HT := Aside0.mk ht
  have HS := Aside0.mk hs
  have HR := Aside0.mk hr
  have h0 : 0 < w.heap.size := World.block_lt_of_cell? w _ hg
  clear hg ht hs hr
  go_enter Tryd.func4, Tryd.ntmps4
  go_wp2_with fail
  have hB0 : Below w.heap.size w (w.alloc (.cells #[Value.string wd, .int .i64 m, .string pf, .slice A l.length c, .string key] 25)) := below_alloc (Below.refl w.heap.size w) _
  have hx0 := blk_new w (.cells #[Value.string wd, .int .i64 m, .string pf, .slice A l.length c, .string key] 25)
  refine (shown_any _ g (pw_cell_below_at hB0 HG.out) (HT.out.below hB0)).mono ?_
  rintro e w1 ⟨rfl, hb1⟩
  have hB1 := hB0.trans (hb1.mono hB0.size)
  have hz1 : w.heap.size < w1.heap.size := by have := hb1.size; simp at this; omega
  have X1 := blk_below hx0 hb1
  clear hb1 hx0 hB0
  have e0 := blk_cell X1 0
  have e1 := blk_cell X1 1
  have e2 := blk_cell X1 2
  have e3 := blk_cell X1 3
  have e4 := blk_cell X1 4
  have f0 := blk_frozen X1 0
  have hW : Aside0 (Below w.heap.size w ((w1.alloc (.cells #[Value.string wd, .int .i64 m, .string pf, .slice A l.length c, .string key] 25)).alloc (.cells #[] 3))) := ⟨below_alloc (below_alloc hB1 _) _⟩
  have hI : Aside0 (Kd.R (Kd.int .i64) 3 ((w1.alloc (.cells #[Value.string wd, .int .i64 m, .string pf, .slice A l.length c, .string key] 25)).alloc (.cells #[] 3)) w.heap.size (fun q => w1.heap.size < q) (.slice (some ⟨w1.heap.size + 1, 0, none⟩) 0 0) []) := by
    have h := World.ownsRow_lit (base := w.heap.size) (e := 3) (size := 1) (w1.alloc (.cells #[Value.string wd, .int .i64 m, .string pf, .slice A l.length c, .string key] 25)) #[] 0 (by simp; omega) (by simp) rfl
    have hsz : (w1.alloc (.cells #[Value.string wd, .int .i64 m, .string pf, .slice A l.length c, .string key] 25)).heap.size = w1.heap.size + 1 := by simp
    rw [hsz] at h
    exact ⟨Kd.R_of_own h (fun k hk => by simp [Value.ownBlock] at hk; omega)⟩
  have hl : l.length ≤ 1048576 := HS.out.tl
  have Y0 : Aside0 (((w1.alloc (.cells #[Value.string wd, .int .i64 m, .string pf, .slice A l.length c, .string key] 25)).alloc (.cells #[] 3)).heap[w1.heap.size]? = some (.cells #[Value.string wd, .int .i64 m, .string pf, .slice A l.length c, .string key] 25)) := ⟨blk_alloc (blk_new w1 _) _⟩
  have X0 : Aside0 (((w1.alloc (.cells #[Value.string wd, .int .i64 m, .string pf, .slice A l.length c, .string key] 25)).alloc (.cells #[] 3)).heap[w.heap.size]? = some (.cells #[Value.string wd, .int .i64 m, .string pf, .slice A l.length c, .string key] 25)) := ⟨blk_alloc (blk_alloc X1 _) _⟩
  go_wp2_with (first | ((with_reducible refine gate_builtin (b := .append) (xs := #[.tmp 15, .tmp 17]) rfl ?_); at_builtin; refine Kd.R_append_row (Value.int .i64) 0 (w0 := w) w.heap.size rfl (.tmp 15) (.tmp 17) 23 3 (.int .i64 0) 8 rfl Tryd.underlying23 conInfo3 rfl (by decide) (.slice (some ⟨w1.heap.size + 1, 0, none⟩) 0 0) [] l A l.length c (fun q => w1.heap.size < q) rfl rfl (fun k hk => by simp at hk; omega) hI.out (Kd.C_below HR.out hW.out) hW.out (by simp; omega) (by simp; omega) ?_; intro v2 w2 hr2 hb2 hg2 hat2; rw [List.nil_append] at hr2; obtain ⟨A2, c2, rfl, hle2, hC2⟩ := Kd.R_reads hr2; have X2 := Aside0.mk (blk_grown X0.out hg2 (by simp [Value.ownBlock] <;> omega)); have Y2 := Aside0.mk (blk_grown Y0.out hg2 (by simp [Value.ownBlock])); have y3 := blk_cell Y2.out 3; have y3f := blk_frozen Y2.out 3; have HR2 := Aside0.mk hr2; have HB2 := Aside0.mk hb2; have hz2 : w1.heap.size < w2.heap.size := (by have := hg2.size; simp at this; omega); have Y3 := Aside0.mk (blk_put (cs' := #[Value.string wd, .int .i64 m, .string pf, .slice A2 l.length c2, .string key]) Y2.out 3 (.slice A2 l.length c2) rfl); have X3 := Aside0.mk (blk_far X2.out (p := ⟨w1.heap.size, 3, none⟩) (by dsimp only; omega) (.slice A2 l.length c2)); have HR3 := Aside0.mk (Kd.R_far hr2 (p := ⟨w1.heap.size, 3, none⟩) (fun k hk => by dsimp only at hk ⊢; omega) (.slice A2 l.length c2)); have HB3 := Aside0.mk (below_set (j := 3) (v := .slice A2 l.length c2) hb2 (Nat.le_of_lt hz1)); have q0 := blk_cell Y3.out 0; have q1 := blk_cell Y3.out 1; have q2 := blk_cell Y3.out 2; have q3 := blk_cell Y3.out 3; have q4 := blk_cell Y3.out 4; have qf := blk_frozen Y3.out 0; clear hr2 hb2 hg2 hat2 hC2))
  have HC3 : Aside0 (Kd.C (Kd.int .i64) (w2.setCell ⟨w1.heap.size, 3, none⟩ (.slice A2 l.length c2)) A2 l.length l) := ⟨by
    obtain ⟨A', c', h1, _, hC⟩ := Kd.R_reads HR3.out
    injection h1 with e1 _ _
    subst e1
    exact hC⟩
  clear hW hI Y0 X0 X1 X2 Y2 y3 y3f HR2 HB2 HR3 e0 e1 e2 e3 e4 f0 q0 q1 q2 q3 q4 qf hB1
  generalize (w2.setCell ⟨w1.heap.size, 3, none⟩ (.slice A2 l.length c2)) = w3 at Y3 X3 HB3 HC3 ⊢
  refine (print_any wd pf key m A2 c2 l w3 g (pw_cell_below_at HB3.out HG.out) HC3.out HS.out.tl HS.out.ts HS.out.m (HT.out.below HB3.out) HS.out.wd HS.out.pf HS.out.key).mono ?_
  rintro e w4 ⟨rfl, hb4⟩
  have HB4 : Aside0 (Below w.heap.size w w4) := ⟨HB3.out.trans (hb4.mono HB3.out.size)⟩
  have X4 := Aside0.mk (blk_below X3.out hb4)
  have Y4 := Aside0.mk (blk_below Y3.out hb4)
  have HC4 := Aside0.mk (Kd.C_below HC3.out hb4)
  clear hb4 HB3 X3 Y3 HC3
  obtain ⟨pr, hp⟩ : ∃ p, printOf (wd, m, pf, l, key) = p := ⟨_, rfl⟩
  have HP := Aside0.mk hp
  rw [hp]
  clear hp
  have e0 := blk_cell X4.out 0
  have e1 := blk_cell X4.out 1
  have e2 := blk_cell X4.out 2
  have e3 := blk_cell X4.out 3
  have e4 := blk_cell X4.out 4
  have f0 := blk_frozen X4.out 0
  go_wp2_with fail
  refine (ref_print wd pf key m A c l w4 HS.out (Kd.C_below HR.out HB4.out) hc).mono ?_
  rintro e w5 ⟨rfl, hb5⟩
  have HB5 : Aside0 (Below w.heap.size w w5) := ⟨HB4.out.trans (hb5.mono HB4.out.size)⟩
  have X5 := Aside0.mk (blk_below X4.out hb5)
  have Y5 := Aside0.mk (blk_below Y4.out hb5)
  have HC5 := Aside0.mk (Kd.C_below HC4.out hb5)
  clear hb5 HB4 X4 Y4 HC4 e0 e1 e2 e3 e4 f0
  rw [HP.out]
  have e0 := blk_cell X5.out 0
  have e1 := blk_cell X5.out 1
  have e2 := blk_cell X5.out 2
  have e3 := blk_cell X5.out 3
  have e4 := blk_cell X5.out 4
  have f0 := blk_frozen X5.out 0
  have q0 := blk_cell Y5.out 0
  have q1 := blk_cell Y5.out 1
  have q2 := blk_cell Y5.out 2
  have q3 := blk_cell Y5.out 3
  have q4 := blk_cell Y5.out 4
  have qf := blk_frozen Y5.out 0
  go_wp2_with fail
  refine (groatref21_Same.calls (l.length + 2) wd m pf A2 c2 l key wd m pf A c l key true _ HC5.out hle2 (Kd.C_below HR.out HB5.out) hc (Same_self wd pf key m l (by omega) _ (by omega))).mono ?_
  rintro e w6 ⟨rfl, hb6⟩
  have HB6 : Aside0 (Below w.heap.size w w6) := ⟨HB5.out.trans (hb6.mono HB5.out.size)⟩
  have X6 := Aside0.mk (blk_below X5.out hb6)
  clear hb6 HB5 X5 Y5 HC5 e0 e1 e2 e3 e4 f0 q0 q1 q2 q3 q4 qf
  have h1 := printOf_cases (wd, m, pf, l, key)
  rw [HP.out] at h1
  obtain ⟨s, n⟩ := pr
  rcases h1 with ⟨h1, h2⟩ | h1
  · injection h1 with h3 h4
    subst h4
    rw [← h3] at h2
    have hpt : parseT s = ((wd, m, pf, l, key), 0) := by unfold parseT; rw [h2]
    have HPT := Aside0.mk hpt
    clear h2 h3 hpt
    go_wp2_with fail
    have hpa := parse_all s w6 g (pw_cell_below_at HB6.out HG.out)
    rw [HPT.out] at hpa
    refine hpa.mono ?_
    clear hpa
    rintro e w7 ⟨A7, c7, rfl, hle7, hC7, hb7⟩
    have HB7 : Aside0 (Below w.heap.size w w7) := ⟨HB6.out.trans (hb7.mono HB6.out.size)⟩
    have X7 := Aside0.mk (blk_below X6.out hb7)
    have HC7 := Aside0.mk hC7
    clear hb7 HB6 X6 hC7
    dsimp only at hle7
    have hz7 := blk_lt X7.out
    have e0 := blk_cell X7.out 0
    have e1 := blk_cell X7.out 1
    have e2 := blk_cell X7.out 2
    have e3 := blk_cell X7.out 3
    have e4 := blk_cell X7.out 4
    have f0 := blk_frozen X7.out 0
    go_wp2_with fail
    have hb7' := below_alloc (Below.refl w7.heap.size w7) (.cells #[Value.string wd, .int .i64 m, .string pf, .slice A7 l.length c7, .string key] 25)
    have hB7' : Below w.heap.size w (w7.alloc (.cells #[Value.string wd, .int .i64 m, .string pf, .slice A7 l.length c7, .string key] 25)) := below_alloc HB7.out _
    refine (groatref21_Same.calls (l.length + 2) wd m pf A7 c7 l key wd m pf A c l key true _ (Kd.C_below HC7.out hb7') hle7 (Kd.C_below HR.out hB7') hc (Same_self wd pf key m l (by omega) _ (by omega))).mono ?_
    rintro e w8 ⟨rfl, hb8⟩
    have HB8 : Aside0 (Below w.heap.size w w8) := ⟨hB7'.trans (hb8.mono hB7'.size)⟩
    clear hb8 hb7' hB7'
    go_wp2_with fail
    exact bodyPost_ret (v := .bool true) (by simp [results, Tryd.results4, go_sem]) rfl ⟨rfl, HB8.out⟩
  · injection h1 with h3 h4
    subst h3 h4
    go_wp2_with fail
    exact bodyPost_ret (v := .bool true) (by simp [results, Tryd.results4, go_sem]) rfl ⟨rfl, HB6.out⟩
end Go.Proofs.YtegalamdbbjfoaaDoor
namespace Go.Proofs.YtegalamdbbjfoaaDoor.consoleWrites
open Go.ChangeShapes Go.WideShapes Go.ChangeAt Go.RowKit

theorem contract (H : Type) (enc : TypeId × Value → H) (W : World) (base : Nat) (args : Array Value) (ds gs : List (DataW H)) (before : List MemPlace)
    (hval : ∀ (j : Nat) t v, Tryd.f4.params[j]? = some t → args[j]? = some v → Value.okWide Tryd.prog W .any base t v)
    (hW : DataW.Whole enc Tryd.prog Tryd.f4.params.toList Rows.consoleWritesSpec.vars false W args.toList ds gs before) (hk : Rows.uptoSmall H (ds ++ gs) = true) (hL : laidMetH Tryd.prog conLaid W) (hsh : W.ShapedOpen Tryd.prog) :
    Calls Tryd.prog 4 args W fun e W' => ∃ v, e = .returned v ∧ Rows.consoleWritesSpec.post enc Tryd.prog Tryd.f4 false true false false W args v W' := by
  have hW' := hW
  obtain ⟨p, q, hA0, hV, rfl, hfz, hnd⟩ := hW
  have hA : DataW.TrodAll enc Tryd.prog W 0 (fun _ => true) true Tryd.f4.params.toList args.toList ds p := hA0
  rw [Tryd.params4] at hA hval
  obtain ⟨v0, vs0, d0, ds0, p0, q0, hargs, rfl, rfl, h0, r0⟩ := trodAll_cons hA
  obtain ⟨rfl, rfl, rfl⟩ := trodAll_nil r0
  obtain rfl : args = #[v0] := by cases args; simp_all
  obtain ⟨rfl, rfl⟩ := trodVars_none hV
  have k0 := h0
  have lt0 : ∀ x ∈ p0, x.block < W.heap.size := by obtain ⟨m, hm⟩ := k0; exact DataW.trod_lt m _ _ _ hm
  obtain ⟨wd, m, pf, A, l, c, key, rfl, hle, hC, hI, him, hb⟩ := open_cmd (hval 0 25 v0 rfl rfl) h0
  clear hA0
  have hbulk : Rows.uptoBulk d0 ≤ 1048576 := by
    have h := of_decide_eq_true hk
    simp only [List.append_nil, Rows.uptoBulkAll] at h
    omega
  simp only [List.append_nil] at hW'
  obtain ⟨g, hg⟩ := cell0 hsh
  have hs : Small (wd, m, pf, l, key) := ⟨by dsimp only; omega, by dsimp only; omega, by dsimp only; omega, him, hI, by dsimp only; omega⟩
  refine (writes_any wd pf key m A c l W g hg (tab10 hL) hs hC hle).mono fun e W' ⟨he, bel⟩ => ?_
  subst he
  exact ⟨_, rfl, _, _, _, [], _, [], hW', trodAll_mk1 (shut_bool Tryd.underlying4 _),
    trodAll_cons_mk (Below.trod laidOut (by kernel_rfl) (of_decide_eq_true (by kernel_rfl)) k0 bel lt0) trodAll_mk0, rfl, bel.frame _, fun h => by cases h⟩

theorem reads (os : Os) {H : Type} (enc : TypeId × Value → H) : ∃ ds places, DataW.whole enc Tryd.prog ((World.laidAll Tryd.prog os conLaid).forCall (fun _ _ => 0) ⟨#[], #[.agg #[.string ByteArray.empty, .int .i64 0, .string ByteArray.empty, .slice none 0 0, .string ByteArray.empty]], []⟩).memory Tryd.f4.params.toList Rows.consoleWritesSpec.vars false #[Value.agg #[.string ByteArray.empty, .int .i64 0, .string ByteArray.empty, .slice none 0 0, .string ByteArray.empty]].toList 8 = some (ds, [], places) ∧ Rows.uptoSmall H (ds ++ []) = true :=
  ⟨[.agg [.lit (.string []), .lit (.int .i64 0), .lit (.string []), .nil, .lit (.string [])]], [], by kernel_rfl, by kernel_rfl⟩

set_option maxRecDepth 100000 in
theorem lifted (os : Os) (started : os.Started) (H : Type) (enc : TypeId × Value → H) (F : Stop.Interp) :
    ReturnsInHanded {} Tryd.checked os 4 .any ((Rows.OpenSpec.upto Rows.consoleWritesSpec).preRow enc Tryd.prog Tryd.f4 Rows.consoleWritesUptoRow.domain false Rows.consoleWritesUptoRow.laid) (((Rows.OpenSpec.upto Rows.consoleWritesSpec).at F).post enc Tryd.prog Tryd.f4 false true false false) := by
  obtain ⟨ds, places, hx, hsm⟩ := reads os enc
  refine returnsInHanded_of_row (C := Tryd.checked) (s := Rows.OpenSpec.upto Rows.consoleWritesSpec) own started (by kernel_rfl) Tryd.func4
    (witness_row_at (enc := enc) (C := Tryd.checked) false (World.laidAll Tryd.prog os conLaid) #[.agg #[.string ByteArray.empty, .int .i64 0, .string ByteArray.empty, .slice none 0 0, .string ByteArray.empty]] (World.laidAll_os _ _ _) (by kernel_rfl) (by kernel_rfl) (by kernel_rfl)
      (OpenSpec.preRow_of_cond 8 hx (by kernel_rfl) (fun k hk => by cases hk; exact hsm) (by kernel_rfl) (laid_met os _))) ?_
  intro W base args ds gs before hval hW _ hcond _ hL hsh _
  exact contract H enc W base args ds gs before hval hW (hcond _ rfl) hL hsh

theorem said : Rows.ConsoleWritesUptoSaid :=
  OpenClaim.holds_of_cond 4 Tryd.f4 rfl rfl rfl rfl rfl rfl rfl ⟨rfl, rfl, rfl, rfl, rfl⟩ rfl rfl rfl rfl rfl (by kernel_rfl) Tryd.func4 (by kernel_rfl)
    (of_decide_eq_true (by kernel_rfl)) (by unfold Func.isWrapper; first | (rw [if_pos (by decide +kernel)]; kernel_rfl) | (rw [if_neg (by decide +kernel)]; exact ⟨rfl, rfl⟩))
    (fun os started H enc _ F => by rw [OpenClaim.pre_eq_preRow]; exact lifted os started H enc F)

theorem plain (f : FuncId) (fn : Func) (hf : Tryd.pinned.checked.prog.funcNamed "groat/groatlaw21.ConsoleWrites" = some f) (hfn : Tryd.pinned.checked.prog.funcs[f]? = some fn) :
    true = Tryd.pinned.checked.prog.looks [] ∧ ∀ (j : Nat) t, fn.params[j]? = some t → Tryd.pinned.checked.prog.wantsStandIn t = false := by
  obtain rfl : f = 4 := Option.some.inj ((show Tryd.prog.funcNamed "groat/groatlaw21.ConsoleWrites" = some 4 by kernel_rfl).symm.trans hf) |>.symm
  obtain rfl : fn = Tryd.f4 := (Option.some.inj (Tryd.func4.symm.trans hfn)).symm
  refine ⟨by kernel_rfl, fun j t ht => ?_⟩
  rw [Tryd.params4] at ht
  obtain rfl : t = 25 := by simpa using Array.mem_of_getElem? ht
  exact (show Tryd.prog.wantsStandIn 25 = false by kernel_rfl)

theorem card : Rows.ConsoleWritesUptoCardSaid :=
  Claim7.holds_tied_plain_at .later [] _ _ _ _ said (fun _ h => by cases h) (by kernel_rfl) (fun _ h => by cases h) consoleWritesUpto_row_tie rfl ⟨rfl, rfl⟩ (by kernel_rfl) rfl plain (by kernel_rfl)
#print axioms card
end Go.Proofs.YtegalamdbbjfoaaDoor.consoleWrites
