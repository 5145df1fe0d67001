/- The law 'ConsoleOne', as the program runs it. -/
import Derived.Test.YtegalamdbbjfoaaDoorConX
import Derived.Test.YtegalamdbbjfoaaDoorConK
namespace Go.Proofs.YtegalamdbbjfoaaDoor
open Go.RowKit Go.Proofs.YtegalamdbbjfoaaDoorW.PrintWords PConsoleReads

set_option maxRecDepth 100000 in
set_option maxHeartbeats 1000000 in
theorem one_any (wd pf key wd' pf' key' : ByteArray) (m m' : Int) (A A' : Option Addr) (c c' : Nat) (l l' : List Int) (w : World) (g : Int) (hg : w.cell? ⟨0, 0, none⟩ = some (.int .i64 g)) (ht : Tab10 w)
    (hs : Small (wd, m, pf, l, key)) (hs' : Small (wd', m', pf', l', key')) (hr : Kd.C (Kd.int .i64) w A l.length l) (hr' : Kd.C (Kd.int .i64) w A' l'.length l') (hc : l.length ≤ c) (hc' : l'.length ≤ c') :
    Calls Tryd.prog 6 #[.agg #[.string wd, .int .i64 m, .string pf, .slice A l.length c, .string key], .agg #[.string wd', .int .i64 m', .string pf', .slice A' l'.length c', .string key']] w fun e w' => e = .returned (.bool true) ∧ Below w.heap.size w w' := by
  have HG := Aside0.mk hg
  have HT := Aside0.mk ht
  have HS := Aside0.mk hs
  have HS' := Aside0.mk hs'
  have HC := Aside0.mk hr
  have HC' := Aside0.mk hr'
  have h0 : 0 < w.heap.size := World.block_lt_of_cell? w _ hg
  clear hg ht hs hs' hr hr'
  go_enter Tryd.func6, Tryd.ntmps6
  go_wp2_with fail
  have hB0 : Below w.heap.size w ((w.alloc (.cells #[Value.string wd, .int .i64 m, .string pf, .slice A l.length c, .string key] 25)).alloc (.cells #[Value.string wd', .int .i64 m', .string pf', .slice A' l'.length c', .string key'] 25)) :=
    below_alloc (below_alloc (Below.refl w.heap.size w) _) _
  have hb0 : (w.alloc (.cells #[Value.string wd, .int .i64 m, .string pf, .slice A l.length c, .string key] 25)).heap[w.heap.size]? = some (.cells #[Value.string wd, .int .i64 m, .string pf, .slice A l.length c, .string key] 25) := blk_new w _
  have hb0' := blk_alloc hb0 (.cells #[Value.string wd', .int .i64 m', .string pf', .slice A' l'.length c', .string key'] 25)
  have hb1' : ((w.alloc (.cells #[Value.string wd, .int .i64 m, .string pf, .slice A l.length c, .string key] 25)).alloc (.cells #[Value.string wd', .int .i64 m', .string pf', .slice A' l'.length c', .string key'] 25)).heap[w.heap.size + 1]? = some (.cells #[Value.string wd', .int .i64 m', .string pf', .slice A' l'.length c', .string key'] 25) := by
    have := blk_new (w.alloc (.cells #[Value.string wd, .int .i64 m, .string pf, .slice A l.length c, .string key] 25)) (.cells #[Value.string wd', .int .i64 m', .string pf', .slice A' l'.length c', .string key'] 25)
    simpa using this
  refine (shown_any _ g (pw_cell_below_at hB0 HG.out) (HT.out.below hB0)).mono ?_
  rintro e w1 ⟨rfl, hb1⟩
  have hB1 := hB0.trans (hb1.mono hB0.size)
  have X1 := blk_below hb0' hb1
  have Y1 := blk_below hb1' hb1
  clear hb1 hb0 hb0' hb1' hB0
  have e0 := blk_cell X1 0
  have e1 := blk_cell X1 1
  have e2 := blk_cell X1 2
  have e3 := blk_cell X1 3
  have e4 := blk_cell X1 4
  have f0 := blk_frozen X1 0
  go_wp2_with fail
  refine (print_any wd pf key m A c l w1 g (pw_cell_below_at hB1 HG.out) (Kd.C_below HC.out hB1) HS.out.tl HS.out.ts HS.out.m (HT.out.below hB1) HS.out.wd HS.out.pf HS.out.key).mono ?_
  rintro e w2 ⟨rfl, hb2⟩
  have hB2 := hB1.trans (hb2.mono hB1.size)
  have X2 := blk_below X1 hb2
  have Y2 := blk_below Y1 hb2
  clear hb2 hB1 X1 Y1 e0 e1 e2 e3 e4 f0
  have e0 := blk_cell Y2 0
  have e1 := blk_cell Y2 1
  have e2 := blk_cell Y2 2
  have e3 := blk_cell Y2 3
  have e4 := blk_cell Y2 4
  have f0 := blk_frozen Y2 0
  obtain ⟨p1, hp1⟩ : ∃ p, printOf (wd, m, pf, l, key) = p := ⟨_, rfl⟩
  rw [hp1]
  go_wp2_with fail
  refine (print_any wd' pf' key' m' A' c' l' w2 g (pw_cell_below_at hB2 HG.out) (Kd.C_below HC'.out hB2) HS'.out.tl HS'.out.ts HS'.out.m (HT.out.below hB2) HS'.out.wd HS'.out.pf HS'.out.key).mono ?_
  rintro e w3 ⟨rfl, hb3⟩
  have hB3 := hB2.trans (hb3.mono hB2.size)
  have X3 := blk_below X2 hb3
  have Y3 := blk_below Y2 hb3
  clear hb3 hB2 X2 Y2 e0 e1 e2 e3 e4 f0
  have e0 := blk_cell Y3 0
  have e1 := blk_cell Y3 1
  have e2 := blk_cell Y3 2
  have e3 := blk_cell Y3 3
  have e4 := blk_cell Y3 4
  have f0 := blk_frozen Y3 0
  have i0 := blk_cell X3 0
  have i1 := blk_cell X3 1
  have i2 := blk_cell X3 2
  have i3 := blk_cell X3 3
  have i4 := blk_cell X3 4
  have j0 := blk_frozen X3 0
  obtain ⟨p2, hp2⟩ : ∃ p, printOf (wd', m', pf', l', key') = p := ⟨_, rfl⟩
  rw [hp2]
  go_wp2_with fail
  refine (groatref21_Same.calls (l.length + 2) wd m pf A c l key wd' m' pf' A' c' l' key' _ _ (Kd.C_below HC.out hB3) hc (Kd.C_below HC'.out hB3) hc' (Same_is (wd, m, pf, l, key) (wd', m', pf', l', key') (Nat.le_trans HS.out.tl (by omega)) _ (by dsimp only; omega))).mono ?_
  rintro e w4 ⟨rfl, hb4⟩
  have hB4 := hB3.trans (hb4.mono hB3.size)
  clear hb4 hB3 X3 Y3 e0 e1 e2 e3 e4 f0 i0 i1 i2 i3 i4 j0 HG HT HS HS' HC HC'
  obtain ⟨s, n⟩ := p1
  obtain ⟨t, k⟩ := p2
  have h1 := printOf_cases (wd, m, pf, l, key)
  have h2 := printOf_cases (wd', m', pf', l', key')
  have h3 := one_line (wd, m, pf, l, key) (wd', m', pf', l', key')
  rw [hp1] at h1 h3
  rw [hp2] at h2 h3
  dsimp only at h3
  have hn : n = 0 ∨ n = 210 := by
    rcases h1 with ⟨h1, _⟩ | h1
    · exact Or.inl (Prod.mk.inj h1).2
    · exact Or.inr (Prod.mk.inj h1).2
  have hk : k = 0 ∨ k = 210 := by
    rcases h2 with ⟨h2, _⟩ | h2
    · exact Or.inl (Prod.mk.inj h2).2
    · exact Or.inr (Prod.mk.inj h2).2
  clear h1 h2 hp1 hp2
  rcases hn with rfl | rfl
  · rcases hk with rfl | rfl
    · have h4 := h3 rfl rfl
      clear h3
      by_cases hx : (wd, m, pf, l, key) = (wd', m', pf', l', key')
      · have hy := h4.2 hx
        subst hy
        rw [decide_eq_true hx]
        clear h4 hx
        go_wp2_with fail
        exact bodyPost_ret (v := .bool true) (by simp [results, Tryd.results6, go_sem]) rfl ⟨rfl, hB4⟩
      · have hy : (s.toList == t.toList) = false := by
          rw [beq_eq_false_iff_ne]
          exact fun e => hx (h4.1 (ba_eq e))
        rw [decide_eq_false hx]
        clear h4 hx
        go_wp2_with fail
        exact bodyPost_ret (v := .bool true) (by simp [results, Tryd.results6, go_sem]) rfl ⟨rfl, hB4⟩
    · clear h3
      generalize decide ((wd, m, pf, l, key) = (wd', m', pf', l', key')) = b
      go_wp2_with fail
      exact bodyPost_ret (v := .bool true) (by simp [results, Tryd.results6, go_sem]) rfl ⟨rfl, hB4⟩
  · clear h3
    generalize decide ((wd, m, pf, l, key) = (wd', m', pf', l', key')) = b
    go_wp2_with fail
    exact bodyPost_ret (v := .bool true) (by simp [results, Tryd.results6, go_sem]) rfl ⟨rfl, hB4⟩
end Go.Proofs.YtegalamdbbjfoaaDoor
