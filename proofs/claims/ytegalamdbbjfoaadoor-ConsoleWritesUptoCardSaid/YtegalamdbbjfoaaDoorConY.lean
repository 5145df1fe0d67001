/- The law 'ConsoleReads', as the program runs it. -/
import Derived.Test.YtegalamdbbjfoaaDoorConX
import Derived.Test.YtegalamdbbjfoaaDoorConR
namespace Go.Proofs.YtegalamdbbjfoaaDoor
open Go.RowKit Go.Proofs.YtegalamdbbjfoaaDoorW.PrintWords PConsoleReads

set_option maxRecDepth 100000 in
set_option maxHeartbeats 1000000 in
theorem reads_any (line : ByteArray) (w : World) (g : Int) (hg : w.cell? ⟨0, 0, none⟩ = some (.int .i64 g)) (ht : Tab10 w) :
    Calls Tryd.prog 3 #[.string line] w fun e w' => e = .returned (.bool true) ∧ Below w.heap.size w w' := by
  have HG := Aside0.mk hg
  have HT := Aside0.mk ht
  have h0 : 0 < w.heap.size := World.block_lt_of_cell? w _ hg
  clear hg ht
  go_enter Tryd.func3, Tryd.ntmps3
  go_wp2_with fail
  refine (shown_any _ g HG.out HT.out).mono ?_
  rintro e w1 ⟨rfl, hb1⟩
  go_wp2_with fail
  refine (parse_all line _ g (pw_cell_below_at hb1 HG.out)).mono ?_
  intro e w2 hp
  obtain ⟨hsm, hn, hpr, _⟩ := parseT_facts line
  have hrf := ref_parse_all line
  generalize (parseT line).1 = x at hp hsm hpr hrf
  generalize (parseT line).2 = n at hp hn hpr hrf
  obtain ⟨wd, m, pf, l, key⟩ := x
  obtain ⟨A, c, rfl, hle, hC, hb2⟩ := hp
  have hB2 : Below w.heap.size w w2 := hb1.trans (hb2.mono hb1.size)
  clear hb2
  have HC := Aside0.mk hC
  have HS := Aside0.mk hsm
  have HPR := Aside0.mk hpr
  clear hC hsm hpr
  go_wp2_with fail
  have hB2' := below_alloc hB2 (.cells #[Value.string wd, .int .i64 m, .string pf, .slice A l.length c, .string key] 25)
  refine (hrf _).mono ?_
  rintro e w3 ⟨A', c', rfl, hle', hC', hb3⟩
  obtain ⟨hB3, hs2, hs3⟩ := below_next hB2 hb3
  have HC' := Aside0.mk hC'
  have HC := Aside0.mk (Kd.C_below HC.out ((below_alloc (Below.refl _ w2) _).trans (hb3.mono (by simp))))
  have HB := Aside0.mk (blk_below (blk_new w2 _) hb3)
  clear hb3 hC' hrf hB2'
  have e0 := blk_cell HB.out 0
  have e1 := blk_cell HB.out 1
  have e2 := blk_cell HB.out 2
  have e3 := blk_cell HB.out 3
  have e4 := blk_cell HB.out 4
  go_wp2_with fail
  have hB3' := below_alloc hB3 (.cells #[Value.string wd, .int .i64 m, .string pf, .slice A' l.length c', .string key] 25)
  have hb3' := below_alloc (Below.refl _ w3) (.cells #[Value.string wd, .int .i64 m, .string pf, .slice A' l.length c', .string key] 25)
  refine (groatref21_Same.calls (l.length + 2) wd m pf A c l key wd m pf A' c' l key true _ (Kd.C_below HC.out hb3') hle (Kd.C_below HC'.out hb3') hle' (Same_self wd pf key m l (Nat.le_trans HS.out.tl (by omega)) _ (by omega))).mono ?_
  rintro e w4 ⟨rfl, hb4⟩
  obtain ⟨hB4, hs3', hs4⟩ := below_next hB3 hb4
  have HC := Aside0.mk (Kd.C_below HC.out (hb3'.trans (hb4.mono (by simp))))
  have HB := Aside0.mk (blk_below (blk_alloc HB.out _) hb4)
  clear hb4 hb3' hB3' e0 e1 e2 e3 e4
  have e0 := blk_cell HB.out 0
  have e1 := blk_cell HB.out 1
  have e2 := blk_cell HB.out 2
  have e3 := blk_cell HB.out 3
  have e4 := blk_cell HB.out 4
  have e5 := blk_frozen HB.out 0
  rcases hn with rfl | hn
  · go_wp2_with fail
    refine (print_any wd pf key m A c l w4 g (pw_cell_below_at hB4 HG.out) HC.out HS.out.tl HS.out.ts HS.out.m (HT.out.below hB4) HS.out.wd HS.out.pf HS.out.key).mono ?_
    rintro e w5 ⟨rfl, hb5⟩
    rw [HPR.out trivial]
    have hB5 : Below w.heap.size w w5 := hB4.trans (hb5.mono hB4.size)
    clear hb5
    go_wp2_with fail
    exact bodyPost_ret (v := .bool true) (by simp [results, Tryd.results3, go_sem]) rfl ⟨rfl, hB5⟩
  · rcases hn with rfl | rfl
    · go_wp2_with fail
      exact bodyPost_ret (v := .bool true) (by simp [results, Tryd.results3, go_sem]) rfl ⟨rfl, hB4⟩
    · go_wp2_with fail
      exact bodyPost_ret (v := .bool true) (by simp [results, Tryd.results3, go_sem]) rfl ⟨rfl, hB4⟩
end Go.Proofs.YtegalamdbbjfoaaDoor
