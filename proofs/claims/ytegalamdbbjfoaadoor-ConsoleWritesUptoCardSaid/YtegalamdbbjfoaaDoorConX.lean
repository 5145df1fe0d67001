/- The examples at the head of the statements, as the program runs them. -/
import Derived.Test.YtegalamdbbjfoaaDoorConW
namespace Go.Proofs.YtegalamdbbjfoaaDoor
open Go.RowKit Go.Proofs.YtegalamdbbjfoaaDoorW.PrintWords

theorem prs_route (w : World) (g : Int) (hg : w.cell? ⟨0, 0, none⟩ = some (.int .i64 g)) :
    Calls Tryd.prog 8 #[.string ⟨#[114, 111, 117, 116, 101, 32, 52, 53, 32, 50, 32, 49]⟩] w fun e w' =>
      (∃ A c, e = .returned (.tuple #[.agg #[.string ⟨#[114, 111, 117, 116, 101]⟩, .int .i64 0, .string ⟨#[52, 53]⟩, .slice A 2 c, .string ⟨#[]⟩], .int .i64 0])) ∧ Below w.heap.size w w' := by
  have h := parse_any ⟨#[114, 111, 117, 116, 101, 32, 52, 53, 32, 50, 32, 49]⟩ w g hg
  rw [ev_route] at h
  refine h.mono ?_
  rintro e w' ⟨⟨v, rfl, hr⟩, hb⟩
  obtain ⟨A, c, k, rfl⟩ := Kd.R_slice hr
  exact ⟨⟨A, c, rfl⟩, hb⟩
theorem prs_none {line : ByteArray} (hl : parseOf line = (none, 210)) (w : World) (g : Int) (hg : w.cell? ⟨0, 0, none⟩ = some (.int .i64 g)) :
    Calls Tryd.prog 8 #[.string line] w fun e w' =>
      e = .returned (.tuple #[.agg #[.string ⟨#[]⟩, .int .i64 0, .string ⟨#[]⟩, .slice none 0 0, .string ⟨#[]⟩], .int .i64 210]) ∧ Below w.heap.size w w' := by
  have h := parse_any line w g hg
  rw [hl] at h
  exact h
theorem prt_saf (w : World) (g : Int) (hg : w.cell? ⟨0, 0, none⟩ = some (.int .i64 g)) (ht : Tab10 w) :
    Calls Tryd.prog 11 #[.agg #[.string ⟨#[115, 97, 102]⟩, .int .i64 2, .string ⟨#[]⟩, .slice none 0 0, .string ⟨#[]⟩]] w fun e w' =>
      e = .returned (.tuple #[.string ⟨#[115, 97, 102, 32, 50]⟩, .int .i64 0]) ∧ Below w.heap.size w w' := by
  have h := print_any ⟨#[115, 97, 102]⟩ ⟨#[]⟩ ⟨#[]⟩ 2 none 0 [] w g hg (Kd.C_nil ..) (by simp) (by intro n hn; cases hn) (by intro n hn; simp at hn; omega) ht (by decide) (by decide) (by decide)
  rw [ev_saf] at h
  exact h
theorem say_m2 (w : World) (b : Nat) (hb : b = w.heap.size) (ht : Tab10 w) :
    Calls Tryd.prog 13 #[.string ⟨#[115, 97, 102]⟩, .slice (some ⟨b, 0, none⟩) 2 2] (w.alloc (.cells #[.int .i64 1, .int .i64 (-2)] 3)) fun e w' =>
      e = .returned (.string ⟨#[115, 97, 102, 32, 49, 32, 45, 50]⟩) ∧ Below w.heap.size w w' := by
  subst hb
  have hb := below_alloc (Below.refl w.heap.size w) (.cells #[.int .i64 1, .int .i64 (-2)] 3)
  have hs : sayL [1, -2] = [32, 49, 32, 45, 50] := by
    have h1 := sayL_one 1 (by decide)
    unfold sayL at h1 ⊢
    simp only [List.flatMap_cons, List.flatMap_nil, List.append_nil] at h1 ⊢
    rw [show (1 : Int) = ((1 : Nat) : Int) from rfl, h1, show Lib.itoa (-2) = 45 :: Lib.decDigits 2 from Lib.itoa_neg 2 (by decide), Lib.decDigits_one (by decide)]
    rfl
  refine (say_any _ (some ⟨w.heap.size, 0, none⟩) 2 [1, -2] _ ?_ (by simp) (by intro n hn; simp at hn; omega) ?_ (ht.below hb)).mono ?_
  · refine Kd.C_of_reads (d := 0) ⟨rfl, by simp, fun _ => ⟨_, rfl, fun j hj => ?_⟩⟩
    have : j = 0 ∨ j = 1 := by simp at hj; omega
    rcases this with rfl | rfl <;> simp [Addr.add]
  · rw [hs]; decide
  · rintro e w' ⟨rfl, h⟩
    rw [hs]
    exact ⟨rfl, hb.trans (h.mono (by simp))⟩
theorem below_next {w wk wn : World} {o : Obj} (hB : Below w.heap.size w wk) (hb : Below (wk.alloc o).heap.size (wk.alloc o) wn) :
    Below w.heap.size w wn ∧ w.heap.size ≤ wk.heap.size ∧ wk.heap.size < wn.heap.size := by
  have h1 := hB.size
  have h2 := hb.size
  have h3 := below_alloc hB o
  simp at h2
  exact ⟨h3.trans (hb.mono (by simp; omega)), h1, by omega⟩
set_option maxRecDepth 100000 in
set_option maxHeartbeats 1000000 in
theorem shown_any (w : World) (g : Int) (hg : w.cell? ⟨0, 0, none⟩ = some (.int .i64 g)) (ht : Tab10 w) :
    Calls Tryd.prog 7 #[] w fun e w' => e = .returned (.bool true) ∧ Below w.heap.size w w' := by
  have HG := Aside0.mk hg
  have HT := Aside0.mk ht
  have h0 : 0 < w.heap.size := World.block_lt_of_cell? w _ hg
  clear hg ht
  go_enter Tryd.func7, Tryd.ntmps7
  go_wp2_with fail
  refine (prs_route _ g HG.out).mono ?_
  rintro e w1 ⟨⟨A, c, rfl⟩, hb1⟩
  go_wp2_with fail
  have hB1 := below_alloc hb1 (.cells #[Value.string ⟨#[114, 111, 117, 116, 101]⟩, .int .i64 0, .string ⟨#[52, 53]⟩, .slice A 2 c, .string ⟨#[]⟩] 25)
  refine (prs_none ev_block6 _ g (pw_cell_below_at (w := w) hB1 HG.out)).mono ?_
  rintro e w2 ⟨rfl, hb2⟩
  obtain ⟨hB2, hs1, hs2⟩ := below_next hb1 hb2
  have HC := Aside0.mk (blk_below (blk_new w1 _) hb2)
  clear hb2 hB1
  go_wp2_with fail
  have hB2' := below_alloc hB2 (.cells #[Value.string ⟨#[]⟩, .int .i64 0, .string ⟨#[]⟩, .slice none 0 0, .string ⟨#[]⟩] 25)
  refine (prs_none ev_block1 _ g (pw_cell_below_at (w := w) hB2' HG.out)).mono ?_
  rintro e w3 ⟨rfl, hb3⟩
  obtain ⟨hB3, hs2', hs3⟩ := below_next hB2 hb3
  have HC := Aside0.mk (blk_below (blk_alloc HC.out _) hb3)
  clear hb3 hB2 hB2'
  go_wp2_with fail
  have hB3' := below_alloc hB3 (.cells #[Value.string ⟨#[]⟩, .int .i64 0, .string ⟨#[]⟩, .slice none 0 0, .string ⟨#[]⟩] 25)
  refine (prt_saf _ g (pw_cell_below_at (w := w) hB3' HG.out) (HT.out.below (w := w) hB3')).mono ?_
  rintro e w4 ⟨rfl, hb4⟩
  obtain ⟨hB4, hs3', hs4⟩ := below_next hB3 hb4
  have HC := Aside0.mk (blk_below (blk_alloc HC.out _) hb4)
  clear hb4 hB3 hB3'
  have e0 := blk_cell HC.out 0
  have e2 := blk_cell HC.out 2
  have e3 := blk_cell HC.out 3
  go_wp2_with fail
  refine (say_m2 w4 _ rfl (HT.out.below hB4)).mono ?_
  rintro e w5 ⟨rfl, hb5⟩
  go_wp2_with fail
  exact bodyPost_ret (v := .bool true) (by simp [results, Tryd.results7, go_sem]) rfl ⟨rfl, hB4.trans (hb5.mono hB4.size)⟩
end Go.Proofs.YtegalamdbbjfoaaDoor
