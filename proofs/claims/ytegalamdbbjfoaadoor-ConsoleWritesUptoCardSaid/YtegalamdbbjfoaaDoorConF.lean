/- Walk of the console's 'read' at 'route'. -/
import Derived.Test.YtegalamdbbjfoaaDoorConD
import Derived.Deep.LoopGhost
import Derived.Deep.RegionLaw
import Derived.StillTailTactics
namespace Go.Proofs.YtegalamdbbjfoaaDoor
open Go.RowKit Go.Proofs.YtegalamdbbjfoaaDoorW.PrintWords

set_option maxRecDepth 100000 in
set_option maxHeartbeats 1000000 in
theorem read_route_count (b n : Nat) (w : World) (h2 : n < 3 ∨ 8 < n) (h0 : 0 < n) (hm : n ≤ 1000) (c0 : w.cell? ⟨b, 0, none⟩ = some (.string ⟨#[114, 111, 117, 116, 101]⟩)) :
    Calls Tryd.prog 15 #[.slice (some ⟨b, 0, none⟩) n n] w (ReadNo w) := by
  have hb : b < w.heap.size := World.block_lt_of_cell? w _ c0
  rcases h2 with h | h
  · have h1 : ¬ (3 : Int) ≤ n := by omega
    clear h
    go_enter_defers Tryd.func15, Tryd.ntmps15
    go_wp2_with (go_at_call 26; refine (sure_no _).mono ?_; rintro e w' ⟨rfl, rfl⟩)
    refine leaves_cons (f := 25) (args := #[.pointer (some ⟨w.heap.size + 1, 0, none⟩)]) (by simp) (by simp [go_sem]) ?_
    refine (caught_panicking (w.heap.size + 1) (.int .i64 0) _ ?_ ?_).mono ?_
    · simp [go_sem]
    · simp [go_sem]
    rintro e u' w'' ⟨rfl, rfl, rfl⟩
    simp [Leaves, settle, results, Tryd.results15, go_sem]
    exact ⟨⟨_, _, _, _, _, _, _, rfl⟩, by go_grown⟩
  · have h1 : (3 : Int) ≤ n := by omega
    have h3 : decide ((n : Int) ≤ 8) = false := by simp; omega
    clear h
    go_enter_defers Tryd.func15, Tryd.ntmps15
    go_wp2_with (go_at_call 26; refine (sure_no _).mono ?_; rintro e w' ⟨rfl, rfl⟩)
    refine leaves_cons (f := 25) (args := #[.pointer (some ⟨w.heap.size + 1, 0, none⟩)]) (by simp) (by simp [go_sem]) ?_
    refine (caught_panicking (w.heap.size + 1) (.int .i64 0) _ ?_ ?_).mono ?_
    · simp [go_sem]
    · simp [go_sem]
    rintro e u' w'' ⟨rfl, rfl, rfl⟩
    simp [Leaves, settle, results, Tryd.results15, go_sem]
    exact ⟨⟨_, _, _, _, _, _, _, rfl⟩, by go_grown⟩

theorem conInfo3 : (Tryd.prog.info? 3).map (fun i => (i.zero, i.size, i.bytes)) = some (some (.int .i64 0), 1, 8) := by kernel_rfl

def RoutePost (ws : List ByteArray) (dg : ByteArray → Option Int) (on : Bool) (a : ByteArray) (w : World) (e : Ending) (w' : World) : Prop :=
  if ((ws.all fun s => (dg s).isSome) && on) = true then ReadYes ⟨#[114, 111, 117, 116, 101]⟩ 0 a (ws.filterMap dg) ⟨#[]⟩ w e w' else ReadNo w e w'

theorem routeThrow (w wr : World) (tmps : Array Value) (v : Value) (R : Ending → World → Prop)
    (hb1 : wr.heap[w.heap.size]? = some (.cells #[.string ⟨#[114, 111, 117, 116, 101]⟩, .int .i64 0, .string ⟨#[]⟩, v, .string ⟨#[]⟩] 25 (0, 0)))
    (hb2 : wr.heap[w.heap.size + 1]? = some (.cells #[.int .i64 0] 26 (0, 0))) (hB : Below w.heap.size w wr) (hsz : w.heap.size + 2 ≤ wr.heap.size)
    (h2 : tmps[2]? = some (.pointer (some ⟨w.heap.size, 0, none⟩))) (h3 : tmps[3]? = some (.pointer (some ⟨w.heap.size + 1, 0, none⟩)))
    (hv : ∃ A n c, v = .slice A n c) (hR : ∀ e w', ReadNo w e w' → R e w') :
    Leaves Tryd.prog Tryd.f15 tmps R [{ target := .fn (.func 25) #[], args := #[.pointer (some ⟨w.heap.size + 1, 0, none⟩)] }] (.panicking noWord) wr := by
  obtain ⟨A, nn, c, rfl⟩ := hv
  refine leaves_cons (f := 25) (args := #[.pointer (some ⟨w.heap.size + 1, 0, none⟩)]) (by simp) (by simp [go_sem]) ?_
  refine (caught_panicking (w.heap.size + 1) (.int .i64 0) wr (blk_cell hb2 0) (blk_frozen hb2 0)).mono ?_
  rintro e u' w'' ⟨rfl, rfl, rfl⟩
  have hz : Below w.heap.size w ((wr.setCell ⟨w.heap.size + 1, 0, none⟩ (.int .i64 210)).alloc (.cells #[] 65)) := (hB.setCell (p := ⟨w.heap.size + 1, 0, none⟩) (by simp) _).alloc (by simp; omega) _
  have b1 : ((wr.setCell ⟨w.heap.size + 1, 0, none⟩ (.int .i64 210)).alloc (.cells #[] 65)).heap[w.heap.size]? = some (.cells #[.string ⟨#[114, 111, 117, 116, 101]⟩, .int .i64 0, .string ⟨#[]⟩, .slice A nn c, .string ⟨#[]⟩] 25 (0, 0)) := blk_alloc (blk_far hb1 (by simp) _) _
  have b2 : ((wr.setCell ⟨w.heap.size + 1, 0, none⟩ (.int .i64 210)).alloc (.cells #[] 65)).heap[w.heap.size + 1]? = some (.cells #[.int .i64 210] 26 (0, 0)) := blk_alloc (blk_set hb2 0 _) _
  generalize ((wr.setCell ⟨w.heap.size + 1, 0, none⟩ (.int .i64 210)).alloc (.cells #[] 65)) = wz at b1 b2 hz ⊢
  have d0 := blk_cell b1 0
  have d1 := blk_cell b1 1
  have d2 := blk_cell b1 2
  have d3 := blk_cell b1 3
  have d4 := blk_cell b1 4
  have c2 := blk_cell b2 0
  clear b1 b2
  have hr : (results Tryd.f15 tmps).run Tryd.prog wz = .ok (.tuple #[.agg #[.string ⟨#[114, 111, 117, 116, 101]⟩, .int .i64 0, .string ⟨#[]⟩, .slice A nn c, .string ⟨#[]⟩], .int .i64 210]) wz := by
    simp [results, Tryd.results15, h2, h3, d0, d1, d2, d3, d4, c2, go_sem]
  exact ⟨_, hr, hR _ _ ⟨⟨_, _, _, _, _, _, _, rfl⟩, hz⟩⟩

theorem routeNone {ws : List ByteArray} {k : Nat} {dg : ByteArray → Option Int} {s : ByteArray} {on : Bool} (hs : ws[k]? = some s) (hg : dg s = none) :
    ¬ ((ws.all fun s => (dg s).isSome) && on) = true := by
  intro h
  rw [Bool.and_eq_true, List.all_eq_true] at h
  have := h.1 s (List.mem_of_getElem? hs)
  rw [hg] at this
  cases this

theorem routeAll {ws : List ByteArray} {dg : ByteArray → Option Int} {ds : List Int} (hd : ws.map dg = ds.map some) : (ws.all fun s => (dg s).isSome) = true ∧ ws.filterMap dg = ds := by
  constructor
  · rw [List.all_eq_true]
    intro s hs
    have : dg s ∈ ws.map dg := List.mem_map_of_mem hs
    rw [hd] at this
    obtain ⟨d, _, e⟩ := List.mem_map.1 this
    rw [← e]
    rfl
  · have : ws.filterMap dg = (ws.map dg).filterMap id := by rw [List.filterMap_map]; rfl
    rw [this, hd, List.filterMap_map]
    simp

theorem routeSnoc {ws : List ByteArray} {k : Nat} {dg : ByteArray → Option Int} {ds : List Int} {s : ByteArray} {d : Int} (hs : ws[k]? = some s) (hd : (ws.take k).map dg = ds.map some) (hg : dg s = some d) :
    (ws.take (k + 1)).map dg = (ds ++ [d]).map some := by
  obtain ⟨hk, hs⟩ := List.getElem?_eq_some_iff.1 hs
  rw [List.take_succ_eq_append_getElem hk, hs, List.map_append, hd, List.map_append]
  simp [hg]

set_option maxRecDepth 100000 in
set_option maxHeartbeats 2000000 in
theorem read_route_any (b n : Nat) (w : World) (ws : List ByteArray) (hn : n = ws.length + 2) (h1 : 1 ≤ ws.length) (h6 : ws.length ≤ 6)
    (c0 : w.cell? ⟨b, 0, none⟩ = some (.string ⟨#[114, 111, 117, 116, 101]⟩)) (a : ByteArray) (c1 : w.cell? ⟨b, 1, none⟩ = some (.string a))
    (hc : ∀ j, (hj : j < ws.length) → w.cell? ⟨b, 2 + j, none⟩ = some (.string ws[j]))
    (dg : ByteArray → Option Int) (hdY : ∀ s d, dg s = some d → Tells 27 #[.string s, .int .i64 6] (.int .i64 d)) (hdN : ∀ s, dg s = none → Throws 27 #[.string s, .int .i64 6])
    (on : Bool) (hoY : on = true → Tells 28 #[.string a, .string ⟨#[48, 49, 50, 51, 52, 53, 54, 55, 56, 57]⟩, .int .i64 8] (.string a)) (hoN : on = false → Throws 28 #[.string a, .string ⟨#[48, 49, 50, 51, 52, 53, 54, 55, 56, 57]⟩, .int .i64 8]) :
    Calls Tryd.prog 15 #[.slice (some ⟨b, 0, none⟩) n n] w (RoutePost ws dg on a w) := by
  have hb : b < w.heap.size := World.block_lt_of_cell? w _ c0
  have g1 : (3 : Int) ≤ n := by omega
  have g2 : (n : Int) ≤ 8 := by omega
  have g3 : n ≠ 2 := by omega
  have HC := Lib.hid hc
  have HY := Lib.hid hdY
  have HN := Lib.hid hdN
  have HOY := Lib.hid hoY
  have HON := Lib.hid hoN
  have HNN := Lib.hid hn
  clear hc hdY hdN hoY hoN hn
  go_enter_defers Tryd.func15, Tryd.ntmps15
  go_wp2_with (go_at_call 26; refine (sure_yes _).mono ?_; rintro e w' ⟨rfl, rfl⟩)
  go_loopw [60] (fun i wr => ∃ (k : Nat) (v : Value) (ds : List Int), k ≤ n - 2 ∧ i = .int .i64 k ∧ Aside0 ((ws.take k).map dg = ds.map some) ∧
      Aside0 (Kd.R (Kd.int .i64) 3 wr w.heap.size (fun q => q ≠ w.heap.size ∧ q ≠ w.heap.size + 1) v ds) ∧
      Aside0 (wr.heap[w.heap.size]? = some (.cells #[.string ⟨#[114, 111, 117, 116, 101]⟩, .int .i64 0, .string ⟨#[]⟩, v, .string ⟨#[]⟩] 25 (0, 0))) ∧
      Aside0 (wr.heap[w.heap.size + 1]? = some (.cells #[.int .i64 0] 26 (0, 0))) ∧ Below w.heap.size w wr ∧ w.heap.size + 2 ≤ wr.heap.size) (fun i _ => n - 2 - (intOf i).toNat)
  case atStart =>
    refine ⟨0, .slice none 0 0, [], Nat.zero_le _, rfl, ⟨rfl⟩, ⟨Kd.R_nil _ _ _ _ _⟩, ⟨?_⟩, ⟨?_⟩, by go_grown, by simp⟩
    · exact blk_alloc (blk_new _ _) _
    · have h := blk_new (w.alloc (.cells #[.string ⟨#[114, 111, 117, 116, 101]⟩, .int .i64 0, .string ⟨#[]⟩, .slice none 0 0, .string ⟨#[]⟩] 25)) (.cells #[.int .i64 0] 26)
      rw [World.size_alloc] at h
      exact h
  case round =>
    obtain ⟨k, v, ds, hk, rfl, HD, HR, HB1, HB2, hB, hsz⟩ := hrel
    have e3 : wr.cell? ⟨w.heap.size, 3, none⟩ = some v := blk_cell HB1.out 3
    have z3 : wr.frozen? ⟨w.heap.size, 3, none⟩ = false := blk_frozen HB1.out 3
    have hlt2 : w.heap.size < wr.heap.size := by omega
    by_cases hlt : k < n - 2
    · obtain ⟨s, hs⟩ : ∃ s, ws[k]? = some s := ⟨_, List.getElem?_eq_getElem (by have := HNN.out; omega)⟩
      have ck : wr.cell? ⟨b, 2 + k, none⟩ = some (.string s) := by
        obtain ⟨hj, hs'⟩ := List.getElem?_eq_some_iff.1 hs
        have := HC.out k hj
        rw [hs'] at this
        exact (hB.cell (World.block_lt_of_cell? w _ this)).trans this
      have HS := Aside0.mk hs
      clear hs
      cases hdg : dg s with
      | some d =>
        have hY := HY.out s d hdg
        have HDG := Aside0.mk hdg
        clear hdg
        have HL : Aside0 ((ds.length + 1) * 8 ≤ 140737488355328) := ⟨by
          have := congrArg List.length HD.out
          simp at this
          omega⟩
        go_wp2
        first | go_region_law (first
          | (refine Kd.R_append_step (Kd.int .i64) (w0 := w) (W := wr.drew) w.heap.size (by rfl) (.tmp 65) (.tmp 68) 23 3 (.int .i64 0) 8 rfl Tryd.underlying23 conInfo3 rfl (by decide) (by omega) v ds d [.int .i64 d] (fun q => q ≠ w.heap.size ∧ q ≠ w.heap.size + 1) (fun _ => False) rfl rfl rfl (fun _ hk => hk.elim) (fun q hq => ⟨by have h' : wr.heap.size ≤ q := hq; omega, by have h' : wr.heap.size ≤ q := hq; omega⟩) (Kd.R_below HR.out (below_drew (Below.refl _ _))) (below_drew hB) (Nat.le_trans (by omega) hsz) HL.out ?_; intro v1 w1 hR1 hb1 hg1 hat1; obtain ⟨A1, cc1, rfl⟩ := Kd.R_slice hR1; have HB1n := Aside0.mk (blk_grown (w := wr.drew) HB1.out hg1 (fun e => (HR.out.1 _ e.symm).1 rfl)); have HB2n := Aside0.mk (blk_grown (w := wr.drew) HB2.out hg1 (fun e => (HR.out.1 _ e.symm).2 rfl)); have e3n := blk_cell HB1n.out 3; have z3n := blk_frozen HB1n.out 3; have HRn := Aside0.mk hR1; have hBn := hb1; have HSn : Aside0 (wr.heap.size ≤ w1.heap.size) := ⟨hg1.size⟩; clear hR1 hb1 hg1 hat1)
          | (go_simp; go_at_call 27; refine (hY _).mono ?_; rintro e w' ⟨rfl, rfl⟩)) | fail
        all_goals
          go_wp2
          go_roundw
          case rel =>
            refine ⟨k + 1, .slice A1 (ds ++ [d]).length cc1, ds ++ [d], by omega, by go_num, ⟨routeSnoc HS.out HD.out HDG.out⟩, ⟨?_⟩, ⟨?_⟩, ⟨?_⟩, ?_, ?_⟩
            · exact Kd.R_far (p := ⟨w.heap.size, 3, none⟩) HRn.out (fun q hq => hq.1) _
            · rw [show (ds ++ [d]).length = ds.length + 1 by simp]
              exact blk_set HB1n.out 3 _
            · exact blk_far HB2n.out (by simp) _
            · exact hBn.setCell (p := ⟨w.heap.size, 3, none⟩) (Nat.le_refl _) _
            · have := HSn.out
              rw [World.size_setCell]
              omega
          case measure => simp [intOf]; omega
      | none =>
        have hN := HN.out s hdg
        have HDG := Aside0.mk hdg
        clear hdg
        go_wp2
        refine wp_region_any (by kernel_rfl) ?_
        change wpAny _ _ _ _ _ _ _ (World.drew _)
        refine wpAny_ready (rs := [0, 2]) (by kernel_rfl) (by simp) ?_
        refine AllReady.cons rfl (fun K hK => ?_) ?_
        · go_simp
          refine hK _ _ ?_
          clear hK K
          refine wpAny_ready (rs := [1, 2]) (by kernel_rfl) (by simp) ?_
          refine AllReady.cons rfl (fun K hK => ?_) ?_
          · go_simp
            refine hK _ _ ?_
            clear hK K
            refine wpAny_ready (rs := [2]) (by kernel_rfl) (by simp) ?_
            refine AllReady.cons rfl (fun K hK => ?_) ?_
            · go_simp
              refine hK _ _ ?_
              clear hK K
              refine wpAny_ready (rs := [3]) (by kernel_rfl) (by simp) ?_
              refine AllReady.cons rfl (fun K hK => ?_) ?_
              · go_simp
                go_at_call 27
                refine (hN _).mono ?_
                rintro e w' ⟨rfl, rfl⟩
                refine routeThrow w wr.drew _ v _ (HB1.out) (HB2.out) (below_drew hB) hsz rfl rfl (by obtain ⟨A', c', e'⟩ := Kd.R_slice HR.out; exact ⟨A', _, c', e'⟩) ?_
                exact fun e w' h => by unfold RoutePost; rw [if_neg (routeNone HS.out HDG.out)]; exact h
              exact AllReady.nil
            exact AllReady.nil
          refine AllReady.cons rfl (fun K hK => ?_) ?_
          · go_simp
            refine hK _ _ ?_
            clear hK K
            refine wpAny_ready (rs := [1, 3]) (by kernel_rfl) (by simp) ?_
            refine AllReady.cons rfl (fun K hK => ?_) ?_
            · go_simp
              refine hK _ _ ?_
              clear hK K
              refine wpAny_ready (rs := [3]) (by kernel_rfl) (by simp) ?_
              refine AllReady.cons rfl (fun K hK => ?_) ?_
              · go_simp
                go_at_call 27
                refine (hN _).mono ?_
                rintro e w' ⟨rfl, rfl⟩
                refine routeThrow w wr.drew _ v _ (HB1.out) (HB2.out) (below_drew hB) hsz rfl rfl (by obtain ⟨A', c', e'⟩ := Kd.R_slice HR.out; exact ⟨A', _, c', e'⟩) ?_
                exact fun e w' h => by unfold RoutePost; rw [if_neg (routeNone HS.out HDG.out)]; exact h
              exact AllReady.nil
            refine AllReady.cons rfl (fun K hK => ?_) ?_
            · go_simp
              go_at_call 27
              refine (hN _).mono ?_
              rintro e w' ⟨rfl, rfl⟩
              refine routeThrow w wr.drew _ v _ (HB1.out) (HB2.out) (below_drew hB) hsz rfl rfl (by obtain ⟨A', c', e'⟩ := Kd.R_slice HR.out; exact ⟨A', _, c', e'⟩) ?_
              exact fun e w' h => by unfold RoutePost; rw [if_neg (routeNone HS.out HDG.out)]; exact h
            exact AllReady.nil
          exact AllReady.nil
        refine AllReady.cons rfl (fun K hK => ?_) ?_
        · go_simp
          refine hK _ _ ?_
          clear hK K
          refine wpAny_ready (rs := [0, 3]) (by kernel_rfl) (by simp) ?_
          refine AllReady.cons rfl (fun K hK => ?_) ?_
          · go_simp
            refine hK _ _ ?_
            clear hK K
            refine wpAny_ready (rs := [1, 3]) (by kernel_rfl) (by simp) ?_
            refine AllReady.cons rfl (fun K hK => ?_) ?_
            · go_simp
              refine hK _ _ ?_
              clear hK K
              refine wpAny_ready (rs := [3]) (by kernel_rfl) (by simp) ?_
              refine AllReady.cons rfl (fun K hK => ?_) ?_
              · go_simp
                go_at_call 27
                refine (hN _).mono ?_
                rintro e w' ⟨rfl, rfl⟩
                refine routeThrow w wr.drew _ v _ (HB1.out) (HB2.out) (below_drew hB) hsz rfl rfl (by obtain ⟨A', c', e'⟩ := Kd.R_slice HR.out; exact ⟨A', _, c', e'⟩) ?_
                exact fun e w' h => by unfold RoutePost; rw [if_neg (routeNone HS.out HDG.out)]; exact h
              exact AllReady.nil
            refine AllReady.cons rfl (fun K hK => ?_) ?_
            · go_simp
              go_at_call 27
              refine (hN _).mono ?_
              rintro e w' ⟨rfl, rfl⟩
              refine routeThrow w wr.drew _ v _ (HB1.out) (HB2.out) (below_drew hB) hsz rfl rfl (by obtain ⟨A', c', e'⟩ := Kd.R_slice HR.out; exact ⟨A', _, c', e'⟩) ?_
              exact fun e w' h => by unfold RoutePost; rw [if_neg (routeNone HS.out HDG.out)]; exact h
            exact AllReady.nil
          refine AllReady.cons rfl (fun K hK => ?_) ?_
          · go_simp
            go_at_call 27
            refine (hN _).mono ?_
            rintro e w' ⟨rfl, rfl⟩
            refine routeThrow w wr.drew _ v _ (HB1.out) (HB2.out) (below_drew hB) hsz rfl rfl (by obtain ⟨A', c', e'⟩ := Kd.R_slice HR.out; exact ⟨A', _, c', e'⟩) ?_
            exact fun e w' h => by unfold RoutePost; rw [if_neg (routeNone HS.out HDG.out)]; exact h
          exact AllReady.nil
        exact AllReady.nil
    · have hkk : k = ws.length := by have := HNN.out; omega
      have HK := Aside0.mk hkk
      clear hkk
      have c1r : wr.cell? ⟨b, 1, none⟩ = some (.string a) := (hB.cell (World.block_lt_of_cell? w _ c1)).trans c1
      have e0 : wr.cell? ⟨w.heap.size, 0, none⟩ = some (.string ⟨#[114, 111, 117, 116, 101]⟩) := blk_cell HB1.out 0
      have e1 : wr.cell? ⟨w.heap.size, 1, none⟩ = some (.int .i64 0) := blk_cell HB1.out 1
      have e2 : wr.cell? ⟨w.heap.size, 2, none⟩ = some (.string ⟨#[]⟩) := blk_cell HB1.out 2
      have e4 : wr.cell? ⟨w.heap.size, 4, none⟩ = some (.string ⟨#[]⟩) := blk_cell HB1.out 4
      have z0 : wr.frozen? ⟨w.heap.size, 0, none⟩ = false := blk_frozen HB1.out 0
      have z1 : wr.frozen? ⟨w.heap.size, 1, none⟩ = false := blk_frozen HB1.out 1
      have z2 : wr.frozen? ⟨w.heap.size, 2, none⟩ = false := blk_frozen HB1.out 2
      have z4 : wr.frozen? ⟨w.heap.size, 4, none⟩ = false := blk_frozen HB1.out 4
      have f0 : wr.cell? ⟨w.heap.size + 1, 0, none⟩ = some (.int .i64 0) := blk_cell HB2.out 0
      have y0 : wr.frozen? ⟨w.heap.size + 1, 0, none⟩ = false := blk_frozen HB2.out 0
      obtain ⟨A, cc, rfl⟩ := Kd.R_slice HR.out
      cases on with
      | true =>
        have hO := HOY.out rfl
        go_wp2_with (go_at_call 28; refine (hO _).mono ?_; rintro e w' ⟨rfl, rfl⟩)
        refine leaves_cons (f := 25) (args := #[.pointer (some ⟨w.heap.size + 1, 0, none⟩)]) (by simp) (by simp [go_sem]) ?_
        refine (caught_idle ⟨w.heap.size + 1, 0, none⟩ _).mono ?_
        rintro e u' w'' ⟨rfl, rfl, rfl⟩
        simp [Leaves, settle, results, Tryd.results15, go_sem, e0, e1, e2, e3, e4, f0]
        have hall := routeAll (ws := ws) (dg := dg) (ds := ds) (by have h := HD.out; rw [HK.out, List.take_length] at h; exact h)
        unfold RoutePost
        rw [if_pos (by rw [hall.1]; rfl), hall.2]
        refine ⟨⟨_, rfl, Kd.R_mono (ok := fun q => q ≠ w.heap.size ∧ q ≠ w.heap.size + 1) ?_ (fun _ _ => trivial)⟩, ?_⟩
        · refine Kd.R_far (p := ⟨w.heap.size + 1, 0, none⟩) ?_ (fun q hq => hq.2) _
          refine Kd.R_far (p := ⟨w.heap.size, 4, none⟩) ?_ (fun q hq => hq.1) _
          refine Kd.R_far (p := ⟨w.heap.size, 3, none⟩) ?_ (fun q hq => hq.1) _
          refine Kd.R_far (p := ⟨w.heap.size, 2, none⟩) ?_ (fun q hq => hq.1) _
          refine Kd.R_far (p := ⟨w.heap.size, 1, none⟩) ?_ (fun q hq => hq.1) _
          refine Kd.R_far (p := ⟨w.heap.size, 0, none⟩) ?_ (fun q hq => hq.1) _
          exact Kd.R_far (p := ⟨w.heap.size, 2, none⟩) HR.out (fun q hq => hq.1) _
        · clear HR HD
          go_grown
      | false =>
        have hO := HON.out rfl
        go_wp2_with (go_at_call 28; refine (hO _).mono ?_; rintro e w' ⟨rfl, rfl⟩)
        refine routeThrow w wr _ _ _ HB1.out HB2.out hB hsz rfl rfl ⟨_, _, _, rfl⟩ ?_
        exact fun e w' h => by unfold RoutePost; rw [if_neg (by simp)]; exact h
end Go.Proofs.YtegalamdbbjfoaaDoor
