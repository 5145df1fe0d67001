/- For any number of members and any calls: the law SessionBoards returns true: a board tells who is signed on, and who is blocked, behind any calls. Conditions: those of the given card (what its row lists of the package-level tables, tied to the text by the program); no other. -/
import Derived.Test.YtbnbplppgbmkpaaGreatDoorGrI
import Derived.Test.YtbnbplppgbmkpaaGreatDoorGrG
import Derived.Test.YtbnbplppgbmkpaaGreatDoorGrH
namespace Go.Proofs.YtbnbplppgbmkpaaGreatDoor
open Go.RowKit Go.Extern.Stop Go.Stop Go.Extern Go.Proofs.YtbnbplppgbmkpaaGreatDoorW.PrintLast Go.Proofs.YtbnbplppgbmkpaaGreatDoorW.PrintWords PSessionSeals

/-- A row of calls that came in. -/
def ORow (w : World) (A : Option Addr) (L : List (Int × Int × Bool)) : Prop := 0 < L.length → ∃ ad, A = some ad ∧ ∀ i p, L[i]? = some p → w.cell? (ad.add (i * 3)) = some (.int .i64 p.1) ∧ w.cell? (ad.add (i * 3 + 1)) = some (.int .i64 p.2.1) ∧ w.cell? (ad.add (i * 3 + 2)) = some (.bool p.2.2)

set_option maxRecDepth 8000 in
set_option maxHeartbeats 4000000 in
theorem boards_any (n0 : Int) (L : List (Int × Int × Bool)) (A : Option Addr) (cp : Nat) (w : World) (ht : Env w) (hks : ∀ i, i < 64 → w.cell? ⟨4, i, none⟩ = some (.int .u32 (ksL.getD i 0))) (hr : ORow w A L) (hL : L.length ≤ 9223372036854775807)
    (hw : ∀ x ∈ L, -9223372036854775808 ≤ x.1 ∧ x.1 ≤ 9223372036854775807) :
    Calls Tryz.prog 6 #[.int .i64 n0, .slice A L.length cp] w fun e w' => e = .returned (.bool true) ∧ Below w.heap.size w w' := by
  have HSH := Aside0.mk (shown_any w ht hks)
  have HR := Aside0.mk hr
  have HW := Aside0.mk hw
  clear ht hks hr hw
  go_enter Tryz.func6, Tryz.ntmps6
  go_wp2_with fail
  refine HSH.out.mono ?_
  rintro e w1 ⟨rfl, hb1⟩
  have HB1 := Aside0.mk hb1
  clear hb1 HSH
  dsimp only
  go_wp2_with fail
  by_cases hn : 1 ≤ n0 ∧ n0 ≤ 6
  · obtain ⟨n, rfl⟩ : ∃ n : Nat, n0 = n := ⟨n0.toNat, by omega⟩
    have hn1 : 1 ≤ n ∧ n ≤ 6 := by omega
    refine (New_yes (n : Int) hn w1).mono ?_
    rintro e w2 ⟨rfl, hd2, hb2⟩
    obtain ⟨px, hpx⟩ : ∃ px, px = w1.heap.size := ⟨_, rfl⟩
    rw [← hpx] at hd2 ⊢
    have HD2 := Aside0.mk hd2
    have HB2 := Aside0.mk (HB1.out.trans (hb2.mono HB1.out.size))
    have hlx : w.heap.size ≤ px := by rw [hpx]; exact HB1.out.size
    clear hd2 hb2 hpx hn
    dsimp only
    go_wp2_with fail
    refine (RNew_yes n hn1 w2).mono ?_
    rintro e w3 ⟨py, gs, gb, rfl, hy3, hp3, hs3, hgb3, hb3⟩
    have HD3 := Aside0.mk (blk_below HD2.out hb3)
    have HY3 := Aside0.mk hy3
    have HB3 := Aside0.mk (HB2.out.trans (hb3.mono HB2.out.size))
    have hl3 := Aside0.mk (And.intro (Nat.le_trans HB2.out.size hp3) (And.intro (Nat.le_trans HB2.out.size hs3) (Nat.le_trans HB2.out.size hgb3)))
    clear hy3 hp3 hs3 hgb3 hb3 HD2 HB2
    dsimp only
    go_wp2_with fail
    refine (BClone_any px n _ _ w3 HD3.out).mono ?_
    rintro e w4 ⟨pz, rfl, hpz, hz4, hb4⟩
    have HZ4 := Aside0.mk hz4
    have HB4 := Aside0.mk hb4
    have hpx4 := blk_lt HD3.out
    clear hz4 hb4
    dsimp only
    go_wp2_with fail
    refine (RClone_any py n gs gb n n hn1 _ _ w4 (HY3.out.below HB4.out)).mono ?_
    rintro e w5 ⟨pw, gs', gb', cs', cb', rfl, hv5, hp5, hs5, hgb5, hb5⟩
    have hy := HY3.out.lts
    have h34 := HB4.out.size
    have HBRD : Aside0 (Brd w w5 n px py pz pw (fun _ => false) (fun _ => false) (fun _ => false) (fun _ => false) gs gb n n gs' gb' cs' cb') := ⟨⟨blk_below (blk_below HD3.out HB4.out) hb5, (HY3.out.below HB4.out).below hb5, blk_below HZ4.out hb5, hv5, (HB3.out.trans (HB4.out.mono HB3.out.size)).trans (hb5.mono (Nat.le_trans HB3.out.size HB4.out.size)), hlx, hl3.out.1, hl3.out.2.1, hl3.out.2.2, by omega, by omega, by omega, by omega, by omega, by omega⟩⟩
    clear hv5 hp5 hs5 hgb5 hb5 hy h34 hpx4 hpz HZ4 HB4 HD3 HY3 HB3 hl3 HB1 hlx
    dsimp only
    go_wp2_with fail
    go_loopw [6, 8, 10, 11, 12] (fun v6 v8 v10 v11 v12 wr => ∃ (k px py pz pw gs gb cs cb gs' gb' cs' cb' : Nat) (s b s' b' : Nat → Bool), k ≤ L.length ∧ k ≤ 100 ∧ v6 = .pointer (some ⟨px, 0, none⟩) ∧ v8 = .pointer (some ⟨py, 0, none⟩) ∧ v10 = .pointer (some ⟨pz, 0, none⟩) ∧ v11 = .pointer (some ⟨pw, 0, none⟩) ∧ v12 = .int .i64 k ∧ Aside0 (Brd w wr n px py pz pw s b s' b' gs gb cs cb gs' gb' cs' cb')) (fun _ _ _ _ v _ => 100 - (intOf v).toNat)
    case atStart => exact ⟨0, px, py, pz, pw, gs, gb, n, n, gs', gb', cs', cb', _, _, _, _, Nat.zero_le _, Nat.zero_le _, rfl, rfl, rfl, rfl, rfl, HBRD⟩
    case round =>
      clear HBRD
      obtain ⟨k, px, py, pz, pw, gs, gb, cs, cb, gs', gb', cs', cb', s, b, s', b', hk, hk100, rfl, rfl, rfl, rfl, rfl, HI⟩ := hrel
      by_cases hlt : k < L.length
      · have hlti : (k : Int) < (L.length : Int) := by omega
        by_cases h100 : k < 100
        · have h100i : (k : Int) < 100 := by omega
          obtain ⟨ad, rfl, hcell⟩ := HR.out (by omega)
          obtain ⟨c0, c1, c2⟩ := hcell k L[k] (List.getElem?_eq_getElem hlt)
          have hw1 := HW.out L[k] (List.getElem_mem hlt)
          generalize L[k] = p at c0 c1 c2 hw1
          obtain ⟨kd, mb, on⟩ := p
          dsimp only at c0 c1 c2 hw1
          replace c0 := pw_cell_below HI.out.bel c0
          replace c1 := pw_cell_below HI.out.bel c1
          replace c2 := pw_cell_below HI.out.bel c2
          rw [← Addr.add_add] at c1 c2
          replace c1 : wr.cell? ⟨(ad.add (k * 3)).block, (ad.add (k * 3)).off + 1, none⟩ = some (.int .i64 mb) := c1
          replace c2 : wr.cell? ⟨(ad.add (k * 3)).block, (ad.add (k * 3)).off + 2, none⟩ = some (.bool on) := c2
          clear hcell HR HW
          have hn6 : (n : Int) ≤ 6 := by omega
          by_cases hkd : kd < 0
          · have hkb : decide (kd < 0) = true := decide_eq_true hkd
            go_wp2_with fail
            have HO := Aside0.mk (blk_new wr (.cells #[.int .i64 kd, .int .i64 mb, .bool on] 55))
            have HI2 := Aside0.mk (HI.out.below (below_alloc (Below.refl _ _) (.cells #[.int .i64 kd, .int .i64 mb, .bool on] 55)))
            have o1 := blk_cell HO.out 1
            have o2 := blk_cell HO.out 2
            simp only [List.getElem?_toArray, List.getElem?_cons_zero, List.getElem?_cons_succ] at o1 o2
            have hT := RThere_any py n gs gb cs cb mb s b _ HI2.out.y
            obtain ⟨r, hr⟩ : ∃ r : Int, (-(kd + 1)).tmod 6 = r := ⟨_, rfl⟩
            have hr0 : 0 ≤ r := by rw [← hr]; exact Int.tmod_nonneg _ (by omega)
            have hr6 : r < 6 := by rw [← hr]; exact Int.tmod_lt_of_pos _ (by decide)
            refine hT.mono ?_
            rintro e w6 ⟨rfl, rfl⟩
            clear hT
            dsimp only
            have hcase : r = 0 ∨ r = 1 ∨ r = 2 ∨ r = 3 ∨ r = 4 ∨ r = 5 := by omega
            clear hr0 hr6 c0 c1 c2
            rcases hcase with rfl | rfl | rfl | rfl | rfl | rfl
            · cases hin : isIn n mb with
              | true =>
                go_wp2_with fail
                refine (Sign_any px n mb on _ _ hn6 _ HI2.out.x).mono ?_
                rintro e w7 hc7
                obtain ⟨_, rfl, hw7⟩ : _ := hc7.resolve_left (fun h => by rw [hin] at h; cases h.1)
                clear hc7
                obtain ⟨h0, h1⟩ : 0 ≤ mb ∧ mb < n := by
                  unfold isIn at hin
                  simpa using hin
                obtain ⟨m, rfl⟩ : ∃ m : Nat, mb = m := ⟨mb.toNat, by omega⟩
                have hm : m < n := by omega
                have hm6 : m < 6 := by omega
                rw [Int.toNat_natCast] at hw7
                have HI3 : Aside0 (Brd w ((w7.drew).setCell ⟨gs, m, none⟩ (.bool on)) n px py pz pw (upd s m on) b s' b' gs gb cs cb gs' gb' cs' cb') := ⟨by rw [hw7]; exact HI2.out.sign m hm6 on⟩
                obtain ⟨t1, t2, t3⟩ := HI2.out.y.types HI2.out.x (by decide) (by decide)
                have e7 : ∀ q, q ≠ px → w7.heap[q]? = (wr.alloc (.cells #[.int .i64 kd, .int .i64 (m : Int), .bool on] 55)).heap[q]? := fun q hq => by rw [hw7]; exact Below.heap_setCell _ _ _ q hq
                have hpo : wr.heap.size ≠ px := fun e => absurd (blk_lt HI.out.x) (by omega)
                have y0 := blk_cell ((e7 py (Ne.symm t1)).trans HI2.out.y.pt) 0
                have o1 := blk_cell ((e7 wr.heap.size hpo).trans HO.out) 1
                have o2 := blk_cell ((e7 wr.heap.size hpo).trans HO.out) 2
                simp only [List.getElem?_toArray, List.getElem?_cons_zero, List.getElem?_cons_succ] at y0 o1 o2
                have hrow : TRow w7 gs n s := HI2.out.y.ss.keep fun _ ho => (e7 gs (Ne.symm t2)).trans ho
                obtain ⟨r0, r1⟩ := hrow.cell m hm
                have hmi : (m : Int) < (n : Int) := by omega
                clear hin HI2 t1 t2 t3 e7 hrow hw7 h0 h1
                dsimp only
                go_wp2_with fail
                refine start_ (n := 10) (S := fun w' => w'.cell? ⟨py, 0, none⟩ = some (.slice (some ⟨gs, 0, none⟩) n cs) ∧ w'.cell? ⟨wr.heap.size, 1, none⟩ = some (.int .i64 (m : Int)) ∧ w'.cell? ⟨wr.heap.size, 2, none⟩ = some (.bool on)) (ds := [9]) #[false, false, false, false, false, false, false, false, false, false] (by kernel_rfl) rfl rfl ⟨y0, o1, o2⟩ (fun hHeld => ?_)
                refine pure_ (i := 0) (N := some 95) (v := ?_) (a' := ?_) #[true, false, false, false, false, false, false, false, false, false] rfl rfl (by kernel_rfl) (fun _ _ _ h => h) (Or.inl ⟨by rfl, ?_⟩) ?_ ?_
                rotate_left
                · intro w'
                  go_simp
                  with_reducible rfl
                rotate_left
                · simp only [Act.put, List.setIfInBounds_toArray, List.set_cons_zero, List.set_cons_succ]
                  rfl
                refine pure_ (i := 1) (N := some 96) (v := ?_) (a' := ?_) #[true, true, false, false, false, false, false, false, false, false] rfl rfl (by kernel_rfl) (fun _ _ _ h => h) (Or.inl ⟨by rfl, ?_⟩) ?_ ?_
                rotate_left
                · intro w'
                  go_simp
                  with_reducible rfl
                rotate_left
                · simp only [Act.put, List.setIfInBounds_toArray, List.set_cons_zero, List.set_cons_succ]
                  rfl
                refine pure_ (i := 2) (N := some 97) (v := ?_) (a' := ?_) #[true, true, true, false, false, false, false, false, false, false] rfl rfl (by kernel_rfl) (fun _ _ _ h => h) (Or.inl ⟨by rfl, ?_⟩) ?_ ?_
                rotate_left
                · intro w'
                  go_simp
                  with_reducible rfl
                rotate_left
                · simp only [Act.put, List.setIfInBounds_toArray, List.set_cons_zero, List.set_cons_succ]
                  rfl
                refine pure_ (i := 4) (N := some 99) (v := ?_) (a' := ?_) #[true, true, true, false, true, false, false, false, false, false] rfl rfl (by kernel_rfl) (fun _ _ _ h => h) (Or.inl ⟨by rfl, ?_⟩) ?_ ?_
                rotate_left
                · intro w'
                  go_simp
                  with_reducible rfl
                rotate_left
                · simp only [Act.put, List.setIfInBounds_toArray, List.set_cons_zero, List.set_cons_succ]
                  rfl
                refine pure_ (i := 6) (N := some 101) (v := ?_) (a' := ?_) #[true, true, true, false, true, false, true, false, false, false] rfl rfl (by kernel_rfl) (fun _ _ _ h => h) (Or.inl ⟨by rfl, ?_⟩) ?_ ?_
                rotate_left
                · intro w'
                  go_simp
                  with_reducible rfl
                rotate_left
                · simp only [Act.put, List.setIfInBounds_toArray, List.set_cons_zero, List.set_cons_succ]
                  rfl
                refine take_ (i := 3) (N := some 98) (v := ?_) (a' := ?_) #[true, true, true, true, true, false, true, false, false, false] rfl rfl (by kernel_rfl) (fun _ _ _ h => h) (Or.inl ⟨by rfl, ?_⟩) hHeld ?_ ?_
                rotate_left
                · rintro w' ⟨s0, s1, s2⟩
                  go_simp
                  with_reducible rfl
                rotate_left
                · simp only [Act.put, List.setIfInBounds_toArray, List.set_cons_zero, List.set_cons_succ]
                  rfl
                refine take_ (i := 5) (N := some 100) (v := ?_) (a' := ?_) #[true, true, true, true, true, true, true, false, false, false] rfl rfl (by kernel_rfl) (fun _ _ _ h => h) (Or.inl ⟨by rfl, ?_⟩) hHeld ?_ ?_
                rotate_left
                · rintro w' ⟨s0, s1, s2⟩
                  go_simp
                  with_reducible rfl
                rotate_left
                · simp only [Act.put, List.setIfInBounds_toArray, List.set_cons_zero, List.set_cons_succ]
                  rfl
                refine take_ (i := 7) (N := some 102) (v := ?_) (a' := ?_) #[true, true, true, true, true, true, true, true, false, false] rfl rfl (by kernel_rfl) (fun _ _ _ h => h) (Or.inl ⟨by rfl, ?_⟩) hHeld ?_ ?_
                rotate_left
                · rintro w' ⟨s0, s1, s2⟩
                  go_simp
                  with_reducible rfl
                rotate_left
                · simp only [Act.put, List.setIfInBounds_toArray, List.set_cons_zero, List.set_cons_succ]
                  rfl
                refine pure_ (i := 8) (N := some 103) (v := ?_) (a' := ?_) #[true, true, true, true, true, true, true, true, true, false] rfl rfl (by kernel_rfl) (fun _ _ _ h => h) (Or.inl ⟨by rfl, ?_⟩) ?_ ?_
                rotate_left
                · intro w'
                  go_simp
                  with_reducible rfl
                rotate_left
                · simp only [Act.put, List.setIfInBounds_toArray, List.set_cons_zero, List.set_cons_succ]
                  rfl
                refine last_ (i := 9) (N := none) #[true, true, true, true, true, true, true, true, true, true] rfl rfl (by kernel_rfl) (by decide) (fun K hK => ?_)
                refine skip_ (w1 := ?_) (by rfl) rfl ?_ ?_
                rotate_left
                · go_simp
                  rfl
                refine hK.out _ _ ?_
                clear hK K
                refine done_ (by kernel_rfl) ?_

                go_wp2_with fail
                refine (like_any px py n gs gb cs cb hn1 _ _ _ HI3.out.x HI3.out.y).mono ?_
                rintro e w9 ⟨rfl, hb9⟩
                have HI4 := Aside0.mk (HI3.out.below hb9)
                clear HI3 hb9
                dsimp only
                go_wp2_with fail
                refine (like_any pz pw n gs' gb' cs' cb' hn1 _ _ _ HI4.out.z HI4.out.v).mono ?_
                rintro e w10 ⟨rfl, hb10⟩
                have HI5 := Aside0.mk (HI4.out.below hb10)
                clear HI4 hb10
                dsimp only
                go_wp2_with fail
                exact ⟨⟨k + 1, px, py, pz, pw, gs, gb, cs, cb, gs', gb', cs', cb', upd s m on, b, s', b', by omega, by omega, rfl, rfl, rfl, rfl, by rfl, HI5⟩, by simp only [intOf]; omega⟩
              | false =>
                go_wp2_with fail
                refine (Sign_any px n mb on _ _ hn6 _ HI2.out.x).mono ?_
                rintro e w7 hc7
                obtain ⟨_, rfl, rfl⟩ : _ := hc7.resolve_right (fun h => by rw [hin] at h; cases h.1)
                clear hc7
                have HI3 := HI2
                clear HI2
                dsimp only
                go_wp2_with fail
                refine (like_any px py n gs gb cs cb hn1 _ _ _ HI3.out.x HI3.out.y).mono ?_
                rintro e w9 ⟨rfl, hb9⟩
                have HI4 := Aside0.mk (HI3.out.below hb9)
                clear HI3 hb9
                dsimp only
                go_wp2_with fail
                refine (like_any pz pw n gs' gb' cs' cb' hn1 _ _ _ HI4.out.z HI4.out.v).mono ?_
                rintro e w10 ⟨rfl, hb10⟩
                have HI5 := Aside0.mk (HI4.out.below hb10)
                clear HI4 hb10
                dsimp only
                go_wp2_with fail
                exact ⟨⟨k + 1, px, py, pz, pw, gs, gb, cs, cb, gs', gb', cs', cb', s, b, s', b', by omega, by omega, rfl, rfl, rfl, rfl, by rfl, HI5⟩, by simp only [intOf]; omega⟩
            · cases hin : isIn n mb with
              | true =>
                go_wp2_with fail
                refine (Sign_any px n mb on _ _ hn6 _ HI2.out.x).mono ?_
                rintro e w7 hc7
                obtain ⟨_, rfl, hw7⟩ : _ := hc7.resolve_left (fun h => by rw [hin] at h; cases h.1)
                clear hc7
                obtain ⟨h0, h1⟩ : 0 ≤ mb ∧ mb < n := by
                  unfold isIn at hin
                  simpa using hin
                obtain ⟨m, rfl⟩ : ∃ m : Nat, mb = m := ⟨mb.toNat, by omega⟩
                have hm : m < n := by omega
                have hm6 : m < 6 := by omega
                rw [Int.toNat_natCast] at hw7
                have HI3 : Aside0 (Brd w ((w7.drew).setCell ⟨gs, m, none⟩ (.bool on)) n px py pz pw (upd s m on) b s' b' gs gb cs cb gs' gb' cs' cb') := ⟨by rw [hw7]; exact HI2.out.sign m hm6 on⟩
                obtain ⟨t1, t2, t3⟩ := HI2.out.y.types HI2.out.x (by decide) (by decide)
                have e7 : ∀ q, q ≠ px → w7.heap[q]? = (wr.alloc (.cells #[.int .i64 kd, .int .i64 (m : Int), .bool on] 55)).heap[q]? := fun q hq => by rw [hw7]; exact Below.heap_setCell _ _ _ q hq
                have hpo : wr.heap.size ≠ px := fun e => absurd (blk_lt HI.out.x) (by omega)
                have y0 := blk_cell ((e7 py (Ne.symm t1)).trans HI2.out.y.pt) 0
                have o1 := blk_cell ((e7 wr.heap.size hpo).trans HO.out) 1
                have o2 := blk_cell ((e7 wr.heap.size hpo).trans HO.out) 2
                simp only [List.getElem?_toArray, List.getElem?_cons_zero, List.getElem?_cons_succ] at y0 o1 o2
                have hrow : TRow w7 gs n s := HI2.out.y.ss.keep fun _ ho => (e7 gs (Ne.symm t2)).trans ho
                obtain ⟨r0, r1⟩ := hrow.cell m hm
                have hmi : (m : Int) < (n : Int) := by omega
                clear hin HI2 t1 t2 t3 e7 hrow hw7 h0 h1
                dsimp only
                go_wp2_with fail
                refine start_ (n := 10) (S := fun w' => w'.cell? ⟨py, 0, none⟩ = some (.slice (some ⟨gs, 0, none⟩) n cs) ∧ w'.cell? ⟨wr.heap.size, 1, none⟩ = some (.int .i64 (m : Int)) ∧ w'.cell? ⟨wr.heap.size, 2, none⟩ = some (.bool on)) (ds := [9]) #[false, false, false, false, false, false, false, false, false, false] (by kernel_rfl) rfl rfl ⟨y0, o1, o2⟩ (fun hHeld => ?_)
                refine pure_ (i := 0) (N := some 95) (v := ?_) (a' := ?_) #[true, false, false, false, false, false, false, false, false, false] rfl rfl (by kernel_rfl) (fun _ _ _ h => h) (Or.inl ⟨by rfl, ?_⟩) ?_ ?_
                rotate_left
                · intro w'
                  go_simp
                  with_reducible rfl
                rotate_left
                · simp only [Act.put, List.setIfInBounds_toArray, List.set_cons_zero, List.set_cons_succ]
                  rfl
                refine pure_ (i := 1) (N := some 96) (v := ?_) (a' := ?_) #[true, true, false, false, false, false, false, false, false, false] rfl rfl (by kernel_rfl) (fun _ _ _ h => h) (Or.inl ⟨by rfl, ?_⟩) ?_ ?_
                rotate_left
                · intro w'
                  go_simp
                  with_reducible rfl
                rotate_left
                · simp only [Act.put, List.setIfInBounds_toArray, List.set_cons_zero, List.set_cons_succ]
                  rfl
                refine pure_ (i := 2) (N := some 97) (v := ?_) (a' := ?_) #[true, true, true, false, false, false, false, false, false, false] rfl rfl (by kernel_rfl) (fun _ _ _ h => h) (Or.inl ⟨by rfl, ?_⟩) ?_ ?_
                rotate_left
                · intro w'
                  go_simp
                  with_reducible rfl
                rotate_left
                · simp only [Act.put, List.setIfInBounds_toArray, List.set_cons_zero, List.set_cons_succ]
                  rfl
                refine pure_ (i := 4) (N := some 99) (v := ?_) (a' := ?_) #[true, true, true, false, true, false, false, false, false, false] rfl rfl (by kernel_rfl) (fun _ _ _ h => h) (Or.inl ⟨by rfl, ?_⟩) ?_ ?_
                rotate_left
                · intro w'
                  go_simp
                  with_reducible rfl
                rotate_left
                · simp only [Act.put, List.setIfInBounds_toArray, List.set_cons_zero, List.set_cons_succ]
                  rfl
                refine pure_ (i := 6) (N := some 101) (v := ?_) (a' := ?_) #[true, true, true, false, true, false, true, false, false, false] rfl rfl (by kernel_rfl) (fun _ _ _ h => h) (Or.inl ⟨by rfl, ?_⟩) ?_ ?_
                rotate_left
                · intro w'
                  go_simp
                  with_reducible rfl
                rotate_left
                · simp only [Act.put, List.setIfInBounds_toArray, List.set_cons_zero, List.set_cons_succ]
                  rfl
                refine take_ (i := 3) (N := some 98) (v := ?_) (a' := ?_) #[true, true, true, true, true, false, true, false, false, false] rfl rfl (by kernel_rfl) (fun _ _ _ h => h) (Or.inl ⟨by rfl, ?_⟩) hHeld ?_ ?_
                rotate_left
                · rintro w' ⟨s0, s1, s2⟩
                  go_simp
                  with_reducible rfl
                rotate_left
                · simp only [Act.put, List.setIfInBounds_toArray, List.set_cons_zero, List.set_cons_succ]
                  rfl
                refine take_ (i := 5) (N := some 100) (v := ?_) (a' := ?_) #[true, true, true, true, true, true, true, false, false, false] rfl rfl (by kernel_rfl) (fun _ _ _ h => h) (Or.inl ⟨by rfl, ?_⟩) hHeld ?_ ?_
                rotate_left
                · rintro w' ⟨s0, s1, s2⟩
                  go_simp
                  with_reducible rfl
                rotate_left
                · simp only [Act.put, List.setIfInBounds_toArray, List.set_cons_zero, List.set_cons_succ]
                  rfl
                refine take_ (i := 7) (N := some 102) (v := ?_) (a' := ?_) #[true, true, true, true, true, true, true, true, false, false] rfl rfl (by kernel_rfl) (fun _ _ _ h => h) (Or.inl ⟨by rfl, ?_⟩) hHeld ?_ ?_
                rotate_left
                · rintro w' ⟨s0, s1, s2⟩
                  go_simp
                  with_reducible rfl
                rotate_left
                · simp only [Act.put, List.setIfInBounds_toArray, List.set_cons_zero, List.set_cons_succ]
                  rfl
                refine pure_ (i := 8) (N := some 103) (v := ?_) (a' := ?_) #[true, true, true, true, true, true, true, true, true, false] rfl rfl (by kernel_rfl) (fun _ _ _ h => h) (Or.inl ⟨by rfl, ?_⟩) ?_ ?_
                rotate_left
                · intro w'
                  go_simp
                  with_reducible rfl
                rotate_left
                · simp only [Act.put, List.setIfInBounds_toArray, List.set_cons_zero, List.set_cons_succ]
                  rfl
                refine last_ (i := 9) (N := none) #[true, true, true, true, true, true, true, true, true, true] rfl rfl (by kernel_rfl) (by decide) (fun K hK => ?_)
                refine skip_ (w1 := ?_) (by rfl) rfl ?_ ?_
                rotate_left
                · go_simp
                  rfl
                refine hK.out _ _ ?_
                clear hK K
                refine done_ (by kernel_rfl) ?_

                go_wp2_with fail
                refine (like_any px py n gs gb cs cb hn1 _ _ _ HI3.out.x HI3.out.y).mono ?_
                rintro e w9 ⟨rfl, hb9⟩
                have HI4 := Aside0.mk (HI3.out.below hb9)
                clear HI3 hb9
                dsimp only
                go_wp2_with fail
                refine (like_any pz pw n gs' gb' cs' cb' hn1 _ _ _ HI4.out.z HI4.out.v).mono ?_
                rintro e w10 ⟨rfl, hb10⟩
                have HI5 := Aside0.mk (HI4.out.below hb10)
                clear HI4 hb10
                dsimp only
                go_wp2_with fail
                exact ⟨⟨k + 1, px, py, pz, pw, gs, gb, cs, cb, gs', gb', cs', cb', upd s m on, b, s', b', by omega, by omega, rfl, rfl, rfl, rfl, by rfl, HI5⟩, by simp only [intOf]; omega⟩
              | false =>
                go_wp2_with fail
                refine (Sign_any px n mb on _ _ hn6 _ HI2.out.x).mono ?_
                rintro e w7 hc7
                obtain ⟨_, rfl, rfl⟩ : _ := hc7.resolve_right (fun h => by rw [hin] at h; cases h.1)
                clear hc7
                have HI3 := HI2
                clear HI2
                dsimp only
                go_wp2_with fail
                refine (like_any px py n gs gb cs cb hn1 _ _ _ HI3.out.x HI3.out.y).mono ?_
                rintro e w9 ⟨rfl, hb9⟩
                have HI4 := Aside0.mk (HI3.out.below hb9)
                clear HI3 hb9
                dsimp only
                go_wp2_with fail
                refine (like_any pz pw n gs' gb' cs' cb' hn1 _ _ _ HI4.out.z HI4.out.v).mono ?_
                rintro e w10 ⟨rfl, hb10⟩
                have HI5 := Aside0.mk (HI4.out.below hb10)
                clear HI4 hb10
                dsimp only
                go_wp2_with fail
                exact ⟨⟨k + 1, px, py, pz, pw, gs, gb, cs, cb, gs', gb', cs', cb', s, b, s', b', by omega, by omega, rfl, rfl, rfl, rfl, by rfl, HI5⟩, by simp only [intOf]; omega⟩
            · cases hin : isIn n mb with
              | true =>
                go_wp2_with fail
                refine (Block_any px n mb on _ _ hn6 _ HI2.out.x).mono ?_
                rintro e w7 hc7
                obtain ⟨_, rfl, hw7⟩ : _ := hc7.resolve_left (fun h => by rw [hin] at h; cases h.1)
                clear hc7
                obtain ⟨h0, h1⟩ : 0 ≤ mb ∧ mb < n := by
                  unfold isIn at hin
                  simpa using hin
                obtain ⟨m, rfl⟩ : ∃ m : Nat, mb = m := ⟨mb.toNat, by omega⟩
                have hm : m < n := by omega
                have hm6 : m < 6 := by omega
                rw [Int.toNat_natCast] at hw7
                have HI3 : Aside0 (Brd w ((w7.drew).setCell ⟨gb, m, none⟩ (.bool on)) n px py pz pw s (upd b m on) s' b' gs gb cs cb gs' gb' cs' cb') := ⟨by rw [hw7]; exact HI2.out.block m hm6 on⟩
                obtain ⟨t1, t2, t3⟩ := HI2.out.y.types HI2.out.x (by decide) (by decide)
                have e7 : ∀ q, q ≠ px → w7.heap[q]? = (wr.alloc (.cells #[.int .i64 kd, .int .i64 (m : Int), .bool on] 55)).heap[q]? := fun q hq => by rw [hw7]; exact Below.heap_setCell _ _ _ q hq
                have hpo : wr.heap.size ≠ px := fun e => absurd (blk_lt HI.out.x) (by omega)
                have y0 := blk_cell ((e7 py (Ne.symm t1)).trans HI2.out.y.pt) 1
                have o1 := blk_cell ((e7 wr.heap.size hpo).trans HO.out) 1
                have o2 := blk_cell ((e7 wr.heap.size hpo).trans HO.out) 2
                simp only [List.getElem?_toArray, List.getElem?_cons_zero, List.getElem?_cons_succ] at y0 o1 o2
                have hrow : TRow w7 gb n b := HI2.out.y.bb.keep fun _ ho => (e7 gb (Ne.symm t3)).trans ho
                obtain ⟨r0, r1⟩ := hrow.cell m hm
                have hmi : (m : Int) < (n : Int) := by omega
                clear hin HI2 t1 t2 t3 e7 hrow hw7 h0 h1
                dsimp only
                go_wp2_with fail
                refine start_ (n := 10) (S := fun w' => w'.cell? ⟨py, 1, none⟩ = some (.slice (some ⟨gb, 0, none⟩) n cb) ∧ w'.cell? ⟨wr.heap.size, 1, none⟩ = some (.int .i64 (m : Int)) ∧ w'.cell? ⟨wr.heap.size, 2, none⟩ = some (.bool on)) (ds := [9]) #[false, false, false, false, false, false, false, false, false, false] (by kernel_rfl) rfl rfl ⟨y0, o1, o2⟩ (fun hHeld => ?_)
                refine pure_ (i := 0) (N := some 118) (v := ?_) (a' := ?_) #[true, false, false, false, false, false, false, false, false, false] rfl rfl (by kernel_rfl) (fun _ _ _ h => h) (Or.inl ⟨by rfl, ?_⟩) ?_ ?_
                rotate_left
                · intro w'
                  go_simp
                  with_reducible rfl
                rotate_left
                · simp only [Act.put, List.setIfInBounds_toArray, List.set_cons_zero, List.set_cons_succ]
                  rfl
                refine pure_ (i := 1) (N := some 119) (v := ?_) (a' := ?_) #[true, true, false, false, false, false, false, false, false, false] rfl rfl (by kernel_rfl) (fun _ _ _ h => h) (Or.inl ⟨by rfl, ?_⟩) ?_ ?_
                rotate_left
                · intro w'
                  go_simp
                  with_reducible rfl
                rotate_left
                · simp only [Act.put, List.setIfInBounds_toArray, List.set_cons_zero, List.set_cons_succ]
                  rfl
                refine pure_ (i := 2) (N := some 120) (v := ?_) (a' := ?_) #[true, true, true, false, false, false, false, false, false, false] rfl rfl (by kernel_rfl) (fun _ _ _ h => h) (Or.inl ⟨by rfl, ?_⟩) ?_ ?_
                rotate_left
                · intro w'
                  go_simp
                  with_reducible rfl
                rotate_left
                · simp only [Act.put, List.setIfInBounds_toArray, List.set_cons_zero, List.set_cons_succ]
                  rfl
                refine pure_ (i := 4) (N := some 122) (v := ?_) (a' := ?_) #[true, true, true, false, true, false, false, false, false, false] rfl rfl (by kernel_rfl) (fun _ _ _ h => h) (Or.inl ⟨by rfl, ?_⟩) ?_ ?_
                rotate_left
                · intro w'
                  go_simp
                  with_reducible rfl
                rotate_left
                · simp only [Act.put, List.setIfInBounds_toArray, List.set_cons_zero, List.set_cons_succ]
                  rfl
                refine pure_ (i := 6) (N := some 124) (v := ?_) (a' := ?_) #[true, true, true, false, true, false, true, false, false, false] rfl rfl (by kernel_rfl) (fun _ _ _ h => h) (Or.inl ⟨by rfl, ?_⟩) ?_ ?_
                rotate_left
                · intro w'
                  go_simp
                  with_reducible rfl
                rotate_left
                · simp only [Act.put, List.setIfInBounds_toArray, List.set_cons_zero, List.set_cons_succ]
                  rfl
                refine take_ (i := 3) (N := some 121) (v := ?_) (a' := ?_) #[true, true, true, true, true, false, true, false, false, false] rfl rfl (by kernel_rfl) (fun _ _ _ h => h) (Or.inl ⟨by rfl, ?_⟩) hHeld ?_ ?_
                rotate_left
                · rintro w' ⟨s0, s1, s2⟩
                  go_simp
                  with_reducible rfl
                rotate_left
                · simp only [Act.put, List.setIfInBounds_toArray, List.set_cons_zero, List.set_cons_succ]
                  rfl
                refine take_ (i := 5) (N := some 123) (v := ?_) (a' := ?_) #[true, true, true, true, true, true, true, false, false, false] rfl rfl (by kernel_rfl) (fun _ _ _ h => h) (Or.inl ⟨by rfl, ?_⟩) hHeld ?_ ?_
                rotate_left
                · rintro w' ⟨s0, s1, s2⟩
                  go_simp
                  with_reducible rfl
                rotate_left
                · simp only [Act.put, List.setIfInBounds_toArray, List.set_cons_zero, List.set_cons_succ]
                  rfl
                refine take_ (i := 7) (N := some 125) (v := ?_) (a' := ?_) #[true, true, true, true, true, true, true, true, false, false] rfl rfl (by kernel_rfl) (fun _ _ _ h => h) (Or.inl ⟨by rfl, ?_⟩) hHeld ?_ ?_
                rotate_left
                · rintro w' ⟨s0, s1, s2⟩
                  go_simp
                  with_reducible rfl
                rotate_left
                · simp only [Act.put, List.setIfInBounds_toArray, List.set_cons_zero, List.set_cons_succ]
                  rfl
                refine pure_ (i := 8) (N := some 126) (v := ?_) (a' := ?_) #[true, true, true, true, true, true, true, true, true, false] rfl rfl (by kernel_rfl) (fun _ _ _ h => h) (Or.inl ⟨by rfl, ?_⟩) ?_ ?_
                rotate_left
                · intro w'
                  go_simp
                  with_reducible rfl
                rotate_left
                · simp only [Act.put, List.setIfInBounds_toArray, List.set_cons_zero, List.set_cons_succ]
                  rfl
                refine last_ (i := 9) (N := none) #[true, true, true, true, true, true, true, true, true, true] rfl rfl (by kernel_rfl) (by decide) (fun K hK => ?_)
                refine skip_ (w1 := ?_) (by rfl) rfl ?_ ?_
                rotate_left
                · go_simp
                  rfl
                refine hK.out _ _ ?_
                clear hK K
                refine done_ (by kernel_rfl) ?_

                go_wp2_with fail
                refine (like_any px py n gs gb cs cb hn1 _ _ _ HI3.out.x HI3.out.y).mono ?_
                rintro e w9 ⟨rfl, hb9⟩
                have HI4 := Aside0.mk (HI3.out.below hb9)
                clear HI3 hb9
                dsimp only
                go_wp2_with fail
                refine (like_any pz pw n gs' gb' cs' cb' hn1 _ _ _ HI4.out.z HI4.out.v).mono ?_
                rintro e w10 ⟨rfl, hb10⟩
                have HI5 := Aside0.mk (HI4.out.below hb10)
                clear HI4 hb10
                dsimp only
                go_wp2_with fail
                exact ⟨⟨k + 1, px, py, pz, pw, gs, gb, cs, cb, gs', gb', cs', cb', s, upd b m on, s', b', by omega, by omega, rfl, rfl, rfl, rfl, by rfl, HI5⟩, by simp only [intOf]; omega⟩
              | false =>
                go_wp2_with fail
                refine (Block_any px n mb on _ _ hn6 _ HI2.out.x).mono ?_
                rintro e w7 hc7
                obtain ⟨_, rfl, rfl⟩ : _ := hc7.resolve_right (fun h => by rw [hin] at h; cases h.1)
                clear hc7
                have HI3 := HI2
                clear HI2
                dsimp only
                go_wp2_with fail
                refine (like_any px py n gs gb cs cb hn1 _ _ _ HI3.out.x HI3.out.y).mono ?_
                rintro e w9 ⟨rfl, hb9⟩
                have HI4 := Aside0.mk (HI3.out.below hb9)
                clear HI3 hb9
                dsimp only
                go_wp2_with fail
                refine (like_any pz pw n gs' gb' cs' cb' hn1 _ _ _ HI4.out.z HI4.out.v).mono ?_
                rintro e w10 ⟨rfl, hb10⟩
                have HI5 := Aside0.mk (HI4.out.below hb10)
                clear HI4 hb10
                dsimp only
                go_wp2_with fail
                exact ⟨⟨k + 1, px, py, pz, pw, gs, gb, cs, cb, gs', gb', cs', cb', s, b, s', b', by omega, by omega, rfl, rfl, rfl, rfl, by rfl, HI5⟩, by simp only [intOf]; omega⟩
            · cases hin : isIn n mb with
              | true =>
                go_wp2_with fail
                refine (Block_any px n mb on _ _ hn6 _ HI2.out.x).mono ?_
                rintro e w7 hc7
                obtain ⟨_, rfl, hw7⟩ : _ := hc7.resolve_left (fun h => by rw [hin] at h; cases h.1)
                clear hc7
                obtain ⟨h0, h1⟩ : 0 ≤ mb ∧ mb < n := by
                  unfold isIn at hin
                  simpa using hin
                obtain ⟨m, rfl⟩ : ∃ m : Nat, mb = m := ⟨mb.toNat, by omega⟩
                have hm : m < n := by omega
                have hm6 : m < 6 := by omega
                rw [Int.toNat_natCast] at hw7
                have HI3 : Aside0 (Brd w ((w7.drew).setCell ⟨gb, m, none⟩ (.bool on)) n px py pz pw s (upd b m on) s' b' gs gb cs cb gs' gb' cs' cb') := ⟨by rw [hw7]; exact HI2.out.block m hm6 on⟩
                obtain ⟨t1, t2, t3⟩ := HI2.out.y.types HI2.out.x (by decide) (by decide)
                have e7 : ∀ q, q ≠ px → w7.heap[q]? = (wr.alloc (.cells #[.int .i64 kd, .int .i64 (m : Int), .bool on] 55)).heap[q]? := fun q hq => by rw [hw7]; exact Below.heap_setCell _ _ _ q hq
                have hpo : wr.heap.size ≠ px := fun e => absurd (blk_lt HI.out.x) (by omega)
                have y0 := blk_cell ((e7 py (Ne.symm t1)).trans HI2.out.y.pt) 1
                have o1 := blk_cell ((e7 wr.heap.size hpo).trans HO.out) 1
                have o2 := blk_cell ((e7 wr.heap.size hpo).trans HO.out) 2
                simp only [List.getElem?_toArray, List.getElem?_cons_zero, List.getElem?_cons_succ] at y0 o1 o2
                have hrow : TRow w7 gb n b := HI2.out.y.bb.keep fun _ ho => (e7 gb (Ne.symm t3)).trans ho
                obtain ⟨r0, r1⟩ := hrow.cell m hm
                have hmi : (m : Int) < (n : Int) := by omega
                clear hin HI2 t1 t2 t3 e7 hrow hw7 h0 h1
                dsimp only
                go_wp2_with fail
                refine start_ (n := 10) (S := fun w' => w'.cell? ⟨py, 1, none⟩ = some (.slice (some ⟨gb, 0, none⟩) n cb) ∧ w'.cell? ⟨wr.heap.size, 1, none⟩ = some (.int .i64 (m : Int)) ∧ w'.cell? ⟨wr.heap.size, 2, none⟩ = some (.bool on)) (ds := [9]) #[false, false, false, false, false, false, false, false, false, false] (by kernel_rfl) rfl rfl ⟨y0, o1, o2⟩ (fun hHeld => ?_)
                refine pure_ (i := 0) (N := some 118) (v := ?_) (a' := ?_) #[true, false, false, false, false, false, false, false, false, false] rfl rfl (by kernel_rfl) (fun _ _ _ h => h) (Or.inl ⟨by rfl, ?_⟩) ?_ ?_
                rotate_left
                · intro w'
                  go_simp
                  with_reducible rfl
                rotate_left
                · simp only [Act.put, List.setIfInBounds_toArray, List.set_cons_zero, List.set_cons_succ]
                  rfl
                refine pure_ (i := 1) (N := some 119) (v := ?_) (a' := ?_) #[true, true, false, false, false, false, false, false, false, false] rfl rfl (by kernel_rfl) (fun _ _ _ h => h) (Or.inl ⟨by rfl, ?_⟩) ?_ ?_
                rotate_left
                · intro w'
                  go_simp
                  with_reducible rfl
                rotate_left
                · simp only [Act.put, List.setIfInBounds_toArray, List.set_cons_zero, List.set_cons_succ]
                  rfl
                refine pure_ (i := 2) (N := some 120) (v := ?_) (a' := ?_) #[true, true, true, false, false, false, false, false, false, false] rfl rfl (by kernel_rfl) (fun _ _ _ h => h) (Or.inl ⟨by rfl, ?_⟩) ?_ ?_
                rotate_left
                · intro w'
                  go_simp
                  with_reducible rfl
                rotate_left
                · simp only [Act.put, List.setIfInBounds_toArray, List.set_cons_zero, List.set_cons_succ]
                  rfl
                refine pure_ (i := 4) (N := some 122) (v := ?_) (a' := ?_) #[true, true, true, false, true, false, false, false, false, false] rfl rfl (by kernel_rfl) (fun _ _ _ h => h) (Or.inl ⟨by rfl, ?_⟩) ?_ ?_
                rotate_left
                · intro w'
                  go_simp
                  with_reducible rfl
                rotate_left
                · simp only [Act.put, List.setIfInBounds_toArray, List.set_cons_zero, List.set_cons_succ]
                  rfl
                refine pure_ (i := 6) (N := some 124) (v := ?_) (a' := ?_) #[true, true, true, false, true, false, true, false, false, false] rfl rfl (by kernel_rfl) (fun _ _ _ h => h) (Or.inl ⟨by rfl, ?_⟩) ?_ ?_
                rotate_left
                · intro w'
                  go_simp
                  with_reducible rfl
                rotate_left
                · simp only [Act.put, List.setIfInBounds_toArray, List.set_cons_zero, List.set_cons_succ]
                  rfl
                refine take_ (i := 3) (N := some 121) (v := ?_) (a' := ?_) #[true, true, true, true, true, false, true, false, false, false] rfl rfl (by kernel_rfl) (fun _ _ _ h => h) (Or.inl ⟨by rfl, ?_⟩) hHeld ?_ ?_
                rotate_left
                · rintro w' ⟨s0, s1, s2⟩
                  go_simp
                  with_reducible rfl
                rotate_left
                · simp only [Act.put, List.setIfInBounds_toArray, List.set_cons_zero, List.set_cons_succ]
                  rfl
                refine take_ (i := 5) (N := some 123) (v := ?_) (a' := ?_) #[true, true, true, true, true, true, true, false, false, false] rfl rfl (by kernel_rfl) (fun _ _ _ h => h) (Or.inl ⟨by rfl, ?_⟩) hHeld ?_ ?_
                rotate_left
                · rintro w' ⟨s0, s1, s2⟩
                  go_simp
                  with_reducible rfl
                rotate_left
                · simp only [Act.put, List.setIfInBounds_toArray, List.set_cons_zero, List.set_cons_succ]
                  rfl
                refine take_ (i := 7) (N := some 125) (v := ?_) (a' := ?_) #[true, true, true, true, true, true, true, true, false, false] rfl rfl (by kernel_rfl) (fun _ _ _ h => h) (Or.inl ⟨by rfl, ?_⟩) hHeld ?_ ?_
                rotate_left
                · rintro w' ⟨s0, s1, s2⟩
                  go_simp
                  with_reducible rfl
                rotate_left
                · simp only [Act.put, List.setIfInBounds_toArray, List.set_cons_zero, List.set_cons_succ]
                  rfl
                refine pure_ (i := 8) (N := some 126) (v := ?_) (a' := ?_) #[true, true, true, true, true, true, true, true, true, false] rfl rfl (by kernel_rfl) (fun _ _ _ h => h) (Or.inl ⟨by rfl, ?_⟩) ?_ ?_
                rotate_left
                · intro w'
                  go_simp
                  with_reducible rfl
                rotate_left
                · simp only [Act.put, List.setIfInBounds_toArray, List.set_cons_zero, List.set_cons_succ]
                  rfl
                refine last_ (i := 9) (N := none) #[true, true, true, true, true, true, true, true, true, true] rfl rfl (by kernel_rfl) (by decide) (fun K hK => ?_)
                refine skip_ (w1 := ?_) (by rfl) rfl ?_ ?_
                rotate_left
                · go_simp
                  rfl
                refine hK.out _ _ ?_
                clear hK K
                refine done_ (by kernel_rfl) ?_

                go_wp2_with fail
                refine (like_any px py n gs gb cs cb hn1 _ _ _ HI3.out.x HI3.out.y).mono ?_
                rintro e w9 ⟨rfl, hb9⟩
                have HI4 := Aside0.mk (HI3.out.below hb9)
                clear HI3 hb9
                dsimp only
                go_wp2_with fail
                refine (like_any pz pw n gs' gb' cs' cb' hn1 _ _ _ HI4.out.z HI4.out.v).mono ?_
                rintro e w10 ⟨rfl, hb10⟩
                have HI5 := Aside0.mk (HI4.out.below hb10)
                clear HI4 hb10
                dsimp only
                go_wp2_with fail
                exact ⟨⟨k + 1, px, py, pz, pw, gs, gb, cs, cb, gs', gb', cs', cb', s, upd b m on, s', b', by omega, by omega, rfl, rfl, rfl, rfl, by rfl, HI5⟩, by simp only [intOf]; omega⟩
              | false =>
                go_wp2_with fail
                refine (Block_any px n mb on _ _ hn6 _ HI2.out.x).mono ?_
                rintro e w7 hc7
                obtain ⟨_, rfl, rfl⟩ : _ := hc7.resolve_right (fun h => by rw [hin] at h; cases h.1)
                clear hc7
                have HI3 := HI2
                clear HI2
                dsimp only
                go_wp2_with fail
                refine (like_any px py n gs gb cs cb hn1 _ _ _ HI3.out.x HI3.out.y).mono ?_
                rintro e w9 ⟨rfl, hb9⟩
                have HI4 := Aside0.mk (HI3.out.below hb9)
                clear HI3 hb9
                dsimp only
                go_wp2_with fail
                refine (like_any pz pw n gs' gb' cs' cb' hn1 _ _ _ HI4.out.z HI4.out.v).mono ?_
                rintro e w10 ⟨rfl, hb10⟩
                have HI5 := Aside0.mk (HI4.out.below hb10)
                clear HI4 hb10
                dsimp only
                go_wp2_with fail
                exact ⟨⟨k + 1, px, py, pz, pw, gs, gb, cs, cb, gs', gb', cs', cb', s, b, s', b', by omega, by omega, rfl, rfl, rfl, rfl, by rfl, HI5⟩, by simp only [intOf]; omega⟩
            · cases hin : isIn n mb with
              | true =>
                go_wp2_with fail
                refine (Reset_any px n _ _ _ HI2.out.x).mono ?_
                rintro e w7 ⟨⟨v7, rfl⟩, hd7, hg7⟩
                have hy7 : YAt w7 py n s b gs gb cs cb := by
                  obtain ⟨t1, t2, t3⟩ := HI2.out.y.types HI2.out.x (by decide) (by decide)
                  obtain ⟨l1, l2, l3⟩ := HI2.out.y.lts
                  exact HI2.out.y.move (hg7.block py l1 (fun e => t1 (Option.some.inj e).symm)) (hg7.block gs l2 (fun e => t2 (Option.some.inj e).symm)) (hg7.block gb l3 (fun e => t3 (Option.some.inj e).symm))
                have HY7 := Aside0.mk hy7
                have HD7 := Aside0.mk hd7
                have HG7 := Aside0.mk hg7
                clear hy7 hd7 hg7
                dsimp only
                go_wp2_with fail
                refine (RReset_any py n gs gb cs cb hn1 s b w7 HY7.out).mono ?_
                rintro e w8 ⟨⟨v8, rfl⟩, hy8, hg8⟩
                have HI3 := Aside0.mk (HI2.out.reset hn1.2 HD7.out HG7.out hy8 hg8)
                clear hy8 hg8 HY7 HD7 HG7 HI2
                dsimp only
                go_wp2_with fail
                refine (like_any px py n w7.heap.size gb n cb hn1 _ _ _ HI3.out.x HI3.out.y).mono ?_
                rintro e w9 ⟨rfl, hb9⟩
                have HI4 := Aside0.mk (HI3.out.below hb9)
                clear HI3 hb9
                dsimp only
                go_wp2_with fail
                refine (like_any pz pw n gs' gb' cs' cb' hn1 _ _ _ HI4.out.z HI4.out.v).mono ?_
                rintro e w10 ⟨rfl, hb10⟩
                have HI5 := Aside0.mk (HI4.out.below hb10)
                clear HI4 hb10
                dsimp only
                go_wp2_with fail
                exact ⟨⟨k + 1, px, py, pz, pw, w7.heap.size, gb, n, cb, gs', gb', cs', cb', (fun i => if i < 6 then false else s i), b, s', b', by omega, by omega, rfl, rfl, rfl, rfl, by rfl, HI5⟩, by simp only [intOf]; omega⟩
              | false =>
                go_wp2_with fail
                refine (Reset_any px n _ _ _ HI2.out.x).mono ?_
                rintro e w7 ⟨⟨v7, rfl⟩, hd7, hg7⟩
                have hy7 : YAt w7 py n s b gs gb cs cb := by
                  obtain ⟨t1, t2, t3⟩ := HI2.out.y.types HI2.out.x (by decide) (by decide)
                  obtain ⟨l1, l2, l3⟩ := HI2.out.y.lts
                  exact HI2.out.y.move (hg7.block py l1 (fun e => t1 (Option.some.inj e).symm)) (hg7.block gs l2 (fun e => t2 (Option.some.inj e).symm)) (hg7.block gb l3 (fun e => t3 (Option.some.inj e).symm))
                have HY7 := Aside0.mk hy7
                have HD7 := Aside0.mk hd7
                have HG7 := Aside0.mk hg7
                clear hy7 hd7 hg7
                dsimp only
                go_wp2_with fail
                refine (RReset_any py n gs gb cs cb hn1 s b w7 HY7.out).mono ?_
                rintro e w8 ⟨⟨v8, rfl⟩, hy8, hg8⟩
                have HI3 := Aside0.mk (HI2.out.reset hn1.2 HD7.out HG7.out hy8 hg8)
                clear hy8 hg8 HY7 HD7 HG7 HI2
                dsimp only
                go_wp2_with fail
                refine (like_any px py n w7.heap.size gb n cb hn1 _ _ _ HI3.out.x HI3.out.y).mono ?_
                rintro e w9 ⟨rfl, hb9⟩
                have HI4 := Aside0.mk (HI3.out.below hb9)
                clear HI3 hb9
                dsimp only
                go_wp2_with fail
                refine (like_any pz pw n gs' gb' cs' cb' hn1 _ _ _ HI4.out.z HI4.out.v).mono ?_
                rintro e w10 ⟨rfl, hb10⟩
                have HI5 := Aside0.mk (HI4.out.below hb10)
                clear HI4 hb10
                dsimp only
                go_wp2_with fail
                exact ⟨⟨k + 1, px, py, pz, pw, w7.heap.size, gb, n, cb, gs', gb', cs', cb', (fun i => if i < 6 then false else s i), b, s', b', by omega, by omega, rfl, rfl, rfl, rfl, by rfl, HI5⟩, by simp only [intOf]; omega⟩
            · cases hin : isIn n mb with
              | true =>
                go_wp2_with fail
                refine (BClone_any px n _ _ _ HI2.out.x).mono ?_
                rintro e w7 ⟨px1, rfl, hp1, hx7, hb7⟩
                have HX7 := Aside0.mk (And.intro hp1 (And.intro hx7 hb7))
                clear hp1 hx7 hb7
                dsimp only
                go_wp2_with fail
                refine (RClone_any py n gs gb cs cb hn1 s b w7 (HI2.out.y.below HX7.out.2.2)).mono ?_
                rintro e w8 ⟨py1, gs1, gb1, cs1, cb1, rfl, hy8, l1, l2, l3, hb8⟩
                have HI3 := Aside0.mk (HI2.out.clone HX7.out.2.1 HX7.out.1 HX7.out.2.2 hy8 l1 l2 l3 hb8)
                clear hy8 l1 l2 l3 hb8 HX7 HI2
                dsimp only
                go_wp2_with fail
                refine (like_any px1 py1 n gs1 gb1 cs1 cb1 hn1 _ _ _ HI3.out.x HI3.out.y).mono ?_
                rintro e w9 ⟨rfl, hb9⟩
                have HI4 := Aside0.mk (HI3.out.below hb9)
                clear HI3 hb9
                dsimp only
                go_wp2_with fail
                refine (like_any px py n gs gb cs cb hn1 _ _ _ HI4.out.z HI4.out.v).mono ?_
                rintro e w10 ⟨rfl, hb10⟩
                have HI5 := Aside0.mk (HI4.out.below hb10)
                clear HI4 hb10
                dsimp only
                go_wp2_with fail
                exact ⟨⟨k + 1, px1, py1, px, py, gs1, gb1, cs1, cb1, gs, gb, cs, cb, s, b, s, b, by omega, by omega, rfl, rfl, rfl, rfl, by rfl, HI5⟩, by simp only [intOf]; omega⟩
              | false =>
                go_wp2_with fail
                refine (BClone_any px n _ _ _ HI2.out.x).mono ?_
                rintro e w7 ⟨px1, rfl, hp1, hx7, hb7⟩
                have HX7 := Aside0.mk (And.intro hp1 (And.intro hx7 hb7))
                clear hp1 hx7 hb7
                dsimp only
                go_wp2_with fail
                refine (RClone_any py n gs gb cs cb hn1 s b w7 (HI2.out.y.below HX7.out.2.2)).mono ?_
                rintro e w8 ⟨py1, gs1, gb1, cs1, cb1, rfl, hy8, l1, l2, l3, hb8⟩
                have HI3 := Aside0.mk (HI2.out.clone HX7.out.2.1 HX7.out.1 HX7.out.2.2 hy8 l1 l2 l3 hb8)
                clear hy8 l1 l2 l3 hb8 HX7 HI2
                dsimp only
                go_wp2_with fail
                refine (like_any px1 py1 n gs1 gb1 cs1 cb1 hn1 _ _ _ HI3.out.x HI3.out.y).mono ?_
                rintro e w9 ⟨rfl, hb9⟩
                have HI4 := Aside0.mk (HI3.out.below hb9)
                clear HI3 hb9
                dsimp only
                go_wp2_with fail
                refine (like_any px py n gs gb cs cb hn1 _ _ _ HI4.out.z HI4.out.v).mono ?_
                rintro e w10 ⟨rfl, hb10⟩
                have HI5 := Aside0.mk (HI4.out.below hb10)
                clear HI4 hb10
                dsimp only
                go_wp2_with fail
                exact ⟨⟨k + 1, px1, py1, px, py, gs1, gb1, cs1, cb1, gs, gb, cs, cb, s, b, s, b, by omega, by omega, rfl, rfl, rfl, rfl, by rfl, HI5⟩, by simp only [intOf]; omega⟩

          · have hkb : decide (kd < 0) = false := decide_eq_false hkd
            go_wp2_with fail
            have HO := Aside0.mk (blk_new wr (.cells #[.int .i64 kd, .int .i64 mb, .bool on] 55))
            have HI2 := Aside0.mk (HI.out.below (below_alloc (Below.refl _ _) (.cells #[.int .i64 kd, .int .i64 mb, .bool on] 55)))
            have o1 := blk_cell HO.out 1
            have o2 := blk_cell HO.out 2
            simp only [List.getElem?_toArray, List.getElem?_cons_zero, List.getElem?_cons_succ] at o1 o2
            have hT := RThere_any py n gs gb cs cb mb s b _ HI2.out.y
            obtain ⟨r, hr⟩ : ∃ r : Int, (kd).tmod 6 = r := ⟨_, rfl⟩
            have hr0 : 0 ≤ r := by rw [← hr]; exact Int.tmod_nonneg _ (by omega)
            have hr6 : r < 6 := by rw [← hr]; exact Int.tmod_lt_of_pos _ (by decide)
            refine hT.mono ?_
            rintro e w6 ⟨rfl, rfl⟩
            clear hT
            dsimp only
            have hcase : r = 0 ∨ r = 1 ∨ r = 2 ∨ r = 3 ∨ r = 4 ∨ r = 5 := by omega
            clear hr0 hr6 c0 c1 c2
            rcases hcase with rfl | rfl | rfl | rfl | rfl | rfl
            · cases hin : isIn n mb with
              | true =>
                go_wp2_with fail
                refine (Sign_any px n mb on _ _ hn6 _ HI2.out.x).mono ?_
                rintro e w7 hc7
                obtain ⟨_, rfl, hw7⟩ : _ := hc7.resolve_left (fun h => by rw [hin] at h; cases h.1)
                clear hc7
                obtain ⟨h0, h1⟩ : 0 ≤ mb ∧ mb < n := by
                  unfold isIn at hin
                  simpa using hin
                obtain ⟨m, rfl⟩ : ∃ m : Nat, mb = m := ⟨mb.toNat, by omega⟩
                have hm : m < n := by omega
                have hm6 : m < 6 := by omega
                rw [Int.toNat_natCast] at hw7
                have HI3 : Aside0 (Brd w ((w7.drew).setCell ⟨gs, m, none⟩ (.bool on)) n px py pz pw (upd s m on) b s' b' gs gb cs cb gs' gb' cs' cb') := ⟨by rw [hw7]; exact HI2.out.sign m hm6 on⟩
                obtain ⟨t1, t2, t3⟩ := HI2.out.y.types HI2.out.x (by decide) (by decide)
                have e7 : ∀ q, q ≠ px → w7.heap[q]? = (wr.alloc (.cells #[.int .i64 kd, .int .i64 (m : Int), .bool on] 55)).heap[q]? := fun q hq => by rw [hw7]; exact Below.heap_setCell _ _ _ q hq
                have hpo : wr.heap.size ≠ px := fun e => absurd (blk_lt HI.out.x) (by omega)
                have y0 := blk_cell ((e7 py (Ne.symm t1)).trans HI2.out.y.pt) 0
                have o1 := blk_cell ((e7 wr.heap.size hpo).trans HO.out) 1
                have o2 := blk_cell ((e7 wr.heap.size hpo).trans HO.out) 2
                simp only [List.getElem?_toArray, List.getElem?_cons_zero, List.getElem?_cons_succ] at y0 o1 o2
                have hrow : TRow w7 gs n s := HI2.out.y.ss.keep fun _ ho => (e7 gs (Ne.symm t2)).trans ho
                obtain ⟨r0, r1⟩ := hrow.cell m hm
                have hmi : (m : Int) < (n : Int) := by omega
                clear hin HI2 t1 t2 t3 e7 hrow hw7 h0 h1
                dsimp only
                go_wp2_with fail
                refine start_ (n := 10) (S := fun w' => w'.cell? ⟨py, 0, none⟩ = some (.slice (some ⟨gs, 0, none⟩) n cs) ∧ w'.cell? ⟨wr.heap.size, 1, none⟩ = some (.int .i64 (m : Int)) ∧ w'.cell? ⟨wr.heap.size, 2, none⟩ = some (.bool on)) (ds := [9]) #[false, false, false, false, false, false, false, false, false, false] (by kernel_rfl) rfl rfl ⟨y0, o1, o2⟩ (fun hHeld => ?_)
                refine pure_ (i := 0) (N := some 95) (v := ?_) (a' := ?_) #[true, false, false, false, false, false, false, false, false, false] rfl rfl (by kernel_rfl) (fun _ _ _ h => h) (Or.inl ⟨by rfl, ?_⟩) ?_ ?_
                rotate_left
                · intro w'
                  go_simp
                  with_reducible rfl
                rotate_left
                · simp only [Act.put, List.setIfInBounds_toArray, List.set_cons_zero, List.set_cons_succ]
                  rfl
                refine pure_ (i := 1) (N := some 96) (v := ?_) (a' := ?_) #[true, true, false, false, false, false, false, false, false, false] rfl rfl (by kernel_rfl) (fun _ _ _ h => h) (Or.inl ⟨by rfl, ?_⟩) ?_ ?_
                rotate_left
                · intro w'
                  go_simp
                  with_reducible rfl
                rotate_left
                · simp only [Act.put, List.setIfInBounds_toArray, List.set_cons_zero, List.set_cons_succ]
                  rfl
                refine pure_ (i := 2) (N := some 97) (v := ?_) (a' := ?_) #[true, true, true, false, false, false, false, false, false, false] rfl rfl (by kernel_rfl) (fun _ _ _ h => h) (Or.inl ⟨by rfl, ?_⟩) ?_ ?_
                rotate_left
                · intro w'
                  go_simp
                  with_reducible rfl
                rotate_left
                · simp only [Act.put, List.setIfInBounds_toArray, List.set_cons_zero, List.set_cons_succ]
                  rfl
                refine pure_ (i := 4) (N := some 99) (v := ?_) (a' := ?_) #[true, true, true, false, true, false, false, false, false, false] rfl rfl (by kernel_rfl) (fun _ _ _ h => h) (Or.inl ⟨by rfl, ?_⟩) ?_ ?_
                rotate_left
                · intro w'
                  go_simp
                  with_reducible rfl
                rotate_left
                · simp only [Act.put, List.setIfInBounds_toArray, List.set_cons_zero, List.set_cons_succ]
                  rfl
                refine pure_ (i := 6) (N := some 101) (v := ?_) (a' := ?_) #[true, true, true, false, true, false, true, false, false, false] rfl rfl (by kernel_rfl) (fun _ _ _ h => h) (Or.inl ⟨by rfl, ?_⟩) ?_ ?_
                rotate_left
                · intro w'
                  go_simp
                  with_reducible rfl
                rotate_left
                · simp only [Act.put, List.setIfInBounds_toArray, List.set_cons_zero, List.set_cons_succ]
                  rfl
                refine take_ (i := 3) (N := some 98) (v := ?_) (a' := ?_) #[true, true, true, true, true, false, true, false, false, false] rfl rfl (by kernel_rfl) (fun _ _ _ h => h) (Or.inl ⟨by rfl, ?_⟩) hHeld ?_ ?_
                rotate_left
                · rintro w' ⟨s0, s1, s2⟩
                  go_simp
                  with_reducible rfl
                rotate_left
                · simp only [Act.put, List.setIfInBounds_toArray, List.set_cons_zero, List.set_cons_succ]
                  rfl
                refine take_ (i := 5) (N := some 100) (v := ?_) (a' := ?_) #[true, true, true, true, true, true, true, false, false, false] rfl rfl (by kernel_rfl) (fun _ _ _ h => h) (Or.inl ⟨by rfl, ?_⟩) hHeld ?_ ?_
                rotate_left
                · rintro w' ⟨s0, s1, s2⟩
                  go_simp
                  with_reducible rfl
                rotate_left
                · simp only [Act.put, List.setIfInBounds_toArray, List.set_cons_zero, List.set_cons_succ]
                  rfl
                refine take_ (i := 7) (N := some 102) (v := ?_) (a' := ?_) #[true, true, true, true, true, true, true, true, false, false] rfl rfl (by kernel_rfl) (fun _ _ _ h => h) (Or.inl ⟨by rfl, ?_⟩) hHeld ?_ ?_
                rotate_left
                · rintro w' ⟨s0, s1, s2⟩
                  go_simp
                  with_reducible rfl
                rotate_left
                · simp only [Act.put, List.setIfInBounds_toArray, List.set_cons_zero, List.set_cons_succ]
                  rfl
                refine pure_ (i := 8) (N := some 103) (v := ?_) (a' := ?_) #[true, true, true, true, true, true, true, true, true, false] rfl rfl (by kernel_rfl) (fun _ _ _ h => h) (Or.inl ⟨by rfl, ?_⟩) ?_ ?_
                rotate_left
                · intro w'
                  go_simp
                  with_reducible rfl
                rotate_left
                · simp only [Act.put, List.setIfInBounds_toArray, List.set_cons_zero, List.set_cons_succ]
                  rfl
                refine last_ (i := 9) (N := none) #[true, true, true, true, true, true, true, true, true, true] rfl rfl (by kernel_rfl) (by decide) (fun K hK => ?_)
                refine skip_ (w1 := ?_) (by rfl) rfl ?_ ?_
                rotate_left
                · go_simp
                  rfl
                refine hK.out _ _ ?_
                clear hK K
                refine done_ (by kernel_rfl) ?_

                go_wp2_with fail
                refine (like_any px py n gs gb cs cb hn1 _ _ _ HI3.out.x HI3.out.y).mono ?_
                rintro e w9 ⟨rfl, hb9⟩
                have HI4 := Aside0.mk (HI3.out.below hb9)
                clear HI3 hb9
                dsimp only
                go_wp2_with fail
                refine (like_any pz pw n gs' gb' cs' cb' hn1 _ _ _ HI4.out.z HI4.out.v).mono ?_
                rintro e w10 ⟨rfl, hb10⟩
                have HI5 := Aside0.mk (HI4.out.below hb10)
                clear HI4 hb10
                dsimp only
                go_wp2_with fail
                exact ⟨⟨k + 1, px, py, pz, pw, gs, gb, cs, cb, gs', gb', cs', cb', upd s m on, b, s', b', by omega, by omega, rfl, rfl, rfl, rfl, by rfl, HI5⟩, by simp only [intOf]; omega⟩
              | false =>
                go_wp2_with fail
                refine (Sign_any px n mb on _ _ hn6 _ HI2.out.x).mono ?_
                rintro e w7 hc7
                obtain ⟨_, rfl, rfl⟩ : _ := hc7.resolve_right (fun h => by rw [hin] at h; cases h.1)
                clear hc7
                have HI3 := HI2
                clear HI2
                dsimp only
                go_wp2_with fail
                refine (like_any px py n gs gb cs cb hn1 _ _ _ HI3.out.x HI3.out.y).mono ?_
                rintro e w9 ⟨rfl, hb9⟩
                have HI4 := Aside0.mk (HI3.out.below hb9)
                clear HI3 hb9
                dsimp only
                go_wp2_with fail
                refine (like_any pz pw n gs' gb' cs' cb' hn1 _ _ _ HI4.out.z HI4.out.v).mono ?_
                rintro e w10 ⟨rfl, hb10⟩
                have HI5 := Aside0.mk (HI4.out.below hb10)
                clear HI4 hb10
                dsimp only
                go_wp2_with fail
                exact ⟨⟨k + 1, px, py, pz, pw, gs, gb, cs, cb, gs', gb', cs', cb', s, b, s', b', by omega, by omega, rfl, rfl, rfl, rfl, by rfl, HI5⟩, by simp only [intOf]; omega⟩
            · cases hin : isIn n mb with
              | true =>
                go_wp2_with fail
                refine (Sign_any px n mb on _ _ hn6 _ HI2.out.x).mono ?_
                rintro e w7 hc7
                obtain ⟨_, rfl, hw7⟩ : _ := hc7.resolve_left (fun h => by rw [hin] at h; cases h.1)
                clear hc7
                obtain ⟨h0, h1⟩ : 0 ≤ mb ∧ mb < n := by
                  unfold isIn at hin
                  simpa using hin
                obtain ⟨m, rfl⟩ : ∃ m : Nat, mb = m := ⟨mb.toNat, by omega⟩
                have hm : m < n := by omega
                have hm6 : m < 6 := by omega
                rw [Int.toNat_natCast] at hw7
                have HI3 : Aside0 (Brd w ((w7.drew).setCell ⟨gs, m, none⟩ (.bool on)) n px py pz pw (upd s m on) b s' b' gs gb cs cb gs' gb' cs' cb') := ⟨by rw [hw7]; exact HI2.out.sign m hm6 on⟩
                obtain ⟨t1, t2, t3⟩ := HI2.out.y.types HI2.out.x (by decide) (by decide)
                have e7 : ∀ q, q ≠ px → w7.heap[q]? = (wr.alloc (.cells #[.int .i64 kd, .int .i64 (m : Int), .bool on] 55)).heap[q]? := fun q hq => by rw [hw7]; exact Below.heap_setCell _ _ _ q hq
                have hpo : wr.heap.size ≠ px := fun e => absurd (blk_lt HI.out.x) (by omega)
                have y0 := blk_cell ((e7 py (Ne.symm t1)).trans HI2.out.y.pt) 0
                have o1 := blk_cell ((e7 wr.heap.size hpo).trans HO.out) 1
                have o2 := blk_cell ((e7 wr.heap.size hpo).trans HO.out) 2
                simp only [List.getElem?_toArray, List.getElem?_cons_zero, List.getElem?_cons_succ] at y0 o1 o2
                have hrow : TRow w7 gs n s := HI2.out.y.ss.keep fun _ ho => (e7 gs (Ne.symm t2)).trans ho
                obtain ⟨r0, r1⟩ := hrow.cell m hm
                have hmi : (m : Int) < (n : Int) := by omega
                clear hin HI2 t1 t2 t3 e7 hrow hw7 h0 h1
                dsimp only
                go_wp2_with fail
                refine start_ (n := 10) (S := fun w' => w'.cell? ⟨py, 0, none⟩ = some (.slice (some ⟨gs, 0, none⟩) n cs) ∧ w'.cell? ⟨wr.heap.size, 1, none⟩ = some (.int .i64 (m : Int)) ∧ w'.cell? ⟨wr.heap.size, 2, none⟩ = some (.bool on)) (ds := [9]) #[false, false, false, false, false, false, false, false, false, false] (by kernel_rfl) rfl rfl ⟨y0, o1, o2⟩ (fun hHeld => ?_)
                refine pure_ (i := 0) (N := some 95) (v := ?_) (a' := ?_) #[true, false, false, false, false, false, false, false, false, false] rfl rfl (by kernel_rfl) (fun _ _ _ h => h) (Or.inl ⟨by rfl, ?_⟩) ?_ ?_
                rotate_left
                · intro w'
                  go_simp
                  with_reducible rfl
                rotate_left
                · simp only [Act.put, List.setIfInBounds_toArray, List.set_cons_zero, List.set_cons_succ]
                  rfl
                refine pure_ (i := 1) (N := some 96) (v := ?_) (a' := ?_) #[true, true, false, false, false, false, false, false, false, false] rfl rfl (by kernel_rfl) (fun _ _ _ h => h) (Or.inl ⟨by rfl, ?_⟩) ?_ ?_
                rotate_left
                · intro w'
                  go_simp
                  with_reducible rfl
                rotate_left
                · simp only [Act.put, List.setIfInBounds_toArray, List.set_cons_zero, List.set_cons_succ]
                  rfl
                refine pure_ (i := 2) (N := some 97) (v := ?_) (a' := ?_) #[true, true, true, false, false, false, false, false, false, false] rfl rfl (by kernel_rfl) (fun _ _ _ h => h) (Or.inl ⟨by rfl, ?_⟩) ?_ ?_
                rotate_left
                · intro w'
                  go_simp
                  with_reducible rfl
                rotate_left
                · simp only [Act.put, List.setIfInBounds_toArray, List.set_cons_zero, List.set_cons_succ]
                  rfl
                refine pure_ (i := 4) (N := some 99) (v := ?_) (a' := ?_) #[true, true, true, false, true, false, false, false, false, false] rfl rfl (by kernel_rfl) (fun _ _ _ h => h) (Or.inl ⟨by rfl, ?_⟩) ?_ ?_
                rotate_left
                · intro w'
                  go_simp
                  with_reducible rfl
                rotate_left
                · simp only [Act.put, List.setIfInBounds_toArray, List.set_cons_zero, List.set_cons_succ]
                  rfl
                refine pure_ (i := 6) (N := some 101) (v := ?_) (a' := ?_) #[true, true, true, false, true, false, true, false, false, false] rfl rfl (by kernel_rfl) (fun _ _ _ h => h) (Or.inl ⟨by rfl, ?_⟩) ?_ ?_
                rotate_left
                · intro w'
                  go_simp
                  with_reducible rfl
                rotate_left
                · simp only [Act.put, List.setIfInBounds_toArray, List.set_cons_zero, List.set_cons_succ]
                  rfl
                refine take_ (i := 3) (N := some 98) (v := ?_) (a' := ?_) #[true, true, true, true, true, false, true, false, false, false] rfl rfl (by kernel_rfl) (fun _ _ _ h => h) (Or.inl ⟨by rfl, ?_⟩) hHeld ?_ ?_
                rotate_left
                · rintro w' ⟨s0, s1, s2⟩
                  go_simp
                  with_reducible rfl
                rotate_left
                · simp only [Act.put, List.setIfInBounds_toArray, List.set_cons_zero, List.set_cons_succ]
                  rfl
                refine take_ (i := 5) (N := some 100) (v := ?_) (a' := ?_) #[true, true, true, true, true, true, true, false, false, false] rfl rfl (by kernel_rfl) (fun _ _ _ h => h) (Or.inl ⟨by rfl, ?_⟩) hHeld ?_ ?_
                rotate_left
                · rintro w' ⟨s0, s1, s2⟩
                  go_simp
                  with_reducible rfl
                rotate_left
                · simp only [Act.put, List.setIfInBounds_toArray, List.set_cons_zero, List.set_cons_succ]
                  rfl
                refine take_ (i := 7) (N := some 102) (v := ?_) (a' := ?_) #[true, true, true, true, true, true, true, true, false, false] rfl rfl (by kernel_rfl) (fun _ _ _ h => h) (Or.inl ⟨by rfl, ?_⟩) hHeld ?_ ?_
                rotate_left
                · rintro w' ⟨s0, s1, s2⟩
                  go_simp
                  with_reducible rfl
                rotate_left
                · simp only [Act.put, List.setIfInBounds_toArray, List.set_cons_zero, List.set_cons_succ]
                  rfl
                refine pure_ (i := 8) (N := some 103) (v := ?_) (a' := ?_) #[true, true, true, true, true, true, true, true, true, false] rfl rfl (by kernel_rfl) (fun _ _ _ h => h) (Or.inl ⟨by rfl, ?_⟩) ?_ ?_
                rotate_left
                · intro w'
                  go_simp
                  with_reducible rfl
                rotate_left
                · simp only [Act.put, List.setIfInBounds_toArray, List.set_cons_zero, List.set_cons_succ]
                  rfl
                refine last_ (i := 9) (N := none) #[true, true, true, true, true, true, true, true, true, true] rfl rfl (by kernel_rfl) (by decide) (fun K hK => ?_)
                refine skip_ (w1 := ?_) (by rfl) rfl ?_ ?_
                rotate_left
                · go_simp
                  rfl
                refine hK.out _ _ ?_
                clear hK K
                refine done_ (by kernel_rfl) ?_

                go_wp2_with fail
                refine (like_any px py n gs gb cs cb hn1 _ _ _ HI3.out.x HI3.out.y).mono ?_
                rintro e w9 ⟨rfl, hb9⟩
                have HI4 := Aside0.mk (HI3.out.below hb9)
                clear HI3 hb9
                dsimp only
                go_wp2_with fail
                refine (like_any pz pw n gs' gb' cs' cb' hn1 _ _ _ HI4.out.z HI4.out.v).mono ?_
                rintro e w10 ⟨rfl, hb10⟩
                have HI5 := Aside0.mk (HI4.out.below hb10)
                clear HI4 hb10
                dsimp only
                go_wp2_with fail
                exact ⟨⟨k + 1, px, py, pz, pw, gs, gb, cs, cb, gs', gb', cs', cb', upd s m on, b, s', b', by omega, by omega, rfl, rfl, rfl, rfl, by rfl, HI5⟩, by simp only [intOf]; omega⟩
              | false =>
                go_wp2_with fail
                refine (Sign_any px n mb on _ _ hn6 _ HI2.out.x).mono ?_
                rintro e w7 hc7
                obtain ⟨_, rfl, rfl⟩ : _ := hc7.resolve_right (fun h => by rw [hin] at h; cases h.1)
                clear hc7
                have HI3 := HI2
                clear HI2
                dsimp only
                go_wp2_with fail
                refine (like_any px py n gs gb cs cb hn1 _ _ _ HI3.out.x HI3.out.y).mono ?_
                rintro e w9 ⟨rfl, hb9⟩
                have HI4 := Aside0.mk (HI3.out.below hb9)
                clear HI3 hb9
                dsimp only
                go_wp2_with fail
                refine (like_any pz pw n gs' gb' cs' cb' hn1 _ _ _ HI4.out.z HI4.out.v).mono ?_
                rintro e w10 ⟨rfl, hb10⟩
                have HI5 := Aside0.mk (HI4.out.below hb10)
                clear HI4 hb10
                dsimp only
                go_wp2_with fail
                exact ⟨⟨k + 1, px, py, pz, pw, gs, gb, cs, cb, gs', gb', cs', cb', s, b, s', b', by omega, by omega, rfl, rfl, rfl, rfl, by rfl, HI5⟩, by simp only [intOf]; omega⟩
            · cases hin : isIn n mb with
              | true =>
                go_wp2_with fail
                refine (Block_any px n mb on _ _ hn6 _ HI2.out.x).mono ?_
                rintro e w7 hc7
                obtain ⟨_, rfl, hw7⟩ : _ := hc7.resolve_left (fun h => by rw [hin] at h; cases h.1)
                clear hc7
                obtain ⟨h0, h1⟩ : 0 ≤ mb ∧ mb < n := by
                  unfold isIn at hin
                  simpa using hin
                obtain ⟨m, rfl⟩ : ∃ m : Nat, mb = m := ⟨mb.toNat, by omega⟩
                have hm : m < n := by omega
                have hm6 : m < 6 := by omega
                rw [Int.toNat_natCast] at hw7
                have HI3 : Aside0 (Brd w ((w7.drew).setCell ⟨gb, m, none⟩ (.bool on)) n px py pz pw s (upd b m on) s' b' gs gb cs cb gs' gb' cs' cb') := ⟨by rw [hw7]; exact HI2.out.block m hm6 on⟩
                obtain ⟨t1, t2, t3⟩ := HI2.out.y.types HI2.out.x (by decide) (by decide)
                have e7 : ∀ q, q ≠ px → w7.heap[q]? = (wr.alloc (.cells #[.int .i64 kd, .int .i64 (m : Int), .bool on] 55)).heap[q]? := fun q hq => by rw [hw7]; exact Below.heap_setCell _ _ _ q hq
                have hpo : wr.heap.size ≠ px := fun e => absurd (blk_lt HI.out.x) (by omega)
                have y0 := blk_cell ((e7 py (Ne.symm t1)).trans HI2.out.y.pt) 1
                have o1 := blk_cell ((e7 wr.heap.size hpo).trans HO.out) 1
                have o2 := blk_cell ((e7 wr.heap.size hpo).trans HO.out) 2
                simp only [List.getElem?_toArray, List.getElem?_cons_zero, List.getElem?_cons_succ] at y0 o1 o2
                have hrow : TRow w7 gb n b := HI2.out.y.bb.keep fun _ ho => (e7 gb (Ne.symm t3)).trans ho
                obtain ⟨r0, r1⟩ := hrow.cell m hm
                have hmi : (m : Int) < (n : Int) := by omega
                clear hin HI2 t1 t2 t3 e7 hrow hw7 h0 h1
                dsimp only
                go_wp2_with fail
                refine start_ (n := 10) (S := fun w' => w'.cell? ⟨py, 1, none⟩ = some (.slice (some ⟨gb, 0, none⟩) n cb) ∧ w'.cell? ⟨wr.heap.size, 1, none⟩ = some (.int .i64 (m : Int)) ∧ w'.cell? ⟨wr.heap.size, 2, none⟩ = some (.bool on)) (ds := [9]) #[false, false, false, false, false, false, false, false, false, false] (by kernel_rfl) rfl rfl ⟨y0, o1, o2⟩ (fun hHeld => ?_)
                refine pure_ (i := 0) (N := some 118) (v := ?_) (a' := ?_) #[true, false, false, false, false, false, false, false, false, false] rfl rfl (by kernel_rfl) (fun _ _ _ h => h) (Or.inl ⟨by rfl, ?_⟩) ?_ ?_
                rotate_left
                · intro w'
                  go_simp
                  with_reducible rfl
                rotate_left
                · simp only [Act.put, List.setIfInBounds_toArray, List.set_cons_zero, List.set_cons_succ]
                  rfl
                refine pure_ (i := 1) (N := some 119) (v := ?_) (a' := ?_) #[true, true, false, false, false, false, false, false, false, false] rfl rfl (by kernel_rfl) (fun _ _ _ h => h) (Or.inl ⟨by rfl, ?_⟩) ?_ ?_
                rotate_left
                · intro w'
                  go_simp
                  with_reducible rfl
                rotate_left
                · simp only [Act.put, List.setIfInBounds_toArray, List.set_cons_zero, List.set_cons_succ]
                  rfl
                refine pure_ (i := 2) (N := some 120) (v := ?_) (a' := ?_) #[true, true, true, false, false, false, false, false, false, false] rfl rfl (by kernel_rfl) (fun _ _ _ h => h) (Or.inl ⟨by rfl, ?_⟩) ?_ ?_
                rotate_left
                · intro w'
                  go_simp
                  with_reducible rfl
                rotate_left
                · simp only [Act.put, List.setIfInBounds_toArray, List.set_cons_zero, List.set_cons_succ]
                  rfl
                refine pure_ (i := 4) (N := some 122) (v := ?_) (a' := ?_) #[true, true, true, false, true, false, false, false, false, false] rfl rfl (by kernel_rfl) (fun _ _ _ h => h) (Or.inl ⟨by rfl, ?_⟩) ?_ ?_
                rotate_left
                · intro w'
                  go_simp
                  with_reducible rfl
                rotate_left
                · simp only [Act.put, List.setIfInBounds_toArray, List.set_cons_zero, List.set_cons_succ]
                  rfl
                refine pure_ (i := 6) (N := some 124) (v := ?_) (a' := ?_) #[true, true, true, false, true, false, true, false, false, false] rfl rfl (by kernel_rfl) (fun _ _ _ h => h) (Or.inl ⟨by rfl, ?_⟩) ?_ ?_
                rotate_left
                · intro w'
                  go_simp
                  with_reducible rfl
                rotate_left
                · simp only [Act.put, List.setIfInBounds_toArray, List.set_cons_zero, List.set_cons_succ]
                  rfl
                refine take_ (i := 3) (N := some 121) (v := ?_) (a' := ?_) #[true, true, true, true, true, false, true, false, false, false] rfl rfl (by kernel_rfl) (fun _ _ _ h => h) (Or.inl ⟨by rfl, ?_⟩) hHeld ?_ ?_
                rotate_left
                · rintro w' ⟨s0, s1, s2⟩
                  go_simp
                  with_reducible rfl
                rotate_left
                · simp only [Act.put, List.setIfInBounds_toArray, List.set_cons_zero, List.set_cons_succ]
                  rfl
                refine take_ (i := 5) (N := some 123) (v := ?_) (a' := ?_) #[true, true, true, true, true, true, true, false, false, false] rfl rfl (by kernel_rfl) (fun _ _ _ h => h) (Or.inl ⟨by rfl, ?_⟩) hHeld ?_ ?_
                rotate_left
                · rintro w' ⟨s0, s1, s2⟩
                  go_simp
                  with_reducible rfl
                rotate_left
                · simp only [Act.put, List.setIfInBounds_toArray, List.set_cons_zero, List.set_cons_succ]
                  rfl
                refine take_ (i := 7) (N := some 125) (v := ?_) (a' := ?_) #[true, true, true, true, true, true, true, true, false, false] rfl rfl (by kernel_rfl) (fun _ _ _ h => h) (Or.inl ⟨by rfl, ?_⟩) hHeld ?_ ?_
                rotate_left
                · rintro w' ⟨s0, s1, s2⟩
                  go_simp
                  with_reducible rfl
                rotate_left
                · simp only [Act.put, List.setIfInBounds_toArray, List.set_cons_zero, List.set_cons_succ]
                  rfl
                refine pure_ (i := 8) (N := some 126) (v := ?_) (a' := ?_) #[true, true, true, true, true, true, true, true, true, false] rfl rfl (by kernel_rfl) (fun _ _ _ h => h) (Or.inl ⟨by rfl, ?_⟩) ?_ ?_
                rotate_left
                · intro w'
                  go_simp
                  with_reducible rfl
                rotate_left
                · simp only [Act.put, List.setIfInBounds_toArray, List.set_cons_zero, List.set_cons_succ]
                  rfl
                refine last_ (i := 9) (N := none) #[true, true, true, true, true, true, true, true, true, true] rfl rfl (by kernel_rfl) (by decide) (fun K hK => ?_)
                refine skip_ (w1 := ?_) (by rfl) rfl ?_ ?_
                rotate_left
                · go_simp
                  rfl
                refine hK.out _ _ ?_
                clear hK K
                refine done_ (by kernel_rfl) ?_

                go_wp2_with fail
                refine (like_any px py n gs gb cs cb hn1 _ _ _ HI3.out.x HI3.out.y).mono ?_
                rintro e w9 ⟨rfl, hb9⟩
                have HI4 := Aside0.mk (HI3.out.below hb9)
                clear HI3 hb9
                dsimp only
                go_wp2_with fail
                refine (like_any pz pw n gs' gb' cs' cb' hn1 _ _ _ HI4.out.z HI4.out.v).mono ?_
                rintro e w10 ⟨rfl, hb10⟩
                have HI5 := Aside0.mk (HI4.out.below hb10)
                clear HI4 hb10
                dsimp only
                go_wp2_with fail
                exact ⟨⟨k + 1, px, py, pz, pw, gs, gb, cs, cb, gs', gb', cs', cb', s, upd b m on, s', b', by omega, by omega, rfl, rfl, rfl, rfl, by rfl, HI5⟩, by simp only [intOf]; omega⟩
              | false =>
                go_wp2_with fail
                refine (Block_any px n mb on _ _ hn6 _ HI2.out.x).mono ?_
                rintro e w7 hc7
                obtain ⟨_, rfl, rfl⟩ : _ := hc7.resolve_right (fun h => by rw [hin] at h; cases h.1)
                clear hc7
                have HI3 := HI2
                clear HI2
                dsimp only
                go_wp2_with fail
                refine (like_any px py n gs gb cs cb hn1 _ _ _ HI3.out.x HI3.out.y).mono ?_
                rintro e w9 ⟨rfl, hb9⟩
                have HI4 := Aside0.mk (HI3.out.below hb9)
                clear HI3 hb9
                dsimp only
                go_wp2_with fail
                refine (like_any pz pw n gs' gb' cs' cb' hn1 _ _ _ HI4.out.z HI4.out.v).mono ?_
                rintro e w10 ⟨rfl, hb10⟩
                have HI5 := Aside0.mk (HI4.out.below hb10)
                clear HI4 hb10
                dsimp only
                go_wp2_with fail
                exact ⟨⟨k + 1, px, py, pz, pw, gs, gb, cs, cb, gs', gb', cs', cb', s, b, s', b', by omega, by omega, rfl, rfl, rfl, rfl, by rfl, HI5⟩, by simp only [intOf]; omega⟩
            · cases hin : isIn n mb with
              | true =>
                go_wp2_with fail
                refine (Block_any px n mb on _ _ hn6 _ HI2.out.x).mono ?_
                rintro e w7 hc7
                obtain ⟨_, rfl, hw7⟩ : _ := hc7.resolve_left (fun h => by rw [hin] at h; cases h.1)
                clear hc7
                obtain ⟨h0, h1⟩ : 0 ≤ mb ∧ mb < n := by
                  unfold isIn at hin
                  simpa using hin
                obtain ⟨m, rfl⟩ : ∃ m : Nat, mb = m := ⟨mb.toNat, by omega⟩
                have hm : m < n := by omega
                have hm6 : m < 6 := by omega
                rw [Int.toNat_natCast] at hw7
                have HI3 : Aside0 (Brd w ((w7.drew).setCell ⟨gb, m, none⟩ (.bool on)) n px py pz pw s (upd b m on) s' b' gs gb cs cb gs' gb' cs' cb') := ⟨by rw [hw7]; exact HI2.out.block m hm6 on⟩
                obtain ⟨t1, t2, t3⟩ := HI2.out.y.types HI2.out.x (by decide) (by decide)
                have e7 : ∀ q, q ≠ px → w7.heap[q]? = (wr.alloc (.cells #[.int .i64 kd, .int .i64 (m : Int), .bool on] 55)).heap[q]? := fun q hq => by rw [hw7]; exact Below.heap_setCell _ _ _ q hq
                have hpo : wr.heap.size ≠ px := fun e => absurd (blk_lt HI.out.x) (by omega)
                have y0 := blk_cell ((e7 py (Ne.symm t1)).trans HI2.out.y.pt) 1
                have o1 := blk_cell ((e7 wr.heap.size hpo).trans HO.out) 1
                have o2 := blk_cell ((e7 wr.heap.size hpo).trans HO.out) 2
                simp only [List.getElem?_toArray, List.getElem?_cons_zero, List.getElem?_cons_succ] at y0 o1 o2
                have hrow : TRow w7 gb n b := HI2.out.y.bb.keep fun _ ho => (e7 gb (Ne.symm t3)).trans ho
                obtain ⟨r0, r1⟩ := hrow.cell m hm
                have hmi : (m : Int) < (n : Int) := by omega
                clear hin HI2 t1 t2 t3 e7 hrow hw7 h0 h1
                dsimp only
                go_wp2_with fail
                refine start_ (n := 10) (S := fun w' => w'.cell? ⟨py, 1, none⟩ = some (.slice (some ⟨gb, 0, none⟩) n cb) ∧ w'.cell? ⟨wr.heap.size, 1, none⟩ = some (.int .i64 (m : Int)) ∧ w'.cell? ⟨wr.heap.size, 2, none⟩ = some (.bool on)) (ds := [9]) #[false, false, false, false, false, false, false, false, false, false] (by kernel_rfl) rfl rfl ⟨y0, o1, o2⟩ (fun hHeld => ?_)
                refine pure_ (i := 0) (N := some 118) (v := ?_) (a' := ?_) #[true, false, false, false, false, false, false, false, false, false] rfl rfl (by kernel_rfl) (fun _ _ _ h => h) (Or.inl ⟨by rfl, ?_⟩) ?_ ?_
                rotate_left
                · intro w'
                  go_simp
                  with_reducible rfl
                rotate_left
                · simp only [Act.put, List.setIfInBounds_toArray, List.set_cons_zero, List.set_cons_succ]
                  rfl
                refine pure_ (i := 1) (N := some 119) (v := ?_) (a' := ?_) #[true, true, false, false, false, false, false, false, false, false] rfl rfl (by kernel_rfl) (fun _ _ _ h => h) (Or.inl ⟨by rfl, ?_⟩) ?_ ?_
                rotate_left
                · intro w'
                  go_simp
                  with_reducible rfl
                rotate_left
                · simp only [Act.put, List.setIfInBounds_toArray, List.set_cons_zero, List.set_cons_succ]
                  rfl
                refine pure_ (i := 2) (N := some 120) (v := ?_) (a' := ?_) #[true, true, true, false, false, false, false, false, false, false] rfl rfl (by kernel_rfl) (fun _ _ _ h => h) (Or.inl ⟨by rfl, ?_⟩) ?_ ?_
                rotate_left
                · intro w'
                  go_simp
                  with_reducible rfl
                rotate_left
                · simp only [Act.put, List.setIfInBounds_toArray, List.set_cons_zero, List.set_cons_succ]
                  rfl
                refine pure_ (i := 4) (N := some 122) (v := ?_) (a' := ?_) #[true, true, true, false, true, false, false, false, false, false] rfl rfl (by kernel_rfl) (fun _ _ _ h => h) (Or.inl ⟨by rfl, ?_⟩) ?_ ?_
                rotate_left
                · intro w'
                  go_simp
                  with_reducible rfl
                rotate_left
                · simp only [Act.put, List.setIfInBounds_toArray, List.set_cons_zero, List.set_cons_succ]
                  rfl
                refine pure_ (i := 6) (N := some 124) (v := ?_) (a' := ?_) #[true, true, true, false, true, false, true, false, false, false] rfl rfl (by kernel_rfl) (fun _ _ _ h => h) (Or.inl ⟨by rfl, ?_⟩) ?_ ?_
                rotate_left
                · intro w'
                  go_simp
                  with_reducible rfl
                rotate_left
                · simp only [Act.put, List.setIfInBounds_toArray, List.set_cons_zero, List.set_cons_succ]
                  rfl
                refine take_ (i := 3) (N := some 121) (v := ?_) (a' := ?_) #[true, true, true, true, true, false, true, false, false, false] rfl rfl (by kernel_rfl) (fun _ _ _ h => h) (Or.inl ⟨by rfl, ?_⟩) hHeld ?_ ?_
                rotate_left
                · rintro w' ⟨s0, s1, s2⟩
                  go_simp
                  with_reducible rfl
                rotate_left
                · simp only [Act.put, List.setIfInBounds_toArray, List.set_cons_zero, List.set_cons_succ]
                  rfl
                refine take_ (i := 5) (N := some 123) (v := ?_) (a' := ?_) #[true, true, true, true, true, true, true, false, false, false] rfl rfl (by kernel_rfl) (fun _ _ _ h => h) (Or.inl ⟨by rfl, ?_⟩) hHeld ?_ ?_
                rotate_left
                · rintro w' ⟨s0, s1, s2⟩
                  go_simp
                  with_reducible rfl
                rotate_left
                · simp only [Act.put, List.setIfInBounds_toArray, List.set_cons_zero, List.set_cons_succ]
                  rfl
                refine take_ (i := 7) (N := some 125) (v := ?_) (a' := ?_) #[true, true, true, true, true, true, true, true, false, false] rfl rfl (by kernel_rfl) (fun _ _ _ h => h) (Or.inl ⟨by rfl, ?_⟩) hHeld ?_ ?_
                rotate_left
                · rintro w' ⟨s0, s1, s2⟩
                  go_simp
                  with_reducible rfl
                rotate_left
                · simp only [Act.put, List.setIfInBounds_toArray, List.set_cons_zero, List.set_cons_succ]
                  rfl
                refine pure_ (i := 8) (N := some 126) (v := ?_) (a' := ?_) #[true, true, true, true, true, true, true, true, true, false] rfl rfl (by kernel_rfl) (fun _ _ _ h => h) (Or.inl ⟨by rfl, ?_⟩) ?_ ?_
                rotate_left
                · intro w'
                  go_simp
                  with_reducible rfl
                rotate_left
                · simp only [Act.put, List.setIfInBounds_toArray, List.set_cons_zero, List.set_cons_succ]
                  rfl
                refine last_ (i := 9) (N := none) #[true, true, true, true, true, true, true, true, true, true] rfl rfl (by kernel_rfl) (by decide) (fun K hK => ?_)
                refine skip_ (w1 := ?_) (by rfl) rfl ?_ ?_
                rotate_left
                · go_simp
                  rfl
                refine hK.out _ _ ?_
                clear hK K
                refine done_ (by kernel_rfl) ?_

                go_wp2_with fail
                refine (like_any px py n gs gb cs cb hn1 _ _ _ HI3.out.x HI3.out.y).mono ?_
                rintro e w9 ⟨rfl, hb9⟩
                have HI4 := Aside0.mk (HI3.out.below hb9)
                clear HI3 hb9
                dsimp only
                go_wp2_with fail
                refine (like_any pz pw n gs' gb' cs' cb' hn1 _ _ _ HI4.out.z HI4.out.v).mono ?_
                rintro e w10 ⟨rfl, hb10⟩
                have HI5 := Aside0.mk (HI4.out.below hb10)
                clear HI4 hb10
                dsimp only
                go_wp2_with fail
                exact ⟨⟨k + 1, px, py, pz, pw, gs, gb, cs, cb, gs', gb', cs', cb', s, upd b m on, s', b', by omega, by omega, rfl, rfl, rfl, rfl, by rfl, HI5⟩, by simp only [intOf]; omega⟩
              | false =>
                go_wp2_with fail
                refine (Block_any px n mb on _ _ hn6 _ HI2.out.x).mono ?_
                rintro e w7 hc7
                obtain ⟨_, rfl, rfl⟩ : _ := hc7.resolve_right (fun h => by rw [hin] at h; cases h.1)
                clear hc7
                have HI3 := HI2
                clear HI2
                dsimp only
                go_wp2_with fail
                refine (like_any px py n gs gb cs cb hn1 _ _ _ HI3.out.x HI3.out.y).mono ?_
                rintro e w9 ⟨rfl, hb9⟩
                have HI4 := Aside0.mk (HI3.out.below hb9)
                clear HI3 hb9
                dsimp only
                go_wp2_with fail
                refine (like_any pz pw n gs' gb' cs' cb' hn1 _ _ _ HI4.out.z HI4.out.v).mono ?_
                rintro e w10 ⟨rfl, hb10⟩
                have HI5 := Aside0.mk (HI4.out.below hb10)
                clear HI4 hb10
                dsimp only
                go_wp2_with fail
                exact ⟨⟨k + 1, px, py, pz, pw, gs, gb, cs, cb, gs', gb', cs', cb', s, b, s', b', by omega, by omega, rfl, rfl, rfl, rfl, by rfl, HI5⟩, by simp only [intOf]; omega⟩
            · cases hin : isIn n mb with
              | true =>
                go_wp2_with fail
                refine (Reset_any px n _ _ _ HI2.out.x).mono ?_
                rintro e w7 ⟨⟨v7, rfl⟩, hd7, hg7⟩
                have hy7 : YAt w7 py n s b gs gb cs cb := by
                  obtain ⟨t1, t2, t3⟩ := HI2.out.y.types HI2.out.x (by decide) (by decide)
                  obtain ⟨l1, l2, l3⟩ := HI2.out.y.lts
                  exact HI2.out.y.move (hg7.block py l1 (fun e => t1 (Option.some.inj e).symm)) (hg7.block gs l2 (fun e => t2 (Option.some.inj e).symm)) (hg7.block gb l3 (fun e => t3 (Option.some.inj e).symm))
                have HY7 := Aside0.mk hy7
                have HD7 := Aside0.mk hd7
                have HG7 := Aside0.mk hg7
                clear hy7 hd7 hg7
                dsimp only
                go_wp2_with fail
                refine (RReset_any py n gs gb cs cb hn1 s b w7 HY7.out).mono ?_
                rintro e w8 ⟨⟨v8, rfl⟩, hy8, hg8⟩
                have HI3 := Aside0.mk (HI2.out.reset hn1.2 HD7.out HG7.out hy8 hg8)
                clear hy8 hg8 HY7 HD7 HG7 HI2
                dsimp only
                go_wp2_with fail
                refine (like_any px py n w7.heap.size gb n cb hn1 _ _ _ HI3.out.x HI3.out.y).mono ?_
                rintro e w9 ⟨rfl, hb9⟩
                have HI4 := Aside0.mk (HI3.out.below hb9)
                clear HI3 hb9
                dsimp only
                go_wp2_with fail
                refine (like_any pz pw n gs' gb' cs' cb' hn1 _ _ _ HI4.out.z HI4.out.v).mono ?_
                rintro e w10 ⟨rfl, hb10⟩
                have HI5 := Aside0.mk (HI4.out.below hb10)
                clear HI4 hb10
                dsimp only
                go_wp2_with fail
                exact ⟨⟨k + 1, px, py, pz, pw, w7.heap.size, gb, n, cb, gs', gb', cs', cb', (fun i => if i < 6 then false else s i), b, s', b', by omega, by omega, rfl, rfl, rfl, rfl, by rfl, HI5⟩, by simp only [intOf]; omega⟩
              | false =>
                go_wp2_with fail
                refine (Reset_any px n _ _ _ HI2.out.x).mono ?_
                rintro e w7 ⟨⟨v7, rfl⟩, hd7, hg7⟩
                have hy7 : YAt w7 py n s b gs gb cs cb := by
                  obtain ⟨t1, t2, t3⟩ := HI2.out.y.types HI2.out.x (by decide) (by decide)
                  obtain ⟨l1, l2, l3⟩ := HI2.out.y.lts
                  exact HI2.out.y.move (hg7.block py l1 (fun e => t1 (Option.some.inj e).symm)) (hg7.block gs l2 (fun e => t2 (Option.some.inj e).symm)) (hg7.block gb l3 (fun e => t3 (Option.some.inj e).symm))
                have HY7 := Aside0.mk hy7
                have HD7 := Aside0.mk hd7
                have HG7 := Aside0.mk hg7
                clear hy7 hd7 hg7
                dsimp only
                go_wp2_with fail
                refine (RReset_any py n gs gb cs cb hn1 s b w7 HY7.out).mono ?_
                rintro e w8 ⟨⟨v8, rfl⟩, hy8, hg8⟩
                have HI3 := Aside0.mk (HI2.out.reset hn1.2 HD7.out HG7.out hy8 hg8)
                clear hy8 hg8 HY7 HD7 HG7 HI2
                dsimp only
                go_wp2_with fail
                refine (like_any px py n w7.heap.size gb n cb hn1 _ _ _ HI3.out.x HI3.out.y).mono ?_
                rintro e w9 ⟨rfl, hb9⟩
                have HI4 := Aside0.mk (HI3.out.below hb9)
                clear HI3 hb9
                dsimp only
                go_wp2_with fail
                refine (like_any pz pw n gs' gb' cs' cb' hn1 _ _ _ HI4.out.z HI4.out.v).mono ?_
                rintro e w10 ⟨rfl, hb10⟩
                have HI5 := Aside0.mk (HI4.out.below hb10)
                clear HI4 hb10
                dsimp only
                go_wp2_with fail
                exact ⟨⟨k + 1, px, py, pz, pw, w7.heap.size, gb, n, cb, gs', gb', cs', cb', (fun i => if i < 6 then false else s i), b, s', b', by omega, by omega, rfl, rfl, rfl, rfl, by rfl, HI5⟩, by simp only [intOf]; omega⟩
            · cases hin : isIn n mb with
              | true =>
                go_wp2_with fail
                refine (BClone_any px n _ _ _ HI2.out.x).mono ?_
                rintro e w7 ⟨px1, rfl, hp1, hx7, hb7⟩
                have HX7 := Aside0.mk (And.intro hp1 (And.intro hx7 hb7))
                clear hp1 hx7 hb7
                dsimp only
                go_wp2_with fail
                refine (RClone_any py n gs gb cs cb hn1 s b w7 (HI2.out.y.below HX7.out.2.2)).mono ?_
                rintro e w8 ⟨py1, gs1, gb1, cs1, cb1, rfl, hy8, l1, l2, l3, hb8⟩
                have HI3 := Aside0.mk (HI2.out.clone HX7.out.2.1 HX7.out.1 HX7.out.2.2 hy8 l1 l2 l3 hb8)
                clear hy8 l1 l2 l3 hb8 HX7 HI2
                dsimp only
                go_wp2_with fail
                refine (like_any px1 py1 n gs1 gb1 cs1 cb1 hn1 _ _ _ HI3.out.x HI3.out.y).mono ?_
                rintro e w9 ⟨rfl, hb9⟩
                have HI4 := Aside0.mk (HI3.out.below hb9)
                clear HI3 hb9
                dsimp only
                go_wp2_with fail
                refine (like_any px py n gs gb cs cb hn1 _ _ _ HI4.out.z HI4.out.v).mono ?_
                rintro e w10 ⟨rfl, hb10⟩
                have HI5 := Aside0.mk (HI4.out.below hb10)
                clear HI4 hb10
                dsimp only
                go_wp2_with fail
                exact ⟨⟨k + 1, px1, py1, px, py, gs1, gb1, cs1, cb1, gs, gb, cs, cb, s, b, s, b, by omega, by omega, rfl, rfl, rfl, rfl, by rfl, HI5⟩, by simp only [intOf]; omega⟩
              | false =>
                go_wp2_with fail
                refine (BClone_any px n _ _ _ HI2.out.x).mono ?_
                rintro e w7 ⟨px1, rfl, hp1, hx7, hb7⟩
                have HX7 := Aside0.mk (And.intro hp1 (And.intro hx7 hb7))
                clear hp1 hx7 hb7
                dsimp only
                go_wp2_with fail
                refine (RClone_any py n gs gb cs cb hn1 s b w7 (HI2.out.y.below HX7.out.2.2)).mono ?_
                rintro e w8 ⟨py1, gs1, gb1, cs1, cb1, rfl, hy8, l1, l2, l3, hb8⟩
                have HI3 := Aside0.mk (HI2.out.clone HX7.out.2.1 HX7.out.1 HX7.out.2.2 hy8 l1 l2 l3 hb8)
                clear hy8 l1 l2 l3 hb8 HX7 HI2
                dsimp only
                go_wp2_with fail
                refine (like_any px1 py1 n gs1 gb1 cs1 cb1 hn1 _ _ _ HI3.out.x HI3.out.y).mono ?_
                rintro e w9 ⟨rfl, hb9⟩
                have HI4 := Aside0.mk (HI3.out.below hb9)
                clear HI3 hb9
                dsimp only
                go_wp2_with fail
                refine (like_any px py n gs gb cs cb hn1 _ _ _ HI4.out.z HI4.out.v).mono ?_
                rintro e w10 ⟨rfl, hb10⟩
                have HI5 := Aside0.mk (HI4.out.below hb10)
                clear HI4 hb10
                dsimp only
                go_wp2_with fail
                exact ⟨⟨k + 1, px1, py1, px, py, gs1, gb1, cs1, cb1, gs, gb, cs, cb, s, b, s, b, by omega, by omega, rfl, rfl, rfl, rfl, by rfl, HI5⟩, by simp only [intOf]; omega⟩

        · obtain rfl : k = 100 := by omega
          have hnb : ¬ (((100 : Nat) : Int) < 100) := by decide
          go_wp2_with fail
          go_ret
          exact ⟨rfl, HI.out.bel⟩
      · have hnb : ¬ ((k : Int) < (L.length : Int)) := by omega
        go_wp2_with fail
        go_ret
        exact ⟨rfl, HI.out.bel⟩
  · refine (New_no n0 (by omega) w1).mono ?_
    rintro e w2 ⟨rfl, rfl⟩
    dsimp only
    go_wp2_with fail
    refine (RNew_no n0 (by omega) _).mono ?_
    rintro e w3 ⟨rfl, rfl⟩
    dsimp only
    go_wp2_with fail
    go_ret
    exact ⟨rfl, HB1.out⟩
end Go.Proofs.YtbnbplppgbmkpaaGreatDoor

namespace Go.Proofs.YtbnbplppgbmkpaaGreatDoor.sessionBoards
open Go.ChangeShapes Go.WideShapes Go.ChangeAt Go.RowKit
open Go.Proofs.YtbnbplppgbmkpaaGreatDoorW.PrintWords PSessionSeals

theorem cells4 : Tryz.prog.cellsOf 4 = 1 := by kernel_rfl
theorem cells45 : Tryz.prog.cellsOf 45 = 1 := by kernel_rfl
theorem cells55 : Tryz.prog.cellsOf 55 = 3 := by kernel_rfl
theorem ints_wf {n : Int} (h : (Lit.int .i64 n).wf = true) : -9223372036854775808 ≤ n ∧ n ≤ 9223372036854775807 := by
  simpa [Lit.wf, IntKind.min, IntKind.max, IntKind.signed, IntKind.bits] using h

theorem open_calls {H : Type} {enc : TypeId × Value → H} {W : World} {fuel : Nat} {cs : List Value} {x : DataW H × List MemPlace} (h : DataW.trod enc Tryz.prog W 0 (fun _ => true) true fuel 45 cs = some x) :
    ∃ (A : Option Addr) (l : List (Int × Int × Bool)) (c : Nat), cs = [.slice A l.length c] ∧ ORow W A l ∧ (∀ y ∈ l, -9223372036854775808 ≤ y.1 ∧ y.1 ≤ 9223372036854775807) ∧ l.length ≤ 9223372036854775807 := by
  rcases DataW.trod_slice Tryz.underlying45 h with ⟨rfl, rfl⟩ | ⟨a, len, cap, elems, rest, n, _, rfl, rfl, hb, hl, hm, hlen, hel, _, _⟩
  · exact ⟨none, [], 0, rfl, (fun h => absurd h (Nat.lt_irrefl 0)), (fun y hy => by cases hy), by simp⟩
  · have hall : ∀ i, i < len → ∃ p : Int × Int × Bool, W.cell? (a.add (i * 3)) = some (.int .i64 p.1) ∧ W.cell? (a.add (i * 3 + 1)) = some (.int .i64 p.2.1) ∧ W.cell? (a.add (i * 3 + 2)) = some (.bool p.2.2) ∧ -9223372036854775808 ≤ p.1 ∧ p.1 ≤ 9223372036854775807 := by
      intro i hi
      have he := hel i hi
      rw [cells55, List.getElem?_eq_getElem (by omega : i < elems.length)] at he
      obtain ⟨cs', hc, ht⟩ := Option.bind_eq_some_iff.1 he
      obtain ⟨y0, y1, y2, m, hy, hlc, r0, r1, r2⟩ := Deep.trod_struct3 Tryz.underlying55 ht
      rw [cells3] at r0 r1
      rw [cells4] at r2
      obtain ⟨z0, q0, w0, wf0⟩ := DataW.trod_int Tryz.underlying3 r0
      obtain ⟨z1, q1, w1, _⟩ := DataW.trod_int Tryz.underlying3 r1
      obtain ⟨z2, q2, w2⟩ := DataW.trod_bool Tryz.underlying4 r2
      rw [cells55] at hlc
      match cs', hlc with
      | [c0, c1, c2], _ =>
        simp at q0 q1 q2
        subst q0 q1 q2
        have hcs := World.cells?_some hc
        obtain ⟨f1, f2⟩ := ints_wf wf0
        refine ⟨⟨z0, z1, z2⟩, ?_, ?_, ?_, f1, f2⟩
        · have := hcs.2.2 0 (by decide)
          rw [Addr.add_add] at this
          exact this
        · have := hcs.2.2 1 (by decide)
          rw [Addr.add_add] at this
          exact this
        · have := hcs.2.2 2 (by decide)
          rw [Addr.add_add] at this
          exact this
    obtain ⟨l, hll, hp⟩ := list_of len hall
    refine ⟨some a, l, cap, by rw [hll], fun _ => ⟨a, rfl, fun i p hi => ⟨(hp i p hi).1, (hp i p hi).2.1, (hp i p hi).2.2.1⟩⟩, fun y hy => ?_, by simp only [maxLen] at hm; omega⟩
    obtain ⟨j, hj⟩ := List.getElem?_of_mem hy
    exact (hp j y hj).2.2.2

set_option maxRecDepth 100000 in
theorem contract (H : Type) (enc : TypeId × Value → H) (W : World) (base : Nat) (args : Array Value) (ds gs : List (DataW H)) (before : List MemPlace)
    (hval : ∀ (j : Nat) t v, Tryz.f6.params[j]? = some t → args[j]? = some v → Value.okWide Tryz.prog W .any base t v)
    (hW : DataW.Whole enc Tryz.prog Tryz.f6.params.toList Rows.sessionBoardsSpec.vars false W args.toList ds gs before) (hL : laidMetH Tryz.prog sesLaid W) :
    Calls Tryz.prog 6 args W fun e W' => ∃ v, e = .returned v ∧ Rows.sessionBoardsSpec.post enc Tryz.prog Tryz.f6 false true false false W args v W' := by
  have hW' := hW
  obtain ⟨p, q, hA0, hV, rfl, hfz, hnd⟩ := hW
  have hA : DataW.TrodAll enc Tryz.prog W 0 (fun _ => true) true Tryz.f6.params.toList args.toList ds p := hA0
  rw [Tryz.params6] at hA hval
  obtain ⟨v0, vs0, d0, ds0, p0, q0, hargs, rfl, rfl, h0, r0⟩ := trodAll_cons hA
  obtain ⟨v1, vs1, d1, ds1, p1, q1, rfl, rfl, rfl, h1, r1⟩ := trodAll_cons r0
  obtain ⟨rfl, rfl, rfl⟩ := trodAll_nil r1
  obtain rfl : args = #[v0, v1] := by cases args; simp_all
  obtain ⟨rfl, rfl⟩ := trodVars_none hV
  have k0 := h0
  have k1 := h1
  have lt0 : ∀ x ∈ p0, x.block < W.heap.size := by obtain ⟨m, hm⟩ := k0; exact DataW.trod_lt m _ _ _ hm
  have lt1 : ∀ x ∈ p1, x.block < W.heap.size := by obtain ⟨m, hm⟩ := k1; exact DataW.trod_lt m _ _ _ hm
  obtain ⟨n, rfl, rfl, rfl, hwn⟩ := open_int Tryz.underlying3 (hval 0 3 v0 rfl rfl) h0
  obtain ⟨A1, n1, c1, rfl⟩ := okWide_slice Tryz.underlying45 (hval 1 45 v1 rfl rfl)
  obtain ⟨fuel, hf⟩ := h1
  obtain ⟨A, l, c, hcs, hR, hw, hll⟩ := open_calls hf
  have hcs' : [Value.slice A1 n1 c1] = [Value.slice A l.length c] := hcs
  obtain ⟨rfl, rfl, rfl⟩ : A1 = A ∧ n1 = l.length ∧ c1 = c := by
    injection hcs' with h _
    injection h with a b c
    exact ⟨a, b, c⟩
  clear hA0
  simp only [List.append_nil] at hW'
  obtain ⟨henv, hks⟩ := laid_env hL
  refine (boards_any n l A1 c1 W henv hks hR hll hw).mono fun e W' ⟨he, bel⟩ => ?_
  subst he
  exact ⟨_, rfl, _, _, _, [], _, [], hW', trodAll_mk1 (shut_bool Tryz.underlying4 _),
    trodAll_cons_mk (Below.trod laidOut (by kernel_rfl) (of_decide_eq_true (by kernel_rfl)) k0 bel lt0) (trodAll_cons_mk (Below.trod laidOut (by kernel_rfl) (of_decide_eq_true (by kernel_rfl)) k1 bel lt1) trodAll_mk0), rfl, bel.frame _, fun h => by cases h⟩

theorem reads (os : Os) {H : Type} (enc : TypeId × Value → H) : ∃ places, DataW.whole enc Tryz.prog ((sesWorld os).forCall (fun _ _ => 0) ⟨#[], #[.int .i64 0, .slice none 0 0], []⟩).memory Tryz.f6.params.toList Rows.sessionBoardsSpec.vars false #[Value.int .i64 0, .slice none 0 0].toList 8 = some ([.lit (.int .i64 0), .nil], [], places) :=
  ⟨[], by kernel_rfl⟩

set_option maxRecDepth 100000 in
theorem lifted (os : Os) (started : os.Started) (H : Type) (enc : TypeId × Value → H) (F : Stop.Interp) :
    ReturnsInHanded {} Tryz.checked os 6 .any ((OpenSpec.ofChange Rows.sessionBoardsSpec).preRow enc Tryz.prog Tryz.f6 Rows.sessionBoardsRow.domain false Rows.sessionBoardsRow.laid) (((OpenSpec.ofChange Rows.sessionBoardsSpec).at F).post enc Tryz.prog Tryz.f6 false true false false) := by
  obtain ⟨places, hx⟩ := reads os enc
  refine returnsInHanded_of_row (C := Tryz.checked) (s := OpenSpec.ofChange Rows.sessionBoardsSpec) own started (by kernel_rfl) Tryz.func6
    (witness_row_at (enc := enc) (C := Tryz.checked) false (sesWorld os) #[.int .i64 0, .slice none 0 0] (sesWorld_os _) (by kernel_rfl) (by kernel_rfl) (by kernel_rfl)
      (OpenSpec.preRow_of_cond 8 hx (by kernel_rfl) (fun k hk => by cases hk) (by kernel_rfl) (laid_met os _))) ?_
  intro W base args ds gs before hval hW _ _ _ hL hsh _
  exact contract H enc W base args ds gs before hval hW hL

theorem said : Rows.SessionBoardsSaid :=
  OpenClaim.holds_of_cond 6 Tryz.f6 rfl rfl rfl rfl rfl rfl rfl ⟨rfl, rfl, rfl, rfl, rfl⟩ rfl rfl rfl rfl rfl (by kernel_rfl) Tryz.func6 (by kernel_rfl)
    (of_decide_eq_true (by kernel_rfl)) (by unfold Func.isWrapper; first | (rw [if_pos (by decide +kernel)]; kernel_rfl) | (rw [if_neg (by decide +kernel)]; exact ⟨rfl, rfl⟩))
    (fun os started H enc _ F => by rw [OpenClaim.pre_eq_preRow]; exact lifted os started H enc F)

theorem plain (f : FuncId) (fn : Func) (hf : Tryz.pinned.checked.prog.funcNamed "groat/groatlaw13.SessionBoards" = some f) (hfn : Tryz.pinned.checked.prog.funcs[f]? = some fn) :
    true = Tryz.pinned.checked.prog.looks [] ∧ ∀ (j : Nat) t, fn.params[j]? = some t → Tryz.pinned.checked.prog.wantsStandIn t = false := by
  obtain rfl : f = 6 := Option.some.inj ((show Tryz.prog.funcNamed "groat/groatlaw13.SessionBoards" = some 6 by kernel_rfl).symm.trans hf) |>.symm
  obtain rfl : fn = Tryz.f6 := (Option.some.inj (Tryz.func6.symm.trans hfn)).symm
  refine ⟨by kernel_rfl, fun j t ht => ?_⟩
  rw [Tryz.params6] at ht
  have h : t = 3 ∨ t = 45 := by simpa using Array.mem_of_getElem? ht
  rcases h with rfl | rfl
  · exact (show Tryz.prog.wantsStandIn 3 = false by kernel_rfl)
  · exact (show Tryz.prog.wantsStandIn 45 = false by kernel_rfl)

theorem card : Rows.SessionBoardsCardSaid :=
  Claim7.holds_tied_plain_at .later [] _ _ _ _ said (fun _ h => by cases h) (by kernel_rfl) (fun _ h => by cases h) sessionBoards_row_tie rfl ⟨rfl, rfl⟩ (by kernel_rfl) rfl plain (by kernel_rfl)
#print axioms card
end Go.Proofs.YtbnbplppgbmkpaaGreatDoor.sessionBoards
