/- The hash: a state takes bytes. The hash: the value of what a state has taken. The hash: a block with each byte turned; the values of bytes, with a key and without. The hash: the value of bytes with a key. Fields: of, right, may, Check, as the program runs them. Fields: a text turned sign by sign; digits packed. -/
import Derived.Test.YtbnbplppgbmkpaaGreatDoorGrA
import Derived.WalkLawsBesides
import Derived.Outline
import Derived.Laws.Tables
import Derived.Laws.Rows
import Derived.Laws.CopyOwn
import Derived.Laws.CopyRow
import Derived.Deep.DeepCutAuto
import Derived.Deep.CutBlock
import Derived.Test.YtbnbplppgbmkpaaGreatDoorWWords
import Derived.WalkKit
import Derived.Handy
import Derived.Lib.Hide
import Derived.Deep.LoopGhost
import Derived.WalkSpells
import Derived.Test.YtbnbplppgbmkpaaGreatDoorWLast
namespace Go.Proofs.YtbnbplppgbmkpaaGreatDoor
open Go.RowKit Go.Proofs.YtbnbplppgbmkpaaGreatDoorW.PrintLast Go.Proofs.YtbnbplppgbmkpaaGreatDoorW.PrintWords

theorem piece_lit (s : W8) (ks ps : List Int) (hps : ps.length = 64) (A : Option Addr) (c : Nat) (w : World) (hr : Kd.C (Kd.int .u8) w A 64 ps)
    (hK : ∀ i, i < 64 → w.cell? ⟨4, i, none⟩ = some (.int .u32 (ks.getD i 0))) :
    Calls Tryz.prog 72 #[.agg #[.int .u32 s.a, .int .u32 s.b, .int .u32 s.c, .int .u32 s.d, .int .u32 s.e, .int .u32 s.f, .int .u32 s.g, .int .u32 s.h], .slice A 64 c] w fun e w' =>
      e = .returned (.agg #[.int .u32 (pieceF ks s ps).a, .int .u32 (pieceF ks s ps).b, .int .u32 (pieceF ks s ps).c, .int .u32 (pieceF ks s ps).d, .int .u32 (pieceF ks s ps).e, .int .u32 (pieceF ks s ps).f, .int .u32 (pieceF ks s ps).g, .int .u32 (pieceF ks s ps).h]) ∧ Below w.heap.size w w' :=
  piece_any s ks ps hps A c w (by rw [hps]; exact hr) hK

theorem drop_block (A : Option Addr) (k n c n' c' : Nat) : (Value.slice (if c = k then A else A.map (·.add k)) n' c').ownBlock = (Value.slice A n c).ownBlock := by
  split
  · cases A <;> rfl
  · cases A with
    | none => rfl
    | some a =>
      simp only [Value.ownBlock, Option.map_some, Option.some.injEq]
      unfold Addr.add
      split <;> rfl

theorem bcut (A : Option Addr) (n c : Nat) (h : 64 ≤ n) : ∃ A2, A2 = (if c = 64 then A else A.map (·.add 64)) ∧ ∀ W, (Instr.slice 22 (.slice A n c) (some (.int .i64 64)) none none).run Tryz.prog W = .ok (.slice A2 (n - 64) (c - 64)) W := by
  obtain ⟨i0, hi, hz0, hz1, hz2⟩ := info_parts byteInfo
  refine ⟨_, rfl, fun W => ?_⟩
  have := cut_from (P := Tryz.prog) 22 5 .i64 Tryz.underlying22 hi 1 hz1 A n c 64 (by omega) (by omega) W
  simpa using this
theorem brow_far {W : World} {B g : Nat} {v : Value} {xs : List Int} (h : BRow W B v xs) (hne : v.ownBlock ≠ some g) (i : Nat) (u : Value) : BRow (W.setCell ⟨g, i, none⟩ u) B v xs :=
  brow_move h fun k hk => Below.heap_setCell W _ u k (fun e => hne (by rw [hk, e]))
theorem c_far {W : World} {A : Option Addr} {m g : Nat} {ys : List Int} (h : Kd.C (Kd.int .u8) W A m ys) (hA : 0 < m → ∀ ad, A = some ad → ad.block ≠ g) (i : Nat) (u : Value) : Kd.C (Kd.int .u8) (W.setCell ⟨g, i, none⟩ u) A m ys := by
  have hr := Kd.reads_of_C (d := 0) h
  refine Kd.C_of_reads (d := 0) ⟨hr.1, hr.2.1, fun hn => ?_⟩
  obtain ⟨ad, e, hc⟩ := hr.2.2 hn
  refine ⟨ad, e, fun j hj => ?_⟩
  rw [← hc j hj]
  have hb : (ad.add j).block = ad.block := by unfold Addr.add; split <;> rfl
  have hk := Below.heap_setCell W ⟨g, i, none⟩ u (ad.add j).block (by rw [hb]; exact hA hn ad e)
  simp [World.cell?, hk]

set_option maxRecDepth 100000 in
set_option maxHeartbeats 1000000 in
theorem write_any (ks : List Int) (h : W8) (v : Value) (xs b : List Int) (n : Int) (g B : Nat) (A : Option Addr) (c : Nat) (w : World) (hg : w.heap[g]? = some (.cells (stateV h v n) 135 (0, 0)))
    (hq : BRow w B v xs) (hB : B ≤ g) (hr : Kd.C (Kd.int .u8) w A b.length b) (hA : 0 < b.length → ∀ ad, A = some ad → ad.block ≠ g) (hl : xs.length + b.length ≤ 140737488355328)
    (hK : ∀ i, i < 64 → w.cell? ⟨4, i, none⟩ = some (.int .u32 (ks.getD i 0))) (h4 : 4 < B) :
    Calls Tryz.prog 50 #[.pointer (some ⟨g, 0, none⟩), .slice A b.length c] w fun e w' => e = .returned (.tuple #[]) ∧
      ∃ v', w'.heap[g]? = some (.cells (stateV (eatF ks h (xs ++ b)).1 v' (IntKind.u64.wrap (n + IntKind.u64.wrap (b.length : Int)))) 135 (0, 0)) ∧ BRow w' B v' (eatF ks h (xs ++ b)).2 ∧ Below B w w' ∧ KeepBut w w' g v.ownBlock ∧
        (v'.ownBlock = v.ownBlock ∨ v'.ownBlock = none ∨ ∃ k, v'.ownBlock = some k ∧ w.heap.size ≤ k) := by
  obtain ⟨Av, cv, rfl, hcv⟩ := brow_slice hq
  have c8 := blk_cell hg 8
  have c9 := blk_cell hg 9
  have f8 := blk_frozen hg 8
  have f9 := blk_frozen hg 9
  simp only [stateV, List.getElem?_toArray, List.getElem?_cons_zero, List.getElem?_cons_succ] at c8 c9
  have HG := Aside0.mk hg
  have HQ := Aside0.mk hq
  have HR := Aside0.mk hr
  have HA := Aside0.mk hA
  have HK := Aside0.mk hK
  have HL := Aside0.mk hl
  have hgs : g < w.heap.size := blk_lt hg
  clear hg hq hr hA hK hl
  go_enter Tryz.func50, Tryz.ntmps50
  have HN : Aside0 (∃ N : Int, N = IntKind.u64.wrap (n + IntKind.u64.wrap (b.length : Int))) := ⟨_, rfl⟩
  go_wp2_with (refine brow_append (v := .slice Av xs.length cv) rfl _ _ rfl rfl rfl (xs := xs) (ys := b) (brow_far HQ.out (brow_ne HQ.out HG.out (by decide)) _ _) (c_far HR.out HA.out _ _) (by simp; omega) HL.out ?_; intro v1 w1 hq1 hg1 hat1; obtain ⟨A1, c1, rfl, hc1⟩ := brow_slice hq1; have HG1 := Aside0.mk (blk_grown (blk_set HG.out 9 _) hg1 (fun e => brow_ne HQ.out HG.out (by decide) e.symm)); have e8 := blk_cell HG1.out 8; have y8 := blk_frozen HG1.out 8; simp only [stateV, List.setIfInBounds_toArray, List.set_cons_zero, List.set_cons_succ, List.getElem?_toArray, List.getElem?_cons_zero, List.getElem?_cons_succ] at e8; have HQ1 := Aside0.mk hq1; have HGR := Aside0.mk hg1; have HAT := Aside0.mk hat1; clear hq1 hg1 hat1 c8 c9 f8 f9)
  obtain ⟨N, hN⟩ := HN.out
  go_loopg [] (xs ++ b).length (fun gk wr => ∃ (hc : W8) (l : List Int) (A1 : Option Addr) (c1 : Nat), gk = l.length ∧ l.length ≤ c1 ∧ Aside0 (wr.heap[g]? = some (.cells (stateV hc (.slice A1 l.length c1) N) 135 (0, 0))) ∧ Aside0 (BRow wr B (.slice A1 l.length c1) l) ∧ Aside0 (eatF ks h (xs ++ b) = eatF ks hc l) ∧ Aside0 (Below B w wr) ∧ Aside0 (KeepBut w wr g (Value.slice Av xs.length cv).ownBlock) ∧ Aside0 ((Value.slice A1 l.length c1).ownBlock = (Value.slice Av xs.length cv).ownBlock ∨ (Value.slice A1 l.length c1).ownBlock = none ∨ ∃ k, (Value.slice A1 l.length c1).ownBlock = some k ∧ w.heap.size ≤ k))
  case atStart =>
    refine ⟨h, xs ++ b, A1, c1, rfl, hc1, ⟨?_⟩, ⟨?_⟩, ⟨rfl⟩, ⟨?_⟩, ⟨?_⟩, ⟨?_⟩⟩
    · have hq := blk_set HG1.out 8 (.slice A1 (xs ++ b).length c1)
      rw [hN]
      simpa [stateV] using hq
    · exact brow_far HQ1.out (brow_ne HQ1.out HG1.out (by decide)) _ _
    · exact (((Below.refl B w).setCell hB _).grown HGR.out (by simp; omega) (fun k hk => brow_base HQ.out k hk)).setCell hB _
    · refine KeepBut.set_ ?_ 8 _
      exact KeepBut.trans (KeepBut.set_ (KeepBut.refl w g _) 9 _) (KeepBut.of_grown HGR.out g) (.inl rfl)
    · rcases HAT.out with e | ⟨k, e, hk⟩
      · exact .inl e
      · exact .inr (.inr ⟨k, e, by simpa using hk⟩)
  case round =>
    clear HG1 HQ1 HGR HAT e8 y8
    obtain ⟨hc, l, A1, c1, hgk, hlc, HG, HQ, HE, HB, HKB, HO⟩ := hrel
    have HGK := Aside0.mk hgk
    clear hgk
    have q8 := blk_cell HG.out 8
    simp only [stateV, List.getElem?_toArray, List.getElem?_cons_zero, List.getElem?_cons_succ] at q8
    have hlm : (l.length : Int) ≤ 9223372036854775807 := by have := brow_max HQ.out; omega
    by_cases h64 : 64 ≤ l.length
    · have HT : Aside0 (Kd.C (Kd.int .u8) wr.drew A1 64 (l.take 64)) := ⟨Kd.C_drew (by have h := brow_reads (xs := l.take 64) (c := c1) (A := A1) (by have h := brow_take HQ.out h64; rw [List.length_take, Nat.min_eq_left h64]; exact h); rw [List.length_take, Nat.min_eq_left h64] at h; exact h)⟩
      have HKr : Aside0 (∀ i, i < 64 → wr.drew.cell? ⟨4, i, none⟩ = some (.int .u32 (ks.getD i 0))) := ⟨fun i hi => (HB.out.cell (p := ⟨4, i, none⟩) h4).trans (HK.out i hi)⟩
      have q0 := blk_cell HG.out 0
      have q1 := blk_cell HG.out 1
      have q2 := blk_cell HG.out 2
      have q3 := blk_cell HG.out 3
      have q4 := blk_cell HG.out 4
      have q5 := blk_cell HG.out 5
      have q6 := blk_cell HG.out 6
      have q7 := blk_cell HG.out 7
      simp only [stateV, List.getElem?_toArray, List.getElem?_cons_zero, List.getElem?_cons_succ] at q0 q1 q2 q3 q4 q5 q6 q7
      have h64c : (64 : Int) ≤ (c1 : Int) := by omega
      go_wp2_with fail
      refine start_ (n := 14) (S := fun w' => w'.cell? ⟨g, 0, none⟩ = some (.int .u32 hc.a) ∧ w'.cell? ⟨g, 1, none⟩ = some (.int .u32 hc.b) ∧ w'.cell? ⟨g, 2, none⟩ = some (.int .u32 hc.c) ∧ w'.cell? ⟨g, 3, none⟩ = some (.int .u32 hc.d) ∧ w'.cell? ⟨g, 4, none⟩ = some (.int .u32 hc.e) ∧ w'.cell? ⟨g, 5, none⟩ = some (.int .u32 hc.f) ∧ w'.cell? ⟨g, 6, none⟩ = some (.int .u32 hc.g) ∧ w'.cell? ⟨g, 7, none⟩ = some (.int .u32 hc.h) ∧ w'.cell? ⟨g, 8, none⟩ = some (.slice A1 l.length c1)) (ds := [13]) #[false, false, false, false, false, false, false, false, false, false, false, false, false, false] (by kernel_rfl) rfl rfl ⟨q0, q1, q2, q3, q4, q5, q6, q7, q8⟩ (fun hHeld => ?_)
      refine pure_ (i := 0) (N := some 29) (v := ?_) (a' := ?_) #[true, false, false, false, false, false, false, false, false, false, false, false, false, false] rfl rfl (by kernel_rfl) (fun _ _ _ h => h) (Or.inl ⟨by rfl, ?_⟩) ?_ ?_
      rotate_left
      · intro w'
        go_simp
        with_reducible rfl
      rotate_left
      · simp only [Act.put, List.setIfInBounds_toArray, List.set_cons_zero, List.set_cons_succ]
        rfl
      refine pure_ (i := 1) (N := some 30) (v := ?_) (a' := ?_) #[true, true, false, false, false, false, false, false, false, false, false, false, false, false] rfl rfl (by kernel_rfl) (fun _ _ _ h => h) (Or.inl ⟨by rfl, ?_⟩) ?_ ?_
      rotate_left
      · intro w'
        go_simp
        with_reducible rfl
      rotate_left
      · simp only [Act.put, List.setIfInBounds_toArray, List.set_cons_zero, List.set_cons_succ]
        rfl
      refine pure_ (i := 2) (N := some 31) (v := ?_) (a' := ?_) #[true, true, true, false, false, false, false, false, false, false, false, false, false, false] rfl rfl (by kernel_rfl) (fun _ _ _ h => h) (Or.inl ⟨by rfl, ?_⟩) ?_ ?_
      rotate_left
      · intro w'
        go_simp
        with_reducible rfl
      rotate_left
      · simp only [Act.put, List.setIfInBounds_toArray, List.set_cons_zero, List.set_cons_succ]
        rfl
      refine pure_ (i := 3) (N := some 32) (v := ?_) (a' := ?_) #[true, true, true, true, false, false, false, false, false, false, false, false, false, false] rfl rfl (by kernel_rfl) (fun _ _ _ h => h) (Or.inl ⟨by rfl, ?_⟩) ?_ ?_
      rotate_left
      · intro w'
        go_simp
        with_reducible rfl
      rotate_left
      · simp only [Act.put, List.setIfInBounds_toArray, List.set_cons_zero, List.set_cons_succ]
        rfl
      refine pure_ (i := 5) (N := some 34) (v := ?_) (a' := ?_) #[true, true, true, true, false, true, false, false, false, false, false, false, false, false] rfl rfl (by kernel_rfl) (fun _ _ _ h => h) (Or.inl ⟨by rfl, ?_⟩) ?_ ?_
      rotate_left
      · intro w'
        go_simp
        with_reducible rfl
      rotate_left
      · simp only [Act.put, List.setIfInBounds_toArray, List.set_cons_zero, List.set_cons_succ]
        rfl
      refine pure_ (i := 6) (N := some 35) (v := ?_) (a' := ?_) #[true, true, true, true, false, true, true, false, false, false, false, false, false, false] rfl rfl (by kernel_rfl) (fun _ _ _ h => h) (Or.inl ⟨by rfl, ?_⟩) ?_ ?_
      rotate_left
      · intro w'
        go_simp
        with_reducible rfl
      rotate_left
      · simp only [Act.put, List.setIfInBounds_toArray, List.set_cons_zero, List.set_cons_succ]
        rfl
      refine pure_ (i := 7) (N := some 36) (v := ?_) (a' := ?_) #[true, true, true, true, false, true, true, true, false, false, false, false, false, false] rfl rfl (by kernel_rfl) (fun _ _ _ h => h) (Or.inl ⟨by rfl, ?_⟩) ?_ ?_
      rotate_left
      · intro w'
        go_simp
        with_reducible rfl
      rotate_left
      · simp only [Act.put, List.setIfInBounds_toArray, List.set_cons_zero, List.set_cons_succ]
        rfl
      refine take_ (i := 4) (N := some 33) (v := ?_) (a' := ?_) #[true, true, true, true, true, true, true, true, false, false, false, false, false, false] rfl rfl (by kernel_rfl) (fun _ _ _ h => h) (Or.inl ⟨by rfl, ?_⟩) hHeld ?_ ?_
      rotate_left
      · rintro w' ⟨s0, s1, s2, s3, s4, s5, s6, s7, s8⟩
        go_simp
        with_reducible rfl
      rotate_left
      · simp only [Act.put, List.setIfInBounds_toArray, List.set_cons_zero, List.set_cons_succ]
        rfl
      refine take_ (i := 8) (N := some 37) (v := ?_) (a' := ?_) #[true, true, true, true, true, true, true, true, true, false, false, false, false, false] rfl rfl (by kernel_rfl) (fun _ _ _ h => h) (Or.inl ⟨by rfl, ?_⟩) hHeld ?_ ?_
      rotate_left
      · rintro w' ⟨s0, s1, s2, s3, s4, s5, s6, s7, s8⟩
        go_simp
        with_reducible rfl
      rotate_left
      · simp only [Act.put, List.setIfInBounds_toArray, List.set_cons_zero, List.set_cons_succ]
        rfl
      refine pure_ (i := 9) (N := some 38) (v := ?_) (a' := ?_) #[true, true, true, true, true, true, true, true, true, true, false, false, false, false] rfl rfl (by kernel_rfl) (fun _ _ _ h => h) (Or.inl ⟨by rfl, ?_⟩) ?_ ?_
      rotate_left
      · intro w'
        go_simp
        with_reducible rfl
      rotate_left
      · simp only [Act.put, List.setIfInBounds_toArray, List.set_cons_zero, List.set_cons_succ]
        rfl
      refine one_ (i := 10) (N := some 39) #[true, true, true, true, true, true, true, true, true, true, true, false, false, false] rfl rfl (by kernel_rfl) (by decide) (fun K hK => ?_)
      refine goes_ Tryz.func72 (by kernel_rfl) rfl #[.agg #[.int .u32 hc.a, .int .u32 hc.b, .int .u32 hc.c, .int .u32 hc.d, .int .u32 hc.e, .int .u32 hc.f, .int .u32 hc.g, .int .u32 hc.h], .slice A1 64 c1] (by rfl) rfl rfl (by simp only [List.map_toArray, List.map_cons, List.map_nil]; rfl) ?_
      with_reducible refine (piece_lit hc ks (l.take 64) (by simp; omega) A1 c1 _ HT.out HKr.out).mono ?_
      rintro e w3 ⟨rfl, hb3⟩
      refine ⟨_, rfl, ?_⟩
      have HG3 := Aside0.mk (blk_below (blk_drew HG.out) hb3)
      have HB3 := Aside0.mk hb3
      have c10 := blk_cell HG3.out 0
      have c11 := blk_cell HG3.out 1
      have c12 := blk_cell HG3.out 2
      have c13 := blk_cell HG3.out 3
      have c14 := blk_cell HG3.out 4
      have c15 := blk_cell HG3.out 5
      have c16 := blk_cell HG3.out 6
      have c17 := blk_cell HG3.out 7
      have c18 := blk_cell HG3.out 8
      have f10 := blk_frozen HG3.out 0
      have f11 := blk_frozen HG3.out 1
      have f12 := blk_frozen HG3.out 2
      have f13 := blk_frozen HG3.out 3
      have f14 := blk_frozen HG3.out 4
      have f15 := blk_frozen HG3.out 5
      have f16 := blk_frozen HG3.out 6
      have f17 := blk_frozen HG3.out 7
      clear hb3
      simp only [stateV, List.getElem?_toArray, List.getElem?_cons_zero, List.getElem?_cons_succ] at c10 c11 c12 c13 c14 c15 c16 c17 c18
      refine hK.out _ _ ⟨c10, c11, c12, c13, c14, c15, c16, c17, c18⟩ (fun hHeld => ?_)
      clear hK K
      refine norm_ (a' := ?_) ?_ ?_
      rotate_left
      · show Act.put _ (some 39) _ = _
        simp only [Act.put, List.setIfInBounds_toArray, List.set_cons_zero, List.set_cons_succ]
        rfl
      refine pure_ (i := 11) (N := some 40) (v := ?_) (a' := ?_) #[true, true, true, true, true, true, true, true, true, true, true, true, false, false] rfl rfl (by kernel_rfl) (fun _ _ _ h => h) (Or.inl ⟨by rfl, ?_⟩) ?_ ?_
      rotate_left
      · intro w'
        go_simp
        with_reducible rfl
      rotate_left
      · simp only [Act.put, List.setIfInBounds_toArray, List.set_cons_zero, List.set_cons_succ]
        rfl
      refine pure_ (i := 12) (N := some 41) (v := ?_) (a' := ?_) #[true, true, true, true, true, true, true, true, true, true, true, true, true, false] rfl rfl (by kernel_rfl) (fun _ _ _ h => h) (Or.inl ⟨by rfl, ?_⟩) ?_ ?_
      rotate_left
      · intro w'
        go_simp
        with_reducible rfl
      rotate_left
      · simp only [Act.put, List.setIfInBounds_toArray, List.set_cons_zero, List.set_cons_succ]
        rfl
      refine last_ (i := 13) (N := none) #[true, true, true, true, true, true, true, true, true, true, true, true, true, true] rfl rfl (by kernel_rfl) (by decide) (fun K hK => ?_)
      refine skip_ (w1 := ?_) (by rfl) rfl ?_ ?_
      rotate_left
      · go_simp
        rfl
      refine hK.out _ _ ?_
      clear hK K
      refine done_ (by kernel_rfl) ?_
      have hB3w : Below B w w3 := (below_drew HB.out).trans (HB3.out.mono (Nat.le_trans hB (Nat.le_of_lt (blk_lt HG.out))))
      have hK3w : KeepBut w w3 g (Value.slice Av xs.length cv).ownBlock := KeepBut.trans HKB.out (KeepBut.of_below (w := wr) (Below.trans (below_drew (Below.refl wr.heap.size wr)) HB3.out) g _) (.inl rfl)
      have hQ3 : BRow w3 B (.slice A1 l.length c1) l := brow_move HQ.out fun k hk => HB3.out.block k (brow_lt HQ.out k hk)
      have hne3 : (Value.slice A1 l.length c1).ownBlock ≠ some g := brow_ne HQ.out HG.out (by decide)
      have hGz := (blk_set (blk_set (blk_set (blk_set (blk_set (blk_set (blk_set (blk_set HG3.out 0 (Value.int IntKind.u32 (pieceF ks hc (l.take 64)).a)) 1 (Value.int IntKind.u32 (pieceF ks hc (l.take 64)).b)) 2 (Value.int IntKind.u32 (pieceF ks hc (l.take 64)).c)) 3 (Value.int IntKind.u32 (pieceF ks hc (l.take 64)).d)) 4 (Value.int IntKind.u32 (pieceF ks hc (l.take 64)).e)) 5 (Value.int IntKind.u32 (pieceF ks hc (l.take 64)).f)) 6 (Value.int IntKind.u32 (pieceF ks hc (l.take 64)).g)) 7 (Value.int IntKind.u32 (pieceF ks hc (l.take 64)).h))
      have hBz := (Below.setCell (p := { block := g, off := 7 }) (Below.setCell (p := { block := g, off := 6 }) (Below.setCell (p := { block := g, off := 5 }) (Below.setCell (p := { block := g, off := 4 }) (Below.setCell (p := { block := g, off := 3 }) (Below.setCell (p := { block := g, off := 2 }) (Below.setCell (p := { block := g, off := 1 }) (Below.setCell (p := { block := g, off := 0 }) hB3w hB (Value.int IntKind.u32 (pieceF ks hc (l.take 64)).a)) hB (Value.int IntKind.u32 (pieceF ks hc (l.take 64)).b)) hB (Value.int IntKind.u32 (pieceF ks hc (l.take 64)).c)) hB (Value.int IntKind.u32 (pieceF ks hc (l.take 64)).d)) hB (Value.int IntKind.u32 (pieceF ks hc (l.take 64)).e)) hB (Value.int IntKind.u32 (pieceF ks hc (l.take 64)).f)) hB (Value.int IntKind.u32 (pieceF ks hc (l.take 64)).g)) hB (Value.int IntKind.u32 (pieceF ks hc (l.take 64)).h))
      have hKz := (KeepBut.set_ (KeepBut.set_ (KeepBut.set_ (KeepBut.set_ (KeepBut.set_ (KeepBut.set_ (KeepBut.set_ (KeepBut.set_ hK3w 0 (Value.int IntKind.u32 (pieceF ks hc (l.take 64)).a)) 1 (Value.int IntKind.u32 (pieceF ks hc (l.take 64)).b)) 2 (Value.int IntKind.u32 (pieceF ks hc (l.take 64)).c)) 3 (Value.int IntKind.u32 (pieceF ks hc (l.take 64)).d)) 4 (Value.int IntKind.u32 (pieceF ks hc (l.take 64)).e)) 5 (Value.int IntKind.u32 (pieceF ks hc (l.take 64)).f)) 6 (Value.int IntKind.u32 (pieceF ks hc (l.take 64)).g)) 7 (Value.int IntKind.u32 (pieceF ks hc (l.take 64)).h))
      have hQz := (brow_far (brow_far (brow_far (brow_far (brow_far (brow_far (brow_far (brow_far hQ3 hne3 0 (Value.int IntKind.u32 (pieceF ks hc (l.take 64)).a)) hne3 1 (Value.int IntKind.u32 (pieceF ks hc (l.take 64)).b)) hne3 2 (Value.int IntKind.u32 (pieceF ks hc (l.take 64)).c)) hne3 3 (Value.int IntKind.u32 (pieceF ks hc (l.take 64)).d)) hne3 4 (Value.int IntKind.u32 (pieceF ks hc (l.take 64)).e)) hne3 5 (Value.int IntKind.u32 (pieceF ks hc (l.take 64)).f)) hne3 6 (Value.int IntKind.u32 (pieceF ks hc (l.take 64)).g)) hne3 7 (Value.int IntKind.u32 (pieceF ks hc (l.take 64)).h))
      simp only [stateV, List.setIfInBounds_toArray, List.set_cons_zero, List.set_cons_succ] at hGz
      clear q0 q1 q2 q3 q4 q5 q6 q7 q8 c10 c11 c12 c13 c14 c15 c16 c17 c18 f10 f11 f12 f13 f14 f15 f16 f17 hHeld HB3 HG3 HT HKr hB3w hK3w hQ3
      generalize (World.setCell (World.setCell (World.setCell (World.setCell (World.setCell (World.setCell (World.setCell (World.setCell w3 { block := g, off := 0 } (Value.int IntKind.u32 (pieceF ks hc (l.take 64)).a)) { block := g, off := 1 } (Value.int IntKind.u32 (pieceF ks hc (l.take 64)).b)) { block := g, off := 2 } (Value.int IntKind.u32 (pieceF ks hc (l.take 64)).c)) { block := g, off := 3 } (Value.int IntKind.u32 (pieceF ks hc (l.take 64)).d)) { block := g, off := 4 } (Value.int IntKind.u32 (pieceF ks hc (l.take 64)).e)) { block := g, off := 5 } (Value.int IntKind.u32 (pieceF ks hc (l.take 64)).f)) { block := g, off := 6 } (Value.int IntKind.u32 (pieceF ks hc (l.take 64)).g)) { block := g, off := 7 } (Value.int IntKind.u32 (pieceF ks hc (l.take 64)).h)) = wz at hGz hBz hKz hQz ⊢
      have HGz := Aside0.mk hGz
      have HBz := Aside0.mk hBz
      have HKz := Aside0.mk hKz
      have HQz := Aside0.mk hQz
      clear hGz hBz hKz hQz
      have z8 := blk_cell HGz.out 8
      have y8 := blk_frozen HGz.out 8
      simp only [List.getElem?_toArray, List.getElem?_cons_zero, List.getElem?_cons_succ] at z8
      obtain ⟨A2, hA2, hcut⟩ := bcut A1 l.length c1 h64
      have HA2 := Aside0.mk hA2
      clear hA2
      go_wp2
      go_roundg (l.length - 64)
      case measure => have := HGK.out; omega
      case rel =>
        have hd := brow_drop HQz.out h64
        rw [← HA2.out] at hd
        have hlen : (l.drop 64).length = l.length - 64 := by simp
        refine ⟨pieceF ks hc (l.take 64), l.drop 64, A2, c1 - 64, hlen.symm, by omega, ⟨?_⟩, ⟨?_⟩, ⟨?_⟩, ⟨HBz.out.setCell hB _⟩, ⟨KeepBut.set_ HKz.out 8 _⟩, ⟨?_⟩⟩
        · have hq := blk_set HGz.out 8 (.slice A2 (l.length - 64) (c1 - 64))
          rw [hlen]
          simpa [stateV] using hq
        · rw [hlen]
          exact brow_far hd (by rw [HA2.out, drop_block A1 64 l.length c1]; exact hne3) 8 _
        · rw [HE.out]; exact eatF_step ks hc l h64
        · rw [hlen, HA2.out, drop_block A1 64 l.length c1]; exact HO.out
    · have h64' : decide ((64 : Int) ≤ (l.length : Int)) = false := by simp; omega
      go_wp2_with fail
      have he := eatF_end ks hc l (by omega)
      go_end0
      rw [HE.out, he, ← hN]
      exact ⟨rfl, _, HG.out, HQ.out, HB.out, HKB.out, HO.out⟩
end Go.Proofs.YtbnbplppgbmkpaaGreatDoor

namespace Go.Proofs.YtbnbplppgbmkpaaGreatDoor
open Go.RowKit Go.Proofs.YtbnbplppgbmkpaaGreatDoorW.PrintLast Go.Proofs.YtbnbplppgbmkpaaGreatDoorW.PrintWords

theorem c_one (W : World) (x : Int) : Kd.C (Kd.int .u8) (W.alloc (.cells #[.int .u8 x] 5)) (some ⟨W.heap.size, 0, none⟩) 1 [x] := by
  refine Kd.C_of_reads (d := 0) ⟨rfl, by simp, fun _ => ⟨_, rfl, fun j hj => ?_⟩⟩
  obtain rfl : j = 0 := by omega
  simp [Addr.add]

/-- So many noughts that eight bytes more make the pieces whole. -/
def fillF (l : List Int) : List Int := l ++ List.replicate ((120 - l.length % 64) % 64) 0
theorem fillF_step (l : List Int) (h : l.length % 64 ≠ 56) : fillF l = fillF (l ++ [0]) := by
  unfold fillF
  rw [List.append_assoc]
  congr 1
  have e : (120 - l.length % 64) % 64 = (120 - (l ++ [0]).length % 64) % 64 + 1 := by simp; omega
  rw [e, List.replicate_succ]
  rfl
theorem fillF_end (l : List Int) (h : l.length % 64 = 56) : fillF l = l := by
  unfold fillF
  rw [h]
  simp
theorem fillF_length (l : List Int) : (fillF l).length % 64 = 56 := by
  unfold fillF
  simp
  omega
def lenB (n : Int) (i : Nat) : Int := IntKind.u64.wrap (8 * n) / 2 ^ (56 - 8 * i) % 256
def lensF (n : Int) (k : Nat) : List Int := (List.range k).map (lenB n)
theorem lensF_succ (n : Int) (k : Nat) : lensF n (k + 1) = lensF n k ++ [lenB n k] := by simp [lensF, List.range_succ]
def padF (l : List Int) (n : Int) : List Int := fillF (l ++ [128]) ++ lensF n 8
theorem padF_length (l : List Int) (n : Int) : (padF l n).length % 64 = 0 := by
  have := fillF_length (l ++ [128])
  unfold padF
  simp [lensF] at this ⊢
  omega
theorem padF_small (l : List Int) (n : Int) : (padF l n).length ≤ l.length + 80 := by
  unfold padF fillF lensF
  simp
  omega
def endF (ks : List Int) (h : W8) (l : List Int) (n : Int) : W8 := (eatF ks h (padF l n)).1

/-- What an append of bytes leaves alone. -/
def Grew (B : Nat) (w0 W w1 : World) : Prop := Below B w0 w1 ∧ W.heap.size ≤ w1.heap.size ∧ ∀ (k : Nat) (cs : Array Value) (t : TypeId), t ≠ 5 → W.heap[k]? = some (.cells cs t (0, 0)) → w1.heap[k]? = some (.cells cs t (0, 0))
theorem grew_of {W w0 w1 : World} {B : Nat} {v : Value} {xs : List Int} (h : BRow W B v xs) (hB : Below B w0 W) (hle : B ≤ W.heap.size) (hg : W.grownBy w1 v.ownBlock) : Grew B w0 W w1 :=
  ⟨hB.grown hg hle (fun k hk => brow_base h k hk), hg.size, fun _ _ _ ht hb => blk_grown hb hg (fun e => brow_ne h hb ht e.symm)⟩
theorem brow_empty {W : World} {B g : Nat} (hg : W.heap[g]? = some (.cells #[] 5 (0, 0))) (hB : B ≤ g) : BRow W B (.slice (some ⟨g, 0, none⟩) 0 0) [] :=
  ⟨rfl, .inl ⟨rfl, _, rfl, fun a ha => by obtain rfl := Option.some.inj ha; exact ⟨hB, _, hg⟩⟩⟩
section
variable {ops : Array Oper} {rest : List Oper} {o : Oper} {a : Act} {Q : Exit → Act → World → Prop}
theorem brow_join {W w0 : World} {B m c : Nat} {v : Value} {xs ys : List Int} {A : Option Addr} (hgd : o.guard = none) (s x : Operand) (ho : o.op = .call { callee := .builtin .append, args := #[s, x], argTypes := #[22, 22] })
    (hs : a.eval s = v) (hx : a.eval x = .slice A m c) (h : BRow W B v xs) (hr : Kd.C (Kd.int .u8) W A m ys) (hb : B ≤ W.heap.size) (hl : xs.length + m ≤ 140737488355328) (hB : Below B w0 W)
    (hK : ∀ A1 c1 w1, BRow w1 B (.slice A1 (xs ++ ys).length c1) (xs ++ ys) → (xs ++ ys).length ≤ c1 → Grew B w0 W w1 → wpList Tryz.prog ops Q rest (a.put o.dst (.slice A1 (xs ++ ys).length c1)) w1) : wpList Tryz.prog ops Q (o :: rest) a W := by
  refine brow_append hgd s x ho hs hx h hr hb hl fun v1 w1 h1 h2 _ => ?_
  obtain ⟨A1, c1, rfl, hc⟩ := brow_slice h1
  exact hK A1 c1 w1 h1 hc (grew_of h hB hb h2)
theorem brow_push {W w0 : World} {B : Nat} {v : Value} {xs : List Int} {y : Int} (hgd : o.guard = none) (s x : Operand) (ho : o.op = .call { callee := .builtin .append, args := #[s, x], argTypes := #[22, 22] })
    (hs : a.eval s = v) (hx : a.eval x = .slice (some ⟨W.heap.size, 0, none⟩) 1 1) (h : BRow W B v xs) (hB : Below B w0 W) (hb : B ≤ W.heap.size) (hl : xs.length + 1 ≤ 140737488355328)
    (hK : ∀ A1 c1 w1, BRow w1 B (.slice A1 (xs ++ [y]).length c1) (xs ++ [y]) → (xs ++ [y]).length ≤ c1 → Grew B w0 W w1 → wpList Tryz.prog ops Q rest (a.put o.dst (.slice A1 (xs ++ [y]).length c1)) w1) : wpList Tryz.prog ops Q (o :: rest) a (W.alloc (.cells #[.int .u8 y] 5)) := by
  refine brow_join (w0 := w0) hgd s x ho hs hx (brow_below h (below_alloc (Below.refl _ _) _)) (c_one W y) (by simp; omega) hl (hB.alloc hb _) fun A1 c1 w1 h1 h2 h3 => hK A1 c1 w1 h1 h2 ⟨h3.1, ?_, fun k cs t ht hk => h3.2.2 k cs t ht (blk_alloc hk _)⟩
  have := h3.2.1
  simp at this
  omega
end


set_option maxRecDepth 100000 in
set_option maxHeartbeats 2000000 in
theorem sum_any (ks : List Int) (h : W8) (l : List Int) (n : Int) (g c : Nat) (A : Option Addr) (w : World) (hg : w.heap[g]? = some (.cells (stateV h (.slice A l.length c) n) 135 (0, 0)))
    (hr : Kd.C (Kd.int .u8) w A l.length l) (hl : l.length ≤ 140737488355000) (hK : ∀ i, i < 64 → w.cell? ⟨4, i, none⟩ = some (.int .u32 (ks.getD i 0))) :
    Calls Tryz.prog 52 #[.pointer (some ⟨g, 0, none⟩)] w fun e w' => e = .returned (.agg (toldV (endF ks h l n) 32)) ∧ Below w.heap.size w w' := by
  have HG := Aside0.mk hg
  have HR := Aside0.mk hr
  have HK := Aside0.mk hK
  have h4 : 4 < w.heap.size := World.block_lt_of_cell? w ⟨4, 0, none⟩ (hK 0 (by decide))
  have hgs : g < w.heap.size := blk_lt hg
  have c8 := blk_cell hg 8
  simp only [stateV, List.getElem?_toArray, List.getElem?_cons_zero, List.getElem?_cons_succ] at c8
  clear hg hr hK
  go_enter Tryz.func52, Tryz.ntmps52
  go_wp2_with (first
    | (refine brow_join (w0 := w) (B := w.heap.size) (v := .slice (some ⟨w.heap.size + 1, 0, none⟩) 0 0) (xs := []) (ys := l) rfl _ _ rfl rfl rfl (brow_empty (heap_alloc2_new w _ _) (Nat.le_succ _)) (Kd.C_alloc (Kd.C_alloc HR.out _) _) (by simp; omega) (by simp; omega) (below_alloc (below_alloc (Below.refl _ _) _) _) ?_; intro A1 c1 w1 hq1 hc1 hg1; simp only [List.nil_append] at hq1 hc1; have HQ1 := Aside0.mk hq1; have HC1 := Aside0.mk hc1; have HG1 := Aside0.mk hg1; have HZ1 : Aside0 (∃ z : Array Value, z.size = 32 ∧ w1.heap[w.heap.size]? = some (.cells z 79 (0, 0))) := ⟨_, rfl, hg1.2.2 _ _ _ (by decide) (heap_alloc2_old w _ _)⟩; clear hq1 hg1 hc1 c8)
    | (refine brow_push (w0 := w) (B := w.heap.size) (v := .slice A1 l.length c1) (xs := l) (y := 128) rfl _ _ rfl rfl rfl HQ1.out HG1.out.1 HG1.out.1.size (by omega) ?_; intro A2 c2 w2 hq2 hc2 hg2; have HQ2 := Aside0.mk hq2; have HC2 := Aside0.mk hc2; have HG2 := Aside0.mk hg2; have HZ2 : Aside0 (∃ z : Array Value, z.size = 32 ∧ w2.heap[w.heap.size]? = some (.cells z 79 (0, 0))) := ⟨HZ1.out.imp fun z hz => ⟨hz.1, hg2.2.2 _ _ _ (by decide) hz.2⟩⟩; clear hq2 hg2 hc2))
  go_loopg [3] ((120 - (l ++ [128]).length % 64) % 64) (fun gk v3 wr => ∃ (e1 : List Int) (A1 : Option Addr) (c1 : Nat), v3 = .slice A1 e1.length c1 ∧ gk = (120 - e1.length % 64) % 64 ∧ e1.length + gk ≤ l.length + 70 ∧ Aside0 (e1.length ≤ c1) ∧ Aside0 (fillF (l ++ [128]) = fillF e1) ∧ Aside0 (BRow wr w.heap.size (.slice A1 e1.length c1) e1) ∧ Aside0 (Below w.heap.size w wr) ∧ Aside0 (∃ z : Array Value, z.size = 32 ∧ wr.heap[w.heap.size]? = some (.cells z 79 (0, 0))))
  case atStart =>
    exact ⟨_, _, _, by simp, rfl, by simp only [List.length_append, List.length_cons, List.length_nil]; omega, HC2, ⟨rfl⟩, HQ2, ⟨HG2.out.1⟩, HZ2⟩
  case round =>
    clear HQ1 HC1 HG1 HZ1 HQ2 HC2 HG2 HZ2
    obtain ⟨e1, A1', c1', rfl, hgk, hsm, HC, HE, HQ, HB, HZ⟩ := hrel
    have HGK := Aside0.mk hgk
    clear hgk
    by_cases h56 : e1.length % 64 = 56
    · have hne : ((e1.length : Int) % 64 != 56) = false := by simp; omega
      have hfe := fillF_end e1 h56
      have HFE := Aside0.mk hfe
      have HLE := Aside0.mk h56
      clear hfe h56
      go_wp2_with fail
      go_loopw [22, 3] (fun v22 v3 wr => ∃ (k : Nat) (e1 : List Int) (A1 : Option Addr) (c1 : Nat), k ≤ 8 ∧ v22 = .int .i64 k ∧ v3 = .slice A1 e1.length c1 ∧ Aside0 (e1 = fillF (l ++ [128]) ++ lensF n k) ∧ e1.length ≤ l.length + 70 + k ∧ Aside0 (e1.length ≤ c1) ∧ Aside0 (BRow wr w.heap.size (.slice A1 e1.length c1) e1) ∧ Aside0 (Below w.heap.size w wr) ∧ Aside0 (∃ z : Array Value, z.size = 32 ∧ wr.heap[w.heap.size]? = some (.cells z 79 (0, 0)))) (fun i _ _ => 8 - (intOf i).toNat)
      case atStart =>
        exact ⟨0, _, _, _, by omega, rfl, rfl, ⟨by rw [HE.out, HFE.out]; simp [lensF]⟩, by omega, HC, HQ, HB, HZ⟩
      case round =>
        clear HC HE HQ HB HZ HFE HLE HGK hsm
        obtain ⟨k, e1, A1', c1', hk, rfl, rfl, HE, hsm, HC, HQ, HB, HZ⟩ := hrel
        by_cases hlt : k < 8
        · have c9 : wr.cell? ⟨g, 9, none⟩ = some (.int .u64 n) := (HB.out.cell hgs).trans (blk_cell HG.out 9)
          go_wp2_with (refine brow_push (w0 := w) (B := w.heap.size) (v := .slice A1' e1.length c1') (xs := e1) (y := IntKind.u64.wrap (8 * n) / 2 ^ (56 - 8 * k) % 256) rfl _ _ rfl rfl rfl HQ.out HB.out HB.out.size (by omega) ?_; intro A2 c2 w2 hq2 hc2 hg2; have HQ2 := Aside0.mk hq2; have HC2 := Aside0.mk hc2; have HG2 := Aside0.mk hg2; have HZ2 : Aside0 (∃ z : Array Value, z.size = 32 ∧ w2.heap[w.heap.size]? = some (.cells z 79 (0, 0))) := ⟨HZ.out.imp fun z hz => ⟨hz.1, hg2.2.2 _ _ _ (by decide) hz.2⟩⟩; clear hq2 hg2 hc2 c9)
          go_roundw
          case rel =>
            exact ⟨k + 1, _, _, _, by omega, by go_num, by simp, ⟨by rw [HE.out, lensF_succ, List.append_assoc]; rfl⟩, by simp; omega, HC2, HQ2, ⟨HG2.out.1⟩, HZ2⟩
          case measure => simp [intOf]; omega
        · obtain rfl : k = 8 := by omega
          clear hlt hk
          obtain ⟨wo, rfl⟩ : ∃ wo : World, wo = wr := ⟨_, rfl⟩
          have hgo := HB.out.block g hgs
          have HGo := Aside0.mk (hgo.trans HG.out)
          clear hgo
          have q0 := blk_cell HGo.out 0
          have q1 := blk_cell HGo.out 1
          have q2 := blk_cell HGo.out 2
          have q3 := blk_cell HGo.out 3
          have q4 := blk_cell HGo.out 4
          have q5 := blk_cell HGo.out 5
          have q6 := blk_cell HGo.out 6
          have q7 := blk_cell HGo.out 7
          simp only [stateV, List.getElem?_toArray, List.getElem?_cons_zero, List.getElem?_cons_succ] at q0 q1 q2 q3 q4 q5 q6 q7
          go_wp2_with fail
          clear q0 q1 q2 q3 q4 q5 q6 q7
          have hgh : w.heap.size ≤ wo.heap.size := HB.out.size
          obtain ⟨gh, hgh0⟩ : ∃ gh, gh = wo.heap.size := ⟨_, rfl⟩
          rw [← hgh0] at hgh ⊢
          have HGH := Aside0.mk hgh0
          clear hgh0
          go_loopg [3] e1.length (fun gk v3 wr => ∃ (hc : W8) (e1 : List Int) (A1 : Option Addr) (c1 : Nat), v3 = .slice A1 e1.length c1 ∧ gk = e1.length ∧ e1.length % 64 = 0 ∧ e1.length ≤ c1 ∧ Aside0 (eatF ks h (padF l n) = eatF ks hc e1) ∧ Aside0 (BRow wr w.heap.size (.slice A1 e1.length c1) e1) ∧ Aside0 (Below w.heap.size w wr) ∧ Aside0 (∃ z : Array Value, z.size = 32 ∧ wr.heap[w.heap.size]? = some (.cells z 79 (0, 0))) ∧ Aside0 (wr.heap[gh]? = some (.cells hc.vals 132 (0, 0))))
          case atStart =>
            refine ⟨h, e1, A1', c1', rfl, rfl, ?_, HC.out, ⟨?_⟩, ⟨brow_below HQ.out (below_alloc (Below.refl _ _) _)⟩, ⟨below_alloc HB.out _⟩, ⟨HZ.out.imp fun z hz => ⟨hz.1, blk_alloc hz.2 _⟩⟩, ⟨?_⟩⟩
            · rw [HE.out]; exact padF_length l n
            · rw [HE.out]; rfl
            · rw [HGH.out]; exact blk_new wo _
          case round =>
            clear HC HE HQ HB HZ HGo hsm
            obtain ⟨hc, e1, A1, c1, rfl, hgk, hmod, hlc, HE, HQ, HB, HZ, HH⟩ := hrel
            have HGK := Aside0.mk hgk
            have HMOD := Aside0.mk hmod
            clear hgk hmod
            have hlm : (e1.length : Int) ≤ 9223372036854775807 := by have := brow_max HQ.out; omega
            have q0 := blk_cell HH.out 0
            have q1 := blk_cell HH.out 1
            have q2 := blk_cell HH.out 2
            have q3 := blk_cell HH.out 3
            have q4 := blk_cell HH.out 4
            have q5 := blk_cell HH.out 5
            have q6 := blk_cell HH.out 6
            have q7 := blk_cell HH.out 7
            simp only [W8.vals, List.getElem?_toArray, List.getElem?_cons_zero, List.getElem?_cons_succ] at q0 q1 q2 q3 q4 q5 q6 q7
            by_cases h0 : 0 < e1.length
            · have h64 : 64 ≤ e1.length := by have := HMOD.out; omega
              have HT : Aside0 (Kd.C (Kd.int .u8) wr.drew A1 64 (e1.take 64)) := ⟨Kd.C_drew (by have h := brow_reads (xs := e1.take 64) (c := c1) (A := A1) (by have h := brow_take HQ.out h64; rw [List.length_take, Nat.min_eq_left h64]; exact h); rw [List.length_take, Nat.min_eq_left h64] at h; exact h)⟩
              have HKr : Aside0 (∀ i, i < 64 → wr.drew.cell? ⟨4, i, none⟩ = some (.int .u32 (ks.getD i 0))) := ⟨fun i hi => (HB.out.cell (p := ⟨4, i, none⟩) h4).trans (HK.out i hi)⟩
              have h64c : (64 : Int) ≤ (c1 : Int) := by omega
              have h64i : (64 : Int) ≤ (e1.length : Int) := by omega
              have h0i : (0 : Int) < (e1.length : Int) := by omega
              go_wp2_with fail
              refine start_ (n := 5) (S := fun w' => w'.cell? ⟨gh, 0, none⟩ = some (.int .u32 hc.a) ∧ w'.cell? ⟨gh, 1, none⟩ = some (.int .u32 hc.b) ∧ w'.cell? ⟨gh, 2, none⟩ = some (.int .u32 hc.c) ∧ w'.cell? ⟨gh, 3, none⟩ = some (.int .u32 hc.d) ∧ w'.cell? ⟨gh, 4, none⟩ = some (.int .u32 hc.e) ∧ w'.cell? ⟨gh, 5, none⟩ = some (.int .u32 hc.f) ∧ w'.cell? ⟨gh, 6, none⟩ = some (.int .u32 hc.g) ∧ w'.cell? ⟨gh, 7, none⟩ = some (.int .u32 hc.h)) (ds := [4]) #[false, false, false, false, false] (by kernel_rfl) rfl rfl ⟨q0, q1, q2, q3, q4, q5, q6, q7⟩ (fun hHeld => ?_)
              refine pure_ (i := 1) (N := some 47) (v := ?_) (a' := ?_) #[false, true, false, false, false] rfl rfl (by kernel_rfl) (fun _ _ _ h => h) (Or.inl ⟨by rfl, ?_⟩) ?_ ?_
              rotate_left
              · intro w'
                go_simp
                with_reducible rfl
              rotate_left
              · simp only [Act.put, List.setIfInBounds_toArray, List.set_cons_zero, List.set_cons_succ]
                rfl
              refine pure_ (i := 2) (N := some 48) (v := ?_) (a' := ?_) #[false, true, true, false, false] rfl rfl (by kernel_rfl) (fun _ _ _ h => h) (Or.inl ⟨by rfl, ?_⟩) ?_ ?_
              rotate_left
              · intro w'
                go_simp
                with_reducible rfl
              rotate_left
              · simp only [Act.put, List.setIfInBounds_toArray, List.set_cons_zero, List.set_cons_succ]
                rfl
              refine take_ (i := 0) (N := some 46) (v := ?_) (a' := ?_) #[true, true, true, false, false] rfl rfl (by kernel_rfl) (fun _ _ _ h => h) (Or.inl ⟨by rfl, ?_⟩) hHeld ?_ ?_
              rotate_left
              · rintro w' ⟨s0, s1, s2, s3, s4, s5, s6, s7⟩
                go_simp
                with_reducible rfl
              rotate_left
              · simp only [Act.put, List.setIfInBounds_toArray, List.set_cons_zero, List.set_cons_succ]
                rfl
              refine one_ (i := 3) (N := some 49) #[true, true, true, true, false] rfl rfl (by kernel_rfl) (by decide) (fun K hK => ?_)
              refine goes_ Tryz.func72 (by kernel_rfl) rfl #[.agg #[.int .u32 hc.a, .int .u32 hc.b, .int .u32 hc.c, .int .u32 hc.d, .int .u32 hc.e, .int .u32 hc.f, .int .u32 hc.g, .int .u32 hc.h], .slice A1 64 c1] (by rfl) rfl rfl (by simp only [List.map_toArray, List.map_cons, List.map_nil]; rfl) ?_
              with_reducible refine (piece_lit hc ks (e1.take 64) (by simp; omega) A1 c1 _ HT.out HKr.out).mono ?_
              rintro e w3 ⟨rfl, hb3⟩
              refine ⟨_, rfl, ?_⟩
              have HG3 := Aside0.mk (blk_below (blk_drew HH.out) hb3)
              have HB3 := Aside0.mk hb3
              have c10 := blk_cell HG3.out 0
              have c11 := blk_cell HG3.out 1
              have c12 := blk_cell HG3.out 2
              have c13 := blk_cell HG3.out 3
              have c14 := blk_cell HG3.out 4
              have c15 := blk_cell HG3.out 5
              have c16 := blk_cell HG3.out 6
              have c17 := blk_cell HG3.out 7
              have f10 := blk_frozen HG3.out 0
              have f11 := blk_frozen HG3.out 1
              have f12 := blk_frozen HG3.out 2
              have f13 := blk_frozen HG3.out 3
              have f14 := blk_frozen HG3.out 4
              have f15 := blk_frozen HG3.out 5
              have f16 := blk_frozen HG3.out 6
              have f17 := blk_frozen HG3.out 7
              clear hb3
              simp only [W8.vals, List.getElem?_toArray, List.getElem?_cons_zero, List.getElem?_cons_succ] at c10 c11 c12 c13 c14 c15 c16 c17
              refine hK.out _ _ ⟨c10, c11, c12, c13, c14, c15, c16, c17⟩ (fun hHeld => ?_)
              clear hK K
              refine norm_ (a' := ?_) ?_ ?_
              rotate_left
              · show Act.put _ (some 49) _ = _
                simp only [Act.put, List.setIfInBounds_toArray, List.set_cons_zero, List.set_cons_succ]
                rfl
              refine last_ (i := 4) (N := none) #[true, true, true, true, true] rfl rfl (by kernel_rfl) (by decide) (fun K hK => ?_)
              refine skip_ (w1 := ?_) (by rfl) rfl ?_ ?_
              rotate_left
              · go_simp
                rfl
              refine hK.out _ _ ?_
              clear hK K
              refine done_ (by kernel_rfl) ?_
              have hB3w : Below w.heap.size w w3 := (below_drew HB.out).trans (HB3.out.mono HB.out.size)
              have hQ3 : BRow w3 w.heap.size (.slice A1 e1.length c1) e1 := brow_move HQ.out fun k hk => HB3.out.block k (brow_lt HQ.out k hk)
              have hne3 : (Value.slice A1 e1.length c1).ownBlock ≠ some gh := brow_ne HQ.out HH.out (by decide)
              obtain ⟨z, hzs, hzb⟩ := HZ.out
              have hgne : w.heap.size ≠ gh := blk_ne hzb HH.out (by decide)
              have hz3 := blk_below (blk_drew hzb) HB3.out
              have hGz := (blk_set (blk_set (blk_set (blk_set (blk_set (blk_set (blk_set (blk_set HG3.out 0 (Value.int IntKind.u32 (pieceF ks hc (e1.take 64)).a)) 1 (Value.int IntKind.u32 (pieceF ks hc (e1.take 64)).b)) 2 (Value.int IntKind.u32 (pieceF ks hc (e1.take 64)).c)) 3 (Value.int IntKind.u32 (pieceF ks hc (e1.take 64)).d)) 4 (Value.int IntKind.u32 (pieceF ks hc (e1.take 64)).e)) 5 (Value.int IntKind.u32 (pieceF ks hc (e1.take 64)).f)) 6 (Value.int IntKind.u32 (pieceF ks hc (e1.take 64)).g)) 7 (Value.int IntKind.u32 (pieceF ks hc (e1.take 64)).h))
              have hBz := (Below.setCell (p := { block := gh, off := 7 }) (Below.setCell (p := { block := gh, off := 6 }) (Below.setCell (p := { block := gh, off := 5 }) (Below.setCell (p := { block := gh, off := 4 }) (Below.setCell (p := { block := gh, off := 3 }) (Below.setCell (p := { block := gh, off := 2 }) (Below.setCell (p := { block := gh, off := 1 }) (Below.setCell (p := { block := gh, off := 0 }) hB3w hgh (Value.int IntKind.u32 (pieceF ks hc (e1.take 64)).a)) hgh (Value.int IntKind.u32 (pieceF ks hc (e1.take 64)).b)) hgh (Value.int IntKind.u32 (pieceF ks hc (e1.take 64)).c)) hgh (Value.int IntKind.u32 (pieceF ks hc (e1.take 64)).d)) hgh (Value.int IntKind.u32 (pieceF ks hc (e1.take 64)).e)) hgh (Value.int IntKind.u32 (pieceF ks hc (e1.take 64)).f)) hgh (Value.int IntKind.u32 (pieceF ks hc (e1.take 64)).g)) hgh (Value.int IntKind.u32 (pieceF ks hc (e1.take 64)).h))
              have hQz := (brow_far (brow_far (brow_far (brow_far (brow_far (brow_far (brow_far (brow_far hQ3 hne3 0 (Value.int IntKind.u32 (pieceF ks hc (e1.take 64)).a)) hne3 1 (Value.int IntKind.u32 (pieceF ks hc (e1.take 64)).b)) hne3 2 (Value.int IntKind.u32 (pieceF ks hc (e1.take 64)).c)) hne3 3 (Value.int IntKind.u32 (pieceF ks hc (e1.take 64)).d)) hne3 4 (Value.int IntKind.u32 (pieceF ks hc (e1.take 64)).e)) hne3 5 (Value.int IntKind.u32 (pieceF ks hc (e1.take 64)).f)) hne3 6 (Value.int IntKind.u32 (pieceF ks hc (e1.take 64)).g)) hne3 7 (Value.int IntKind.u32 (pieceF ks hc (e1.take 64)).h))
              have hZz := (blk_far (blk_far (blk_far (blk_far (blk_far (blk_far (blk_far (blk_far hz3 (p := { block := gh, off := 0 }) hgne (Value.int IntKind.u32 (pieceF ks hc (e1.take 64)).a)) (p := { block := gh, off := 1 }) hgne (Value.int IntKind.u32 (pieceF ks hc (e1.take 64)).b)) (p := { block := gh, off := 2 }) hgne (Value.int IntKind.u32 (pieceF ks hc (e1.take 64)).c)) (p := { block := gh, off := 3 }) hgne (Value.int IntKind.u32 (pieceF ks hc (e1.take 64)).d)) (p := { block := gh, off := 4 }) hgne (Value.int IntKind.u32 (pieceF ks hc (e1.take 64)).e)) (p := { block := gh, off := 5 }) hgne (Value.int IntKind.u32 (pieceF ks hc (e1.take 64)).f)) (p := { block := gh, off := 6 }) hgne (Value.int IntKind.u32 (pieceF ks hc (e1.take 64)).g)) (p := { block := gh, off := 7 }) hgne (Value.int IntKind.u32 (pieceF ks hc (e1.take 64)).h))
              simp only [W8.vals, List.setIfInBounds_toArray, List.set_cons_zero, List.set_cons_succ] at hGz
              clear q0 q1 q2 q3 q4 q5 q6 q7 c10 c11 c12 c13 c14 c15 c16 c17 f10 f11 f12 f13 f14 f15 f16 f17 hHeld HB3 HG3 HT HKr hB3w hQ3 hz3 hzb
              generalize (World.setCell (World.setCell (World.setCell (World.setCell (World.setCell (World.setCell (World.setCell (World.setCell w3 { block := gh, off := 0 } (Value.int IntKind.u32 (pieceF ks hc (e1.take 64)).a)) { block := gh, off := 1 } (Value.int IntKind.u32 (pieceF ks hc (e1.take 64)).b)) { block := gh, off := 2 } (Value.int IntKind.u32 (pieceF ks hc (e1.take 64)).c)) { block := gh, off := 3 } (Value.int IntKind.u32 (pieceF ks hc (e1.take 64)).d)) { block := gh, off := 4 } (Value.int IntKind.u32 (pieceF ks hc (e1.take 64)).e)) { block := gh, off := 5 } (Value.int IntKind.u32 (pieceF ks hc (e1.take 64)).f)) { block := gh, off := 6 } (Value.int IntKind.u32 (pieceF ks hc (e1.take 64)).g)) { block := gh, off := 7 } (Value.int IntKind.u32 (pieceF ks hc (e1.take 64)).h)) = wz at hGz hBz hQz hZz ⊢
              have HGz := Aside0.mk hGz
              have HBz := Aside0.mk hBz
              have HQz := Aside0.mk hQz
              have HZz : Aside0 (∃ z : Array Value, z.size = 32 ∧ wz.heap[w.heap.size]? = some (.cells z 79 (0, 0))) := ⟨z, hzs, hZz⟩
              clear hGz hBz hQz hZz hzs
              obtain ⟨A2, hA2, hcut⟩ := bcut A1 e1.length c1 h64
              have HA2 := Aside0.mk hA2
              clear hA2
              go_wp2
              go_roundg (e1.length - 64)
              case measure => have := HGK.out; omega
              case rel =>
                have hd := brow_drop HQz.out h64
                rw [← HA2.out] at hd
                have hlen : (e1.drop 64).length = e1.length - 64 := by simp
                refine ⟨pieceF ks hc (e1.take 64), e1.drop 64, A2, c1 - 64, by rw [hlen], hlen.symm, by rw [hlen]; have hm := HMOD.out; clear hd; omega, by rw [hlen]; omega, ⟨?_⟩, ⟨by rw [hlen]; exact hd⟩, HBz, HZz, HGz⟩
                rw [HE.out]; exact eatF_step ks hc e1 h64
            · have h0i : decide ((0 : Int) < (e1.length : Int)) = false := decide_eq_false (by omega)
              have hnil : e1 = [] := List.eq_nil_of_length_eq_zero (by omega)
              have hend : endF ks h l n = hc := by
                unfold endF
                rw [HE.out, eatF_end ks hc e1 (by omega)]
              have HEND := Aside0.mk hend
              clear hend hnil
              go_wp2_with fail
              refine (told_any hc wr).mono ?_
              rintro e w5 ⟨rfl, hb5⟩
              have HB5 := Aside0.mk (HB.out.trans (hb5.mono HB.out.size))
              obtain ⟨z, hzs, hzb⟩ := HZ.out
              have HZ5 := Aside0.mk (blk_below hzb hb5)
              have HZS := Aside0.mk hzs
              clear hb5 hzs hzb q0 q1 q2 q3 q4 q5 q6 q7
              go_wp2_with (refine wpList_store_row rfl 79 _ _ rfl w.heap.size (toldV hc 32) rfl rfl 79 z HZ5.out (by rw [toldV_size]; kernel_rfl) (by rw [toldV_size]; exact HZS.out) (toldV_all hc 32) ?_)
              have hr := setRow_heap w5 w.heap.size _ (toldV hc 32) 79 (0, 0) HZ5.out
              have hB8 := below_setRow HB5.out (g := w.heap.size) (Nat.le_refl _) (toldV hc 32)
              rw [HEND.out]
              exact bodyPost_ret (v := .agg (toldV hc 32)) (results_cell_row rfl _ _ w.heap.size 79 (toldV hc 32) (0, 0) _ rfl hr Tryz.underlying79 rfl (by rw [toldV_size]; kernel_rfl)) rfl ⟨rfl, hB8⟩
    · have hne : ((e1.length : Int) % 64 != 56) = true := by simp; omega
      go_wp2_with (refine brow_push (w0 := w) (B := w.heap.size) (v := .slice A1' e1.length c1') (xs := e1) (y := 0) rfl _ _ rfl rfl rfl HQ.out HB.out HB.out.size (by omega) ?_; intro A2 c2 w2 hq2 hc2 hg2; have HQ2 := Aside0.mk hq2; have HC2 := Aside0.mk hc2; have HG2 := Aside0.mk hg2; have HZ2 : Aside0 (∃ z : Array Value, z.size = 32 ∧ w2.heap[w.heap.size]? = some (.cells z 79 (0, 0))) := ⟨HZ.out.imp fun z hz => ⟨hz.1, hg2.2.2 _ _ _ (by decide) hz.2⟩⟩; clear hq2 hg2 hc2)
      go_roundg (gk - 1)
      case measure => have := HGK.out; omega
      case rel =>
        exact ⟨_, _, _, by simp, by have := HGK.out; simp; omega, by have := HGK.out; simp; omega, HC2, ⟨by rw [HE.out]; exact fillF_step e1 h56⟩, HQ2, ⟨HG2.out.1⟩, HZ2⟩
end Go.Proofs.YtbnbplppgbmkpaaGreatDoor

namespace Go.Proofs.YtbnbplppgbmkpaaGreatDoor
open Go.RowKit Go.Proofs.YtbnbplppgbmkpaaGreatDoorW.PrintLast Go.Proofs.YtbnbplppgbmkpaaGreatDoorW.PrintWords

def xorB (c x : Int) : Int := Go.bits .xor .u8 x c
def withN (c : Int) (xs : List Int) (k : Nat) : List Int := (xs.take k).map (xorB c) ++ xs.drop k
def withV (c : Int) (xs : List Int) (k : Nat) : Array Value := (nums .u8 (withN c xs k)).toArray
theorem withN_at (c : Int) (xs : List Int) (k : Nat) (h : k < xs.length) : (withN c xs k)[k]? = some (rd xs (k : Int)) := by
  unfold withN
  rw [List.getElem?_append_right (by simp; omega)]
  simp [Nat.min_eq_left (Nat.le_of_lt h), rd, h]
theorem withN_succ (c : Int) (xs : List Int) (k : Nat) (h : k < xs.length) : (withN c xs k).set k (xorB c (rd xs (k : Int))) = withN c xs (k + 1) := by
  unfold withN
  have hr : rd xs (k : Int) = xs[k] := by simp [rd, h]
  rw [List.set_append_right _ _ (by simp; omega), hr, List.drop_eq_getElem_cons h, List.take_succ_eq_append_getElem h, List.length_map, List.length_take, Nat.min_eq_left (Nat.le_of_lt h), Nat.sub_self, List.set_cons_zero, List.map_append, List.append_assoc]
  rfl
theorem withV_at (c : Int) (xs : List Int) (k : Nat) (h : k < xs.length) : (withV c xs k)[k]? = some (.int .u8 (rd xs (k : Int))) := by
  have := withN_at c xs k h
  simp [withV, nums, this]
theorem withV_succ (c : Int) (xs : List Int) (k : Nat) (h : k < xs.length) : (withV c xs k).setIfInBounds k (.int .u8 (xorB c (rd xs (k : Int)))) = withV c xs (k + 1) := by
  unfold withV
  rw [← withN_succ c xs k h]
  simp [nums, List.map_set]

set_option maxRecDepth 100000 in
set_option maxHeartbeats 1000000 in
theorem with_any (xs : List Int) (hx : xs.length = 64) (c : Int) (w : World) :
    Calls Tryz.prog 51 #[.agg (nums .u8 xs).toArray, .int .u8 c] w fun e w' => ∃ g, e = .returned (.slice (some ⟨g, 0, none⟩) 64 64) ∧ w.heap.size ≤ g ∧ w'.heap[g]? = some (.cells (nums .u8 (xs.map (xorB c))).toArray 95 (0, 0)) ∧ Below w.heap.size w w' := by
  go_enter Tryz.func51, Tryz.ntmps51
  go_wp2_with fail
  go_loopw [6] (fun v6 wr => ∃ k : Nat, k ≤ 64 ∧ v6 = .int .i64 k ∧ Aside0 (Below w.heap.size w wr) ∧ Aside0 (wr.heap[w.heap.size]? = some (.cells (withV c xs k) 95 (0, 0)))) (fun i _ => 64 - (intOf i).toNat)
  case atStart =>
    refine ⟨0, by omega, rfl, ⟨below_alloc (Below.refl _ _) _⟩, ⟨?_⟩⟩
    have hq := blk_new w (.cells (nums .u8 xs).toArray 95)
    simpa [withV, withN] using hq
  case round =>
    obtain ⟨k, hk, rfl, HB, HG⟩ := hrel
    by_cases hlt : k < 64
    · have cW : wr.cell? ⟨w.heap.size, k, none⟩ = some (.int .u8 (rd xs (k : Int))) := (blk_cell HG.out k).trans (withV_at c xs k (by omega))
      have fW : wr.frozen? ⟨w.heap.size, k, none⟩ = false := blk_frozen HG.out k
      go_wp2
      refine ⟨⟨k + 1, by omega, by go_num, ⟨below_set HB.out (Nat.le_refl _)⟩, ⟨?_⟩⟩, by simp [intOf]; omega⟩
      have hq := blk_set HG.out k (.int .u8 (xorB c (rd xs (k : Int))))
      rw [withV_succ c xs k (by omega)] at hq
      exact hq
    · obtain rfl : k = 64 := by omega
      clear hlt hk
      go_wp2
      go_ret
      refine ⟨w.heap.size, rfl, Nat.le_refl _, ?_, HB.out⟩
      have hq := HG.out
      rw [show withV c xs 64 = (nums .u8 (xs.map (xorB c))).toArray from by unfold withV withN; rw [List.take_of_length_le (by omega), List.drop_of_length_le (by omega), List.append_nil]] at hq
      exact hq

/-- A state, in plain words: the words, what is not eaten yet, how many bytes came. -/
abbrev St := W8 × List Int × Int
def st0 : St := (startS, [], 0)
def takeF (ks : List Int) (s : St) (b : List Int) : St := ((eatF ks s.1 (s.2.1 ++ b)).1, (eatF ks s.1 (s.2.1 ++ b)).2, IntKind.u64.wrap (s.2.2 + IntKind.u64.wrap (b.length : Int)))
def valF (ks : List Int) (s : St) : W8 := endF ks s.1 s.2.1 s.2.2
def shaF (ks b : List Int) : W8 := valF ks (takeF ks st0 b)
def keyF (ks key : List Int) : List Int := let k := if 64 < key.length then toldN (shaF ks key) 32 else key; k ++ List.replicate (64 - k.length) 0
def macF (ks key b : List Int) : W8 :=
  valF ks (takeF ks (takeF ks st0 ((keyF ks key).map (xorB 92))) (toldN (valF ks (takeF ks (takeF ks st0 ((keyF ks key).map (xorB 54))) b)) 32))
theorem eat_rest (ks : List Int) : ∀ (k : Nat) (h : W8) (l : List Int), l.length ≤ k → (eat ks k h l).2.length < 64
  | 0, h, l, hl => by simp only [eat]; omega
  | k + 1, h, l, hl => by
    simp only [eat]
    split
    · exact eat_rest ks k _ _ (by simp; omega)
    · dsimp only; omega
theorem takeF_rest (ks : List Int) (s : St) (b : List Int) : (takeF ks s b).2.1.length < 64 := eat_rest ks _ _ _ (Nat.le_refl _)
theorem c_lt {W : World} {A : Option Addr} {m : Nat} {ys : List Int} (h : Kd.C (Kd.int .u8) W A m ys) (hm : 0 < m) : ∀ ad, A = some ad → ad.block < W.heap.size := by
  intro ad hA
  obtain ⟨ad', hA', hc⟩ := (Kd.reads_of_C (d := 0) h).2.2 hm
  obtain rfl := Option.some.inj (hA.symm.trans hA')
  have := World.block_lt_of_cell? W _ (hc 0 hm)
  unfold Addr.add at this
  simpa using this
/-- The state lies at a pointer, in blocks of the call's own. -/
def StAt (W : World) (B g : Nat) (s : St) (v : Value) : Prop := B ≤ g ∧ W.heap[g]? = some (.cells (stateV s.1 v s.2.2) 135 (0, 0)) ∧ BRow W B v s.2.1
theorem take_any (ks : List Int) (s : St) (v : Value) (b : List Int) (g B : Nat) (A : Option Addr) (c : Nat) (w : World) (hs : StAt w B g s v)
    (hr : Kd.C (Kd.int .u8) w A b.length b) (hA : 0 < b.length → ∀ ad, A = some ad → ad.block ≠ g) (hl : s.2.1.length + b.length ≤ 140737488355328)
    (hK : ∀ i, i < 64 → w.cell? ⟨4, i, none⟩ = some (.int .u32 (ks.getD i 0))) (h4 : 4 < B) :
    Calls Tryz.prog 50 #[.pointer (some ⟨g, 0, none⟩), .slice A b.length c] w fun e w' => e = .returned (.tuple #[]) ∧
      ∃ v', StAt w' B g (takeF ks s b) v' ∧ Below B w w' ∧ KeepBut w w' g v.ownBlock ∧ (v'.ownBlock = v.ownBlock ∨ v'.ownBlock = none ∨ ∃ k, v'.ownBlock = some k ∧ w.heap.size ≤ k) := by
  refine (write_any ks s.1 v s.2.1 b s.2.2 g B A c w hs.2.1 hs.2.2 hs.1 hr hA hl hK h4).mono ?_
  rintro e w' ⟨he, v', h1, h2, h3, h4, h5⟩
  exact ⟨he, v', ⟨hs.1, h1, h2⟩, h3, h4, h5⟩
theorem val_any (ks : List Int) (s : St) (v : Value) (g B : Nat) (w : World) (hs : StAt w B g s v) (hl : s.2.1.length ≤ 140737488355000)
    (hK : ∀ i, i < 64 → w.cell? ⟨4, i, none⟩ = some (.int .u32 (ks.getD i 0))) :
    Calls Tryz.prog 52 #[.pointer (some ⟨g, 0, none⟩)] w fun e w' => e = .returned (.agg (toldV (valF ks s) 32)) ∧ Below w.heap.size w w' := by
  obtain ⟨A, c, rfl, hc⟩ := brow_slice hs.2.2
  exact sum_any ks s.1 s.2.1 s.2.2 g c A w hs.2.1 (brow_reads hs.2.2) hl hK
theorem begin_st (w : World) : Calls Tryz.prog 49 #[] w fun e w' => ∃ g, e = .returned (.pointer (some ⟨g, 0, none⟩)) ∧ w.heap.size ≤ g ∧ (∀ B, B ≤ g → StAt w' B g st0 (.slice none 0 0)) ∧ Below w.heap.size w w' := by
  refine (begin_any w).mono ?_
  rintro e w' ⟨g, rfl, h1, h2, h3⟩
  exact ⟨g, rfl, h1, fun B hB => ⟨hB, h2, brow_nil _ _⟩, h3⟩

set_option maxRecDepth 100000 in
set_option maxHeartbeats 1000000 in
theorem Sum_any (ks b : List Int) (A : Option Addr) (c : Nat) (w : World) (hr : Kd.C (Kd.int .u8) w A b.length b) (hl : b.length ≤ 140737488355328)
    (hK : ∀ i, i < 64 → w.cell? ⟨4, i, none⟩ = some (.int .u32 (ks.getD i 0))) :
    Calls Tryz.prog 48 #[.slice A b.length c] w fun e w' => e = .returned (.agg (toldV (shaF ks b) 32)) ∧ Below w.heap.size w w' := by
  have HR := Aside0.mk hr
  have HK := Aside0.mk hK
  have h4 : 4 < w.heap.size := World.block_lt_of_cell? w ⟨4, 0, none⟩ (hK 0 (by decide))
  clear hr hK
  go_enter Tryz.func48, Tryz.ntmps48
  go_wp2_with fail
  refine (begin_st _).mono ?_
  rintro e w1 ⟨g, rfl, hg, hs, hb1⟩
  have HB1 := Aside0.mk ((below_alloc (Below.refl w.heap.size w) _).trans (hb1.mono (by simp)))
  have HZ1 := Aside0.mk (blk_below (blk_new w _) hb1)
  have HS1 := Aside0.mk (hs w.heap.size (by simp at hg; omega))
  have hgw : w.heap.size < g := by simp at hg; omega
  clear hb1 hs hg
  go_wp2_with fail
  refine (take_any ks st0 _ b g w.heap.size A c w1 HS1.out (Kd.C_below HR.out HB1.out) (fun hm ad hA => by have := c_lt HR.out hm ad hA; omega) (by simp [st0]; omega) (fun i hi => (HB1.out.cell (p := ⟨4, i, none⟩) h4).trans (HK.out i hi)) h4).mono ?_
  rintro e w2 ⟨rfl, v2, hs2, hb2, hk2, _⟩
  have HB2 := Aside0.mk (HB1.out.trans (hb2.mono (Nat.le_refl _)))
  have HS2 := Aside0.mk hs2
  have HZ2 := Aside0.mk (hk2.blk HZ1.out (Nat.ne_of_lt hgw) (by simp [Value.ownBlock]))
  clear hs2 hb2 hk2
  go_wp2_with fail
  refine (val_any ks _ v2 g w.heap.size w2 HS2.out (by have := takeF_rest ks st0 b; omega) (fun i hi => (HB2.out.cell (p := ⟨4, i, none⟩) h4).trans (HK.out i hi))).mono ?_
  rintro e w3 ⟨rfl, hb3⟩
  have HB3 := Aside0.mk (HB2.out.trans (hb3.mono HB2.out.size))
  have HZ3 := Aside0.mk (blk_below HZ2.out hb3)
  clear hb3
  go_wp2_with (refine wpList_store_row rfl 79 _ _ rfl w.heap.size (toldV (shaF ks b) 32) rfl rfl 79 _ HZ3.out (by rw [toldV_size]; kernel_rfl) (by rw [toldV_size]; rfl) (toldV_all _ 32) ?_)
  have hr := setRow_heap w3 w.heap.size _ (toldV (shaF ks b) 32) 79 (0, 0) HZ3.out
  have hB8 := below_setRow HB3.out (g := w.heap.size) (Nat.le_refl _) (toldV (shaF ks b) 32)
  exact bodyPost_ret (v := .agg (toldV (shaF ks b) 32)) (results_cell_row rfl _ _ w.heap.size 79 (toldV (shaF ks b) 32) (0, 0) _ rfl hr Tryz.underlying79 rfl (by rw [toldV_size]; kernel_rfl)) rfl ⟨rfl, hB8⟩
end Go.Proofs.YtbnbplppgbmkpaaGreatDoor

namespace Go.Proofs.YtbnbplppgbmkpaaGreatDoor
open Go.RowKit Go.Proofs.YtbnbplppgbmkpaaGreatDoorW.PrintLast Go.Proofs.YtbnbplppgbmkpaaGreatDoorW.PrintWords

def keyL (ks key : List Int) : List Int := if 64 < key.length then toldN (shaF ks key) 32 else key
theorem keyL_le (ks key : List Int) : (keyL ks key).length ≤ 64 := by
  unfold keyL
  split
  · rw [toldN_length]; omega
  · omega
theorem c_told {W : World} {g : Nat} {h : W8} {t : TypeId} (hg : W.heap[g]? = some (.cells (toldV h 32) t (0, 0))) : Kd.C (Kd.int .u8) W (some ⟨g, 0, none⟩) 32 (toldN h 32) := by
  refine Kd.C_of_reads (d := 0) ⟨toldN_length h 32, by omega, fun _ => ⟨_, rfl, fun j hj => ?_⟩⟩
  rw [add_plain, blk_cell hg j, toldV_get _ _ _ hj]
  rfl
theorem zeros64 : (nums .u8 (List.replicate 64 0)).toArray = #[.int .u8 0, .int .u8 0, .int .u8 0, .int .u8 0, .int .u8 0, .int .u8 0, .int .u8 0, .int .u8 0, .int .u8 0, .int .u8 0, .int .u8 0, .int .u8 0, .int .u8 0, .int .u8 0, .int .u8 0, .int .u8 0, .int .u8 0, .int .u8 0, .int .u8 0, .int .u8 0, .int .u8 0, .int .u8 0, .int .u8 0, .int .u8 0, .int .u8 0, .int .u8 0, .int .u8 0, .int .u8 0, .int .u8 0, .int .u8 0, .int .u8 0, .int .u8 0, .int .u8 0, .int .u8 0, .int .u8 0, .int .u8 0, .int .u8 0, .int .u8 0, .int .u8 0, .int .u8 0, .int .u8 0, .int .u8 0, .int .u8 0, .int .u8 0, .int .u8 0, .int .u8 0, .int .u8 0, .int .u8 0, .int .u8 0, .int .u8 0, .int .u8 0, .int .u8 0, .int .u8 0, .int .u8 0, .int .u8 0, .int .u8 0, .int .u8 0, .int .u8 0, .int .u8 0, .int .u8 0, .int .u8 0, .int .u8 0, .int .u8 0, .int .u8 0] := rfl

theorem take_blk (ks : List Int) (s : St) (v : Value) (b : List Int) (m : Nat) (g B : Nat) (A : Option Addr) (c : Nat) (w : World) (hs : StAt w B g s v)
    (hr : Kd.C (Kd.int .u8) w A m b) (hA : 0 < m → ∀ ad, A = some ad → ad.block ≠ g) (hl : s.2.1.length + m ≤ 140737488355328)
    (hK : ∀ i, i < 64 → w.cell? ⟨4, i, none⟩ = some (.int .u32 (ks.getD i 0))) (h4 : 4 < B) :
    Calls Tryz.prog 50 #[.pointer (some ⟨g, 0, none⟩), .slice A m c] w fun e w' => e = .returned (.tuple #[]) ∧
      ∃ v', StAt w' B g (takeF ks s b) v' ∧ Below B w w' ∧ ∀ (k : Nat) (cs : Array Value) (t : TypeId), t ≠ 5 → k ≠ g → w.heap[k]? = some (.cells cs t (0, 0)) → w'.heap[k]? = some (.cells cs t (0, 0)) := by
  obtain rfl : b.length = m := Kd.C_len hr
  refine (take_any ks s v b g B A c w hs hr hA hl hK h4).mono ?_
  rintro e w' ⟨he, v', h1, h2, h3, _⟩
  exact ⟨he, v', h1, h2, fun k cs t ht hk hb => h3.blk hb hk (fun e => brow_ne hs.2.2 hb ht e.symm)⟩
theorem c_row {W : World} {g n : Nat} {xs : List Int} {t : TypeId} (hg : W.heap[g]? = some (.cells (nums .u8 xs).toArray t (0, 0))) (hn : xs.length = n) (hm : n ≤ 9223372036854775807) : Kd.C (Kd.int .u8) W (some ⟨g, 0, none⟩) n xs := by
  refine Kd.C_of_reads (d := 0) ⟨hn, hm, fun _ => ⟨_, rfl, fun j hj => ?_⟩⟩
  have hj' : j < xs.length := by omega
  rw [add_plain, blk_cell hg j]
  simp [nums, hj']
theorem nums_all (xs : List Int) : ((nums .u8 xs).toArray).all (·.oneCell') = true := by
  rw [Array.all_eq_true_iff_forall_mem]
  intro v hv
  simp only [nums, List.mem_toArray, List.mem_map] at hv
  obtain ⟨x, _, rfl⟩ := hv
  rfl
theorem keyF_eq (ks key : List Int) : keyF ks key = keyL ks key ++ List.replicate (64 - (keyL ks key).length) 0 := rfl
theorem keyF_length (ks key : List Int) : (keyF ks key).length = 64 := by
  have := keyL_le ks key
  rw [keyF_eq]
  simp
  omega
theorem splice_key (ks key : List Int) : splice (nums .u8 (List.replicate 64 0)) 0 (nums .u8 (keyL ks key)) = nums .u8 (keyF ks key) := by
  have := keyL_le ks key
  rw [keyF_eq]
  unfold splice nums
  rw [List.take_zero, List.nil_append, List.map_append, Nat.zero_add, List.length_map, List.map_replicate, List.drop_replicate, List.map_replicate]

set_option maxRecDepth 100000 in
set_option maxHeartbeats 2000000 in
theorem Mac_any (ks key b : List Int) (A A' : Option Addr) (c c' : Nat) (w : World) (hr : Kd.C (Kd.int .u8) w A key.length key) (hr' : Kd.C (Kd.int .u8) w A' b.length b) (hl : key.length ≤ 140737488355328) (hl' : b.length ≤ 140737488355000)
    (hK : ∀ i, i < 64 → w.cell? ⟨4, i, none⟩ = some (.int .u32 (ks.getD i 0))) :
    Calls Tryz.prog 37 #[.slice A key.length c, .slice A' b.length c'] w fun e w' => e = .returned (.agg (toldV (macF ks key b) 32)) ∧ Below w.heap.size w w' := by
  have HR := Aside0.mk hr
  have HR' := Aside0.mk hr'
  have HK := Aside0.mk hK
  have h4 : 4 < w.heap.size := World.block_lt_of_cell? w ⟨4, 0, none⟩ (hK 0 (by decide))
  have hlm : (key.length : Int) ≤ 9223372036854775807 := by omega
  clear hr hr' hK
  go_enter Tryz.func37, Tryz.ntmps37
  go_upto_if 12 with fail
  go_cut [0] (fun v0 wx => ∃ (A1 : Option Addr) (c1 : Nat), v0 = .slice A1 (keyL ks key).length c1 ∧ Aside0 (Below w.heap.size w wx) ∧ Aside0 (Kd.C (Kd.int .u8) wx A1 (keyL ks key).length (keyL ks key)) ∧ Aside0 (∃ z : Array Value, z.size = 32 ∧ wx.heap[w.heap.size]? = some (.cells z 79 (0, 0))) ∧ Aside0 (wx.heap[w.heap.size + 1]? = some (.cells (nums .u8 (List.replicate 64 0)).toArray 95 (0, 0))))
  case first =>
    by_cases h64 : 64 < key.length
    · have h64i : (64 : Int) < (key.length : Int) := by omega
      have hkl : keyL ks key = toldN (shaF ks key) 32 := by unfold keyL; rw [if_pos h64]
      go_wp2_with fail
      refine (Sum_any ks key A c _ (Kd.C_alloc (Kd.C_alloc HR.out _) _) hl (fun i hi => ((below_alloc (below_alloc (Below.refl w.heap.size w) _) _).cell (p := ⟨4, i, none⟩) h4).trans (HK.out i hi))).mono ?_
      rintro e w1 ⟨rfl, hb1⟩
      have HB1 := Aside0.mk ((below_alloc (below_alloc (Below.refl w.heap.size w) _) _).trans (hb1.mono (by simp; omega)))
      have HZ1 := Aside0.mk (blk_below (heap_alloc2_old w _ _) hb1)
      have HG1 := Aside0.mk (blk_below (heap_alloc2_new w _ _) hb1)
      have hs1 : w.heap.size + 1 < w1.heap.size := by have := hb1.size; simp at this; omega
      clear hb1
      go_wp2_with (refine wpList_store_row rfl 79 _ _ rfl w1.heap.size (toldV (shaF ks key) 32) rfl rfl 79 _ (blk_new w1 _) (by rw [toldV_size]; kernel_rfl) (by rw [toldV_size]; rfl) (toldV_all _ 32) ?_)
      go_meet
      refine ⟨some ⟨w1.heap.size, 0, none⟩, 32, by rw [hkl, toldN_length], ⟨below_setRow (below_alloc HB1.out _) (by omega) _⟩, ⟨?_⟩, ⟨_, ?_, (setRow_other _ _ _ _ (by omega)).trans (blk_alloc HZ1.out _)⟩, ⟨?_⟩⟩
      · rw [hkl, toldN_length]
        exact c_told (setRow_heap _ _ _ _ _ _ (blk_new w1 _))
      · rfl
      · exact (setRow_other _ _ _ _ (by omega)).trans (blk_alloc HG1.out _)
    · have h64i : decide ((64 : Int) < (key.length : Int)) = false := decide_eq_false (by omega)
      have hkl : keyL ks key = key := by unfold keyL; rw [if_neg h64]
      go_wp2_with fail
      go_meet
      rw [hkl]
      refine ⟨A, c, rfl, ⟨below_alloc (below_alloc (Below.refl w.heap.size w) _) _⟩, ⟨Kd.C_alloc (Kd.C_alloc HR.out _) _⟩, ⟨_, ?_, heap_alloc2_old w _ _⟩, ⟨heap_alloc2_new w _ _⟩⟩
      rfl
  case rest =>
    obtain ⟨A1, c1, rfl, HB, HC, HZ, HG⟩ := hcut
    have hkl := keyL_le ks key
    have hK1 : ∀ {W : World}, Below w.heap.size w W → ∀ i, i < 64 → W.cell? ⟨4, i, none⟩ = some (.int .u32 (ks.getD i 0)) := fun hb i hi => (hb.cell (p := ⟨4, i, none⟩) h4).trans (HK.out i hi)
    have HK1 := Aside0.mk @hK1
    clear hK1
    have cn : (nums .u8 (keyL ks key)).length = Nat.min (keyL ks key).length 64 := by rw [nums_length]; exact (Nat.min_eq_left hkl).symm
    have cf : 0 + (nums .u8 (keyL ks key)).length ≤ (nums .u8 (List.replicate 64 0)).length := by rw [nums_length, nums_length, List.length_replicate]; omega
    have c1c : ∀ v ∈ nums .u8 (keyL ks key), v.oneCell' = true := by intro v hv; simp only [nums, List.mem_map] at hv; obtain ⟨x, _, rfl⟩ := hv; rfl
    have cp : 0 < (nums .u8 (keyL ks key)).length → (some ⟨w.heap.size + 1, 0, none⟩ : Option Addr) = some ⟨w.heap.size + 1, 0, none⟩ ∧ ∃ ad, A1 = some ad ∧ ∀ j v, (nums .u8 (keyL ks key))[j]? = some v → wc.cell? (ad.add j) = some v := by
      intro h
      rw [nums_length] at h
      obtain ⟨ad, hA, hc⟩ := (Kd.reads_of_C (d := 0) HC.out).2.2 h
      refine ⟨rfl, ad, hA, fun j v hv => ?_⟩
      have hj : j < (keyL ks key).length := by have := (List.getElem?_eq_some_iff.1 hv).1; simpa [nums] using this
      rw [hc j hj]
      simp [nums, hj] at hv
      simp [hj, hv]
    have CN := Aside0.mk cn
    have CF := Aside0.mk cf
    have C1 := Aside0.mk c1c
    have CP := Aside0.mk cp
    clear cn cf c1c cp
    go_wp2_with (refine wpList_copy_splice rfl _ _ 22 22 rfl 5 Tryz.underlying22 (by kernel_rfl) (some ⟨w.heap.size + 1, 0, none⟩) A1 64 64 (keyL ks key).length c1 rfl rfl (w.heap.size + 1) 0 (nums .u8 (List.replicate 64 0)) 95 HG.out (nums .u8 (keyL ks key)) CN.out CP.out CF.out C1.out (w.heap.size + 1) wc (Below.refl _ _) (Nat.le_refl _) ?_; intro w2 hg2 hb2; have HG2 := Aside0.mk (splice_key ks key ▸ hg2.out); have HB2 := Aside0.mk (HB.out.trans (hb2.mono (Nat.le_succ _))); have HZ2 : Aside0 (∃ z : Array Value, z.size = 32 ∧ w2.heap[w.heap.size]? = some (.cells z 79 (0, 0))) := ⟨HZ.out.imp fun z hz => ⟨hz.1, (hb2.block _ (Nat.lt_succ_self _)).trans hz.2⟩⟩; clear hg2 hb2)
    clear HZ HG HB HC CN CF C1 CP
    refine (begin_st _).mono ?_
    rintro e w3 ⟨g1, rfl, hg1, hs1, hb3⟩
    have HB3 := Aside0.mk (HB2.out.trans (hb3.mono HB2.out.size))
    have HZ3 : Aside0 (∃ z : Array Value, z.size = 32 ∧ w3.heap[w.heap.size]? = some (.cells z 79 (0, 0))) := ⟨HZ2.out.imp fun z hz => ⟨hz.1, blk_below hz.2 hb3⟩⟩
    have HG3 := Aside0.mk (blk_below HG2.out hb3)
    have l1 : w.heap.size + 1 < g1 := Nat.lt_of_lt_of_le (blk_lt HG2.out) hg1
    have HS3 := Aside0.mk (hs1 w.heap.size (by omega))
    have l3 : g1 < w3.heap.size := blk_lt (hs1 w.heap.size (by omega)).2.1
    clear hb3 hs1 hg1 HB2 HZ2 HG2
    go_wp2_with fail
    refine (begin_st _).mono ?_
    rintro e w4 ⟨g2, rfl, hg2, hs2, hb4⟩
    have HB4 := Aside0.mk (HB3.out.trans (hb4.mono HB3.out.size))
    have HZ4 : Aside0 (∃ z : Array Value, z.size = 32 ∧ w4.heap[w.heap.size]? = some (.cells z 79 (0, 0))) := ⟨HZ3.out.imp fun z hz => ⟨hz.1, blk_below hz.2 hb4⟩⟩
    have HG4 := Aside0.mk (blk_below HG3.out hb4)
    have l2 : g1 < g2 := Nat.lt_of_lt_of_le l3 hg2
    have HS4 : Aside0 (StAt w4 w.heap.size g1 st0 (.slice none 0 0)) := ⟨HS3.out.1, blk_below HS3.out.2.1 hb4, brow_below HS3.out.2.2 hb4⟩
    have HO4 := Aside0.mk (hs2 w.heap.size (by omega)).2.1
    clear hb4 hs2 hg2 l3 HB3 HZ3 HG3 HS3
    go_wp2_with (refine wpList_load_row rfl 95 _ rfl (w.heap.size + 1) rfl 95 (nums .u8 (keyF ks key)).toArray (0, 0) _ HG4.out Tryz.underlying95 (by rfl) (by simp only [List.size_toArray, nums_length, keyF_length]; kernel_rfl) ?_)
    refine (with_any (keyF ks key) (keyF_length ks key) 54 w4).mono ?_
    rintro e w5 ⟨k5, rfl, hk5, hw5, hb5⟩
    have HB5 := Aside0.mk (HB4.out.trans (hb5.mono HB4.out.size))
    have HZ5 : Aside0 (∃ z : Array Value, z.size = 32 ∧ w5.heap[w.heap.size]? = some (.cells z 79 (0, 0))) := ⟨HZ4.out.imp fun z hz => ⟨hz.1, blk_below hz.2 hb5⟩⟩
    have HG5 := Aside0.mk (blk_below HG4.out hb5)
    have HS5 : Aside0 (StAt w5 w.heap.size g1 st0 (.slice none 0 0)) := ⟨HS4.out.1, blk_below HS4.out.2.1 hb5, brow_below HS4.out.2.2 hb5⟩
    have HO5 := Aside0.mk (blk_below HO4.out hb5)
    have HC5 := Aside0.mk (c_row (n := 64) hw5 (by rw [List.length_map, keyF_length]) (by omega))
    have hg1k : k5 ≠ g1 := fun e => blk_ne hw5 HS5.out.2.1 (by decide) e
    clear hb5 hw5 hk5 HB4 HZ4 HG4 HS4 HO4
    go_wp2_with fail
    refine (take_blk ks st0 _ ((keyF ks key).map (xorB 54)) 64 g1 w.heap.size (some ⟨k5, 0, none⟩) 64 w5 HS5.out HC5.out (fun _ ad hA => by obtain rfl := Option.some.inj hA; exact hg1k) (by simp [st0]) (HK1.out HB5.out) h4).mono ?_
    rintro e w6 ⟨rfl, v6, hs6, hb6, hk6⟩
    have HB6 := Aside0.mk (HB5.out.trans (hb6.mono (Nat.le_refl _)))
    have HZ6 : Aside0 (∃ z : Array Value, z.size = 32 ∧ w6.heap[w.heap.size]? = some (.cells z 79 (0, 0))) := ⟨HZ5.out.imp fun z hz => ⟨hz.1, hk6 _ _ _ (by decide) (by omega) hz.2⟩⟩
    have HG6 := Aside0.mk (hk6 _ _ _ (by decide) (by omega) HG5.out)
    have HO6 := Aside0.mk (hk6 _ _ _ (by decide) (by omega) HO5.out)
    have HS6 := Aside0.mk hs6
    clear hs6 hb6 hk6 HB5 HZ5 HG5 HS5 HO5 HC5 hg1k
    go_wp2_with fail
    refine (take_blk ks _ _ b b.length g1 w.heap.size A' c' w6 HS6.out (Kd.C_below HR'.out HB6.out) (fun hm ad hA => by have := c_lt HR'.out hm ad hA; omega) (by have := takeF_rest ks st0 ((keyF ks key).map (xorB 54)); omega) (HK1.out HB6.out) h4).mono ?_
    rintro e w7 ⟨rfl, v7, hs7, hb7, hk7⟩
    have HB7 := Aside0.mk (HB6.out.trans (hb7.mono (Nat.le_refl _)))
    have HZ7 : Aside0 (∃ z : Array Value, z.size = 32 ∧ w7.heap[w.heap.size]? = some (.cells z 79 (0, 0))) := ⟨HZ6.out.imp fun z hz => ⟨hz.1, hk7 _ _ _ (by decide) (by omega) hz.2⟩⟩
    have HG7 := Aside0.mk (hk7 _ _ _ (by decide) (by omega) HG6.out)
    have HO7 := Aside0.mk (hk7 _ _ _ (by decide) (by omega) HO6.out)
    have HS7 := Aside0.mk hs7
    clear hs7 hb7 hk7 HB6 HZ6 HG6 HS6 HO6
    go_wp2_with fail
    refine (val_any ks _ v7 g1 w.heap.size w7 HS7.out (by have := takeF_rest ks (takeF ks st0 ((keyF ks key).map (xorB 54))) b; omega) (HK1.out HB7.out)).mono ?_
    rintro e w8 ⟨rfl, hb8⟩
    have HB8 := Aside0.mk (HB7.out.trans (hb8.mono HB7.out.size))
    have HZ8 : Aside0 (∃ z : Array Value, z.size = 32 ∧ w8.heap[w.heap.size]? = some (.cells z 79 (0, 0))) := ⟨HZ7.out.imp fun z hz => ⟨hz.1, blk_below hz.2 hb8⟩⟩
    have HG8 := Aside0.mk (blk_below HG7.out hb8)
    have HO8 := Aside0.mk (blk_below HO7.out hb8)
    have l8 : g2 < w8.heap.size := blk_lt HO8.out
    clear hb8 HB7 HZ7 HG7 HS7 HO7
    obtain ⟨h1, hh1⟩ : ∃ h1, h1 = valF ks (takeF ks (takeF ks st0 ((keyF ks key).map (xorB 54))) b) := ⟨_, rfl⟩
    rw [← hh1]
    have HH1 := Aside0.mk hh1
    clear hh1
    have hG9 := (setRow_other (w8.alloc (.cells #[.int .u8 0, .int .u8 0, .int .u8 0, .int .u8 0, .int .u8 0, .int .u8 0, .int .u8 0, .int .u8 0, .int .u8 0, .int .u8 0, .int .u8 0, .int .u8 0, .int .u8 0, .int .u8 0, .int .u8 0, .int .u8 0, .int .u8 0, .int .u8 0, .int .u8 0, .int .u8 0, .int .u8 0, .int .u8 0, .int .u8 0, .int .u8 0, .int .u8 0, .int .u8 0, .int .u8 0, .int .u8 0, .int .u8 0, .int .u8 0, .int .u8 0, .int .u8 0] 79)) w8.heap.size (w.heap.size + 1) (toldV h1 32) (by omega)).trans (blk_alloc HG8.out (.cells #[.int .u8 0, .int .u8 0, .int .u8 0, .int .u8 0, .int .u8 0, .int .u8 0, .int .u8 0, .int .u8 0, .int .u8 0, .int .u8 0, .int .u8 0, .int .u8 0, .int .u8 0, .int .u8 0, .int .u8 0, .int .u8 0, .int .u8 0, .int .u8 0, .int .u8 0, .int .u8 0, .int .u8 0, .int .u8 0, .int .u8 0, .int .u8 0, .int .u8 0, .int .u8 0, .int .u8 0, .int .u8 0, .int .u8 0, .int .u8 0, .int .u8 0, .int .u8 0] 79))
    have hO9 := (setRow_other (w8.alloc (.cells #[.int .u8 0, .int .u8 0, .int .u8 0, .int .u8 0, .int .u8 0, .int .u8 0, .int .u8 0, .int .u8 0, .int .u8 0, .int .u8 0, .int .u8 0, .int .u8 0, .int .u8 0, .int .u8 0, .int .u8 0, .int .u8 0, .int .u8 0, .int .u8 0, .int .u8 0, .int .u8 0, .int .u8 0, .int .u8 0, .int .u8 0, .int .u8 0, .int .u8 0, .int .u8 0, .int .u8 0, .int .u8 0, .int .u8 0, .int .u8 0, .int .u8 0, .int .u8 0] 79)) w8.heap.size g2 (toldV h1 32) (by omega)).trans (blk_alloc HO8.out (.cells #[.int .u8 0, .int .u8 0, .int .u8 0, .int .u8 0, .int .u8 0, .int .u8 0, .int .u8 0, .int .u8 0, .int .u8 0, .int .u8 0, .int .u8 0, .int .u8 0, .int .u8 0, .int .u8 0, .int .u8 0, .int .u8 0, .int .u8 0, .int .u8 0, .int .u8 0, .int .u8 0, .int .u8 0, .int .u8 0, .int .u8 0, .int .u8 0, .int .u8 0, .int .u8 0, .int .u8 0, .int .u8 0, .int .u8 0, .int .u8 0, .int .u8 0, .int .u8 0] 79))
    have hZ9 : ∃ z : Array Value, z.size = 32 ∧ (World.setRow (w8.alloc (.cells #[.int .u8 0, .int .u8 0, .int .u8 0, .int .u8 0, .int .u8 0, .int .u8 0, .int .u8 0, .int .u8 0, .int .u8 0, .int .u8 0, .int .u8 0, .int .u8 0, .int .u8 0, .int .u8 0, .int .u8 0, .int .u8 0, .int .u8 0, .int .u8 0, .int .u8 0, .int .u8 0, .int .u8 0, .int .u8 0, .int .u8 0, .int .u8 0, .int .u8 0, .int .u8 0, .int .u8 0, .int .u8 0, .int .u8 0, .int .u8 0, .int .u8 0, .int .u8 0] 79)) w8.heap.size (toldV h1 32)).heap[w.heap.size]? = some (.cells z 79 (0, 0)) := HZ8.out.imp fun z hz => ⟨hz.1, (setRow_other _ _ _ _ (by omega)).trans (blk_alloc hz.2 _)⟩
    have hB9 := below_setRow (below_alloc HB8.out (.cells #[.int .u8 0, .int .u8 0, .int .u8 0, .int .u8 0, .int .u8 0, .int .u8 0, .int .u8 0, .int .u8 0, .int .u8 0, .int .u8 0, .int .u8 0, .int .u8 0, .int .u8 0, .int .u8 0, .int .u8 0, .int .u8 0, .int .u8 0, .int .u8 0, .int .u8 0, .int .u8 0, .int .u8 0, .int .u8 0, .int .u8 0, .int .u8 0, .int .u8 0, .int .u8 0, .int .u8 0, .int .u8 0, .int .u8 0, .int .u8 0, .int .u8 0, .int .u8 0] 79)) (g := w8.heap.size) (by omega) (toldV h1 32)
    have hC9 := (setRow_heap (w8.alloc (.cells #[.int .u8 0, .int .u8 0, .int .u8 0, .int .u8 0, .int .u8 0, .int .u8 0, .int .u8 0, .int .u8 0, .int .u8 0, .int .u8 0, .int .u8 0, .int .u8 0, .int .u8 0, .int .u8 0, .int .u8 0, .int .u8 0, .int .u8 0, .int .u8 0, .int .u8 0, .int .u8 0, .int .u8 0, .int .u8 0, .int .u8 0, .int .u8 0, .int .u8 0, .int .u8 0, .int .u8 0, .int .u8 0, .int .u8 0, .int .u8 0, .int .u8 0, .int .u8 0] 79)) w8.heap.size _ (toldV h1 32) 79 (0, 0) (blk_new w8 _))
    have HX9 : Aside0 (∃ w9 : World, (World.setRow (w8.alloc (.cells #[.int .u8 0, .int .u8 0, .int .u8 0, .int .u8 0, .int .u8 0, .int .u8 0, .int .u8 0, .int .u8 0, .int .u8 0, .int .u8 0, .int .u8 0, .int .u8 0, .int .u8 0, .int .u8 0, .int .u8 0, .int .u8 0, .int .u8 0, .int .u8 0, .int .u8 0, .int .u8 0, .int .u8 0, .int .u8 0, .int .u8 0, .int .u8 0, .int .u8 0, .int .u8 0, .int .u8 0, .int .u8 0, .int .u8 0, .int .u8 0, .int .u8 0, .int .u8 0] 79)) w8.heap.size (toldV h1 32)) = w9 ∧ w9.heap[w.heap.size + 1]? = some (.cells (nums .u8 (keyF ks key)).toArray 95 (0, 0)) ∧ w9.heap[g2]? = some (.cells (stateV st0.1 (.slice none 0 0) st0.2.2) 135 (0, 0)) ∧ (∃ z : Array Value, z.size = 32 ∧ w9.heap[w.heap.size]? = some (.cells z 79 (0, 0))) ∧ Below w.heap.size w w9 ∧ w9.heap[w8.heap.size]? = some (.cells (toldV h1 32) 79 (0, 0))) := ⟨_, rfl, hG9, hO9, hZ9, hB9, hC9⟩
    clear hG9 hO9 hZ9 hB9 hC9 HB8 HZ8 HG8 HO8
    go_wp2_with (first
      | (refine wpList_store_row rfl 79 _ _ rfl w8.heap.size (toldV h1 32) rfl rfl 79 _ (blk_new w8 _) (by rw [toldV_size]; kernel_rfl) (by rw [toldV_size]; rfl) (toldV_all _ 32) ?_; obtain ⟨w9, hw9, hG9, hO9, hZ9, hB9, hC9⟩ := HX9.out; rw [hw9]; have HG9 := Aside0.mk hG9; have HO9 := Aside0.mk hO9; have HZ9 := Aside0.mk hZ9; have HB9 := Aside0.mk hB9; have HC9 := Aside0.mk hC9; clear hw9 hG9 hO9 hZ9 hB9 hC9 HX9)
      | (refine wpList_load_row rfl 95 _ rfl (w.heap.size + 1) rfl 95 (nums .u8 (keyF ks key)).toArray (0, 0) _ HG9.out Tryz.underlying95 (by rfl) (by simp only [List.size_toArray, nums_length, keyF_length]; kernel_rfl) ?_))
    obtain ⟨g9, hg9⟩ : ∃ g9, g9 = w8.heap.size := ⟨_, rfl⟩
    rw [← hg9] at HC9 l8 ⊢
    clear hg9
    have HS9 : Aside0 (StAt w9 w.heap.size g2 st0 (.slice none 0 0)) := ⟨by omega, HO9.out, brow_nil _ _⟩
    refine (with_any (keyF ks key) (keyF_length ks key) 92 w9).mono ?_
    rintro e w10 ⟨k10, rfl, hk10, hw10, hb10⟩
    have HB10 := Aside0.mk (HB9.out.trans (hb10.mono HB9.out.size))
    have HZ10 : Aside0 (∃ z : Array Value, z.size = 32 ∧ w10.heap[w.heap.size]? = some (.cells z 79 (0, 0))) := ⟨HZ9.out.imp fun z hz => ⟨hz.1, blk_below hz.2 hb10⟩⟩
    have HS10 : Aside0 (StAt w10 w.heap.size g2 st0 (.slice none 0 0)) := ⟨HS9.out.1, blk_below HS9.out.2.1 hb10, brow_below HS9.out.2.2 hb10⟩
    have HW10 := Aside0.mk (c_row (n := 64) hw10 (by rw [List.length_map, keyF_length]) (by omega))
    have HC10 := Aside0.mk (blk_below HC9.out hb10)
    have hg2k : k10 ≠ g2 := fun e => blk_ne hw10 HS10.out.2.1 (by decide) e
    clear hb10 hw10 hk10 HB9 HZ9 HG9 HO9 HC9 HS9
    go_wp2_with fail
    refine (take_blk ks st0 _ ((keyF ks key).map (xorB 92)) 64 g2 w.heap.size (some ⟨k10, 0, none⟩) 64 w10 HS10.out HW10.out (fun _ ad hA => by obtain rfl := Option.some.inj hA; exact hg2k) (by simp [st0]) (HK1.out HB10.out) h4).mono ?_
    rintro e w11 ⟨rfl, v11, hs11, hb11, hk11⟩
    have HB11 := Aside0.mk (HB10.out.trans (hb11.mono (Nat.le_refl _)))
    have HZ11 : Aside0 (∃ z : Array Value, z.size = 32 ∧ w11.heap[w.heap.size]? = some (.cells z 79 (0, 0))) := ⟨HZ10.out.imp fun z hz => ⟨hz.1, hk11 _ _ _ (by decide) (by omega) hz.2⟩⟩
    have HC11 := Aside0.mk (hk11 _ _ _ (by decide) (by omega) HC10.out)
    have HS11 := Aside0.mk hs11
    clear hs11 hb11 hk11 HB10 HZ10 HS10 HC10 HW10 hg2k
    go_wp2_with fail
    refine (take_blk ks _ _ (toldN h1 32) 32 g2 w.heap.size (some ⟨g9, 0, none⟩) 32 w11 HS11.out (c_told HC11.out) (fun _ ad hA => by obtain rfl := Option.some.inj hA; dsimp only; omega) (by have := takeF_rest ks st0 ((keyF ks key).map (xorB 92)); omega) (HK1.out HB11.out) h4).mono ?_
    rintro e w12 ⟨rfl, v12, hs12, hb12, hk12⟩
    have HB12 := Aside0.mk (HB11.out.trans (hb12.mono (Nat.le_refl _)))
    have HZ12 : Aside0 (∃ z : Array Value, z.size = 32 ∧ w12.heap[w.heap.size]? = some (.cells z 79 (0, 0))) := ⟨HZ11.out.imp fun z hz => ⟨hz.1, hk12 _ _ _ (by decide) (by omega) hz.2⟩⟩
    have HS12 := Aside0.mk hs12
    clear hs12 hb12 hk12 HB11 HZ11 HS11 HC11
    go_wp2_with fail
    refine (val_any ks _ v12 g2 w.heap.size w12 HS12.out (by have := takeF_rest ks (takeF ks st0 ((keyF ks key).map (xorB 92))) (toldN h1 32); omega) (HK1.out HB12.out)).mono ?_
    have hmac : valF ks (takeF ks (takeF ks st0 ((keyF ks key).map (xorB 92))) (toldN h1 32)) = macF ks key b := by rw [HH1.out]; rfl
    rw [hmac]
    clear hmac
    rintro e w13 ⟨rfl, hb13⟩
    have HB13 := Aside0.mk (HB12.out.trans (hb13.mono HB12.out.size))
    obtain ⟨z, hzs, hzb⟩ := HZ12.out
    have HZ13 := Aside0.mk (blk_below hzb hb13)
    have HZS := Aside0.mk hzs
    clear hb13 hzs hzb HB12 HZ12 HS12
    go_wp2_with (refine wpList_store_row rfl 79 _ _ rfl w.heap.size (toldV (macF ks key b) 32) rfl rfl 79 _ HZ13.out (by rw [toldV_size]; kernel_rfl) (by rw [toldV_size]; exact HZS.out) (toldV_all _ 32) ?_)
    have hr := setRow_heap w13 w.heap.size _ (toldV (macF ks key b) 32) 79 (0, 0) HZ13.out
    have hB14 := below_setRow HB13.out (g := w.heap.size) (Nat.le_refl _) (toldV (macF ks key b) 32)
    exact bodyPost_ret (v := .agg (toldV (macF ks key b) 32)) (results_cell_row rfl _ _ w.heap.size 79 (toldV (macF ks key b) 32) (0, 0) _ rfl hr Tryz.underlying79 rfl (by rw [toldV_size]; kernel_rfl)) rfl ⟨rfl, hB14⟩
end Go.Proofs.YtbnbplppgbmkpaaGreatDoor

namespace Go.Proofs.YtbnbplppgbmkpaaGreatDoor
open Go.RowKit Go.Proofs.YtbnbplppgbmkpaaGreatDoorW.PrintWords

/-- Is a byte one of 'which'? -/
def inW (which : ByteArray) (c : UInt8) : Bool := decide (0 ≤ Lib.indexByte which.data.toList c)
def allW (which s : ByteArray) : Bool := s.data.toList.all (inW which)
def ofB (s which : ByteArray) (n : Int) : Bool := allW which s && decide ((s.size : Int) = n)

theorem idx_any (which : ByteArray) (c : UInt8) (w : World) :
    Calls Tryz.prog 151 #[.string which, .int .u8 (c.toNat : Int)] w fun e w' => e = .returned (.int .i64 (Lib.indexByte which.data.toList c)) ∧ w = w' := by
  refine (Tryz.strings_IndexByte which c.toNat w).mono ?_
  rintro e w' ⟨rfl, rfl⟩
  exact ⟨by simp, rfl⟩
theorem allW_yes {which s : ByteArray} (h : ∀ j, j < s.size → (hj : j < s.size) → inW which s[j] = true) : allW which s = true := by
  rw [allW, List.all_eq_true]
  intro c hc
  obtain ⟨j, hj, rfl⟩ := List.getElem_of_mem hc
  exact h j (by simpa using hj) (by simpa using hj)
theorem allW_no {which s : ByteArray} {k : Nat} (hk : k < s.size) (h : inW which s[k] = false) : allW which s = false := by
  rw [allW, List.all_eq_false]
  exact ⟨s[k], by simp [ByteArray.getElem_eq_getElem_data], by simp [h]⟩

set_option maxHeartbeats 400000 in
theorem of_any (s which : ByteArray) (n : Int) (w : World) (hm : s.size ≤ maxLen) :
    Calls Tryz.prog 134 #[.string s, .string which, .int .i64 n] w fun e w' => e = .returned (.bool (ofB s which n)) ∧ w = w' := by
  unfold maxLen at hm
  go_enter Tryz.func134, Tryz.ntmps134
  go_wp2_with fail
  go_loop [10] (fun i => ∃ k : Nat, k ≤ s.size ∧ i = .int .i64 k ∧ Aside0 (∀ j, j < k → (hj : j < s.size) → inW which s[j] = true)) (fun i => s.size - (intOf i).toNat)
  case atStart => exact ⟨0, Nat.zero_le _, rfl, ⟨fun j hj => absurd hj (Nat.not_lt_zero _)⟩⟩
  case round =>
    obtain ⟨k, hk, rfl, HIN⟩ := hrel
    by_cases hlt : k < s.size
    · by_cases hw : inW which s[k] = true
      · have hw2 : decide (Lib.indexByte which.data.toList s[k] < 0) = false := by simp [inW] at hw; simp; omega
        have HW := Aside0.mk hw
        clear hw
        go_wp2_with (go_at_call 151; refine (idx_any _ _ _).mono ?_; rintro e w' ⟨rfl, rfl⟩)
        go_round
        case rel =>
          refine ⟨k + 1, by omega, by go_num, ⟨?_⟩⟩
          intro j hj hj2
          rcases Nat.lt_or_eq_of_le (Nat.le_of_lt_succ hj) with h | h
          · exact HIN.out j h hj2
          · subst h; exact HW.out
        case measure => simp [intOf]; omega
      · have hw2 : Lib.indexByte which.data.toList s[k] < 0 := by simp [inW] at hw; omega
        have hw3 : inW which s[k] = false := by simpa using hw
        have HW := Aside0.mk hw3
        clear hw hw3
        go_wp2_with (go_at_call 151; refine (idx_any _ _ _).mono ?_; rintro e w' ⟨rfl, rfl⟩)
        go_ret
        refine ⟨?_, rfl⟩
        rw [ofB, allW_no hlt HW.out]
        rfl
    · have hks : k = s.size := by omega
      have HK := Aside0.mk hks
      clear hks
      go_wp2_with fail
      go_ret
      refine ⟨?_, rfl⟩
      rw [ofB, allW_yes (fun j hj hj2 => HIN.out j (by have := HK.out; omega) hj2)]
      rw [Bool.true_and]
      exact congrArg (fun b => Ending.returned (Value.bool b)) (by by_cases h : (s.size : Int) = n <;> simp [h])
abbrev tenS : ByteArray := ⟨#[48, 49, 50, 51, 52, 53, 54, 55, 56, 57]⟩
abbrev lowS : ByteArray := ⟨#[48, 49, 50, 51, 52, 53, 54, 55, 56, 57, 97, 98, 99, 100, 101, 102]⟩
abbrev signS : ByteArray := ⟨#[65, 66, 67, 68, 69, 70, 71, 72, 73, 74, 75, 76, 77, 78, 79, 80, 81, 82, 83, 84, 85, 86, 87, 88, 89, 90, 48, 49, 50, 51, 52, 53, 54, 55, 56, 57, 32]⟩

/-- A form that may be. -/
def FormOk (k n c : Int) : Prop := (1 ≤ k ∧ k ≤ 5) ∧ (1 ≤ n ∧ n ≤ 64) ∧ 1 ≤ c ∧ c ≤ 3

theorem may_yes (k n c : Int) (h : FormOk k n c) (w : World) :
    Calls Tryz.prog 112 #[.agg #[.int .i64 k, .int .i64 n, .int .i64 c]] w fun e w' => e = .returned (.bool true) ∧ Below w.heap.size w w' := by
  obtain ⟨⟨h1, h2⟩, ⟨h3, h4⟩, h5, h6⟩ := h
  have a1 : 0 < k := by omega
  have a2 : 0 < n := by omega
  have a3 : 0 < c := by omega
  go_enter Tryz.func112, Tryz.ntmps112
  go_wp2
  go_ret
  exact ⟨rfl, by go_grown⟩

def rightB (k n : Int) (s : ByteArray) : Bool :=
  if k = 5 then (decide (bt s 0 = 67 ∨ bt s 0 = 68) && decide (0 < s.size)) && ofB (s.extract 1 s.size) tenS n
  else if k = 1 then ofB s tenS n
  else if k = 2 then (decide (0 < s.size) && decide ((s.size : Int) ≤ n)) && ofB s tenS s.size
  else if k = 3 then ofB s signS n
  else ofB s lowS (2 * n)

theorem right_n (n c : Int) (s : ByteArray) (hm : s.size ≤ maxLen) (w : World) :
    Calls Tryz.prog 113 #[.agg #[.int .i64 1, .int .i64 n, .int .i64 c], .string s] w fun e w' => e = .returned (.bool (ofB s tenS n)) ∧ Below w.heap.size w w' := by
  go_enter Tryz.func113, Tryz.ntmps113
  go_wp2_with (go_at_call 134; refine (of_any _ _ _ _ hm).mono ?_; rintro e w' ⟨rfl, rfl⟩)
  go_ret
  exact ⟨rfl, by go_grown⟩
theorem right_an (n c : Int) (s : ByteArray) (hm : s.size ≤ maxLen) (w : World) :
    Calls Tryz.prog 113 #[.agg #[.int .i64 3, .int .i64 n, .int .i64 c], .string s] w fun e w' => e = .returned (.bool (ofB s signS n)) ∧ Below w.heap.size w w' := by
  go_enter Tryz.func113, Tryz.ntmps113
  go_wp2_with (go_at_call 134; refine (of_any _ _ _ _ hm).mono ?_; rintro e w' ⟨rfl, rfl⟩)
  go_ret
  exact ⟨rfl, by go_grown⟩
theorem right_b (n c : Int) (hn : 1 ≤ n) (hn' : n ≤ 64) (s : ByteArray) (hm : s.size ≤ maxLen) (w : World) :
    Calls Tryz.prog 113 #[.agg #[.int .i64 4, .int .i64 n, .int .i64 c], .string s] w fun e w' => e = .returned (.bool (ofB s lowS (2 * n))) ∧ Below w.heap.size w w' := by
  go_enter Tryz.func113, Tryz.ntmps113
  go_wp2_with (go_at_call 134; refine (of_any _ _ _ _ hm).mono ?_; rintro e w' ⟨rfl, rfl⟩)
  go_ret
  exact ⟨rfl, by go_grown⟩
theorem right_ll (n c : Int) (s : ByteArray) (hm : s.size ≤ maxLen) (w : World) :
    Calls Tryz.prog 113 #[.agg #[.int .i64 2, .int .i64 n, .int .i64 c], .string s] w fun e w' => e = .returned (.bool ((decide (0 < s.size) && decide ((s.size : Int) ≤ n)) && ofB s tenS s.size)) ∧ Below w.heap.size w w' := by
  by_cases h0 : 0 < s.size
  · have h0i : (0 : Int) < (s.size : Int) := by omega
    by_cases h1 : (s.size : Int) ≤ n
    · rw [decide_eq_true h0, decide_eq_true h1]
      go_enter Tryz.func113, Tryz.ntmps113
      go_wp2_with (go_at_call 134; refine (of_any _ _ _ _ hm).mono ?_; rintro e w' ⟨rfl, rfl⟩)
      go_ret
      exact ⟨rfl, by go_grown⟩
    · rw [decide_eq_true h0, decide_eq_false h1]
      have h2 : decide ((s.size : Int) ≤ n) = false := decide_eq_false h1
      go_enter Tryz.func113, Tryz.ntmps113
      go_wp2_with (go_at_call 134; refine (of_any _ _ _ _ hm).mono ?_; rintro e w' ⟨rfl, rfl⟩)
      go_ret
      exact ⟨rfl, by go_grown⟩
  · have h0i : decide ((0 : Int) < (s.size : Int)) = false := decide_eq_false (by omega)
    rw [decide_eq_false h0]
    go_enter Tryz.func113, Tryz.ntmps113
    go_wp2_with (go_at_call 134; refine (of_any _ _ _ _ hm).mono ?_; rintro e w' ⟨rfl, rfl⟩)
    go_ret
    exact ⟨rfl, by go_grown⟩
theorem right_x (n c : Int) (s : ByteArray) (hm : s.size ≤ maxLen) (w : World) :
    Calls Tryz.prog 113 #[.agg #[.int .i64 5, .int .i64 n, .int .i64 c], .string s] w fun e w' => e = .returned (.bool ((decide (bt s 0 = 67 ∨ bt s 0 = 68) && decide (0 < s.size)) && ofB (s.extract 1 s.size) tenS n)) ∧ Below w.heap.size w w' := by
  by_cases h0 : 0 < s.size
  · have hbt : bt s 0 = (s[0].toNat : Int) := by simp [bt, h0]
    have he1 : s.toList.isEmpty = false := by
      have : s.toList.length = s.size := by rw [ByteArray.toList_eq]; simp
      cases h : s.toList with
      | nil => rw [h] at this; simp at this; omega
      | cons => rfl
    have he2 : (s.toList == []) = false := by cases h : s.toList <;> simp_all
    have h1s : (1 : Int) ≤ (s.size : Int) := by omega
    have hm2 : (s.extract 1 s.size).size ≤ maxLen := by simp; omega
    rw [decide_eq_true h0, hbt]
    by_cases h1 : (s[0].toNat : Int) = 67
    · have e1 : ((s[0].toNat : Int) != 67) = false := by simp [h1]
      rw [decide_eq_true (Or.inl h1)]
      clear hbt h1
      go_enter Tryz.func113, Tryz.ntmps113
      go_wp2_with (go_at_call 134; refine (of_any _ _ _ _ hm2).mono ?_; rintro e w' ⟨rfl, rfl⟩)
      go_ret
      exact ⟨rfl, by go_grown⟩
    · have e1 : ((s[0].toNat : Int) != 67) = true := by simpa using h1
      by_cases h2 : (s[0].toNat : Int) = 68
      · have e2 : ((s[0].toNat : Int) != 68) = false := by simp [h2]
        rw [decide_eq_true (Or.inr h2)]
        clear hbt h1 h2
        go_enter Tryz.func113, Tryz.ntmps113
        go_wp2_with (go_at_call 134; refine (of_any _ _ _ _ hm2).mono ?_; rintro e w' ⟨rfl, rfl⟩)
        go_ret
        exact ⟨rfl, by go_grown⟩
      · have e2 : ((s[0].toNat : Int) != 68) = true := by simpa using h2
        rw [decide_eq_false (fun h => h.elim h1 h2)]
        clear hbt h1 h2
        go_enter Tryz.func113, Tryz.ntmps113
        go_wp2_with (go_at_call 134; refine (of_any _ _ _ _ hm2).mono ?_; rintro e w' ⟨rfl, rfl⟩)
        go_ret
        exact ⟨rfl, by go_grown⟩
  · have hz : s = ⟨#[]⟩ := by
      have : s.data.size = 0 := by have : s.data.size = s.size := rfl; omega
      cases s with | mk d => simp at this; simp [this]
    subst hz
    go_enter Tryz.func113, Tryz.ntmps113
    go_wp2_with fail
    go_ret
    exact ⟨rfl, by go_grown⟩

theorem right_any (k n c : Int) (h : FormOk k n c) (s : ByteArray) (hm : s.size ≤ maxLen) (w : World) :
    Calls Tryz.prog 113 #[.agg #[.int .i64 k, .int .i64 n, .int .i64 c], .string s] w fun e w' => e = .returned (.bool (rightB k n s)) ∧ Below w.heap.size w w' := by
  obtain ⟨⟨h1, h2⟩, ⟨h3, h4⟩, _⟩ := h
  have : k = 1 ∨ k = 2 ∨ k = 3 ∨ k = 4 ∨ k = 5 := by omega
  rcases this with rfl | rfl | rfl | rfl | rfl
  · exact right_n n c s hm w
  · exact right_ll n c s hm w
  · exact right_an n c s hm w
  · exact right_b n c h3 h4 s hm w
  · exact right_x n c s hm w

/-- What is wrong with a text for a form that may be. -/
def wrongOf (k n : Int) (s : ByteArray) : Int := if rightB k n s then 0 else 41
theorem check_any (k n c : Int) (h : FormOk k n c) (s : ByteArray) (hm : s.size ≤ maxLen) (w : World) :
    Calls Tryz.prog 82 #[.agg #[.int .i64 k, .int .i64 n, .int .i64 c], .string s] w fun e w' => e = .returned (.int .i64 (wrongOf k n s)) ∧ Below w.heap.size w w' := by
  unfold wrongOf
  cases hr : rightB k n s
  all_goals
    have HR := Aside0.mk hr
    clear hr
    go_enter Tryz.func82, Tryz.ntmps82
    go_wp2_with fail
    refine (may_yes k n c h _).mono ?_
    rintro e w1 ⟨rfl, hb1⟩
    have HB1 := Aside0.mk ((below_alloc (Below.refl w.heap.size w) _).trans (hb1.mono (by simp)))
    have HG := Aside0.mk (blk_below (blk_new w _) hb1)
    have e0 := blk_cell HG.out 0
    have e1 := blk_cell HG.out 1
    have e2 := blk_cell HG.out 2
    clear hb1
    go_wp2_with fail
    refine (right_any k n c h s hm w1).mono ?_
    rintro e w2 ⟨rfl, hb2⟩
    have HB2 := Aside0.mk (HB1.out.trans (hb2.mono HB1.out.size))
    rw [HR.out]
    clear hb2 e0 e1 e2
    go_wp2_with fail
    go_ret
    exact ⟨rfl, HB2.out⟩
end Go.Proofs.YtbnbplppgbmkpaaGreatDoor

namespace Go.Proofs.YtbnbplppgbmkpaaGreatDoor
open Go.RowKit Go.Proofs.YtbnbplppgbmkpaaGreatDoorW.PrintLast Go.Proofs.YtbnbplppgbmkpaaGreatDoorW.PrintWords

def turnC (fr tt : ByteArray) (c : UInt8) : UInt8 := tt.data.toList.getD (Lib.indexByte fr.data.toList c).toNat 0
def turnL (fr tt : ByteArray) (l : List UInt8) : List UInt8 := l.map (turnC fr tt)
theorem inW_at {fr : ByteArray} {c : UInt8} (h : inW fr c = true) : ∃ m : Nat, Lib.indexByte fr.data.toList c = (m : Int) ∧ m < fr.size := by
  have h0 : 0 ≤ Lib.indexByte fr.data.toList c := by simpa [inW] using h
  obtain ⟨m, hm⟩ : ∃ m : Nat, Lib.indexByte fr.data.toList c = (m : Int) := ⟨(Lib.indexByte fr.data.toList c).toNat, by omega⟩
  refine ⟨m, hm, ?_⟩
  have h1 := (List.getElem?_eq_some_iff.1 (Lib.indexByte_some hm).1).1
  rw [data_length] at h1
  exact h1
theorem idx_at (which : ByteArray) (c : UInt8) (m : Nat) (h : Lib.indexByte which.data.toList c = (m : Int)) (w : World) :
    Calls Tryz.prog 151 #[.string which, .int .u8 (c.toNat : Int)] w fun e w' => e = .returned (.int .i64 (m : Int)) ∧ w = w' := by
  rw [← h]
  exact idx_any which c w

set_option maxHeartbeats 1000000 in
theorem turned_yes (s fr tt : ByteArray) (hall : allW fr s = true) (hto : fr.size ≤ tt.size) (hs : s.size ≤ 1048576) (w : World) :
    Calls Tryz.prog 136 #[.string s, .string fr, .string tt] w fun e w' => e = .returned (.tuple #[.string ⟨(turnL fr tt s.data.toList).toArray⟩, .bool true]) ∧ Below w.heap.size w w' := by
  have HA := Aside0.mk hall
  clear hall
  go_enter Tryz.func136, Tryz.ntmps136
  go_wp2_with fail
  go_loopw [13] (fun i wr => ∃ k : Nat, k ≤ s.size ∧ i = .int .i64 k ∧ Aside0 (Lib.IsBuilder 165 5 w.heap.size w.heap.size (Lib.byteCells (turnL fr tt (s.data.toList.take k))) wr) ∧ Aside0 (Below w.heap.size w wr) ∧ Aside0 (w.heap.size < wr.heap.size)) (fun i _ => s.size - (intOf i).toNat)
  case atStart =>
    refine ⟨0, Nat.zero_le _, rfl, ⟨?_⟩, ⟨below_alloc (Below.refl _ _) _⟩, ⟨by simp⟩⟩
    exact Or.inl ⟨Nat.le_refl _, _, blk_new _ _, own_nil _ _ _ _, by simp [Value.ownBlock]⟩
  case round =>
    obtain ⟨k, hk, rfl, HBD, HBL, HZ⟩ := hrel
    by_cases hlt : k < s.size
    · have hin : inW fr s[k] = true := by
        have h := HA.out
        rw [allW, List.all_eq_true] at h
        exact h _ (by simp [ByteArray.getElem_eq_getElem_data])
      obtain ⟨m, hm, hmf⟩ := inW_at hin
      have hmt : m < tt.size := by omega
      have HM := Aside0.mk hm
      have HT : Aside0 (turnC fr tt s[k] = tt[m]) := ⟨by unfold turnC; rw [hm]; simp only [ByteArray.getElem_eq_getElem_data, List.getD, Int.toNat_natCast, Array.getElem?_toList]; rw [Array.getElem?_eq_getElem (show m < tt.data.size from hmt)]; rfl⟩
      clear hin hm
      go_wp2_with (go_at_call 151; refine (idx_at _ _ m HM.out _).mono ?_; rintro e w' ⟨rfl, rfl⟩)
      refine (Tryz.Builder_WriteByte w.heap.size w.heap.size _ _ _ HBD.out (by rw [Lib.byteCells_length]; unfold turnL; simp; omega) (Nat.le_of_lt HZ.out)).mono ?_
      rintro e w2 ⟨rfl, hb2, hB2⟩
      have HB2 := Aside0.mk hb2
      have HBL2 : Aside0 (Below w.heap.size w w2) := ⟨HBL.out.trans hB2⟩
      have HZ2 : Aside0 (w.heap.size < w2.heap.size) := ⟨Nat.lt_of_lt_of_le HZ.out hB2.size⟩
      clear hb2 hB2
      go_wp2
      go_roundw
      case rel =>
        refine ⟨k + 1, by omega, by go_num, ⟨Or.inr ?_⟩, HBL2, HZ2⟩
        have h := HB2.out
        have e1 : turnL fr tt (s.data.toList.take (k + 1)) = turnL fr tt (s.data.toList.take k) ++ [tt[m]] := by
          rw [← HT.out]
          unfold turnL
          rw [List.take_succ_eq_append_getElem (by simpa using hlt), List.map_append]
          rfl
        rw [e1]
        simpa [Lib.byteCells] using h
      case measure => simp [intOf]; omega
    · obtain rfl : k = s.size := by omega
      clear hlt hk
      go_wp2_with fail
      refine (Tryz.Builder_String_any w.heap.size w.heap.size _ _ HBD.out (Nat.le_of_lt HZ.out)).mono ?_
      rintro e w2 ⟨rfl, hB2⟩
      have HBL2 : Aside0 (Below w.heap.size w w2) := ⟨HBL.out.trans hB2⟩
      clear hB2
      go_wp2
      go_ret2
      refine ⟨?_, HBL2.out⟩
      rw [List.take_of_length_le (by simp)]
      rfl

/-- Digits, two a byte. -/
def packC (a b : UInt8) : UInt8 := UInt8.ofNat (16 * (Lib.indexByte lowS.data.toList a).toNat + (Lib.indexByte lowS.data.toList b).toNat)
def packL : List UInt8 → List UInt8
  | a :: b :: r => packC a b :: packL r
  | _ => []
theorem packL_length : ∀ l : List UInt8, (packL l).length = l.length / 2
  | a :: b :: r => by simp only [packL, List.length_cons, packL_length r]; omega
  | [a] => by simp [packL]
  | [] => rfl
theorem packL_snoc : ∀ (l : List UInt8) (a b : UInt8), l.length % 2 = 0 → packL (l ++ [a, b]) = packL l ++ [packC a b]
  | [], a, b, _ => rfl
  | [x], a, b, h => by simp at h
  | x :: y :: r, a, b, h => by
    have := packL_snoc r a b (by simp at h; omega)
    simp only [List.cons_append, packL]
    rw [this]
theorem or_nib : ∀ (a b : Fin 16), IntKind.u8.wrap (Go.bits .or .i64 (IntKind.i64.wrap ((a.val : Int) * 16)) (b.val : Int)) = ((16 * a.val + b.val : Nat) : Int) := by decide +kernel
theorem or_nib' {a b : Nat} (ha : a < 16) (hb : b < 16) : IntKind.u8.wrap (Go.bits .or .i64 (IntKind.i64.wrap ((a : Int) * 16)) (b : Int)) = ((16 * a + b : Nat) : Int) := or_nib ⟨a, ha⟩ ⟨b, hb⟩

def evenF (s : ByteArray) : ByteArray := if s.size % 2 = 1 then ⟨#[48]⟩ ++ s else s
theorem evenF_even (s : ByteArray) : (evenF s).size % 2 = 0 := by
  unfold evenF
  split
  · rw [ByteArray.size_append]
    have : (⟨#[48]⟩ : ByteArray).size = 1 := rfl
    omega
  · omega
theorem evenF_size (s : ByteArray) : (evenF s).size ≤ s.size + 1 := by
  unfold evenF
  split
  · rw [ByteArray.size_append]
    have : (⟨#[48]⟩ : ByteArray).size = 1 := rfl
    omega
  · omega
theorem evenF_all (s : ByteArray) (h : allW lowS s = true) : allW lowS (evenF s) = true := by
  unfold evenF
  split
  · unfold allW at h ⊢
    rw [ByteArray.data_append, Array.toList_append, List.all_append, h, Bool.and_true]
    decide +kernel
  · exact h
def packF (s : ByteArray) : ByteArray := ⟨(packL (evenF s).data.toList).toArray⟩

set_option maxRecDepth 100000 in
set_option maxHeartbeats 1000000 in
theorem pack_any (s0 : ByteArray) (hall0 : allW lowS s0 = true) (hs0 : s0.size ≤ 1048575) (w : World) :
    Calls Tryz.prog 139 #[.string s0] w fun e w' => e = .returned (.string (packF s0)) ∧ Below w.heap.size w w' := by
  have hall := evenF_all s0 hall0
  have hev := evenF_even s0
  have hs : (evenF s0).size ≤ 1048576 := by have := evenF_size s0; omega
  have HA := Aside0.mk hall
  have HEV := Aside0.mk hev
  have HSZ := Aside0.mk hs
  clear hall hall0 hev hs
  go_enter Tryz.func139, Tryz.ntmps139
  go_upto_if 8 with fail
  go_cut [0] (fun v0 wx => w = wx ∧ v0 = .string (evenF s0))
  case first =>
    by_cases ho : s0.size % 2 = 1
    · have hod : ((s0.size : Int) % 2 == 1) = true := by simp; omega
      have he : evenF s0 = ⟨#[48]⟩ ++ s0 := by unfold evenF; rw [if_pos ho]
      have HE := Aside0.mk he
      clear he
      go_wp2_with fail
      go_meet
      exact ⟨rfl, by rw [HE.out]⟩
    · have hod : ((s0.size : Int) % 2 == 1) = false := by simp; omega
      have he : evenF s0 = s0 := by unfold evenF; rw [if_neg ho]
      have HE := Aside0.mk he
      clear he
      go_wp2_with fail
      go_meet
      exact ⟨rfl, by rw [HE.out]⟩
  case rest =>
  obtain ⟨rfl, rfl⟩ := hcut
  obtain ⟨s, hse⟩ : ∃ s, s = evenF s0 := ⟨_, rfl⟩
  have hpk : packF s0 = ⟨(packL s.data.toList).toArray⟩ := by unfold packF; rw [hse]
  have HPK := Aside0.mk hpk
  rw [← hse] at HA HEV HSZ ⊢
  clear hse hpk
  have hs := HSZ.out
  go_wp2_with fail
  go_loopw [4] (fun i wr => ∃ j : Nat, j ≤ s.size ∧ i = .int .i64 j ∧ Aside0 (j % 2 = 0) ∧ Aside0 (Lib.IsBuilder 165 5 w.heap.size w.heap.size (Lib.byteCells (packL (s.data.toList.take j))) wr) ∧ Aside0 (Below w.heap.size w wr) ∧ Aside0 (w.heap.size < wr.heap.size)) (fun i _ => s.size - (intOf i).toNat)
  case atStart =>
    refine ⟨0, Nat.zero_le _, rfl, ⟨rfl⟩, ⟨?_⟩, ⟨below_alloc (Below.refl _ _) _⟩, ⟨by simp⟩⟩
    exact Or.inl ⟨Nat.le_refl _, _, blk_new _ _, own_nil _ _ _ _, by simp [Value.ownBlock]⟩
  case round =>
    obtain ⟨j, hj, rfl, HJ, HBD, HBL, HZ⟩ := hrel
    by_cases hlt : j < s.size
    · obtain ⟨j1, hj1⟩ : ∃ j1, j1 = j + 1 := ⟨_, rfl⟩
      have hlt1 : j1 < s.size := by have := HJ.out; have := HEV.out; omega
      have hin : ∀ (j : Nat) (hj : j < s.size), inW lowS s[j] = true := by
        intro j hj
        have h := HA.out
        rw [allW, List.all_eq_true] at h
        exact h _ (by simp [ByteArray.getElem_eq_getElem_data])
      obtain ⟨ma, hma, hma'⟩ := inW_at (hin j hlt)
      obtain ⟨mb, hmb, hmb'⟩ := inW_at (hin j1 hlt1)
      have hma16 : ma < 16 := hma'
      have hmb16 : mb < 16 := hmb'
      have HMA := Aside0.mk hma
      have HMB := Aside0.mk hmb
      have i1 : IntKind.i64.wrap ((j : Int) + 1) = (j1 : Int) := by rw [i64_w]; unfold wrap64; omega
      have hl1 : (j : Int) < (s.size : Int) := by omega
      have hl2 : (j1 : Int) < (s.size : Int) := by omega
      have HJ1 := Aside0.mk hj1
      have HBDr : Aside0 (Lib.IsBuilder 165 5 w.heap.size w.heap.size (Lib.byteCells (packL (s.data.toList.take j))) wr.drew) := ⟨HBD.out.imp (fun h => ⟨h.1, h.2.imp fun v h => ⟨blk_drew h.1, pw_own_below h.2.1 (below_drew (Below.refl _ _)), h.2.2⟩⟩) (fun h => ⟨h.1, h.2.imp fun v h => ⟨blk_drew h.1, pw_own_below h.2.1 (below_drew (Below.refl _ _)), h.2.2⟩⟩)⟩
      clear hin hma hmb hma' hmb' hj1
      have HZr : Aside0 (w.heap.size ≤ wr.drew.heap.size) := ⟨Nat.le_of_lt HZ.out⟩
      go_wp2_with fail
      refine start_ (n := 13) (S := fun w' => True) (ds := [12]) #[false, false, false, false, false, false, false, false, false, false, false, false, false] (by kernel_rfl) rfl rfl trivial (fun hHeld => ?_)
      refine pure_ (i := 0) (N := some 17) (v := ?_) (a' := ?_) #[true, false, false, false, false, false, false, false, false, false, false, false, false] rfl rfl (by kernel_rfl) (fun _ _ _ h => h) (Or.inl ⟨by rfl, ?_⟩) ?_ ?_
      rotate_left
      · intro w'
        go_simp
        with_reducible rfl
      rotate_left
      · simp only [Act.put, List.setIfInBounds_toArray, List.set_cons_zero, List.set_cons_succ]
        rfl
      refine pure_ (i := 1) (N := some 18) (v := ?_) (a' := ?_) #[true, true, false, false, false, false, false, false, false, false, false, false, false] rfl rfl (by kernel_rfl) (fun _ _ _ h => h) (Or.inl ⟨by rfl, ?_⟩) ?_ ?_
      rotate_left
      · intro w'
        go_simp
        with_reducible rfl
      rotate_left
      · simp only [Act.put, List.setIfInBounds_toArray, List.set_cons_zero, List.set_cons_succ]
        rfl
      refine pure_ (i := 5) (N := some 22) (v := ?_) (a' := ?_) #[true, true, false, false, false, true, false, false, false, false, false, false, false] rfl rfl (by kernel_rfl) (fun _ _ _ h => h) (Or.inl ⟨by rfl, ?_⟩) ?_ ?_
      rotate_left
      · intro w'
        go_simp
        with_reducible rfl
      rotate_left
      · simp only [Act.put, List.setIfInBounds_toArray, List.set_cons_zero, List.set_cons_succ]
        rfl
      refine pure_ (i := 6) (N := some 23) (v := ?_) (a' := ?_) #[true, true, false, false, false, true, true, false, false, false, false, false, false] rfl rfl (by kernel_rfl) (fun _ _ _ h => h) (Or.inl ⟨by rfl, ?_⟩) ?_ ?_
      rotate_left
      · intro w'
        go_simp
        with_reducible rfl
      rotate_left
      · simp only [Act.put, List.setIfInBounds_toArray, List.set_cons_zero, List.set_cons_succ]
        rfl
      refine pure_ (i := 7) (N := some 24) (v := ?_) (a' := ?_) #[true, true, false, false, false, true, true, true, false, false, false, false, false] rfl rfl (by kernel_rfl) (fun _ _ _ h => h) (Or.inl ⟨by rfl, ?_⟩) ?_ ?_
      rotate_left
      · intro w'
        go_simp
        with_reducible rfl
      rotate_left
      · simp only [Act.put, List.setIfInBounds_toArray, List.set_cons_zero, List.set_cons_succ]
        rfl
      refine take_ (i := 2) (N := some 19) (v := ?_) (a' := ?_) #[true, true, true, false, false, true, true, true, false, false, false, false, false] rfl rfl (by kernel_rfl) (fun _ _ _ h => h) (Or.inl ⟨by rfl, ?_⟩) hHeld ?_ ?_
      rotate_left
      · intro w' _
        go_simp
        with_reducible rfl
      rotate_left
      · simp only [Act.put, List.setIfInBounds_toArray, List.set_cons_zero, List.set_cons_succ]
        rfl
      refine take_ (i := 8) (N := some 25) (v := ?_) (a' := ?_) #[true, true, true, false, false, true, true, true, true, false, false, false, false] rfl rfl (by kernel_rfl) (fun _ _ _ h => h) (Or.inl ⟨by rfl, ?_⟩) hHeld ?_ ?_
      rotate_left
      · intro w' _
        go_simp
        with_reducible rfl
      rotate_left
      · simp only [Act.put, List.setIfInBounds_toArray, List.set_cons_zero, List.set_cons_succ]
        rfl
      refine one_ (i := 3) (N := some 20) #[true, true, true, true, false, true, true, true, true, false, false, false, false] rfl rfl (by kernel_rfl) (by decide) (fun K hK => ?_)
      refine goes_ Tryz.func151 (by kernel_rfl) rfl #[.string ⟨#[48, 49, 50, 51, 52, 53, 54, 55, 56, 57, 97, 98, 99, 100, 101, 102]⟩, .int .u8 (s[j].toNat : Int)] (by rfl) rfl rfl (by simp only [List.map_toArray, List.map_cons, List.map_nil]; rfl) ?_
      with_reducible refine (idx_at _ _ ma HMA.out _).mono ?_
      rintro e w3 ⟨rfl, rfl⟩
      refine ⟨_, rfl, ?_⟩
      refine hK.out _ _ trivial (fun hHeld => ?_)
      clear hK K
      refine norm_ (a' := ?_) ?_ ?_
      rotate_left
      · show Act.put _ (some 20) _ = _
        simp only [Act.put, List.setIfInBounds_toArray, List.set_cons_zero, List.set_cons_succ]
        rfl
      refine pure_ (i := 4) (N := some 21) (v := ?_) (a' := ?_) #[true, true, true, true, true, true, true, true, true, false, false, false, false] rfl rfl (by kernel_rfl) (fun _ _ _ h => h) (Or.inl ⟨by rfl, ?_⟩) ?_ ?_
      rotate_left
      · intro w'
        go_simp
        with_reducible rfl
      rotate_left
      · simp only [Act.put, List.setIfInBounds_toArray, List.set_cons_zero, List.set_cons_succ]
        rfl
      refine one_ (i := 9) (N := some 26) #[true, true, true, true, true, true, true, true, true, true, false, false, false] rfl rfl (by kernel_rfl) (by decide) (fun K hK => ?_)
      refine goes_ Tryz.func151 (by kernel_rfl) rfl #[.string ⟨#[48, 49, 50, 51, 52, 53, 54, 55, 56, 57, 97, 98, 99, 100, 101, 102]⟩, .int .u8 (s[j1].toNat : Int)] (by rfl) rfl rfl (by simp only [List.map_toArray, List.map_cons, List.map_nil]; rfl) ?_
      with_reducible refine (idx_at _ _ mb HMB.out _).mono ?_
      rintro e w3 ⟨rfl, rfl⟩
      refine ⟨_, rfl, ?_⟩
      refine hK.out _ _ trivial (fun hHeld => ?_)
      clear hK K
      refine norm_ (a' := ?_) ?_ ?_
      rotate_left
      · show Act.put _ (some 26) _ = _
        simp only [Act.put, List.setIfInBounds_toArray, List.set_cons_zero, List.set_cons_succ]
        rfl
      refine pure_ (i := 10) (N := some 27) (v := ?_) (a' := ?_) #[true, true, true, true, true, true, true, true, true, true, true, false, false] rfl rfl (by kernel_rfl) (fun _ _ _ h => h) (Or.inl ⟨by rfl, ?_⟩) ?_ ?_
      rotate_left
      · intro w'
        go_simp
        with_reducible rfl
      rotate_left
      · simp only [Act.put, List.setIfInBounds_toArray, List.set_cons_zero, List.set_cons_succ]
        rfl
      refine pure_ (i := 11) (N := some 28) (v := ?_) (a' := ?_) #[true, true, true, true, true, true, true, true, true, true, true, true, false] rfl rfl (by kernel_rfl) (fun _ _ _ h => h) (Or.inl ⟨by rfl, ?_⟩) ?_ ?_
      rotate_left
      · intro w'
        go_simp
        with_reducible rfl
      rotate_left
      · simp only [Act.put, List.setIfInBounds_toArray, List.set_cons_zero, List.set_cons_succ]
        rfl
      refine last_ (i := 12) (N := some 29) #[true, true, true, true, true, true, true, true, true, true, true, true, true] rfl rfl (by kernel_rfl) (by decide) (fun K hK => ?_)
      refine goes_ Tryz.func152 (by kernel_rfl) rfl #[.pointer (some ⟨w.heap.size, 0, none⟩), .int .u8 (IntKind.u8.wrap (Go.bits .or .i64 (IntKind.i64.wrap ((ma : Int) * 16)) (mb : Int)))] (by rfl) rfl rfl (by simp only [List.map_toArray, List.map_cons, List.map_nil]; rfl) ?_
      with_reducible refine (Tryz.Builder_WriteByte w.heap.size w.heap.size _ _ _ HBDr.out (by rw [Lib.byteCells_length]; have := packL_length (s.data.toList.take j); simp at this; omega) HZr.out).mono ?_
      rintro e w2 ⟨rfl, hb2, hB2⟩
      refine ⟨_, rfl, ?_⟩
      have HB2 := Aside0.mk hb2
      have HBL2 : Aside0 (Below w.heap.size w w2) := ⟨(below_drew HBL.out).trans hB2⟩
      have HZ2 : Aside0 (w.heap.size < w2.heap.size) := ⟨Nat.lt_of_lt_of_le HZ.out hB2.size⟩
      clear hb2 hB2
      refine hK.out _ _ ?_
      clear hK K
      refine norm_ (a' := ?_) ?_ ?_
      rotate_left
      · show Act.put _ (some 29) _ = _
        simp only [Act.put, List.setIfInBounds_toArray, List.set_cons_zero, List.set_cons_succ]
        rfl
      refine done_ (by kernel_rfl) ?_
      clear i1 hHeld
      go_wp2
      go_roundw
      case rel =>
        have e1 := HJ1.out
        subst e1
        refine ⟨j + 2, by omega, by go_num, ⟨by have := HJ.out; omega⟩, ⟨Or.inr ?_⟩, HBL2, HZ2⟩
        have h := HB2.out
        rw [or_nib' hma16 hmb16] at h
        have e2 : s.data.toList.take (j + 2) = s.data.toList.take j ++ [s[j], s[j + 1]] := by
          rw [List.take_succ_eq_append_getElem (by simpa using hlt1), List.take_succ_eq_append_getElem (by simpa using hlt), List.append_assoc]
          rfl
        have hev2 : (s.data.toList.take j).length % 2 = 0 := by
          have := HJ.out
          rw [List.length_take, data_length, Nat.min_eq_left (by omega)]
          exact this
        have e3 : packC s[j] s[j + 1] = UInt8.ofNat (16 * ma + mb) := by unfold packC; rw [HMA.out, HMB.out]; rfl
        have e4 : (UInt8.ofNat (16 * ma + mb)).toNat = 16 * ma + mb := by rw [UInt8.toNat_ofNat']; omega
        rw [e2, packL_snoc _ _ _ hev2, e3]
        have e5 : Lib.byteCells (packL (s.data.toList.take j) ++ [UInt8.ofNat (16 * ma + mb)]) = Lib.byteCells (packL (s.data.toList.take j)) ++ [.int .u8 ((16 * ma + mb : Nat) : Int)] := by
          unfold Lib.byteCells
          rw [List.map_append]
          simp only [List.map_cons, List.map_nil, e4]
        rw [e5]
        exact h
      case measure => simp [intOf]; omega
    · obtain rfl : j = s.size := by omega
      clear hlt hj
      go_wp2_with fail
      refine (Tryz.Builder_String_any w.heap.size w.heap.size _ _ HBD.out (Nat.le_of_lt HZ.out)).mono ?_
      rintro e w2 ⟨rfl, hB2⟩
      have HBL2 : Aside0 (Below w.heap.size w w2) := ⟨HBL.out.trans hB2⟩
      clear hB2
      go_wp2
      go_ret
      refine ⟨?_, HBL2.out⟩
      rw [HPK.out, List.take_of_length_le (by simp)]
      rfl
end Go.Proofs.YtbnbplppgbmkpaaGreatDoor
