/- Messages: encode (46). Messages: Encode (36), and Get (30). -/
import Derived.Test.YtbnbplppgbmkpaaGreatDoorGrD
import Derived.MapKept
namespace Go.Proofs.YtbnbplppgbmkpaaGreatDoor
open Go.RowKit Go.Extern.Stop Go.Stop Go.Extern Go.Proofs.YtbnbplppgbmkpaaGreatDoorW.PrintLast Go.Proofs.YtbnbplppgbmkpaaGreatDoorW.PrintWords PSessionSeals

/-- What is known of an encode's answer. -/
def EncPost (w : World) (bs : List Int) (n : Int) (e : Ending) (w' : World) : Prop :=
  ∃ A' c' v, e = .returned (.tuple #[.slice A' bs.length c', v]) ∧ ErrAt w' v n ∧ Kd.C (Kd.int .u8) w' A' bs.length bs ∧ Below w.heap.size w w'

theorem wrap64_small' {n : Int} (h1 : -9223372036854775808 ≤ n) (h2 : n ≤ 9223372036854775807) : IntKind.i64.wrap n = n := by
  rw [IntKind.wrap_i64]; omega

theorem brow_apart0 {W : World} {gm i : Nat} {v : Value} {xs : List Int} {u : Value} (h : BRow W (gm + 1) v xs) : BRow (W.setCell ⟨gm, i, none⟩ u) (gm + 1) v xs :=
  brow_move h fun k hk => Below.heap_setCell W _ u k (by have := brow_base h k hk; show k ≠ gm; omega)
theorem brow_apart {W : World} {gm i : Nat} {v : Value} {xs : List Int} {u : Value} (h : BRow W (gm + 1) v xs) : BRow ((W.setCell ⟨gm, i, none⟩ u).drew) (gm + 1) v xs :=
  brow_move h fun k hk => Below.heap_setCell W _ u k (by have := brow_base h k hk; show k ≠ gm; omega)
theorem encL_cons (c o : Int) (x : S38) (r : List S38) (b : List Int) (m : Nat × Nat) : encL c o (x :: r) b m = match outF c o x with | none => none | some t => encL c o r (b ++ bytesOf t) (bitF m x.f0) := rfl
theorem or_bit (a b : Nat) (e : Int) (ha : a < 18446744073709551616) (hb : b < 64) (he : e = b) : Go.bits .or .u64 (a : Int) (IntKind.u64.wrap (2 ^ e.toNat)) = ((a ||| 2 ^ b : Nat) : Int) := by
  have h : 2 ^ b < 18446744073709551616 := Nat.lt_of_lt_of_le (Nat.pow_lt_pow_right (by omega) hb) (by decide)
  have hm : e.toNat = b := by omega
  rw [hm, show ((2 : Int) ^ b) = ((2 ^ b : Nat) : Int) by simp, u64_nat _ h]
  exact bits_or_u64_nat a (2 ^ b) ha h

theorem or_top (a : Nat) (ha : a < 18446744073709551616) : Go.bits .or .u64 (a : Int) 9223372036854775808 = ((a ||| 2 ^ 63 : Nat) : Int) := by
  have h := bits_or_u64_nat a 9223372036854775808 ha (by decide)
  have e : ((9223372036854775808 : Nat) : Int) = 9223372036854775808 := by decide +kernel
  have e2 : (2 : Nat) ^ 63 = 9223372036854775808 := by decide +kernel
  rw [e] at h
  rw [e2]
  exact h
theorem ix115_0 (a b : Int) (w : World) : (Instr.index 115 (.agg #[.int .u64 a, .int .u64 b]) (.int .i64 0)).run Tryz.prog w = .ok (.int .u64 a) w := by kernel_rfl
theorem ix115_1 (a b : Int) (w : World) : (Instr.index 115 (.agg #[.int .u64 a, .int .u64 b]) (.int .i64 1)).run Tryz.prog w = .ok (.int .u64 b) w := by kernel_rfl
theorem hex16_eq (n r : Nat) (h : r + (hexN n).length = 16) : (⟨(Lib.repeatL (⟨#[48]⟩ : ByteArray).data.toList r).toArray⟩ : ByteArray) ++ strOfNums (hexN n) = hex16 n := by
  have hr : 16 - (hexN n).length = r := by omega
  unfold hex16
  rw [hr]
  apply ByteArray.ext
  rw [ByteArray.data_append]
  have h2 : ∀ r, Lib.repeatL (⟨#[48]⟩ : ByteArray).data.toList r = List.replicate r 48 := by
    intro r
    induction r with
    | zero => rfl
    | succ r ih => rw [List.replicate_succ, ← ih]; rfl
  rw [h2]
  apply Array.toList_inj.1
  rw [Array.toList_append, strOfNums_data, strOfNums_data]
  simp
theorem hex16_right (n : Nat) : rightB 4 8 (hex16 n) = true := by
  unfold rightB ofB
  rw [hex16_all]
  simp [hex16_size]

/-- What stays while the fields are written. -/
structure Held (w : World) (gm : Nat) (c v o typ : Int) (V : Value) (m : Nat × Nat) (w' : World) : Prop where
  dia : w'.heap[w.heap.size]? = some (.cells #[.int .i64 c, .int .u8 v, .int .i64 o] 86 (0, 0))
  msg : w'.heap[w.heap.size + 1]? = some (.cells #[.int .i64 typ, V] 29 (0, 0))
  map : w'.heap[gm]? = some (.cells #[.int .u64 m.1, .int .u64 m.2] 115 (0, 0))
  bel : Below w.heap.size w w'
section
variable {w w' w'' : World} {gm : Nat} {c v o typ : Int} {V : Value} {m : Nat × Nat}
theorem Held.below (h : Held w gm c v o typ V m w') (hb : Below w'.heap.size w' w'') : Held w gm c v o typ V m w'' :=
  ⟨blk_below h.dia hb, blk_below h.msg hb, blk_below h.map hb, h.bel.trans (hb.mono h.bel.size)⟩
theorem Held.alloc (h : Held w gm c v o typ V m w') (x : Obj) : Held w gm c v o typ V m (w'.alloc x) := h.below (below_alloc (Below.refl _ _) x)
theorem Held.drew (h : Held w gm c v o typ V m w') : Held w gm c v o typ V m w'.drew := ⟨h.dia, h.msg, h.map, below_drew h.bel⟩
theorem Held.put0 (h : Held w gm c v o typ V m w') (hg : w.heap.size + 1 < gm) (x : Nat) : Held w gm c v o typ V (x, m.2) (w'.setCell ⟨gm, 0, none⟩ (.int .u64 x)) :=
  ⟨blk_far h.dia (by show w.heap.size ≠ gm; omega) _, blk_far h.msg (by show w.heap.size + 1 ≠ gm; omega) _, blk_put h.map 0 _ rfl, h.bel.setCell (by show w.heap.size ≤ gm; omega) _⟩
theorem Held.put1 (h : Held w gm c v o typ V m w') (hg : w.heap.size + 1 < gm) (x : Nat) : Held w gm c v o typ V (m.1, x) (w'.setCell ⟨gm, 1, none⟩ (.int .u64 x)) :=
  ⟨blk_far h.dia (by show w.heap.size ≠ gm; omega) _, blk_far h.msg (by show w.heap.size + 1 ≠ gm; omega) _, blk_put h.map 1 _ rfl, h.bel.setCell (by show w.heap.size ≤ gm; omega) _⟩
theorem Held.atc (h : Held w gm c v o typ V m w') : w'.cell? ⟨w.heap.size, 0, none⟩ = some (.int .i64 c) := blk_cell h.dia 0
theorem Held.atv (h : Held w gm c v o typ V m w') : w'.cell? ⟨w.heap.size, 1, none⟩ = some (.int .u8 v) := blk_cell h.dia 1
theorem Held.ato (h : Held w gm c v o typ V m w') : w'.cell? ⟨w.heap.size, 2, none⟩ = some (.int .i64 o) := blk_cell h.dia 2
theorem Held.attyp (h : Held w gm c v o typ V m w') : w'.cell? ⟨w.heap.size + 1, 0, none⟩ = some (.int .i64 typ) := blk_cell h.msg 0
theorem Held.atV (h : Held w gm c v o typ V m w') : w'.cell? ⟨w.heap.size + 1, 1, none⟩ = some V := blk_cell h.msg 1
theorem Held.m0 (h : Held w gm c v o typ V m w') : w'.cell? ⟨gm, 0, none⟩ = some (.int .u64 m.1) := blk_cell h.map 0
theorem Held.m1 (h : Held w gm c v o typ V m w') : w'.cell? ⟨gm, 1, none⟩ = some (.int .u64 m.2) := blk_cell h.map 1
end

set_option maxRecDepth 100000 in
set_option maxHeartbeats 4000000 in
theorem encode_any (d : Int) (hd : 1 ≤ d ∧ d < 4) (typ : Int) (l : List S38) (A : Option Addr) (cp : Nat) (w : World) (hr : Kd.C k38 w A l.length l) (hs : ∀ x ∈ l, x.f1.size ≤ maxLen) (ht : Env w) :
    Calls Tryz.prog 46 #[.agg #[.int .i64 (diaV d).1, .int .u8 (diaV d).2.1, .int .i64 (diaV d).2.2], .agg #[.int .i64 typ, .slice A l.length cp]] w (EncPost w (encF d typ l).1 (encF d typ l).2) := by
  obtain ⟨c, hc⟩ : ∃ c, c = (diaV d).1 := ⟨_, rfl⟩
  obtain ⟨v, hv⟩ : ∃ v, v = (diaV d).2.1 := ⟨_, rfl⟩
  obtain ⟨o, ho⟩ : ∃ o, o = (diaV d).2.2 := ⟨_, rfl⟩
  have hdo := dia_ok hd
  have hE : Aside0 (encF d typ l = if checkN typ l = 0 then match encL c o l [] (0, 0) with | none => ([], 41) | some (b, m) => (allF c v typ b m, 0) else ([], checkN typ l)) := ⟨by rw [hc, hv, ho]; rfl⟩
  rw [← hc, ← hv, ← ho] at hdo ⊢
  obtain ⟨hc3, hv3, ho2⟩ := hdo
  clear hc hv ho
  have HT := Aside0.mk ht
  have HR := Aside0.mk hr
  have HS := Aside0.mk hs
  have HV := Aside0.mk hv3
  have hlm := Kd.C_max hr
  clear ht hr hs hd hv3
  go_enter Tryz.func46, Tryz.ntmps46
  go_wp2_with fail
  have a0 := blk_alloc (blk_new w (.cells #[.int .i64 c, .int .u8 v, .int .i64 o] 86)) (.cells #[.int .i64 typ, .slice A l.length cp] 29)
  have a1 := blk_new (w.alloc (.cells #[.int .i64 c, .int .u8 v, .int .i64 o] 86)) (.cells #[.int .i64 typ, .slice A l.length cp] 29)
  rw [World.size_alloc] at a1
  have ab := below_alloc (below_alloc (Below.refl w.heap.size w) (.cells #[.int .i64 c, .int .u8 v, .int .i64 o] 86)) (.cells #[.int .i64 typ, .slice A l.length cp] 29)
  refine (check_msg typ l A cp _ (Kd.C_below HR.out ab) HS.out (HT.out.below ab).tabs).mono ?_
  rintro e w1 ⟨ve, rfl, hve, hb1⟩
  have A0 := Aside0.mk (blk_below a0 hb1)
  have A1 := Aside0.mk (blk_below a1 hb1)
  have HB := Aside0.mk (ab.trans (hb1.mono ab.size))
  clear a0 a1 ab hb1
  by_cases hck : checkN typ l = 0
  · have HC := Aside0.mk (checkN_ok hck)
    have hE2 : Aside0 (encF d typ l = match encL c o l [] (0, 0) with | none => ([], 41) | some (b, m) => (allF c v typ b m, 0)) := ⟨by rw [hE.out, if_pos hck]⟩
    have hvn : ve = .nilIface := by
      rcases hve with ⟨_, h⟩ | ⟨h0, _⟩ | ⟨h0, _⟩
      · exact h
      · exact absurd hck h0
      · exact absurd hck h0
    subst hvn
    clear hve hE hck
    have H2 : Aside0 (Held w w1.heap.size c v o typ (.slice A l.length cp) (0, 0) (w1.alloc (.cells #[.int .u64 0, .int .u64 0] 115))) := ⟨blk_alloc A0.out _, blk_alloc A1.out _, blk_new w1 _, below_alloc HB.out _⟩
    have hgmB : Aside0 (w.heap.size + 1 < w1.heap.size) := ⟨blk_lt A1.out⟩
    have c0 := H2.out.atV
    go_wp2_with fail
    obtain ⟨gm, hgm⟩ : ∃ gm, gm = w1.heap.size := ⟨_, rfl⟩
    obtain ⟨w2, hw2⟩ : ∃ w2, w2 = w1.alloc (.cells #[.int .u64 0, .int .u64 0] 115) := ⟨_, rfl⟩
    rw [← hw2] at H2 ⊢
    rw [← hgm] at H2 hgmB ⊢
    clear hw2 A0 A1 HB hgm c0
    go_loopw [26, 8] (fun v26 v8 wr => ∃ (k : Nat) (b : List Int) (A1 : Option Addr) (c1 : Nat) (m : Nat × Nat), k ≤ l.length ∧ v26 = .int .i64 k ∧ v8 = .slice A1 b.length c1 ∧ Aside0 (b.length ≤ 205 * k) ∧ Aside0 (m.1 < 18446744073709551616 ∧ m.2 < 18446744073709551616) ∧ Aside0 (encL c o (l.drop k) b m = encL c o l [] (0, 0)) ∧ Aside0 (Held w gm c v o typ (.slice A l.length cp) m wr) ∧ Aside0 (BRow wr (gm + 1) (.slice A1 b.length c1) b)) (fun i _ _ => l.length - (intOf i).toNat)
    case atStart => exact ⟨0, [], none, 0, (0, 0), Nat.zero_le _, rfl, rfl, ⟨Nat.zero_le _⟩, ⟨by decide, by decide⟩, ⟨rfl⟩, H2, ⟨brow_nil _ _⟩⟩
    case round =>
      clear H2
      obtain ⟨k, b, A1, c1, m, hk, rfl, rfl, HL, HM, HN, HH, HK⟩ := hrel
      by_cases hlt : k < l.length
      · obtain ⟨ad, hA, c0, c1x⟩ := at_T38 (Kd.C_below HR.out HH.out.bel) (k : Int) (by omega) (by omega)
        subst hA
        obtain ⟨no, hno⟩ : ∃ no, no = (rd_T38 l (k : Int)).f0 := ⟨_, rfl⟩
        obtain ⟨s, hs⟩ : ∃ s, s = (rd_T38 l (k : Int)).f1 := ⟨_, rfl⟩
        rw [← hno] at c0
        rw [← hs] at c1x
        rw [Int.toNat_natCast] at c0 c1x
        have hmem : rd_T38 l (k : Int) ∈ l := by
          have : rd_T38 l (k : Int) = l[k] := by simp [rd_T38, hlt]
          rw [this]
          exact List.getElem_mem hlt
        obtain ⟨kk, nn, hkd, hri⟩ := HC.out.2.2 _ hmem
        rw [← hno] at hkd
        rw [← hs] at hri
        have hdr : l.drop k = ⟨no, s⟩ :: l.drop (k + 1) := by
          have : rd_T38 l (k : Int) = l[k] := by simp [rd_T38, hlt]
          rw [hno, hs, this, List.drop_eq_getElem_cons hlt]
        have HN2 : Aside0 (encL c o (⟨no, s⟩ :: l.drop (k + 1)) b m = encL c o l [] (0, 0)) := ⟨by rw [← hdr]; exact HN.out⟩
        have hlti : (k : Int) < (l.length : Int) := by omega
        have HKD := Aside0.mk hkd
        have HRI := Aside0.mk hri
        clear hno hs hmem hdr HN hkd hri
        have e0 := (HH.out.alloc (.cells #[.int .i64 no, .string s] 38)).atc
        have e1 := (HH.out.alloc (.cells #[.int .i64 no, .string s] 38)).atv
        have e2 := (HH.out.alloc (.cells #[.int .i64 no, .string s] 38)).ato
        have HT1 := Aside0.mk (HT.out.below (HH.out.alloc (.cells #[.int .i64 no, .string s] 38)).bel).tabs
        go_wp2_with fail
        refine (form_any c v o no (by omega) _ HT1.out).mono ?_
        rintro e w3 ⟨rfl, hb1⟩
        have hfv : formV c o no = (.agg #[.int .i64 kk, .int .i64 (if no = 4 then nn - o else nn), .int .i64 c], true) := by unfold formV; rw [HKD.out]
        rw [hfv]
        dsimp only
        obtain ⟨gx, hgx⟩ : ∃ gx, gx = wr.heap.size := ⟨_, rfl⟩
        have HX := Aside0.mk (blk_below (blk_new wr (.cells #[.int .i64 no, .string s] 38)) hb1)
        have H3 := Aside0.mk ((HH.out.alloc (.cells #[.int .i64 no, .string s] 38)).below hb1)
        have HK3 := Aside0.mk (brow_below (brow_below HK.out (below_alloc (Below.refl _ _) (.cells #[.int .i64 no, .string s] 38))) hb1)
        rw [← hgx] at HX ⊢
        have hgxm : gm < gx := by rw [hgx]; exact blk_lt HH.out.map
        clear hb1 hgx HT1 e0 e1 e2 c0 c1x hfv HH HK
        have HG := Aside0.mk hgxm
        have HFO := Aside0.mk (kind_ok' HKD.out hc3)
        have HSZ := Aside0.mk (right_size (kind_ok HKD.out) HRI.out)
        clear hgxm
        have H4 := Aside0.mk (H3.out.alloc (.cells #[.int .i64 kk, .int .i64 (if no = 4 then nn - o else nn), .int .i64 c] 107))
        have HX4 := Aside0.mk (blk_alloc HX.out (.cells #[.int .i64 kk, .int .i64 (if no = 4 then nn - o else nn), .int .i64 c] 107))
        have HK4 := Aside0.mk (brow_below HK3.out (below_alloc (Below.refl _ _) (.cells #[.int .i64 kk, .int .i64 (if no = 4 then nn - o else nn), .int .i64 c] 107)))
        have e0 := blk_cell HX4.out 0
        have e1 := blk_cell HX4.out 1
        simp only [List.getElem?_toArray, List.getElem?_cons_zero, List.getElem?_cons_succ] at e0 e1
        have e2 := H4.out.ato
        by_cases h4 : no = 4 ∧ 0 < o
        · obtain ⟨hn4, ho0⟩ := h4
          have ho22 : o = 2 := by omega
          have hkn : kk = 1 ∧ nn = 12 := by
            have h := HKD.out
            rw [hn4, kind_4] at h
            injection h with h
            injection h with h1 h2
            exact ⟨h1.symm, h2.symm⟩
          obtain ⟨rfl, rfl⟩ := hkn
          have h12 : s.size = 12 := by
            have h := HRI.out
            unfold rightB at h
            rw [if_neg (by decide), if_pos rfl] at h
            have := ofB_size h
            omega
          have HR10 : Aside0 (rightB 1 10 (s.extract 2 s.size) = true) := ⟨by
            have h := HRI.out
            unfold rightB at h ⊢
            rw [if_neg (by decide), if_pos rfl] at h ⊢
            unfold ofB
            rw [allW_extract 2 s.size (ofB_all h)]
            simp [ByteArray.size_extract, h12]⟩
          have HFO2 : Aside0 (FormOk 1 10 c) := ⟨⟨by decide, by decide, hc3⟩⟩
          have HSZ2 : Aside0 ((s.extract 2 s.size).size ≤ 200) := ⟨by simp [ByteArray.size_extract, h12]⟩
          rw [if_pos hn4, show ((12 : Int) - o) = 10 by omega] at H4 HX4 HK4 e0 e1 e2
          rw [ho22] at e2
          rw [if_pos hn4, show ((12 : Int) - o) = 10 by omega]
          clear ho22
          have e4 : decide (no = 4) = true := decide_eq_true hn4
          have e4b : (no == 4) = true := by rw [hn4]; rfl
          have HN4 := Aside0.mk hn4
          clear hn4
          by_cases h00 : s.extract 0 2 = ⟨#[48, 48]⟩
          · have HO : Aside0 (outF c o ⟨no, s⟩ = some (putF 1 c (s.extract 2 s.size))) := ⟨by unfold outF; rw [HKD.out]; dsimp only; rw [if_pos ⟨HN4.out, ho0⟩, if_pos h00]⟩
            rw [h12] at HO HR10 HSZ2
            clear H3 HX HK3
            go_wp2_with fail
            clear e4 e4b ho0 h00 h12
            refine (put_any 1 10 c HFO2.out (s.extract 2 12) HR10.out A1 c1 b _ (brow_reads HK4.out) (by have := HL.out; have := HC.out.2.1; omega) (by have := HSZ2.out; omega)).mono ?_
            rintro e w5 ⟨A2, c2, rfl, hq, hb5⟩
            have H5 := Aside0.mk (H4.out.below hb5)
            have HX5 := Aside0.mk (blk_below HX4.out hb5)
            have HK5 := Aside0.mk (brow_weaken hq (B' := gm + 1) (blk_lt H4.out.map))
            have HL5 : Aside0 ((b ++ bytesOf (putF 1 c (s.extract 2 12))).length ≤ 205 * (k + 1)) := ⟨by
              have h1 := HL.out
              have h2 := putF_size 1 c (s.extract 2 12)
              have h3 := HSZ2.out
              rw [List.length_append, bytesOf_length]
              omega⟩
            have HN5 : Aside0 (encL c o (l.drop (k + 1)) (b ++ bytesOf (putF 1 c (s.extract 2 12))) (bitF m no) = encL c o l [] (0, 0)) := ⟨by
              have h := HN2.out
              rw [encL_cons, HO.out] at h
              exact h⟩
            obtain ⟨b5, hb5e⟩ : ∃ b5, b5 = b ++ bytesOf (putF 1 c (s.extract 2 12)) := ⟨_, rfl⟩
            rw [← hb5e] at HK5 HL5 HN5 ⊢
            clear hb5 hb5e hq H4 HX4 HK4 HN2 HO e0 e1 e2
            have hnb := kind_no HKD.out
            go_wp2_with fail
            have e0 := blk_cell HX5.out 0
            simp only [List.getElem?_toArray, List.getElem?_cons_zero] at e0
            have w1 : IntKind.i64.wrap (no - 1) = no - 1 := wrap64_small' (by omega) (by omega)
            by_cases hno64 : no - 1 < 64
            · obtain ⟨sh, hsh⟩ : ∃ sh : Nat, sh = (63 - (no - 1)).toNat := ⟨_, rfl⟩
              have w20 : IntKind.i64.wrap 0 = 0 := by decide
              have w2 : (no - 1).tdiv 64 = 0 := by rw [Int.tdiv_eq_ediv_of_nonneg (by omega)]; omega
              have w3 : (no - 1).tmod 64 = no - 1 := by rw [Int.tmod_eq_emod_of_nonneg (by omega)]; omega
              have w4 : IntKind.i64.wrap (63 - (no - 1)) = 63 - (no - 1) := wrap64_small' (by omega) (by omega)
              have e1 := H5.out.m0
              have ef := blk_frozen H5.out.map 0
              have hor := or_bit m.1 sh (63 - (no - 1)) HM.out.1 (by omega) (by omega)
              have HMx : Aside0 ((m.1 ||| 2 ^ sh < 18446744073709551616 ∧ m.2 < 18446744073709551616) ∧ bitF m no = (m.1 ||| 2 ^ sh, m.2)) := ⟨⟨bit_lt HM.out.1 (by omega), HM.out.2⟩, by
                unfold bitF; rw [if_pos (by omega), show (no - 1).toNat = 63 - sh by omega, show 63 - (63 - sh) = sh by omega]⟩
              clear hsh
              refine start_ (n := 15) (S := fun w' => w'.cell? ⟨gx, 0, none⟩ = some (.int .i64 no) ∧ w'.cell? ⟨gm, 0, none⟩ = some (.int .u64 m.1)) (ds := [14]) #[false, false, false, false, false, false, false, false, false, false, false, false, false, false, false] (by kernel_rfl) rfl rfl ⟨e0, e1⟩ (fun hHeld => ?_)
              refine pure_ (i := 0) (N := some 69) (v := ?_) (a' := ?_) #[true, false, false, false, false, false, false, false, false, false, false, false, false, false, false] rfl rfl (by kernel_rfl) (fun _ _ _ h => h) (Or.inl ⟨by rfl, ?_⟩) ?_ ?_
              rotate_left
              · intro w'
                go_simp
                with_reducible rfl
              rotate_left
              · simp only [Act.put, List.setIfInBounds_toArray, List.set_cons_zero, List.set_cons_succ]
                rfl
              refine pure_ (i := 6) (N := some 75) (v := ?_) (a' := ?_) #[true, false, false, false, false, false, true, false, false, false, false, false, false, false, false] rfl rfl (by kernel_rfl) (fun _ _ _ h => h) (Or.inl ⟨by rfl, ?_⟩) ?_ ?_
              rotate_left
              · intro w'
                go_simp
                with_reducible rfl
              rotate_left
              · simp only [Act.put, List.setIfInBounds_toArray, List.set_cons_zero, List.set_cons_succ]
                rfl
              refine take_ (i := 1) (N := some 70) (v := ?_) (a' := ?_) #[true, true, false, false, false, false, true, false, false, false, false, false, false, false, false] rfl rfl (by kernel_rfl) (fun _ _ _ h => h) (Or.inl ⟨by rfl, ?_⟩) hHeld ?_ ?_
              rotate_left
              · rintro w' ⟨s0, s1⟩
                go_simp
                with_reducible rfl
              rotate_left
              · simp only [Act.put, List.setIfInBounds_toArray, List.set_cons_zero, List.set_cons_succ]
                rfl
              refine pure_ (i := 2) (N := some 71) (v := ?_) (a' := ?_) #[true, true, true, false, false, false, true, false, false, false, false, false, false, false, false] rfl rfl (by kernel_rfl) (fun _ _ _ h => h) (Or.inl ⟨by rfl, ?_⟩) ?_ ?_
              rotate_left
              · intro w'
                go_simp
                with_reducible rfl
              rotate_left
              · simp only [Act.put, List.setIfInBounds_toArray, List.set_cons_zero, List.set_cons_succ]
                rfl
              refine pure_ (i := 3) (N := some 72) (v := ?_) (a' := ?_) #[true, true, true, true, false, false, true, false, false, false, false, false, false, false, false] rfl rfl (by kernel_rfl) (fun _ _ _ h => h) (Or.inl ⟨by rfl, ?_⟩) ?_ ?_
              rotate_left
              · intro w'
                go_simp
                with_reducible rfl
              rotate_left
              · simp only [Act.put, List.setIfInBounds_toArray, List.set_cons_zero, List.set_cons_succ]
                rfl
              refine pure_ (i := 4) (N := some 73) (v := ?_) (a' := ?_) #[true, true, true, true, true, false, true, false, false, false, false, false, false, false, false] rfl rfl (by kernel_rfl) (fun _ _ _ h => h) (Or.inl ⟨by rfl, ?_⟩) ?_ ?_
              rotate_left
              · intro w'
                go_simp
                with_reducible rfl
              rotate_left
              · simp only [Act.put, List.setIfInBounds_toArray, List.set_cons_zero, List.set_cons_succ]
                rfl
              refine take_ (i := 5) (N := some 74) (v := ?_) (a' := ?_) #[true, true, true, true, true, true, true, false, false, false, false, false, false, false, false] rfl rfl (by kernel_rfl) (fun _ _ _ h => h) (Or.inl ⟨by rfl, ?_⟩) hHeld ?_ ?_
              rotate_left
              · rintro w' ⟨s0, s1⟩
                go_simp
                with_reducible rfl
              rotate_left
              · simp only [Act.put, List.setIfInBounds_toArray, List.set_cons_zero, List.set_cons_succ]
                rfl
              refine take_ (i := 7) (N := some 76) (v := ?_) (a' := ?_) #[true, true, true, true, true, true, true, true, false, false, false, false, false, false, false] rfl rfl (by kernel_rfl) (fun _ _ _ h => h) (Or.inl ⟨by rfl, ?_⟩) hHeld ?_ ?_
              rotate_left
              · rintro w' ⟨s0, s1⟩
                go_simp
                with_reducible rfl
              rotate_left
              · simp only [Act.put, List.setIfInBounds_toArray, List.set_cons_zero, List.set_cons_succ]
                rfl
              refine pure_ (i := 8) (N := some 77) (v := ?_) (a' := ?_) #[true, true, true, true, true, true, true, true, true, false, false, false, false, false, false] rfl rfl (by kernel_rfl) (fun _ _ _ h => h) (Or.inl ⟨by rfl, ?_⟩) ?_ ?_
              rotate_left
              · intro w'
                go_simp
                with_reducible rfl
              rotate_left
              · simp only [Act.put, List.setIfInBounds_toArray, List.set_cons_zero, List.set_cons_succ]
                rfl
              refine pure_ (i := 9) (N := some 78) (v := ?_) (a' := ?_) #[true, true, true, true, true, true, true, true, true, true, false, false, false, false, false] rfl rfl (by kernel_rfl) (fun _ _ _ h => h) (Or.inl ⟨by rfl, ?_⟩) ?_ ?_
              rotate_left
              · intro w'
                go_simp
                with_reducible rfl
              rotate_left
              · simp only [Act.put, List.setIfInBounds_toArray, List.set_cons_zero, List.set_cons_succ]
                rfl
              refine pure_ (i := 10) (N := some 79) (v := ?_) (a' := ?_) #[true, true, true, true, true, true, true, true, true, true, true, false, false, false, false] rfl rfl (by kernel_rfl) (fun _ _ _ h => h) (Or.inl ⟨by rfl, ?_⟩) ?_ ?_
              rotate_left
              · intro w'
                go_simp
                with_reducible rfl
              rotate_left
              · simp only [Act.put, List.setIfInBounds_toArray, List.set_cons_zero, List.set_cons_succ]
                rfl
              refine pure_ (i := 11) (N := some 80) (v := ?_) (a' := ?_) #[true, true, true, true, true, true, true, true, true, true, true, true, false, false, false] rfl rfl (by kernel_rfl) (fun _ _ _ h => h) (Or.inl ⟨by rfl, ?_⟩) ?_ ?_
              rotate_left
              · intro w'
                go_simp
                with_reducible rfl
              rotate_left
              · simp only [Act.put, List.setIfInBounds_toArray, List.set_cons_zero, List.set_cons_succ]
                rfl
              refine pure_ (i := 12) (N := some 81) (v := ?_) (a' := ?_) #[true, true, true, true, true, true, true, true, true, true, true, true, true, false, false] rfl rfl (by kernel_rfl) (fun _ _ _ h => h) (Or.inl ⟨by rfl, ?_⟩) ?_ ?_
              rotate_left
              · intro w'
                go_simp
                with_reducible rfl
              rotate_left
              · simp only [Act.put, List.setIfInBounds_toArray, List.set_cons_zero, List.set_cons_succ]
                rfl
              refine pure_ (i := 13) (N := some 82) (v := ?_) (a' := ?_) #[true, true, true, true, true, true, true, true, true, true, true, true, true, true, false] rfl rfl (by kernel_rfl) (fun _ _ _ h => h) (Or.inl ⟨by rfl, ?_⟩) ?_ ?_
              rotate_left
              · intro w'
                go_simp
                with_reducible rfl
              rotate_left
              · simp only [Act.put, List.setIfInBounds_toArray, List.set_cons_zero, List.set_cons_succ]
                rfl
              refine last_ (i := 14) (N := none) #[true, true, true, true, true, true, true, true, true, true, true, true, true, true, true] rfl rfl (by kernel_rfl) (by decide) (fun K hK => ?_)
              refine skip_ (w1 := ?_) (by rfl) rfl ?_ ?_
              rotate_left
              · go_simp
                rfl
              refine hK.out _ _ ?_
              clear hK K
              refine done_ (by kernel_rfl) ?_

              have H6 := Aside0.mk ((H5.out.put0 hgmB.out (m.1 ||| 2 ^ sh)).drew)
              have HK6 := Aside0.mk (brow_apart (i := 0) (u := .int .u64 ((m.1 ||| 2 ^ sh : Nat) : Int)) HK5.out)
              obtain ⟨w6, hw6⟩ : ∃ w6, w6 = (w5.setCell ⟨gm, 0, none⟩ (.int .u64 ((m.1 ||| 2 ^ sh : Nat) : Int))).drew := ⟨_, rfl⟩
              rw [← hw6] at H6 HK6 ⊢
              clear hw6 hHeld e0 e1 ef hor
              go_wp2_with fail
              refine ⟨⟨k + 1, b5, A2, c2, _, by omega, by rfl, rfl, HL5, ⟨HMx.out.1⟩, ⟨by rw [← HMx.out.2]; exact HN5.out⟩, H6, HK6⟩, ?_⟩
              simp only [intOf]; omega
            · obtain ⟨sh, hsh⟩ : ∃ sh : Nat, sh = (63 - (no - 65)).toNat := ⟨_, rfl⟩
              have w20 : IntKind.i64.wrap 1 = 1 := by decide
              have w2 : (no - 1).tdiv 64 = 1 := by rw [Int.tdiv_eq_ediv_of_nonneg (by omega)]; omega
              have w3 : (no - 1).tmod 64 = no - 65 := by rw [Int.tmod_eq_emod_of_nonneg (by omega)]; omega
              have e1 := H5.out.m1
              have ef := blk_frozen H5.out.map 1
              have w4 : IntKind.i64.wrap (63 - (no - 65)) = 63 - (no - 65) := wrap64_small' (by omega) (by omega)
              have hor := or_bit m.2 sh (63 - (no - 65)) HM.out.2 (by omega) (by omega)
              have HMx : Aside0 ((m.1 < 18446744073709551616 ∧ m.2 ||| 2 ^ sh < 18446744073709551616) ∧ bitF m no = (m.1, m.2 ||| 2 ^ sh)) := ⟨⟨HM.out.1, bit_lt HM.out.2 (by omega)⟩, by
                unfold bitF; rw [if_neg (by omega), show (no - 1).toNat = 127 - sh by omega, show 127 - (127 - sh) = sh by omega]⟩
              clear hsh
              refine start_ (n := 15) (S := fun w' => w'.cell? ⟨gx, 0, none⟩ = some (.int .i64 no) ∧ w'.cell? ⟨gm, 1, none⟩ = some (.int .u64 m.2)) (ds := [14]) #[false, false, false, false, false, false, false, false, false, false, false, false, false, false, false] (by kernel_rfl) rfl rfl ⟨e0, e1⟩ (fun hHeld => ?_)
              refine pure_ (i := 0) (N := some 69) (v := ?_) (a' := ?_) #[true, false, false, false, false, false, false, false, false, false, false, false, false, false, false] rfl rfl (by kernel_rfl) (fun _ _ _ h => h) (Or.inl ⟨by rfl, ?_⟩) ?_ ?_
              rotate_left
              · intro w'
                go_simp
                with_reducible rfl
              rotate_left
              · simp only [Act.put, List.setIfInBounds_toArray, List.set_cons_zero, List.set_cons_succ]
                rfl
              refine pure_ (i := 6) (N := some 75) (v := ?_) (a' := ?_) #[true, false, false, false, false, false, true, false, false, false, false, false, false, false, false] rfl rfl (by kernel_rfl) (fun _ _ _ h => h) (Or.inl ⟨by rfl, ?_⟩) ?_ ?_
              rotate_left
              · intro w'
                go_simp
                with_reducible rfl
              rotate_left
              · simp only [Act.put, List.setIfInBounds_toArray, List.set_cons_zero, List.set_cons_succ]
                rfl
              refine take_ (i := 1) (N := some 70) (v := ?_) (a' := ?_) #[true, true, false, false, false, false, true, false, false, false, false, false, false, false, false] rfl rfl (by kernel_rfl) (fun _ _ _ h => h) (Or.inl ⟨by rfl, ?_⟩) hHeld ?_ ?_
              rotate_left
              · rintro w' ⟨s0, s1⟩
                go_simp
                with_reducible rfl
              rotate_left
              · simp only [Act.put, List.setIfInBounds_toArray, List.set_cons_zero, List.set_cons_succ]
                rfl
              refine pure_ (i := 2) (N := some 71) (v := ?_) (a' := ?_) #[true, true, true, false, false, false, true, false, false, false, false, false, false, false, false] rfl rfl (by kernel_rfl) (fun _ _ _ h => h) (Or.inl ⟨by rfl, ?_⟩) ?_ ?_
              rotate_left
              · intro w'
                go_simp
                with_reducible rfl
              rotate_left
              · simp only [Act.put, List.setIfInBounds_toArray, List.set_cons_zero, List.set_cons_succ]
                rfl
              refine pure_ (i := 3) (N := some 72) (v := ?_) (a' := ?_) #[true, true, true, true, false, false, true, false, false, false, false, false, false, false, false] rfl rfl (by kernel_rfl) (fun _ _ _ h => h) (Or.inl ⟨by rfl, ?_⟩) ?_ ?_
              rotate_left
              · intro w'
                go_simp
                with_reducible rfl
              rotate_left
              · simp only [Act.put, List.setIfInBounds_toArray, List.set_cons_zero, List.set_cons_succ]
                rfl
              refine pure_ (i := 4) (N := some 73) (v := ?_) (a' := ?_) #[true, true, true, true, true, false, true, false, false, false, false, false, false, false, false] rfl rfl (by kernel_rfl) (fun _ _ _ h => h) (Or.inl ⟨by rfl, ?_⟩) ?_ ?_
              rotate_left
              · intro w'
                go_simp
                with_reducible rfl
              rotate_left
              · simp only [Act.put, List.setIfInBounds_toArray, List.set_cons_zero, List.set_cons_succ]
                rfl
              refine take_ (i := 5) (N := some 74) (v := ?_) (a' := ?_) #[true, true, true, true, true, true, true, false, false, false, false, false, false, false, false] rfl rfl (by kernel_rfl) (fun _ _ _ h => h) (Or.inl ⟨by rfl, ?_⟩) hHeld ?_ ?_
              rotate_left
              · rintro w' ⟨s0, s1⟩
                go_simp
                with_reducible rfl
              rotate_left
              · simp only [Act.put, List.setIfInBounds_toArray, List.set_cons_zero, List.set_cons_succ]
                rfl
              refine take_ (i := 7) (N := some 76) (v := ?_) (a' := ?_) #[true, true, true, true, true, true, true, true, false, false, false, false, false, false, false] rfl rfl (by kernel_rfl) (fun _ _ _ h => h) (Or.inl ⟨by rfl, ?_⟩) hHeld ?_ ?_
              rotate_left
              · rintro w' ⟨s0, s1⟩
                go_simp
                with_reducible rfl
              rotate_left
              · simp only [Act.put, List.setIfInBounds_toArray, List.set_cons_zero, List.set_cons_succ]
                rfl
              refine pure_ (i := 8) (N := some 77) (v := ?_) (a' := ?_) #[true, true, true, true, true, true, true, true, true, false, false, false, false, false, false] rfl rfl (by kernel_rfl) (fun _ _ _ h => h) (Or.inl ⟨by rfl, ?_⟩) ?_ ?_
              rotate_left
              · intro w'
                go_simp
                with_reducible rfl
              rotate_left
              · simp only [Act.put, List.setIfInBounds_toArray, List.set_cons_zero, List.set_cons_succ]
                rfl
              refine pure_ (i := 9) (N := some 78) (v := ?_) (a' := ?_) #[true, true, true, true, true, true, true, true, true, true, false, false, false, false, false] rfl rfl (by kernel_rfl) (fun _ _ _ h => h) (Or.inl ⟨by rfl, ?_⟩) ?_ ?_
              rotate_left
              · intro w'
                go_simp
                with_reducible rfl
              rotate_left
              · simp only [Act.put, List.setIfInBounds_toArray, List.set_cons_zero, List.set_cons_succ]
                rfl
              refine pure_ (i := 10) (N := some 79) (v := ?_) (a' := ?_) #[true, true, true, true, true, true, true, true, true, true, true, false, false, false, false] rfl rfl (by kernel_rfl) (fun _ _ _ h => h) (Or.inl ⟨by rfl, ?_⟩) ?_ ?_
              rotate_left
              · intro w'
                go_simp
                with_reducible rfl
              rotate_left
              · simp only [Act.put, List.setIfInBounds_toArray, List.set_cons_zero, List.set_cons_succ]
                rfl
              refine pure_ (i := 11) (N := some 80) (v := ?_) (a' := ?_) #[true, true, true, true, true, true, true, true, true, true, true, true, false, false, false] rfl rfl (by kernel_rfl) (fun _ _ _ h => h) (Or.inl ⟨by rfl, ?_⟩) ?_ ?_
              rotate_left
              · intro w'
                go_simp
                with_reducible rfl
              rotate_left
              · simp only [Act.put, List.setIfInBounds_toArray, List.set_cons_zero, List.set_cons_succ]
                rfl
              refine pure_ (i := 12) (N := some 81) (v := ?_) (a' := ?_) #[true, true, true, true, true, true, true, true, true, true, true, true, true, false, false] rfl rfl (by kernel_rfl) (fun _ _ _ h => h) (Or.inl ⟨by rfl, ?_⟩) ?_ ?_
              rotate_left
              · intro w'
                go_simp
                with_reducible rfl
              rotate_left
              · simp only [Act.put, List.setIfInBounds_toArray, List.set_cons_zero, List.set_cons_succ]
                rfl
              refine pure_ (i := 13) (N := some 82) (v := ?_) (a' := ?_) #[true, true, true, true, true, true, true, true, true, true, true, true, true, true, false] rfl rfl (by kernel_rfl) (fun _ _ _ h => h) (Or.inl ⟨by rfl, ?_⟩) ?_ ?_
              rotate_left
              · intro w'
                go_simp
                with_reducible rfl
              rotate_left
              · simp only [Act.put, List.setIfInBounds_toArray, List.set_cons_zero, List.set_cons_succ]
                rfl
              refine last_ (i := 14) (N := none) #[true, true, true, true, true, true, true, true, true, true, true, true, true, true, true] rfl rfl (by kernel_rfl) (by decide) (fun K hK => ?_)
              refine skip_ (w1 := ?_) (by rfl) rfl ?_ ?_
              rotate_left
              · go_simp
                rfl
              refine hK.out _ _ ?_
              clear hK K
              refine done_ (by kernel_rfl) ?_

              have H6 := Aside0.mk ((H5.out.put1 hgmB.out (m.2 ||| 2 ^ sh)).drew)
              have HK6 := Aside0.mk (brow_apart (i := 1) (u := .int .u64 ((m.2 ||| 2 ^ sh : Nat) : Int)) HK5.out)
              obtain ⟨w6, hw6⟩ : ∃ w6, w6 = (w5.setCell ⟨gm, 1, none⟩ (.int .u64 ((m.2 ||| 2 ^ sh : Nat) : Int))).drew := ⟨_, rfl⟩
              rw [← hw6] at H6 HK6 ⊢
              clear hw6 hHeld e0 e1 ef hor
              go_wp2_with fail
              refine ⟨⟨k + 1, b5, A2, c2, _, by omega, by rfl, rfl, HL5, ⟨HMx.out.1⟩, ⟨by rw [← HMx.out.2]; exact HN5.out⟩, H6, HK6⟩, ?_⟩
              simp only [intOf]; omega
          · have HO : Aside0 (outF c o ⟨no, s⟩ = none) := ⟨by unfold outF; rw [HKD.out]; dsimp only; rw [if_pos ⟨HN4.out, ho0⟩, if_neg h00]⟩
            clear H3 HX HK3
            have hb00 : (s.extract 0 2 == ⟨#[48, 48]⟩) = false := Bool.eq_false_iff.2 (fun h => h00 ((Go.MapKept.bytes_beq _ _).1 h))
            rw [beq_toListBytes, show (⟨#[48, 48]⟩ : ByteArray).toList = [48, 48] by decide +kernel] at hb00
            go_wp2_with fail
            clear e4 e4b
            refine start_ (n := 8) (S := fun w' => w'.cell? ⟨gx, 0, none⟩ = some (.int .i64 no)) (ds := [4]) #[false, false, false, false, false, false, false, false] (by kernel_rfl) rfl rfl (e0) (fun hHeld => ?_)
            refine pure_ (i := 0) (N := some 52) (v := ?_) (a' := ?_) #[true, false, false, false, false, false, false, false] rfl rfl (by kernel_rfl) (fun _ _ _ h => h) (Or.inl ⟨by rfl, ?_⟩) ?_ ?_
            rotate_left
            · intro w'
              go_simp
              with_reducible rfl
            rotate_left
            · simp only [Act.put, List.setIfInBounds_toArray, List.set_cons_zero, List.set_cons_succ]
              rfl
            refine pure_ (i := 2) (N := some 54) (v := ?_) (a' := ?_) #[true, false, true, false, false, false, false, false] rfl rfl (by kernel_rfl) (fun _ _ _ h => h) (Or.inl ⟨by rfl, ?_⟩) ?_ ?_
            rotate_left
            · intro w'
              go_simp
              with_reducible rfl
            rotate_left
            · simp only [Act.put, List.setIfInBounds_toArray, List.set_cons_zero, List.set_cons_succ]
              rfl
            refine pure_ (i := 6) (N := some 4) (v := ?_) (a' := ?_) #[true, false, true, false, false, false, true, false] rfl rfl (by kernel_rfl) (fun _ _ _ h => h) (Or.inl ⟨by rfl, ?_⟩) ?_ ?_
            rotate_left
            · intro w'
              go_simp
              with_reducible rfl
            rotate_left
            · simp only [Act.put, List.setIfInBounds_toArray, List.set_cons_zero, List.set_cons_succ]
              rfl
            refine take_ (i := 1) (N := some 53) (v := ?_) (a' := ?_) #[true, true, true, false, false, false, true, false] rfl rfl (by kernel_rfl) (fun _ _ _ h => h) (Or.inl ⟨by rfl, ?_⟩) hHeld ?_ ?_
            rotate_left
            · intro w' s0
              go_simp
              with_reducible rfl
            rotate_left
            · simp only [Act.put, List.setIfInBounds_toArray, List.set_cons_zero, List.set_cons_succ]
              rfl
            refine pure_ (i := 3) (N := some 55) (v := ?_) (a' := ?_) #[true, true, true, true, false, false, true, false] rfl rfl (by kernel_rfl) (fun _ _ _ h => h) (Or.inl ⟨by rfl, ?_⟩) ?_ ?_
            rotate_left
            · intro w'
              go_simp
              with_reducible rfl
            rotate_left
            · simp only [Act.put, List.setIfInBounds_toArray, List.set_cons_zero, List.set_cons_succ]
              rfl
            refine last_ (i := 4) (N := some 56) #[true, true, true, true, true, false, true, false] rfl rfl (by kernel_rfl) (by decide) (fun K hK => ?_)
            refine value_ (w1 := ?_) (v := ?_) (by rfl) rfl ?_ ?_
            rotate_left 2
            · go_simp
              constructor
              · rfl
              · rfl
            refine hK.out _ _ ?_
            clear hK K
            refine norm_ (a' := ?_) ?_ ?_
            rotate_left
            · show Act.put _ (some 56) _ = _
              simp only [Act.put, List.setIfInBounds_toArray, List.set_cons_zero, List.set_cons_succ]
              rfl
            refine pure_ (i := 5) (N := some 57) (v := ?_) (a' := ?_) #[true, true, true, true, true, true, true, false] rfl rfl (by kernel_rfl) (fun _ _ _ h => h) (Or.inl ⟨by rfl, ?_⟩) ?_ ?_
            rotate_left
            · intro w'
              go_simp
              with_reducible rfl
            rotate_left
            · simp only [Act.put, List.setIfInBounds_toArray, List.set_cons_zero, List.set_cons_succ]
              rfl
            refine pure_ (i := 7) (N := some 5) (v := ?_) (a' := ?_) #[true, true, true, true, true, true, true, true] rfl rfl (by kernel_rfl) (fun _ _ _ h => h) (Or.inl ⟨by rfl, ?_⟩) ?_ ?_
            rotate_left
            · intro w'
              go_simp
              with_reducible rfl
            rotate_left
            · simp only [Act.put, List.setIfInBounds_toArray, List.set_cons_zero, List.set_cons_succ]
              rfl
            refine done_ (by kernel_rfl) ?_

            have hE3 : encF d typ l = ([], 41) := by
              rw [hE2.out, ← HN2.out, encL_cons, HO.out]
            have HE3 := Aside0.mk hE3
            clear hE3
            obtain ⟨w6, hw6⟩ : ∃ w6, w6 = ((w3.alloc (.cells #[.int .i64 1, .int .i64 10, .int .i64 c] 107)).alloc (.cells #[.int .i64 no, .iface 119 (.int .i64 41)] 121)).drew := ⟨_, rfl⟩
            rw [← hw6]
            have HB6 : Aside0 (Below w.heap.size w w6) := ⟨by rw [hw6]; exact below_drew (below_alloc H4.out.bel _)⟩
            have HP6 : Aside0 (w6.heap[w3.heap.size + 1]? = some (.cells #[.int .i64 no, .iface 119 (.int .i64 41)] 121 (0, 0))) := ⟨by
              have h := blk_new (w3.alloc (.cells #[.int .i64 1, .int .i64 10, .int .i64 c] 107)) (.cells #[.int .i64 no, .iface 119 (.int .i64 41)] 121)
              rw [World.size_alloc] at h
              rw [hw6]
              exact blk_drew h⟩
            clear hw6
            go_wp2_with fail
            rw [HE3.out]
            exact bodyPost_ret (v := .tuple #[.slice none 0 0, .iface 118 (.pointer (some ⟨w3.heap.size + 1, 0, none⟩))]) (by simp [results, Tryz.results46, go_sem]) rfl ⟨none, 0, _, rfl, .inr (.inr ⟨by decide, _, _, rfl, HP6.out⟩), brow_reads (brow_nil _ 0), HB6.out⟩
        · have hif : (if no = 4 then nn - o else nn) = nn := by
            by_cases hn : no = 4
            · rw [if_pos hn]; omega
            · rw [if_neg hn]
          rw [hif] at H4 HX4 HK4 e0 e1 e2 ⊢
          have hOF : outF c o ⟨no, s⟩ = some (putF kk c s) := by unfold outF; rw [HKD.out]; dsimp only; rw [if_neg h4]
          have HO := Aside0.mk hOF
          have t4 : (decide (no = 4) && decide (0 < o)) = false := by
            rw [Bool.and_eq_false_iff]
            by_cases hn : no = 4
            · right; exact decide_eq_false (by omega)
            · left; exact decide_eq_false hn
          clear hif hOF H3 HX HK3
          by_cases hn4 : no = 4
          · have ho0 : o = 0 := by omega
            rw [ho0] at e2
            have e4 : decide (no = 4) = true := decide_eq_true hn4
            have e4b : (no == 4) = true := by rw [hn4]; rfl
            go_wp2_with fail
            clear e4 e4b ho0 h4 t4
            clear hn4
            refine (put_any kk nn c HFO.out s HRI.out A1 c1 b _ (brow_reads HK4.out) (by have := HL.out; have := HC.out.2.1; omega) (by have := HSZ.out; omega)).mono ?_
            rintro e w5 ⟨A2, c2, rfl, hq, hb5⟩
            have H5 := Aside0.mk (H4.out.below hb5)
            have HX5 := Aside0.mk (blk_below HX4.out hb5)
            have HK5 := Aside0.mk (brow_weaken hq (B' := gm + 1) (blk_lt H4.out.map))
            have HL5 : Aside0 ((b ++ bytesOf (putF kk c s)).length ≤ 205 * (k + 1)) := ⟨by
              have h1 := HL.out
              have h2 := putF_size kk c s
              have h3 := HSZ.out
              rw [List.length_append, bytesOf_length]
              omega⟩
            have HN5 : Aside0 (encL c o (l.drop (k + 1)) (b ++ bytesOf (putF kk c s)) (bitF m no) = encL c o l [] (0, 0)) := ⟨by
              have h := HN2.out
              rw [encL_cons, HO.out] at h
              exact h⟩
            obtain ⟨b5, hb5e⟩ : ∃ b5, b5 = b ++ bytesOf (putF kk c s) := ⟨_, rfl⟩
            rw [← hb5e] at HK5 HL5 HN5 ⊢
            clear hb5 hb5e hq H4 HX4 HK4 HN2 HO e0 e1 e2
            have hnb := kind_no HKD.out
            go_wp2_with fail
            have e0 := blk_cell HX5.out 0
            simp only [List.getElem?_toArray, List.getElem?_cons_zero] at e0
            have w1 : IntKind.i64.wrap (no - 1) = no - 1 := wrap64_small' (by omega) (by omega)
            by_cases hno64 : no - 1 < 64
            · obtain ⟨sh, hsh⟩ : ∃ sh : Nat, sh = (63 - (no - 1)).toNat := ⟨_, rfl⟩
              have w20 : IntKind.i64.wrap 0 = 0 := by decide
              have w2 : (no - 1).tdiv 64 = 0 := by rw [Int.tdiv_eq_ediv_of_nonneg (by omega)]; omega
              have w3 : (no - 1).tmod 64 = no - 1 := by rw [Int.tmod_eq_emod_of_nonneg (by omega)]; omega
              have w4 : IntKind.i64.wrap (63 - (no - 1)) = 63 - (no - 1) := wrap64_small' (by omega) (by omega)
              have e1 := H5.out.m0
              have ef := blk_frozen H5.out.map 0
              have hor := or_bit m.1 sh (63 - (no - 1)) HM.out.1 (by omega) (by omega)
              have HMx : Aside0 ((m.1 ||| 2 ^ sh < 18446744073709551616 ∧ m.2 < 18446744073709551616) ∧ bitF m no = (m.1 ||| 2 ^ sh, m.2)) := ⟨⟨bit_lt HM.out.1 (by omega), HM.out.2⟩, by
                unfold bitF; rw [if_pos (by omega), show (no - 1).toNat = 63 - sh by omega, show 63 - (63 - sh) = sh by omega]⟩
              clear hsh
              refine start_ (n := 15) (S := fun w' => w'.cell? ⟨gx, 0, none⟩ = some (.int .i64 no) ∧ w'.cell? ⟨gm, 0, none⟩ = some (.int .u64 m.1)) (ds := [14]) #[false, false, false, false, false, false, false, false, false, false, false, false, false, false, false] (by kernel_rfl) rfl rfl ⟨e0, e1⟩ (fun hHeld => ?_)
              refine pure_ (i := 0) (N := some 69) (v := ?_) (a' := ?_) #[true, false, false, false, false, false, false, false, false, false, false, false, false, false, false] rfl rfl (by kernel_rfl) (fun _ _ _ h => h) (Or.inl ⟨by rfl, ?_⟩) ?_ ?_
              rotate_left
              · intro w'
                go_simp
                with_reducible rfl
              rotate_left
              · simp only [Act.put, List.setIfInBounds_toArray, List.set_cons_zero, List.set_cons_succ]
                rfl
              refine pure_ (i := 6) (N := some 75) (v := ?_) (a' := ?_) #[true, false, false, false, false, false, true, false, false, false, false, false, false, false, false] rfl rfl (by kernel_rfl) (fun _ _ _ h => h) (Or.inl ⟨by rfl, ?_⟩) ?_ ?_
              rotate_left
              · intro w'
                go_simp
                with_reducible rfl
              rotate_left
              · simp only [Act.put, List.setIfInBounds_toArray, List.set_cons_zero, List.set_cons_succ]
                rfl
              refine take_ (i := 1) (N := some 70) (v := ?_) (a' := ?_) #[true, true, false, false, false, false, true, false, false, false, false, false, false, false, false] rfl rfl (by kernel_rfl) (fun _ _ _ h => h) (Or.inl ⟨by rfl, ?_⟩) hHeld ?_ ?_
              rotate_left
              · rintro w' ⟨s0, s1⟩
                go_simp
                with_reducible rfl
              rotate_left
              · simp only [Act.put, List.setIfInBounds_toArray, List.set_cons_zero, List.set_cons_succ]
                rfl
              refine pure_ (i := 2) (N := some 71) (v := ?_) (a' := ?_) #[true, true, true, false, false, false, true, false, false, false, false, false, false, false, false] rfl rfl (by kernel_rfl) (fun _ _ _ h => h) (Or.inl ⟨by rfl, ?_⟩) ?_ ?_
              rotate_left
              · intro w'
                go_simp
                with_reducible rfl
              rotate_left
              · simp only [Act.put, List.setIfInBounds_toArray, List.set_cons_zero, List.set_cons_succ]
                rfl
              refine pure_ (i := 3) (N := some 72) (v := ?_) (a' := ?_) #[true, true, true, true, false, false, true, false, false, false, false, false, false, false, false] rfl rfl (by kernel_rfl) (fun _ _ _ h => h) (Or.inl ⟨by rfl, ?_⟩) ?_ ?_
              rotate_left
              · intro w'
                go_simp
                with_reducible rfl
              rotate_left
              · simp only [Act.put, List.setIfInBounds_toArray, List.set_cons_zero, List.set_cons_succ]
                rfl
              refine pure_ (i := 4) (N := some 73) (v := ?_) (a' := ?_) #[true, true, true, true, true, false, true, false, false, false, false, false, false, false, false] rfl rfl (by kernel_rfl) (fun _ _ _ h => h) (Or.inl ⟨by rfl, ?_⟩) ?_ ?_
              rotate_left
              · intro w'
                go_simp
                with_reducible rfl
              rotate_left
              · simp only [Act.put, List.setIfInBounds_toArray, List.set_cons_zero, List.set_cons_succ]
                rfl
              refine take_ (i := 5) (N := some 74) (v := ?_) (a' := ?_) #[true, true, true, true, true, true, true, false, false, false, false, false, false, false, false] rfl rfl (by kernel_rfl) (fun _ _ _ h => h) (Or.inl ⟨by rfl, ?_⟩) hHeld ?_ ?_
              rotate_left
              · rintro w' ⟨s0, s1⟩
                go_simp
                with_reducible rfl
              rotate_left
              · simp only [Act.put, List.setIfInBounds_toArray, List.set_cons_zero, List.set_cons_succ]
                rfl
              refine take_ (i := 7) (N := some 76) (v := ?_) (a' := ?_) #[true, true, true, true, true, true, true, true, false, false, false, false, false, false, false] rfl rfl (by kernel_rfl) (fun _ _ _ h => h) (Or.inl ⟨by rfl, ?_⟩) hHeld ?_ ?_
              rotate_left
              · rintro w' ⟨s0, s1⟩
                go_simp
                with_reducible rfl
              rotate_left
              · simp only [Act.put, List.setIfInBounds_toArray, List.set_cons_zero, List.set_cons_succ]
                rfl
              refine pure_ (i := 8) (N := some 77) (v := ?_) (a' := ?_) #[true, true, true, true, true, true, true, true, true, false, false, false, false, false, false] rfl rfl (by kernel_rfl) (fun _ _ _ h => h) (Or.inl ⟨by rfl, ?_⟩) ?_ ?_
              rotate_left
              · intro w'
                go_simp
                with_reducible rfl
              rotate_left
              · simp only [Act.put, List.setIfInBounds_toArray, List.set_cons_zero, List.set_cons_succ]
                rfl
              refine pure_ (i := 9) (N := some 78) (v := ?_) (a' := ?_) #[true, true, true, true, true, true, true, true, true, true, false, false, false, false, false] rfl rfl (by kernel_rfl) (fun _ _ _ h => h) (Or.inl ⟨by rfl, ?_⟩) ?_ ?_
              rotate_left
              · intro w'
                go_simp
                with_reducible rfl
              rotate_left
              · simp only [Act.put, List.setIfInBounds_toArray, List.set_cons_zero, List.set_cons_succ]
                rfl
              refine pure_ (i := 10) (N := some 79) (v := ?_) (a' := ?_) #[true, true, true, true, true, true, true, true, true, true, true, false, false, false, false] rfl rfl (by kernel_rfl) (fun _ _ _ h => h) (Or.inl ⟨by rfl, ?_⟩) ?_ ?_
              rotate_left
              · intro w'
                go_simp
                with_reducible rfl
              rotate_left
              · simp only [Act.put, List.setIfInBounds_toArray, List.set_cons_zero, List.set_cons_succ]
                rfl
              refine pure_ (i := 11) (N := some 80) (v := ?_) (a' := ?_) #[true, true, true, true, true, true, true, true, true, true, true, true, false, false, false] rfl rfl (by kernel_rfl) (fun _ _ _ h => h) (Or.inl ⟨by rfl, ?_⟩) ?_ ?_
              rotate_left
              · intro w'
                go_simp
                with_reducible rfl
              rotate_left
              · simp only [Act.put, List.setIfInBounds_toArray, List.set_cons_zero, List.set_cons_succ]
                rfl
              refine pure_ (i := 12) (N := some 81) (v := ?_) (a' := ?_) #[true, true, true, true, true, true, true, true, true, true, true, true, true, false, false] rfl rfl (by kernel_rfl) (fun _ _ _ h => h) (Or.inl ⟨by rfl, ?_⟩) ?_ ?_
              rotate_left
              · intro w'
                go_simp
                with_reducible rfl
              rotate_left
              · simp only [Act.put, List.setIfInBounds_toArray, List.set_cons_zero, List.set_cons_succ]
                rfl
              refine pure_ (i := 13) (N := some 82) (v := ?_) (a' := ?_) #[true, true, true, true, true, true, true, true, true, true, true, true, true, true, false] rfl rfl (by kernel_rfl) (fun _ _ _ h => h) (Or.inl ⟨by rfl, ?_⟩) ?_ ?_
              rotate_left
              · intro w'
                go_simp
                with_reducible rfl
              rotate_left
              · simp only [Act.put, List.setIfInBounds_toArray, List.set_cons_zero, List.set_cons_succ]
                rfl
              refine last_ (i := 14) (N := none) #[true, true, true, true, true, true, true, true, true, true, true, true, true, true, true] rfl rfl (by kernel_rfl) (by decide) (fun K hK => ?_)
              refine skip_ (w1 := ?_) (by rfl) rfl ?_ ?_
              rotate_left
              · go_simp
                rfl
              refine hK.out _ _ ?_
              clear hK K
              refine done_ (by kernel_rfl) ?_

              have H6 := Aside0.mk ((H5.out.put0 hgmB.out (m.1 ||| 2 ^ sh)).drew)
              have HK6 := Aside0.mk (brow_apart (i := 0) (u := .int .u64 ((m.1 ||| 2 ^ sh : Nat) : Int)) HK5.out)
              obtain ⟨w6, hw6⟩ : ∃ w6, w6 = (w5.setCell ⟨gm, 0, none⟩ (.int .u64 ((m.1 ||| 2 ^ sh : Nat) : Int))).drew := ⟨_, rfl⟩
              rw [← hw6] at H6 HK6 ⊢
              clear hw6 hHeld e0 e1 ef hor
              go_wp2_with fail
              refine ⟨⟨k + 1, b5, A2, c2, _, by omega, by rfl, rfl, HL5, ⟨HMx.out.1⟩, ⟨by rw [← HMx.out.2]; exact HN5.out⟩, H6, HK6⟩, ?_⟩
              simp only [intOf]; omega
            · obtain ⟨sh, hsh⟩ : ∃ sh : Nat, sh = (63 - (no - 65)).toNat := ⟨_, rfl⟩
              have w20 : IntKind.i64.wrap 1 = 1 := by decide
              have w2 : (no - 1).tdiv 64 = 1 := by rw [Int.tdiv_eq_ediv_of_nonneg (by omega)]; omega
              have w3 : (no - 1).tmod 64 = no - 65 := by rw [Int.tmod_eq_emod_of_nonneg (by omega)]; omega
              have e1 := H5.out.m1
              have ef := blk_frozen H5.out.map 1
              have w4 : IntKind.i64.wrap (63 - (no - 65)) = 63 - (no - 65) := wrap64_small' (by omega) (by omega)
              have hor := or_bit m.2 sh (63 - (no - 65)) HM.out.2 (by omega) (by omega)
              have HMx : Aside0 ((m.1 < 18446744073709551616 ∧ m.2 ||| 2 ^ sh < 18446744073709551616) ∧ bitF m no = (m.1, m.2 ||| 2 ^ sh)) := ⟨⟨HM.out.1, bit_lt HM.out.2 (by omega)⟩, by
                unfold bitF; rw [if_neg (by omega), show (no - 1).toNat = 127 - sh by omega, show 127 - (127 - sh) = sh by omega]⟩
              clear hsh
              refine start_ (n := 15) (S := fun w' => w'.cell? ⟨gx, 0, none⟩ = some (.int .i64 no) ∧ w'.cell? ⟨gm, 1, none⟩ = some (.int .u64 m.2)) (ds := [14]) #[false, false, false, false, false, false, false, false, false, false, false, false, false, false, false] (by kernel_rfl) rfl rfl ⟨e0, e1⟩ (fun hHeld => ?_)
              refine pure_ (i := 0) (N := some 69) (v := ?_) (a' := ?_) #[true, false, false, false, false, false, false, false, false, false, false, false, false, false, false] rfl rfl (by kernel_rfl) (fun _ _ _ h => h) (Or.inl ⟨by rfl, ?_⟩) ?_ ?_
              rotate_left
              · intro w'
                go_simp
                with_reducible rfl
              rotate_left
              · simp only [Act.put, List.setIfInBounds_toArray, List.set_cons_zero, List.set_cons_succ]
                rfl
              refine pure_ (i := 6) (N := some 75) (v := ?_) (a' := ?_) #[true, false, false, false, false, false, true, false, false, false, false, false, false, false, false] rfl rfl (by kernel_rfl) (fun _ _ _ h => h) (Or.inl ⟨by rfl, ?_⟩) ?_ ?_
              rotate_left
              · intro w'
                go_simp
                with_reducible rfl
              rotate_left
              · simp only [Act.put, List.setIfInBounds_toArray, List.set_cons_zero, List.set_cons_succ]
                rfl
              refine take_ (i := 1) (N := some 70) (v := ?_) (a' := ?_) #[true, true, false, false, false, false, true, false, false, false, false, false, false, false, false] rfl rfl (by kernel_rfl) (fun _ _ _ h => h) (Or.inl ⟨by rfl, ?_⟩) hHeld ?_ ?_
              rotate_left
              · rintro w' ⟨s0, s1⟩
                go_simp
                with_reducible rfl
              rotate_left
              · simp only [Act.put, List.setIfInBounds_toArray, List.set_cons_zero, List.set_cons_succ]
                rfl
              refine pure_ (i := 2) (N := some 71) (v := ?_) (a' := ?_) #[true, true, true, false, false, false, true, false, false, false, false, false, false, false, false] rfl rfl (by kernel_rfl) (fun _ _ _ h => h) (Or.inl ⟨by rfl, ?_⟩) ?_ ?_
              rotate_left
              · intro w'
                go_simp
                with_reducible rfl
              rotate_left
              · simp only [Act.put, List.setIfInBounds_toArray, List.set_cons_zero, List.set_cons_succ]
                rfl
              refine pure_ (i := 3) (N := some 72) (v := ?_) (a' := ?_) #[true, true, true, true, false, false, true, false, false, false, false, false, false, false, false] rfl rfl (by kernel_rfl) (fun _ _ _ h => h) (Or.inl ⟨by rfl, ?_⟩) ?_ ?_
              rotate_left
              · intro w'
                go_simp
                with_reducible rfl
              rotate_left
              · simp only [Act.put, List.setIfInBounds_toArray, List.set_cons_zero, List.set_cons_succ]
                rfl
              refine pure_ (i := 4) (N := some 73) (v := ?_) (a' := ?_) #[true, true, true, true, true, false, true, false, false, false, false, false, false, false, false] rfl rfl (by kernel_rfl) (fun _ _ _ h => h) (Or.inl ⟨by rfl, ?_⟩) ?_ ?_
              rotate_left
              · intro w'
                go_simp
                with_reducible rfl
              rotate_left
              · simp only [Act.put, List.setIfInBounds_toArray, List.set_cons_zero, List.set_cons_succ]
                rfl
              refine take_ (i := 5) (N := some 74) (v := ?_) (a' := ?_) #[true, true, true, true, true, true, true, false, false, false, false, false, false, false, false] rfl rfl (by kernel_rfl) (fun _ _ _ h => h) (Or.inl ⟨by rfl, ?_⟩) hHeld ?_ ?_
              rotate_left
              · rintro w' ⟨s0, s1⟩
                go_simp
                with_reducible rfl
              rotate_left
              · simp only [Act.put, List.setIfInBounds_toArray, List.set_cons_zero, List.set_cons_succ]
                rfl
              refine take_ (i := 7) (N := some 76) (v := ?_) (a' := ?_) #[true, true, true, true, true, true, true, true, false, false, false, false, false, false, false] rfl rfl (by kernel_rfl) (fun _ _ _ h => h) (Or.inl ⟨by rfl, ?_⟩) hHeld ?_ ?_
              rotate_left
              · rintro w' ⟨s0, s1⟩
                go_simp
                with_reducible rfl
              rotate_left
              · simp only [Act.put, List.setIfInBounds_toArray, List.set_cons_zero, List.set_cons_succ]
                rfl
              refine pure_ (i := 8) (N := some 77) (v := ?_) (a' := ?_) #[true, true, true, true, true, true, true, true, true, false, false, false, false, false, false] rfl rfl (by kernel_rfl) (fun _ _ _ h => h) (Or.inl ⟨by rfl, ?_⟩) ?_ ?_
              rotate_left
              · intro w'
                go_simp
                with_reducible rfl
              rotate_left
              · simp only [Act.put, List.setIfInBounds_toArray, List.set_cons_zero, List.set_cons_succ]
                rfl
              refine pure_ (i := 9) (N := some 78) (v := ?_) (a' := ?_) #[true, true, true, true, true, true, true, true, true, true, false, false, false, false, false] rfl rfl (by kernel_rfl) (fun _ _ _ h => h) (Or.inl ⟨by rfl, ?_⟩) ?_ ?_
              rotate_left
              · intro w'
                go_simp
                with_reducible rfl
              rotate_left
              · simp only [Act.put, List.setIfInBounds_toArray, List.set_cons_zero, List.set_cons_succ]
                rfl
              refine pure_ (i := 10) (N := some 79) (v := ?_) (a' := ?_) #[true, true, true, true, true, true, true, true, true, true, true, false, false, false, false] rfl rfl (by kernel_rfl) (fun _ _ _ h => h) (Or.inl ⟨by rfl, ?_⟩) ?_ ?_
              rotate_left
              · intro w'
                go_simp
                with_reducible rfl
              rotate_left
              · simp only [Act.put, List.setIfInBounds_toArray, List.set_cons_zero, List.set_cons_succ]
                rfl
              refine pure_ (i := 11) (N := some 80) (v := ?_) (a' := ?_) #[true, true, true, true, true, true, true, true, true, true, true, true, false, false, false] rfl rfl (by kernel_rfl) (fun _ _ _ h => h) (Or.inl ⟨by rfl, ?_⟩) ?_ ?_
              rotate_left
              · intro w'
                go_simp
                with_reducible rfl
              rotate_left
              · simp only [Act.put, List.setIfInBounds_toArray, List.set_cons_zero, List.set_cons_succ]
                rfl
              refine pure_ (i := 12) (N := some 81) (v := ?_) (a' := ?_) #[true, true, true, true, true, true, true, true, true, true, true, true, true, false, false] rfl rfl (by kernel_rfl) (fun _ _ _ h => h) (Or.inl ⟨by rfl, ?_⟩) ?_ ?_
              rotate_left
              · intro w'
                go_simp
                with_reducible rfl
              rotate_left
              · simp only [Act.put, List.setIfInBounds_toArray, List.set_cons_zero, List.set_cons_succ]
                rfl
              refine pure_ (i := 13) (N := some 82) (v := ?_) (a' := ?_) #[true, true, true, true, true, true, true, true, true, true, true, true, true, true, false] rfl rfl (by kernel_rfl) (fun _ _ _ h => h) (Or.inl ⟨by rfl, ?_⟩) ?_ ?_
              rotate_left
              · intro w'
                go_simp
                with_reducible rfl
              rotate_left
              · simp only [Act.put, List.setIfInBounds_toArray, List.set_cons_zero, List.set_cons_succ]
                rfl
              refine last_ (i := 14) (N := none) #[true, true, true, true, true, true, true, true, true, true, true, true, true, true, true] rfl rfl (by kernel_rfl) (by decide) (fun K hK => ?_)
              refine skip_ (w1 := ?_) (by rfl) rfl ?_ ?_
              rotate_left
              · go_simp
                rfl
              refine hK.out _ _ ?_
              clear hK K
              refine done_ (by kernel_rfl) ?_

              have H6 := Aside0.mk ((H5.out.put1 hgmB.out (m.2 ||| 2 ^ sh)).drew)
              have HK6 := Aside0.mk (brow_apart (i := 1) (u := .int .u64 ((m.2 ||| 2 ^ sh : Nat) : Int)) HK5.out)
              obtain ⟨w6, hw6⟩ : ∃ w6, w6 = (w5.setCell ⟨gm, 1, none⟩ (.int .u64 ((m.2 ||| 2 ^ sh : Nat) : Int))).drew := ⟨_, rfl⟩
              rw [← hw6] at H6 HK6 ⊢
              clear hw6 hHeld e0 e1 ef hor
              go_wp2_with fail
              refine ⟨⟨k + 1, b5, A2, c2, _, by omega, by rfl, rfl, HL5, ⟨HMx.out.1⟩, ⟨by rw [← HMx.out.2]; exact HN5.out⟩, H6, HK6⟩, ?_⟩
              simp only [intOf]; omega
          · go_wp2_with fail
            clear h4 t4 hn4
            refine (put_any kk nn c HFO.out s HRI.out A1 c1 b _ (brow_reads HK4.out) (by have := HL.out; have := HC.out.2.1; omega) (by have := HSZ.out; omega)).mono ?_
            rintro e w5 ⟨A2, c2, rfl, hq, hb5⟩
            have H5 := Aside0.mk (H4.out.below hb5)
            have HX5 := Aside0.mk (blk_below HX4.out hb5)
            have HK5 := Aside0.mk (brow_weaken hq (B' := gm + 1) (blk_lt H4.out.map))
            have HL5 : Aside0 ((b ++ bytesOf (putF kk c s)).length ≤ 205 * (k + 1)) := ⟨by
              have h1 := HL.out
              have h2 := putF_size kk c s
              have h3 := HSZ.out
              rw [List.length_append, bytesOf_length]
              omega⟩
            have HN5 : Aside0 (encL c o (l.drop (k + 1)) (b ++ bytesOf (putF kk c s)) (bitF m no) = encL c o l [] (0, 0)) := ⟨by
              have h := HN2.out
              rw [encL_cons, HO.out] at h
              exact h⟩
            obtain ⟨b5, hb5e⟩ : ∃ b5, b5 = b ++ bytesOf (putF kk c s) := ⟨_, rfl⟩
            rw [← hb5e] at HK5 HL5 HN5 ⊢
            clear hb5 hb5e hq H4 HX4 HK4 HN2 HO e0 e1 e2
            have hnb := kind_no HKD.out
            go_wp2_with fail
            have e0 := blk_cell HX5.out 0
            simp only [List.getElem?_toArray, List.getElem?_cons_zero] at e0
            have w1 : IntKind.i64.wrap (no - 1) = no - 1 := wrap64_small' (by omega) (by omega)
            by_cases hno64 : no - 1 < 64
            · obtain ⟨sh, hsh⟩ : ∃ sh : Nat, sh = (63 - (no - 1)).toNat := ⟨_, rfl⟩
              have w20 : IntKind.i64.wrap 0 = 0 := by decide
              have w2 : (no - 1).tdiv 64 = 0 := by rw [Int.tdiv_eq_ediv_of_nonneg (by omega)]; omega
              have w3 : (no - 1).tmod 64 = no - 1 := by rw [Int.tmod_eq_emod_of_nonneg (by omega)]; omega
              have w4 : IntKind.i64.wrap (63 - (no - 1)) = 63 - (no - 1) := wrap64_small' (by omega) (by omega)
              have e1 := H5.out.m0
              have ef := blk_frozen H5.out.map 0
              have hor := or_bit m.1 sh (63 - (no - 1)) HM.out.1 (by omega) (by omega)
              have HMx : Aside0 ((m.1 ||| 2 ^ sh < 18446744073709551616 ∧ m.2 < 18446744073709551616) ∧ bitF m no = (m.1 ||| 2 ^ sh, m.2)) := ⟨⟨bit_lt HM.out.1 (by omega), HM.out.2⟩, by
                unfold bitF; rw [if_pos (by omega), show (no - 1).toNat = 63 - sh by omega, show 63 - (63 - sh) = sh by omega]⟩
              clear hsh
              refine start_ (n := 15) (S := fun w' => w'.cell? ⟨gx, 0, none⟩ = some (.int .i64 no) ∧ w'.cell? ⟨gm, 0, none⟩ = some (.int .u64 m.1)) (ds := [14]) #[false, false, false, false, false, false, false, false, false, false, false, false, false, false, false] (by kernel_rfl) rfl rfl ⟨e0, e1⟩ (fun hHeld => ?_)
              refine pure_ (i := 0) (N := some 69) (v := ?_) (a' := ?_) #[true, false, false, false, false, false, false, false, false, false, false, false, false, false, false] rfl rfl (by kernel_rfl) (fun _ _ _ h => h) (Or.inl ⟨by rfl, ?_⟩) ?_ ?_
              rotate_left
              · intro w'
                go_simp
                with_reducible rfl
              rotate_left
              · simp only [Act.put, List.setIfInBounds_toArray, List.set_cons_zero, List.set_cons_succ]
                rfl
              refine pure_ (i := 6) (N := some 75) (v := ?_) (a' := ?_) #[true, false, false, false, false, false, true, false, false, false, false, false, false, false, false] rfl rfl (by kernel_rfl) (fun _ _ _ h => h) (Or.inl ⟨by rfl, ?_⟩) ?_ ?_
              rotate_left
              · intro w'
                go_simp
                with_reducible rfl
              rotate_left
              · simp only [Act.put, List.setIfInBounds_toArray, List.set_cons_zero, List.set_cons_succ]
                rfl
              refine take_ (i := 1) (N := some 70) (v := ?_) (a' := ?_) #[true, true, false, false, false, false, true, false, false, false, false, false, false, false, false] rfl rfl (by kernel_rfl) (fun _ _ _ h => h) (Or.inl ⟨by rfl, ?_⟩) hHeld ?_ ?_
              rotate_left
              · rintro w' ⟨s0, s1⟩
                go_simp
                with_reducible rfl
              rotate_left
              · simp only [Act.put, List.setIfInBounds_toArray, List.set_cons_zero, List.set_cons_succ]
                rfl
              refine pure_ (i := 2) (N := some 71) (v := ?_) (a' := ?_) #[true, true, true, false, false, false, true, false, false, false, false, false, false, false, false] rfl rfl (by kernel_rfl) (fun _ _ _ h => h) (Or.inl ⟨by rfl, ?_⟩) ?_ ?_
              rotate_left
              · intro w'
                go_simp
                with_reducible rfl
              rotate_left
              · simp only [Act.put, List.setIfInBounds_toArray, List.set_cons_zero, List.set_cons_succ]
                rfl
              refine pure_ (i := 3) (N := some 72) (v := ?_) (a' := ?_) #[true, true, true, true, false, false, true, false, false, false, false, false, false, false, false] rfl rfl (by kernel_rfl) (fun _ _ _ h => h) (Or.inl ⟨by rfl, ?_⟩) ?_ ?_
              rotate_left
              · intro w'
                go_simp
                with_reducible rfl
              rotate_left
              · simp only [Act.put, List.setIfInBounds_toArray, List.set_cons_zero, List.set_cons_succ]
                rfl
              refine pure_ (i := 4) (N := some 73) (v := ?_) (a' := ?_) #[true, true, true, true, true, false, true, false, false, false, false, false, false, false, false] rfl rfl (by kernel_rfl) (fun _ _ _ h => h) (Or.inl ⟨by rfl, ?_⟩) ?_ ?_
              rotate_left
              · intro w'
                go_simp
                with_reducible rfl
              rotate_left
              · simp only [Act.put, List.setIfInBounds_toArray, List.set_cons_zero, List.set_cons_succ]
                rfl
              refine take_ (i := 5) (N := some 74) (v := ?_) (a' := ?_) #[true, true, true, true, true, true, true, false, false, false, false, false, false, false, false] rfl rfl (by kernel_rfl) (fun _ _ _ h => h) (Or.inl ⟨by rfl, ?_⟩) hHeld ?_ ?_
              rotate_left
              · rintro w' ⟨s0, s1⟩
                go_simp
                with_reducible rfl
              rotate_left
              · simp only [Act.put, List.setIfInBounds_toArray, List.set_cons_zero, List.set_cons_succ]
                rfl
              refine take_ (i := 7) (N := some 76) (v := ?_) (a' := ?_) #[true, true, true, true, true, true, true, true, false, false, false, false, false, false, false] rfl rfl (by kernel_rfl) (fun _ _ _ h => h) (Or.inl ⟨by rfl, ?_⟩) hHeld ?_ ?_
              rotate_left
              · rintro w' ⟨s0, s1⟩
                go_simp
                with_reducible rfl
              rotate_left
              · simp only [Act.put, List.setIfInBounds_toArray, List.set_cons_zero, List.set_cons_succ]
                rfl
              refine pure_ (i := 8) (N := some 77) (v := ?_) (a' := ?_) #[true, true, true, true, true, true, true, true, true, false, false, false, false, false, false] rfl rfl (by kernel_rfl) (fun _ _ _ h => h) (Or.inl ⟨by rfl, ?_⟩) ?_ ?_
              rotate_left
              · intro w'
                go_simp
                with_reducible rfl
              rotate_left
              · simp only [Act.put, List.setIfInBounds_toArray, List.set_cons_zero, List.set_cons_succ]
                rfl
              refine pure_ (i := 9) (N := some 78) (v := ?_) (a' := ?_) #[true, true, true, true, true, true, true, true, true, true, false, false, false, false, false] rfl rfl (by kernel_rfl) (fun _ _ _ h => h) (Or.inl ⟨by rfl, ?_⟩) ?_ ?_
              rotate_left
              · intro w'
                go_simp
                with_reducible rfl
              rotate_left
              · simp only [Act.put, List.setIfInBounds_toArray, List.set_cons_zero, List.set_cons_succ]
                rfl
              refine pure_ (i := 10) (N := some 79) (v := ?_) (a' := ?_) #[true, true, true, true, true, true, true, true, true, true, true, false, false, false, false] rfl rfl (by kernel_rfl) (fun _ _ _ h => h) (Or.inl ⟨by rfl, ?_⟩) ?_ ?_
              rotate_left
              · intro w'
                go_simp
                with_reducible rfl
              rotate_left
              · simp only [Act.put, List.setIfInBounds_toArray, List.set_cons_zero, List.set_cons_succ]
                rfl
              refine pure_ (i := 11) (N := some 80) (v := ?_) (a' := ?_) #[true, true, true, true, true, true, true, true, true, true, true, true, false, false, false] rfl rfl (by kernel_rfl) (fun _ _ _ h => h) (Or.inl ⟨by rfl, ?_⟩) ?_ ?_
              rotate_left
              · intro w'
                go_simp
                with_reducible rfl
              rotate_left
              · simp only [Act.put, List.setIfInBounds_toArray, List.set_cons_zero, List.set_cons_succ]
                rfl
              refine pure_ (i := 12) (N := some 81) (v := ?_) (a' := ?_) #[true, true, true, true, true, true, true, true, true, true, true, true, true, false, false] rfl rfl (by kernel_rfl) (fun _ _ _ h => h) (Or.inl ⟨by rfl, ?_⟩) ?_ ?_
              rotate_left
              · intro w'
                go_simp
                with_reducible rfl
              rotate_left
              · simp only [Act.put, List.setIfInBounds_toArray, List.set_cons_zero, List.set_cons_succ]
                rfl
              refine pure_ (i := 13) (N := some 82) (v := ?_) (a' := ?_) #[true, true, true, true, true, true, true, true, true, true, true, true, true, true, false] rfl rfl (by kernel_rfl) (fun _ _ _ h => h) (Or.inl ⟨by rfl, ?_⟩) ?_ ?_
              rotate_left
              · intro w'
                go_simp
                with_reducible rfl
              rotate_left
              · simp only [Act.put, List.setIfInBounds_toArray, List.set_cons_zero, List.set_cons_succ]
                rfl
              refine last_ (i := 14) (N := none) #[true, true, true, true, true, true, true, true, true, true, true, true, true, true, true] rfl rfl (by kernel_rfl) (by decide) (fun K hK => ?_)
              refine skip_ (w1 := ?_) (by rfl) rfl ?_ ?_
              rotate_left
              · go_simp
                rfl
              refine hK.out _ _ ?_
              clear hK K
              refine done_ (by kernel_rfl) ?_

              have H6 := Aside0.mk ((H5.out.put0 hgmB.out (m.1 ||| 2 ^ sh)).drew)
              have HK6 := Aside0.mk (brow_apart (i := 0) (u := .int .u64 ((m.1 ||| 2 ^ sh : Nat) : Int)) HK5.out)
              obtain ⟨w6, hw6⟩ : ∃ w6, w6 = (w5.setCell ⟨gm, 0, none⟩ (.int .u64 ((m.1 ||| 2 ^ sh : Nat) : Int))).drew := ⟨_, rfl⟩
              rw [← hw6] at H6 HK6 ⊢
              clear hw6 hHeld e0 e1 ef hor
              go_wp2_with fail
              refine ⟨⟨k + 1, b5, A2, c2, _, by omega, by rfl, rfl, HL5, ⟨HMx.out.1⟩, ⟨by rw [← HMx.out.2]; exact HN5.out⟩, H6, HK6⟩, ?_⟩
              simp only [intOf]; omega
            · obtain ⟨sh, hsh⟩ : ∃ sh : Nat, sh = (63 - (no - 65)).toNat := ⟨_, rfl⟩
              have w20 : IntKind.i64.wrap 1 = 1 := by decide
              have w2 : (no - 1).tdiv 64 = 1 := by rw [Int.tdiv_eq_ediv_of_nonneg (by omega)]; omega
              have w3 : (no - 1).tmod 64 = no - 65 := by rw [Int.tmod_eq_emod_of_nonneg (by omega)]; omega
              have e1 := H5.out.m1
              have ef := blk_frozen H5.out.map 1
              have w4 : IntKind.i64.wrap (63 - (no - 65)) = 63 - (no - 65) := wrap64_small' (by omega) (by omega)
              have hor := or_bit m.2 sh (63 - (no - 65)) HM.out.2 (by omega) (by omega)
              have HMx : Aside0 ((m.1 < 18446744073709551616 ∧ m.2 ||| 2 ^ sh < 18446744073709551616) ∧ bitF m no = (m.1, m.2 ||| 2 ^ sh)) := ⟨⟨HM.out.1, bit_lt HM.out.2 (by omega)⟩, by
                unfold bitF; rw [if_neg (by omega), show (no - 1).toNat = 127 - sh by omega, show 127 - (127 - sh) = sh by omega]⟩
              clear hsh
              refine start_ (n := 15) (S := fun w' => w'.cell? ⟨gx, 0, none⟩ = some (.int .i64 no) ∧ w'.cell? ⟨gm, 1, none⟩ = some (.int .u64 m.2)) (ds := [14]) #[false, false, false, false, false, false, false, false, false, false, false, false, false, false, false] (by kernel_rfl) rfl rfl ⟨e0, e1⟩ (fun hHeld => ?_)
              refine pure_ (i := 0) (N := some 69) (v := ?_) (a' := ?_) #[true, false, false, false, false, false, false, false, false, false, false, false, false, false, false] rfl rfl (by kernel_rfl) (fun _ _ _ h => h) (Or.inl ⟨by rfl, ?_⟩) ?_ ?_
              rotate_left
              · intro w'
                go_simp
                with_reducible rfl
              rotate_left
              · simp only [Act.put, List.setIfInBounds_toArray, List.set_cons_zero, List.set_cons_succ]
                rfl
              refine pure_ (i := 6) (N := some 75) (v := ?_) (a' := ?_) #[true, false, false, false, false, false, true, false, false, false, false, false, false, false, false] rfl rfl (by kernel_rfl) (fun _ _ _ h => h) (Or.inl ⟨by rfl, ?_⟩) ?_ ?_
              rotate_left
              · intro w'
                go_simp
                with_reducible rfl
              rotate_left
              · simp only [Act.put, List.setIfInBounds_toArray, List.set_cons_zero, List.set_cons_succ]
                rfl
              refine take_ (i := 1) (N := some 70) (v := ?_) (a' := ?_) #[true, true, false, false, false, false, true, false, false, false, false, false, false, false, false] rfl rfl (by kernel_rfl) (fun _ _ _ h => h) (Or.inl ⟨by rfl, ?_⟩) hHeld ?_ ?_
              rotate_left
              · rintro w' ⟨s0, s1⟩
                go_simp
                with_reducible rfl
              rotate_left
              · simp only [Act.put, List.setIfInBounds_toArray, List.set_cons_zero, List.set_cons_succ]
                rfl
              refine pure_ (i := 2) (N := some 71) (v := ?_) (a' := ?_) #[true, true, true, false, false, false, true, false, false, false, false, false, false, false, false] rfl rfl (by kernel_rfl) (fun _ _ _ h => h) (Or.inl ⟨by rfl, ?_⟩) ?_ ?_
              rotate_left
              · intro w'
                go_simp
                with_reducible rfl
              rotate_left
              · simp only [Act.put, List.setIfInBounds_toArray, List.set_cons_zero, List.set_cons_succ]
                rfl
              refine pure_ (i := 3) (N := some 72) (v := ?_) (a' := ?_) #[true, true, true, true, false, false, true, false, false, false, false, false, false, false, false] rfl rfl (by kernel_rfl) (fun _ _ _ h => h) (Or.inl ⟨by rfl, ?_⟩) ?_ ?_
              rotate_left
              · intro w'
                go_simp
                with_reducible rfl
              rotate_left
              · simp only [Act.put, List.setIfInBounds_toArray, List.set_cons_zero, List.set_cons_succ]
                rfl
              refine pure_ (i := 4) (N := some 73) (v := ?_) (a' := ?_) #[true, true, true, true, true, false, true, false, false, false, false, false, false, false, false] rfl rfl (by kernel_rfl) (fun _ _ _ h => h) (Or.inl ⟨by rfl, ?_⟩) ?_ ?_
              rotate_left
              · intro w'
                go_simp
                with_reducible rfl
              rotate_left
              · simp only [Act.put, List.setIfInBounds_toArray, List.set_cons_zero, List.set_cons_succ]
                rfl
              refine take_ (i := 5) (N := some 74) (v := ?_) (a' := ?_) #[true, true, true, true, true, true, true, false, false, false, false, false, false, false, false] rfl rfl (by kernel_rfl) (fun _ _ _ h => h) (Or.inl ⟨by rfl, ?_⟩) hHeld ?_ ?_
              rotate_left
              · rintro w' ⟨s0, s1⟩
                go_simp
                with_reducible rfl
              rotate_left
              · simp only [Act.put, List.setIfInBounds_toArray, List.set_cons_zero, List.set_cons_succ]
                rfl
              refine take_ (i := 7) (N := some 76) (v := ?_) (a' := ?_) #[true, true, true, true, true, true, true, true, false, false, false, false, false, false, false] rfl rfl (by kernel_rfl) (fun _ _ _ h => h) (Or.inl ⟨by rfl, ?_⟩) hHeld ?_ ?_
              rotate_left
              · rintro w' ⟨s0, s1⟩
                go_simp
                with_reducible rfl
              rotate_left
              · simp only [Act.put, List.setIfInBounds_toArray, List.set_cons_zero, List.set_cons_succ]
                rfl
              refine pure_ (i := 8) (N := some 77) (v := ?_) (a' := ?_) #[true, true, true, true, true, true, true, true, true, false, false, false, false, false, false] rfl rfl (by kernel_rfl) (fun _ _ _ h => h) (Or.inl ⟨by rfl, ?_⟩) ?_ ?_
              rotate_left
              · intro w'
                go_simp
                with_reducible rfl
              rotate_left
              · simp only [Act.put, List.setIfInBounds_toArray, List.set_cons_zero, List.set_cons_succ]
                rfl
              refine pure_ (i := 9) (N := some 78) (v := ?_) (a' := ?_) #[true, true, true, true, true, true, true, true, true, true, false, false, false, false, false] rfl rfl (by kernel_rfl) (fun _ _ _ h => h) (Or.inl ⟨by rfl, ?_⟩) ?_ ?_
              rotate_left
              · intro w'
                go_simp
                with_reducible rfl
              rotate_left
              · simp only [Act.put, List.setIfInBounds_toArray, List.set_cons_zero, List.set_cons_succ]
                rfl
              refine pure_ (i := 10) (N := some 79) (v := ?_) (a' := ?_) #[true, true, true, true, true, true, true, true, true, true, true, false, false, false, false] rfl rfl (by kernel_rfl) (fun _ _ _ h => h) (Or.inl ⟨by rfl, ?_⟩) ?_ ?_
              rotate_left
              · intro w'
                go_simp
                with_reducible rfl
              rotate_left
              · simp only [Act.put, List.setIfInBounds_toArray, List.set_cons_zero, List.set_cons_succ]
                rfl
              refine pure_ (i := 11) (N := some 80) (v := ?_) (a' := ?_) #[true, true, true, true, true, true, true, true, true, true, true, true, false, false, false] rfl rfl (by kernel_rfl) (fun _ _ _ h => h) (Or.inl ⟨by rfl, ?_⟩) ?_ ?_
              rotate_left
              · intro w'
                go_simp
                with_reducible rfl
              rotate_left
              · simp only [Act.put, List.setIfInBounds_toArray, List.set_cons_zero, List.set_cons_succ]
                rfl
              refine pure_ (i := 12) (N := some 81) (v := ?_) (a' := ?_) #[true, true, true, true, true, true, true, true, true, true, true, true, true, false, false] rfl rfl (by kernel_rfl) (fun _ _ _ h => h) (Or.inl ⟨by rfl, ?_⟩) ?_ ?_
              rotate_left
              · intro w'
                go_simp
                with_reducible rfl
              rotate_left
              · simp only [Act.put, List.setIfInBounds_toArray, List.set_cons_zero, List.set_cons_succ]
                rfl
              refine pure_ (i := 13) (N := some 82) (v := ?_) (a' := ?_) #[true, true, true, true, true, true, true, true, true, true, true, true, true, true, false] rfl rfl (by kernel_rfl) (fun _ _ _ h => h) (Or.inl ⟨by rfl, ?_⟩) ?_ ?_
              rotate_left
              · intro w'
                go_simp
                with_reducible rfl
              rotate_left
              · simp only [Act.put, List.setIfInBounds_toArray, List.set_cons_zero, List.set_cons_succ]
                rfl
              refine last_ (i := 14) (N := none) #[true, true, true, true, true, true, true, true, true, true, true, true, true, true, true] rfl rfl (by kernel_rfl) (by decide) (fun K hK => ?_)
              refine skip_ (w1 := ?_) (by rfl) rfl ?_ ?_
              rotate_left
              · go_simp
                rfl
              refine hK.out _ _ ?_
              clear hK K
              refine done_ (by kernel_rfl) ?_

              have H6 := Aside0.mk ((H5.out.put1 hgmB.out (m.2 ||| 2 ^ sh)).drew)
              have HK6 := Aside0.mk (brow_apart (i := 1) (u := .int .u64 ((m.2 ||| 2 ^ sh : Nat) : Int)) HK5.out)
              obtain ⟨w6, hw6⟩ : ∃ w6, w6 = (w5.setCell ⟨gm, 1, none⟩ (.int .u64 ((m.2 ||| 2 ^ sh : Nat) : Int))).drew := ⟨_, rfl⟩
              rw [← hw6] at H6 HK6 ⊢
              clear hw6 hHeld e0 e1 ef hor
              go_wp2_with fail
              refine ⟨⟨k + 1, b5, A2, c2, _, by omega, by rfl, rfl, HL5, ⟨HMx.out.1⟩, ⟨by rw [← HMx.out.2]; exact HN5.out⟩, H6, HK6⟩, ?_⟩
              simp only [intOf]; omega
      · have hkl : k = l.length := by omega
        subst hkl
        have HE4 : Aside0 (encF d typ l = (allF c v typ b m, 0)) := ⟨by
          have h := HN.out
          rw [List.drop_length] at h
          rw [hE2.out, ← h]
          rfl⟩
        have hty : 100 ≤ typ ∧ typ ≤ 810 := by
          have h : ∀ t ∈ typesL, 100 ≤ t ∧ t ≤ 810 := by decide
          exact h typ (List.contains_iff_mem.1 HC.out.1)
        have HHD := Aside0.mk (head_ok v typ HV.out HC.out.1)
        have hcat : ¬ (9223372036854775807 < (strOfNums [v]).size + (Lib.itoa typ).length) := by
          have h := HHD.out.2
          unfold headS at h
          rw [ByteArray.size_append] at h
          have h2 : (⟨(Lib.itoa typ).toArray⟩ : ByteArray).size = (Lib.itoa typ).length := by simp [ByteArray.size]
          omega
        have HL24 : Aside0 (b.length ≤ 5000) := ⟨by have := HL.out; have := HC.out.2.1; omega⟩
        clear HN hE2 HC hlt hk
        go_wp2_with fail
        refine start_ (n := 11) (S := fun w' => w'.cell? ⟨w.heap.size, 0, none⟩ = some (.int .i64 c) ∧ w'.cell? ⟨w.heap.size, 1, none⟩ = some (.int .u8 v) ∧ w'.cell? ⟨w.heap.size, 2, none⟩ = some (.int .i64 o) ∧ w'.cell? ⟨w.heap.size + 1, 0, none⟩ = some (.int .i64 typ)) (ds := [9]) #[false, false, false, false, false, false, false, false, false, false, false] (by kernel_rfl) rfl rfl ⟨HH.out.drew.atc, HH.out.drew.atv, HH.out.drew.ato, HH.out.drew.attyp⟩ (fun hHeld => ?_)
        refine pure_ (i := 1) (N := some 85) (v := ?_) (a' := ?_) #[false, true, false, false, false, false, false, false, false, false, false] rfl rfl (by kernel_rfl) (fun _ _ _ h => h) (Or.inl ⟨by rfl, ?_⟩) ?_ ?_
        rotate_left
        · intro w'
          go_simp
          with_reducible rfl
        rotate_left
        · simp only [Act.put, List.setIfInBounds_toArray, List.set_cons_zero, List.set_cons_succ]
          rfl
        refine pure_ (i := 5) (N := some 89) (v := ?_) (a' := ?_) #[false, true, false, false, false, true, false, false, false, false, false] rfl rfl (by kernel_rfl) (fun _ _ _ h => h) (Or.inl ⟨by rfl, ?_⟩) ?_ ?_
        rotate_left
        · intro w'
          go_simp
          with_reducible rfl
        rotate_left
        · simp only [Act.put, List.setIfInBounds_toArray, List.set_cons_zero, List.set_cons_succ]
          rfl
        refine take_ (i := 0) (N := some 84) (v := ?_) (a' := ?_) #[true, true, false, false, false, true, false, false, false, false, false] rfl rfl (by kernel_rfl) (fun _ _ _ h => h) (Or.inl ⟨by rfl, ?_⟩) hHeld ?_ ?_
        rotate_left
        · rintro w' ⟨s0, s1, s2, s3⟩
          go_simp
          with_reducible rfl
        rotate_left
        · simp only [Act.put, List.setIfInBounds_toArray, List.set_cons_zero, List.set_cons_succ]
          rfl
        refine take_ (i := 2) (N := some 86) (v := ?_) (a' := ?_) #[true, true, true, false, false, true, false, false, false, false, false] rfl rfl (by kernel_rfl) (fun _ _ _ h => h) (Or.inl ⟨by rfl, ?_⟩) hHeld ?_ ?_
        rotate_left
        · rintro w' ⟨s0, s1, s2, s3⟩
          go_simp
          with_reducible rfl
        rotate_left
        · simp only [Act.put, List.setIfInBounds_toArray, List.set_cons_zero, List.set_cons_succ]
          rfl
        refine take_ (i := 6) (N := some 90) (v := ?_) (a' := ?_) #[true, true, true, false, false, true, true, false, false, false, false] rfl rfl (by kernel_rfl) (fun _ _ _ h => h) (Or.inl ⟨by rfl, ?_⟩) hHeld ?_ ?_
        rotate_left
        · rintro w' ⟨s0, s1, s2, s3⟩
          go_simp
          with_reducible rfl
        rotate_left
        · simp only [Act.put, List.setIfInBounds_toArray, List.set_cons_zero, List.set_cons_succ]
          rfl
        refine join_ (σ := Nat) 3 #[true, true, true, true, true, true, true, true, false, false, false] (fun s => [(87, .slice (some ⟨s, 0, none⟩) 1 1), (88, .string (strOfNums [v])), (91, .string ⟨(Lib.itoa typ).toArray⟩)]) (fun _ w' => Aside0 (Below wr.heap.size wr w')) ?_ ?_
        rotate_left
        · intro hCont
          refine two_ (i := 3) (j := 7) (Ni := some 87) (Nj := some 91) #[true, true, true, true, false, true, true, false, false, false, false] #[true, true, true, false, false, true, true, true, false, false, false] rfl rfl rfl rfl (by kernel_rfl) (by decide) (by decide) (fun K hK => ?_) (fun K hK => ?_)
          · skip
            refine value_ (w1 := ?_) (v := ?_) (by rfl) rfl ?_ ?_
            rotate_left 2
            · go_simp
              constructor
              · rfl
              · rfl
            have hb3 : Below wr.heap.size wr ((wr.alloc (.cells #[.int .u8 v] 5)).drew) := below_drew (below_alloc (Below.refl _ _) _)
            have ho3 := pw_own_below (own_lit wr wr.heap.size 5 .u8 [v] (Nat.le_refl _) (by simp)) (below_drew (Below.refl _ _))
            refine hK.out _ _ ⟨(HH.out.below hb3).atc, (HH.out.below hb3).atv, (HH.out.below hb3).ato, (HH.out.below hb3).attyp⟩ (fun hHeld => ?_)
            clear hK K
            refine norm_ (a' := ?_) ?_ ?_
            rotate_left
            · show Act.put _ (some 87) _ = _
              simp only [Act.put, List.setIfInBounds_toArray, List.set_cons_zero, List.set_cons_succ]
              rfl
            refine two_ (i := 4) (j := 7) (Ni := some 88) (Nj := some 91) #[true, true, true, true, true, true, true, false, false, false, false] #[true, true, true, true, false, true, true, true, false, false, false] rfl rfl rfl rfl (by kernel_rfl) (by decide) (by decide) (fun K hK => ?_) (fun K hK => ?_)
            · skip
              have hcv : (convert 22 9 (.slice (some ⟨wr.heap.size, 0, none⟩) 1 1)).run Tryz.prog ((wr.alloc (.cells #[.int .u8 v] 5)).drew) = .ok (.string (strOfNums [v])) ((wr.alloc (.cells #[.int .u8 v] 5)).drew) := own_string (n := 1) Tryz.underlying22 Tryz.underlying5 Tryz.underlying9 ho3
              refine value_ (w1 := ?_) (v := ?_) (by rfl) rfl ?_ ?_
              rotate_left 2
              · go_simp
                constructor
                · rfl
                · rfl
              refine hK.out _ _ ⟨(HH.out.below hb3).atc, (HH.out.below hb3).atv, (HH.out.below hb3).ato, (HH.out.below hb3).attyp⟩ (fun hHeld => ?_)
              clear hK K
              refine norm_ (a' := ?_) ?_ ?_
              rotate_left
              · show Act.put _ (some 88) _ = _
                simp only [Act.put, List.setIfInBounds_toArray, List.set_cons_zero, List.set_cons_succ]
                rfl
              refine one_ (i := 7) (N := some 91) #[true, true, true, true, true, true, true, true, false, false, false] rfl rfl (by kernel_rfl) (by decide) (fun K hK => ?_)
              refine goes_ Tryz.func65 (by kernel_rfl) rfl #[.int .i64 typ] (by rfl) rfl rfl (by simp only [List.map_toArray, List.map_cons, List.map_nil]; rfl) ?_
              with_reducible refine (itoa_any typ (by omega) (by omega) _ (HT.out.below (HH.out.below hb3).bel).pow).mono ?_
              rintro e w7 ⟨rfl, hb7⟩
              refine ⟨_, rfl, ?_⟩
              have hb37 := hb3.trans (hb7.mono hb3.size)
              refine hK.out _ _ ⟨(HH.out.below hb37).atc, (HH.out.below hb37).atv, (HH.out.below hb37).ato, (HH.out.below hb37).attyp⟩ (fun hHeld => ?_)
              clear hK K
              refine norm_ (a' := ?_) ?_ ?_
              rotate_left
              · show Act.put _ (some 91) _ = _
                simp only [Act.put, List.setIfInBounds_toArray, List.set_cons_zero, List.set_cons_succ]
                rfl
              exact norm_ (by simp only [putAll, Act.put, List.setIfInBounds_toArray, List.set_cons_zero, List.set_cons_succ]) (hCont wr.heap.size _ ⟨hb37⟩)
            · skip
              refine goes_ Tryz.func65 (by kernel_rfl) rfl #[.int .i64 typ] (by rfl) rfl rfl (by simp only [List.map_toArray, List.map_cons, List.map_nil]; rfl) ?_
              with_reducible refine (itoa_any typ (by omega) (by omega) _ (HT.out.below (HH.out.below hb3).bel).pow).mono ?_
              rintro e w7 ⟨rfl, hb7⟩
              refine ⟨_, rfl, ?_⟩
              have hb37 := hb3.trans (hb7.mono hb3.size)
              refine hK.out _ _ ⟨(HH.out.below hb37).atc, (HH.out.below hb37).atv, (HH.out.below hb37).ato, (HH.out.below hb37).attyp⟩ (fun hHeld => ?_)
              clear hK K
              refine norm_ (a' := ?_) ?_ ?_
              rotate_left
              · show Act.put _ (some 91) _ = _
                simp only [Act.put, List.setIfInBounds_toArray, List.set_cons_zero, List.set_cons_succ]
                rfl
              refine one_ (i := 4) (N := some 88) #[true, true, true, true, true, true, true, true, false, false, false] rfl rfl (by kernel_rfl) (by decide) (fun K hK => ?_)
              have hcv : (convert 22 9 (.slice (some ⟨wr.heap.size, 0, none⟩) 1 1)).run Tryz.prog w7 = .ok (.string (strOfNums [v])) w7 := own_string (n := 1) Tryz.underlying22 Tryz.underlying5 Tryz.underlying9 (pw_own_below ho3 hb7)
              refine value_ (w1 := ?_) (v := ?_) (by rfl) rfl ?_ ?_
              rotate_left 2
              · go_simp
                constructor
                · rfl
                · rfl
              refine hK.out _ _ ⟨(HH.out.below hb37).atc, (HH.out.below hb37).atv, (HH.out.below hb37).ato, (HH.out.below hb37).attyp⟩ (fun hHeld => ?_)
              clear hK K
              refine norm_ (a' := ?_) ?_ ?_
              rotate_left
              · show Act.put _ (some 88) _ = _
                simp only [Act.put, List.setIfInBounds_toArray, List.set_cons_zero, List.set_cons_succ]
                rfl
              exact norm_ (by simp only [putAll, Act.put, List.setIfInBounds_toArray, List.set_cons_zero, List.set_cons_succ]) (hCont wr.heap.size _ ⟨hb37⟩)
          · skip
            refine goes_ Tryz.func65 (by kernel_rfl) rfl #[.int .i64 typ] (by rfl) rfl rfl (by simp only [List.map_toArray, List.map_cons, List.map_nil]; rfl) ?_
            with_reducible refine (itoa_any typ (by omega) (by omega) _ (HT.out.below HH.out.drew.bel).pow).mono ?_
            rintro e w7 ⟨rfl, hb7⟩
            refine ⟨_, rfl, ?_⟩
            have hb7x : Below wr.heap.size wr w7 := (below_drew (Below.refl _ _)).trans hb7
            refine hK.out _ _ ⟨(HH.out.below hb7x).atc, (HH.out.below hb7x).atv, (HH.out.below hb7x).ato, (HH.out.below hb7x).attyp⟩ (fun hHeld => ?_)
            clear hK K
            refine norm_ (a' := ?_) ?_ ?_
            rotate_left
            · show Act.put _ (some 91) _ = _
              simp only [Act.put, List.setIfInBounds_toArray, List.set_cons_zero, List.set_cons_succ]
              rfl
            refine one_ (i := 3) (N := some 87) #[true, true, true, true, false, true, true, true, false, false, false] rfl rfl (by kernel_rfl) (by decide) (fun K hK => ?_)
            refine value_ (w1 := ?_) (v := ?_) (by rfl) rfl ?_ ?_
            rotate_left 2
            · go_simp
              constructor
              · rfl
              · rfl
            have hb73 : Below wr.heap.size wr (w7.alloc (.cells #[.int .u8 v] 5)) := below_alloc hb7x _
            have ho3 := own_lit w7 w7.heap.size 5 .u8 [v] (Nat.le_refl _) (by simp)
            refine hK.out _ _ ⟨(HH.out.below hb73).atc, (HH.out.below hb73).atv, (HH.out.below hb73).ato, (HH.out.below hb73).attyp⟩ (fun hHeld => ?_)
            clear hK K
            refine norm_ (a' := ?_) ?_ ?_
            rotate_left
            · show Act.put _ (some 87) _ = _
              simp only [Act.put, List.setIfInBounds_toArray, List.set_cons_zero, List.set_cons_succ]
              rfl
            refine one_ (i := 4) (N := some 88) #[true, true, true, true, true, true, true, true, false, false, false] rfl rfl (by kernel_rfl) (by decide) (fun K hK => ?_)
            have hcv : (convert 22 9 (.slice (some ⟨w7.heap.size, 0, none⟩) 1 1)).run Tryz.prog (w7.alloc (.cells #[.int .u8 v] 5)) = .ok (.string (strOfNums [v])) (w7.alloc (.cells #[.int .u8 v] 5)) := own_string (n := 1) Tryz.underlying22 Tryz.underlying5 Tryz.underlying9 ho3
            refine value_ (w1 := ?_) (v := ?_) (by rfl) rfl ?_ ?_
            rotate_left 2
            · go_simp
              constructor
              · rfl
              · rfl
            refine hK.out _ _ ⟨(HH.out.below hb73).atc, (HH.out.below hb73).atv, (HH.out.below hb73).ato, (HH.out.below hb73).attyp⟩ (fun hHeld => ?_)
            clear hK K
            refine norm_ (a' := ?_) ?_ ?_
            rotate_left
            · show Act.put _ (some 88) _ = _
              simp only [Act.put, List.setIfInBounds_toArray, List.set_cons_zero, List.set_cons_succ]
              rfl
            exact norm_ (by simp only [putAll, Act.put, List.setIfInBounds_toArray, List.set_cons_zero, List.set_cons_succ]) (hCont w7.heap.size _ ⟨hb73⟩)
        intro s18 w7 hb7
        have hHeld := And.intro (HH.out.below hb7.out).atc (And.intro (HH.out.below hb7.out).atv (And.intro (HH.out.below hb7.out).ato (HH.out.below hb7.out).attyp))
        refine norm_ (a' := ?_) ?_ ?_
        rotate_left
        · simp only [putAll, Act.put, List.setIfInBounds_toArray, List.set_cons_zero, List.set_cons_succ]
          rfl
        refine pure_ (i := 8) (N := some 92) (v := ?_) (a' := ?_) #[true, true, true, true, true, true, true, true, true, false, false] rfl rfl (by kernel_rfl) (fun _ _ _ h => h) (Or.inl ⟨by rfl, ?_⟩) ?_ ?_
        rotate_left
        · intro w'
          go_simp
          with_reducible rfl
        rotate_left
        · simp only [Act.put, List.setIfInBounds_toArray, List.set_cons_zero, List.set_cons_succ]
          rfl
        refine last_ (i := 9) (N := some 93) #[true, true, true, true, true, true, true, true, true, true, false] rfl rfl (by kernel_rfl) (by decide) (fun K hK => ?_)
        refine goes_ Tryz.func64 (by kernel_rfl) rfl #[.agg #[.int .i64 c, .int .u8 v, .int .i64 o], .slice none 0 0, .string (strOfNums [v] ++ ⟨(Lib.itoa typ).toArray⟩)] (by rfl) rfl rfl (by simp only [List.map_toArray, List.map_cons, List.map_nil]; rfl) ?_
        with_reducible refine (digits_any c v o (strOfNums [v] ++ ⟨(Lib.itoa typ).toArray⟩) hc3 (by have := HHD.out.2; unfold headS at this; omega) (by have := HHD.out.2; unfold headS at this; omega) HHD.out.1 _).mono ?_
        rintro e w8 ⟨A2, c2, rfl, hq8, hb8⟩
        refine ⟨_, rfl, ?_⟩
        refine hK.out _ _ ?_
        clear hK K
        refine norm_ (a' := ?_) ?_ ?_
        rotate_left
        · show Act.put _ (some 93) _ = _
          simp only [Act.put, List.setIfInBounds_toArray, List.set_cons_zero, List.set_cons_succ]
          rfl
        refine pure_ (i := 10) (N := some 14) (v := ?_) (a' := ?_) #[true, true, true, true, true, true, true, true, true, true, true] rfl rfl (by kernel_rfl) (fun _ _ _ h => h) (Or.inl ⟨by rfl, ?_⟩) ?_ ?_
        rotate_left
        · intro w'
          go_simp
          with_reducible rfl
        rotate_left
        · simp only [Act.put, List.setIfInBounds_toArray, List.set_cons_zero, List.set_cons_succ]
          rfl
        refine done_ (by kernel_rfl) ?_

        have H8 := Aside0.mk ((HH.out.below hb7.out).below hb8)
        have HQ8 := Aside0.mk (brow_weaken hq8 (B' := gm + 1) (blk_lt (HH.out.below hb7.out).map))
        have HK8 := Aside0.mk (brow_below (brow_below HK.out hb7.out) hb8)
        have HL8 : Aside0 (b.length ≤ 5000 ∧ (bytesOf (putF 1 c (headS v typ))).length ≤ 20) := ⟨HL24.out, by have := putF_size 1 c (headS v typ); have := HHD.out.2; rw [bytesOf_length]; omega⟩
        obtain ⟨hd8, hhd8⟩ : ∃ hd8, hd8 = bytesOf (putF 1 c (headS v typ)) := ⟨_, rfl⟩
        have hhd8' : bytesOf (putF 1 c (strOfNums [v] ++ ⟨(Lib.itoa typ).toArray⟩)) = hd8 := hhd8.symm
        rw [hhd8'] at HQ8 ⊢
        rw [← hhd8] at HL8
        have HE8 : Aside0 (encF d typ l = (hd8 ++ (if m.2 = 0 then bytesOf (putF 4 c (hex16 m.1)) else bytesOf (putF 4 c (hex16 (m.1 ||| 2 ^ 63))) ++ bytesOf (putF 4 c (hex16 m.2))) ++ b, 0)) := ⟨by rw [HE4.out, hhd8]; rfl⟩
        clear hhd8 hhd8' hq8 hb8 hb7 HE4 HL HH HK HHD hty hcat HL24 hHeld
        have c1 := H8.out.m1
        have c0 := H8.out.m0
        by_cases hm2 : m.2 = 0
        · have hm2i : ((m.2 : Int) == 0) = true := by rw [hm2]; rfl
          have HE9 : Aside0 (encF d typ l = (hd8 ++ bytesOf (putF 4 c (hex16 m.1)) ++ b, 0)) := ⟨by rw [HE8.out, if_pos hm2]⟩
          clear HE8
          go_wp2_with fail
          have ix0 := ix115_0 m.1 m.2
          have ix1 := ix115_1 m.1 m.2
          have ix0b := ix115_0 m.1 0
          have ix1b := ix115_1 m.1 0
          refine wp_loop_rounds 3 ?_
          rw [rounds_succ]
          go_wp2_with fail
          have HLB0 : Aside0 (hd8.length ≤ 20) := ⟨HL8.out.2⟩
          refine (formatUint16 m.1 HM.out.1 _ (HT.out.below H8.out.bel).deb).mono ?_
          rintro e x0a ⟨rfl, hb⟩
          have HA0 := Aside0.mk (H8.out.below hb)
          have HQA0 := Aside0.mk (brow_below HQ8.out hb)
          have HKA0 := Aside0.mk (brow_below HK8.out hb)
          clear hb
          have e0 := HA0.out.atc
          have e1 := HA0.out.atv
          have e2 := HA0.out.ato
          obtain ⟨q, r, hqr, hq⟩ : ∃ q r : Nat, r + q = 16 ∧ (hexN m.1).length = q := ⟨_, 16 - (hexN m.1).length, by have := hexN_length m.1; omega, rfl⟩
          have HX16 := Aside0.mk (hex16_eq m.1 r (by rw [hq]; exact hqr))
          have hsz : (strOfNums (hexN m.1)).size = q := by rw [strOfNums_size, hq]
          generalize strOfNums (hexN m.1) = sx at hsz HX16 ⊢
          clear hq
          go_wp2_with fail
          refine (bits_any c v o _).mono ?_
          rintro e x0b ⟨rfl, hb⟩
          have HB0 := Aside0.mk (HA0.out.below hb)
          have HQB0 := Aside0.mk (brow_below HQA0.out hb)
          have HKB0 := Aside0.mk (brow_below HKA0.out hb)
          clear hb e0 e1 e2 HA0 HQA0 HKA0
          have hw16 : (16 : Int) - (q : Int) = (r : Int) := by omega
          go_wp2_with fail
          refine (Tryz.strings_Repeat ⟨#[48]⟩ r _ (by omega) (by show 1 * r ≤ _; omega)).mono ?_
          rintro e x0c ⟨rfl, hb⟩
          have HC0 := Aside0.mk (HB0.out.below hb)
          have HQC0 := Aside0.mk (brow_below HQB0.out hb)
          have HKC0 := Aside0.mk (brow_below HKB0.out hb)
          clear hb HB0 HQB0 HKB0 hw16
          generalize (⟨(Lib.repeatL (⟨#[48]⟩ : ByteArray).data.toList r).toArray⟩ : ByteArray) = zx at HX16 ⊢
          have hzs : zx.size + q = 16 := by
            have h := congrArg ByteArray.size HX16.out
            rw [ByteArray.size_append, hsz, hex16_size] at h
            exact h
          have hcat : ¬ (9223372036854775807 < zx.size + q) := by omega
          go_wp2_with fail
          rw [HX16.out]
          refine (put_any 4 8 c ⟨by decide, by decide, hc3⟩ (hex16 m.1) (hex16_right m.1) A2 c2 hd8 _ (brow_reads HQC0.out) (by have := HL8.out; have := HLB0.out; omega) (by rw [hex16_size]; omega)).mono ?_
          rintro e x0d ⟨A30, c30, rfl, hq, hb⟩
          have HD0 := Aside0.mk (HC0.out.below hb)
          have HQD0 := Aside0.mk (brow_weaken hq (B' := gm + 1) (blk_lt HC0.out.map))
          have HKD0 := Aside0.mk (brow_below HKC0.out hb)
          clear hb hq HC0 HQC0 HKC0 hsz hcat hzs hqr HX16
          have hln0 := putF_size 4 c (hex16 m.1)
          rw [hex16_size] at hln0
          obtain ⟨h90, hh9⟩ : ∃ h9, h9 = hd8 ++ bytesOf (putF 4 c (hex16 m.1)) := ⟨_, rfl⟩
          have HLN0 : Aside0 (h90.length ≤ hd8.length + 21) := ⟨by rw [hh9, List.length_append, bytesOf_length]; omega⟩
          rw [← hh9] at HQD0 HE9 ⊢
          clear hh9 hln0
          go_wp2_with fail
          clear HQ8 HK8 H8
          rw [rounds_succ]
          go_wp2_with fail
          rw [rounds_succ]
          go_wp2_with (first | (refine brow_join (w0 := w) (B := w.heap.size) (v := .slice A30 h90.length c30) (xs := h90) (ys := b) rfl _ _ rfl rfl rfl (brow_weaken HQD0.out (by have := hgmB.out; omega)) (brow_reads HKD0.out) HD0.out.bel.size (by have := HL8.out; have := HLN0.out; omega) HD0.out.bel ?_; intro A4 c4 w4 hq4 hc4 hg4) | fail)
          rw [HE9.out]
          exact bodyPost_ret (v := .tuple #[.slice A4 (h90 ++ b).length c4, .nilIface]) (by simp [results, Tryz.results46, go_sem]) rfl ⟨A4, c4, _, rfl, .inl ⟨rfl, rfl⟩, brow_reads hq4, hg4.1⟩
        · have hm2i : ((m.2 : Int) == 0) = false := by rw [beq_eq_false_iff_ne]; omega
          have HE9 : Aside0 (encF d typ l = (((hd8 ++ bytesOf (putF 4 c (hex16 (m.1 ||| 2 ^ 63)))) ++ bytesOf (putF 4 c (hex16 m.2))) ++ b, 0)) := ⟨by rw [HE8.out, if_neg hm2]; simp only [List.append_assoc]⟩
          clear HE8
          obtain ⟨t63, ht63⟩ : ∃ t63, t63 = m.1 ||| 2 ^ 63 := ⟨_, rfl⟩
          have hor : Go.bits .or .u64 (m.1 : Int) 9223372036854775808 = (t63 : Int) := by rw [ht63]; exact or_top m.1 HM.out.1
          have ht64 : t63 < 18446744073709551616 := by rw [ht63]; exact bit_lt HM.out.1 (by decide)
          rw [← ht63] at HE9
          clear ht63
          have HT64 := Aside0.mk ht64
          clear ht64
          have hf0 := blk_frozen H8.out.map 0
          have H9 := Aside0.mk (H8.out.put0 hgmB.out t63)
          have HQ9 := Aside0.mk (brow_apart0 (i := 0) (u := .int .u64 (t63 : Int)) HQ8.out)
          have HK9 := Aside0.mk (brow_apart0 (i := 0) (u := .int .u64 (t63 : Int)) HK8.out)
          have d0 := H9.out.m0
          have d1 := H9.out.m1
          go_wp2_with fail
          obtain ⟨w9, hw9⟩ : ∃ w9, w9 = w8.setCell ⟨gm, 0, none⟩ (.int .u64 (t63 : Int)) := ⟨_, rfl⟩
          rw [← hw9] at H9 HQ9 HK9 ⊢
          clear hw9 HQ8 HK8 H8 d0 d1 c0 c1 hor hf0
          have ix0 := ix115_0 t63 m.2
          have ix1 := ix115_1 t63 m.2
          refine wp_loop_rounds 3 ?_
          rw [rounds_succ]
          go_wp2_with fail
          have HLB0 : Aside0 (hd8.length ≤ 20) := ⟨HL8.out.2⟩
          refine (formatUint16 t63 HT64.out _ (HT.out.below H9.out.bel).deb).mono ?_
          rintro e x0a ⟨rfl, hb⟩
          have HA0 := Aside0.mk (H9.out.below hb)
          have HQA0 := Aside0.mk (brow_below HQ9.out hb)
          have HKA0 := Aside0.mk (brow_below HK9.out hb)
          clear hb
          have e0 := HA0.out.atc
          have e1 := HA0.out.atv
          have e2 := HA0.out.ato
          obtain ⟨q, r, hqr, hq⟩ : ∃ q r : Nat, r + q = 16 ∧ (hexN t63).length = q := ⟨_, 16 - (hexN t63).length, by have := hexN_length t63; omega, rfl⟩
          have HX16 := Aside0.mk (hex16_eq t63 r (by rw [hq]; exact hqr))
          have hsz : (strOfNums (hexN t63)).size = q := by rw [strOfNums_size, hq]
          generalize strOfNums (hexN t63) = sx at hsz HX16 ⊢
          clear hq
          go_wp2_with fail
          refine (bits_any c v o _).mono ?_
          rintro e x0b ⟨rfl, hb⟩
          have HB0 := Aside0.mk (HA0.out.below hb)
          have HQB0 := Aside0.mk (brow_below HQA0.out hb)
          have HKB0 := Aside0.mk (brow_below HKA0.out hb)
          clear hb e0 e1 e2 HA0 HQA0 HKA0
          have hw16 : (16 : Int) - (q : Int) = (r : Int) := by omega
          go_wp2_with fail
          refine (Tryz.strings_Repeat ⟨#[48]⟩ r _ (by omega) (by show 1 * r ≤ _; omega)).mono ?_
          rintro e x0c ⟨rfl, hb⟩
          have HC0 := Aside0.mk (HB0.out.below hb)
          have HQC0 := Aside0.mk (brow_below HQB0.out hb)
          have HKC0 := Aside0.mk (brow_below HKB0.out hb)
          clear hb HB0 HQB0 HKB0 hw16
          generalize (⟨(Lib.repeatL (⟨#[48]⟩ : ByteArray).data.toList r).toArray⟩ : ByteArray) = zx at HX16 ⊢
          have hzs : zx.size + q = 16 := by
            have h := congrArg ByteArray.size HX16.out
            rw [ByteArray.size_append, hsz, hex16_size] at h
            exact h
          have hcat : ¬ (9223372036854775807 < zx.size + q) := by omega
          go_wp2_with fail
          rw [HX16.out]
          refine (put_any 4 8 c ⟨by decide, by decide, hc3⟩ (hex16 t63) (hex16_right t63) A2 c2 hd8 _ (brow_reads HQC0.out) (by have := HL8.out; have := HLB0.out; omega) (by rw [hex16_size]; omega)).mono ?_
          rintro e x0d ⟨A30, c30, rfl, hq, hb⟩
          have HD0 := Aside0.mk (HC0.out.below hb)
          have HQD0 := Aside0.mk (brow_weaken hq (B' := gm + 1) (blk_lt HC0.out.map))
          have HKD0 := Aside0.mk (brow_below HKC0.out hb)
          clear hb hq HC0 HQC0 HKC0 hsz hcat hzs hqr HX16
          have hln0 := putF_size 4 c (hex16 t63)
          rw [hex16_size] at hln0
          obtain ⟨h90, hh9⟩ : ∃ h9, h9 = hd8 ++ bytesOf (putF 4 c (hex16 t63)) := ⟨_, rfl⟩
          have HLN0 : Aside0 (h90.length ≤ hd8.length + 21) := ⟨by rw [hh9, List.length_append, bytesOf_length]; omega⟩
          rw [← hh9] at HQD0 HE9 ⊢
          clear hh9 hln0
          go_wp2_with fail
          clear HQ9 HK9 H9
          rw [rounds_succ]
          go_wp2_with fail
          have HLB1 : Aside0 (h90.length ≤ 60) := ⟨by have := HLN0.out; have := HL8.out; omega⟩
          refine (formatUint16 m.2 HM.out.2 _ (HT.out.below HD0.out.bel).deb).mono ?_
          rintro e x1a ⟨rfl, hb⟩
          have HA1 := Aside0.mk (HD0.out.below hb)
          have HQA1 := Aside0.mk (brow_below HQD0.out hb)
          have HKA1 := Aside0.mk (brow_below HKD0.out hb)
          clear hb
          have e0 := HA1.out.atc
          have e1 := HA1.out.atv
          have e2 := HA1.out.ato
          obtain ⟨q, r, hqr, hq⟩ : ∃ q r : Nat, r + q = 16 ∧ (hexN m.2).length = q := ⟨_, 16 - (hexN m.2).length, by have := hexN_length m.2; omega, rfl⟩
          have HX16 := Aside0.mk (hex16_eq m.2 r (by rw [hq]; exact hqr))
          have hsz : (strOfNums (hexN m.2)).size = q := by rw [strOfNums_size, hq]
          generalize strOfNums (hexN m.2) = sx at hsz HX16 ⊢
          clear hq
          go_wp2_with fail
          refine (bits_any c v o _).mono ?_
          rintro e x1b ⟨rfl, hb⟩
          have HB1 := Aside0.mk (HA1.out.below hb)
          have HQB1 := Aside0.mk (brow_below HQA1.out hb)
          have HKB1 := Aside0.mk (brow_below HKA1.out hb)
          clear hb e0 e1 e2 HA1 HQA1 HKA1
          have hw16 : (16 : Int) - (q : Int) = (r : Int) := by omega
          go_wp2_with fail
          refine (Tryz.strings_Repeat ⟨#[48]⟩ r _ (by omega) (by show 1 * r ≤ _; omega)).mono ?_
          rintro e x1c ⟨rfl, hb⟩
          have HC1 := Aside0.mk (HB1.out.below hb)
          have HQC1 := Aside0.mk (brow_below HQB1.out hb)
          have HKC1 := Aside0.mk (brow_below HKB1.out hb)
          clear hb HB1 HQB1 HKB1 hw16
          generalize (⟨(Lib.repeatL (⟨#[48]⟩ : ByteArray).data.toList r).toArray⟩ : ByteArray) = zx at HX16 ⊢
          have hzs : zx.size + q = 16 := by
            have h := congrArg ByteArray.size HX16.out
            rw [ByteArray.size_append, hsz, hex16_size] at h
            exact h
          have hcat : ¬ (9223372036854775807 < zx.size + q) := by omega
          go_wp2_with fail
          rw [HX16.out]
          refine (put_any 4 8 c ⟨by decide, by decide, hc3⟩ (hex16 m.2) (hex16_right m.2) A30 c30 h90 _ (brow_reads HQC1.out) (by have := HL8.out; have := HLB1.out; omega) (by rw [hex16_size]; omega)).mono ?_
          rintro e x1d ⟨A31, c31, rfl, hq, hb⟩
          have HD1 := Aside0.mk (HC1.out.below hb)
          have HQD1 := Aside0.mk (brow_weaken hq (B' := gm + 1) (blk_lt HC1.out.map))
          have HKD1 := Aside0.mk (brow_below HKC1.out hb)
          clear hb hq HC1 HQC1 HKC1 hsz hcat hzs hqr HX16
          have hln1 := putF_size 4 c (hex16 m.2)
          rw [hex16_size] at hln1
          obtain ⟨h91, hh9⟩ : ∃ h9, h9 = h90 ++ bytesOf (putF 4 c (hex16 m.2)) := ⟨_, rfl⟩
          have HLN1 : Aside0 (h91.length ≤ h90.length + 21) := ⟨by rw [hh9, List.length_append, bytesOf_length]; omega⟩
          rw [← hh9] at HQD1 HE9 ⊢
          clear hh9 hln1
          go_wp2_with fail
          clear HD0 HQD0 HKD0
          rw [rounds_succ]
          go_wp2_with (first | (refine brow_join (w0 := w) (B := w.heap.size) (v := .slice A31 h91.length c31) (xs := h91) (ys := b) rfl _ _ rfl rfl rfl (brow_weaken HQD1.out (by have := hgmB.out; omega)) (brow_reads HKD1.out) HD1.out.bel.size (by have := HL8.out; have := HLN0.out; have := HLN1.out; omega) HD1.out.bel ?_; intro A4 c4 w4 hq4 hc4 hg4) | fail)
          rw [HE9.out]
          exact bodyPost_ret (v := .tuple #[.slice A4 (h91 ++ b).length c4, .nilIface]) (by simp [results, Tryz.results46, go_sem]) rfl ⟨A4, c4, _, rfl, .inl ⟨rfl, rfl⟩, brow_reads hq4, hg4.1⟩
  · have hE2 : Aside0 (encF d typ l = ([], checkN typ l)) := ⟨by rw [hE.out, if_neg hck]⟩
    have HVE := Aside0.mk hve
    rcases hve with ⟨h0, _⟩ | ⟨_, rfl⟩ | ⟨_, p, no, rfl, _⟩
    · exact absurd h0 hck
    · go_wp2_with fail
      rw [hE2.out]
      exact bodyPost_ret (v := .tuple #[.slice none 0 0, .iface 119 (.int .i64 (checkN typ l))]) (by simp [results, Tryz.results46, go_sem]) rfl ⟨none, 0, _, rfl, HVE.out, brow_reads (brow_nil _ 0), HB.out⟩
    · go_wp2_with fail
      rw [hE2.out]
      exact bodyPost_ret (v := .tuple #[.slice none 0 0, .iface 118 (.pointer (some ⟨p, 0, none⟩))]) (by simp [results, Tryz.results46, go_sem]) rfl ⟨none, 0, _, rfl, HVE.out, brow_reads (brow_nil _ 0), HB.out⟩
end Go.Proofs.YtbnbplppgbmkpaaGreatDoor

namespace Go.Proofs.YtbnbplppgbmkpaaGreatDoor
open Go.RowKit Go.Extern.Stop Go.Stop Go.Extern Go.Proofs.YtbnbplppgbmkpaaGreatDoorW.PrintWords PSessionSeals

/-- What Encode gives. -/
def encodeF (d typ : Int) (l : List S38) : List Int × Int := if 1 ≤ d ∧ d < 4 then encF d typ l else ([], 50)

set_option maxHeartbeats 1000000 in
theorem Encode_any (d typ : Int) (l : List S38) (A : Option Addr) (cp : Nat) (w : World) (hr : Kd.C k38 w A l.length l) (hs : ∀ x ∈ l, x.f1.size ≤ maxLen) (ht : Env w) :
    Calls Tryz.prog 36 #[.int .i64 d, .agg #[.int .i64 typ, .slice A l.length cp]] w fun e w' => ∃ A' c', e = .returned (.tuple #[.slice A' (encodeF d typ l).1.length c', .int .i64 (encodeF d typ l).2]) ∧ Kd.C (Kd.int .u8) w' A' (encodeF d typ l).1.length (encodeF d typ l).1 ∧ Below w.heap.size w w' := by
  have HT := Aside0.mk ht
  have HR := Aside0.mk hr
  have HS := Aside0.mk hs
  clear ht hr hs
  have hb1 := below_alloc (Below.refl w.heap.size w) (.cells #[.int .i64 typ, .slice A l.length cp] 29)
  have a1 := blk_new w (.cells #[.int .i64 typ, .slice A l.length cp] 29)
  have HW := Aside0.mk (which_any d _ (HT.out.below hb1).tabs)
  by_cases hd : 1 ≤ d ∧ d < 4
  · have HE : Aside0 (encodeF d typ l = encF d typ l) := ⟨by unfold encodeF; rw [if_pos hd]⟩
    rw [decide_eq_true hd] at HW
    go_enter Tryz.func36, Tryz.ntmps36
    go_wp2_with fail
    refine Calls.mono HW.out ?_
    rintro e w2 ⟨rfl, hb2⟩
    have B2 := Aside0.mk (hb1.trans (hb2.mono hb1.size))
    have a2 := blk_below a1 hb2
    have M2 := Aside0.mk a2
    obtain ⟨c, hc⟩ : ∃ c, c = (diaV d).1 := ⟨_, rfl⟩
    obtain ⟨v, hv⟩ : ∃ v, v = (diaV d).2.1 := ⟨_, rfl⟩
    obtain ⟨o, ho⟩ : ∃ o, o = (diaV d).2.2 := ⟨_, rfl⟩
    rw [← hc, ← hv, ← ho]
    have b3 := below_alloc B2.out (.cells #[.int .i64 c, .int .u8 v, .int .i64 o] 86)
    have d0 := blk_cell (blk_alloc M2.out (.cells #[.int .i64 c, .int .u8 v, .int .i64 o] 86)) 0
    have d1 := blk_cell (blk_alloc M2.out (.cells #[.int .i64 c, .int .u8 v, .int .i64 o] 86)) 1
    simp only [List.getElem?_toArray, List.getElem?_cons_zero, List.getElem?_cons_succ] at d0 d1
    have HEN := Aside0.mk (encode_any d hd typ l A cp (w2.alloc (.cells #[.int .i64 c, .int .u8 v, .int .i64 o] 86)) (Kd.C_below HR.out b3) HS.out (HT.out.below b3))
    rw [← hc, ← hv, ← ho] at HEN
    have B3 := Aside0.mk b3
    clear hb1 hb2 a1 a2 HW hc hv ho b3 hd
    go_wp2_with fail
    refine Calls.mono HEN.out ?_
    rintro e w4 ⟨A', c', ve, rfl, hve, hk, hb4⟩
    have HVE := Aside0.mk hve
    have HK := Aside0.mk hk
    have B4 := Aside0.mk (B3.out.trans (hb4.mono B3.out.size))
    clear hve hk hb4 d0 d1
    go_wp2_with fail
    refine (toldErr_any (HT.out.below B4.out).err HVE.out).mono ?_
    rintro e w5 ⟨rfl, hb5⟩
    have HK5 := Aside0.mk (Kd.C_below HK.out hb5)
    have B5 := Aside0.mk (B4.out.trans (hb5.mono B4.out.size))
    clear hb5
    go_wp2_with fail
    rw [HE.out]
    exact bodyPost_ret (v := .tuple #[.slice A' (encF d typ l).1.length c', .int .i64 (encF d typ l).2]) (by simp [results, Tryz.results36, go_sem]) rfl ⟨A', c', rfl, HK5.out, B5.out⟩
  · have HE : Aside0 (encodeF d typ l = ([], 50)) := ⟨by unfold encodeF; rw [if_neg hd]⟩
    rw [decide_eq_false hd] at HW
    go_enter Tryz.func36, Tryz.ntmps36
    go_wp2_with fail
    refine Calls.mono HW.out ?_
    rintro e w2 ⟨rfl, hb2⟩
    have B2 := Aside0.mk (below_alloc (hb1.trans (hb2.mono hb1.size)) (.cells #[.int .i64 (diaV d).1, .int .u8 (diaV d).2.1, .int .i64 (diaV d).2.2] 86))
    clear hb1 hb2 a1 HW hd
    go_wp2_with fail
    rw [HE.out]
    exact bodyPost_ret (v := .tuple #[.slice none 0 0, .int .i64 50]) (by simp [results, Tryz.results36, go_sem]) rfl ⟨none, 0, rfl, brow_reads (brow_nil _ 0), B2.out⟩

/-- A field's text. -/
def getL (no : Int) : List S38 → ByteArray × Bool
  | [] => (⟨#[]⟩, false)
  | x :: r => if x.f0 = no then (x.f1, true) else getL no r

set_option maxHeartbeats 1000000 in
theorem Get_any (typ no : Int) (l : List S38) (A : Option Addr) (cp : Nat) (w : World) (hr : Kd.C k38 w A l.length l) :
    Calls Tryz.prog 30 #[.agg #[.int .i64 typ, .slice A l.length cp], .int .i64 no] w fun e w' => e = .returned (.tuple #[.string (getL no l).1, .bool (getL no l).2]) ∧ Below w.heap.size w w' := by
  have HR := Aside0.mk hr
  have hlm := Kd.C_max hr
  clear hr
  have HB0 := Aside0.mk (below_alloc (Below.refl w.heap.size w) (.cells #[.int .i64 typ, .slice A l.length cp] 29))
  go_enter Tryz.func30, Tryz.ntmps30
  go_wp2_with fail
  go_loopw [11] (fun v11 wr => ∃ (k : Nat), k ≤ l.length ∧ v11 = .int .i64 k ∧ Aside0 (getL no (l.drop k) = getL no l) ∧ Aside0 (Below w.heap.size w wr)) (fun i _ => l.length - (intOf i).toNat)
  case atStart => exact ⟨0, Nat.zero_le _, rfl, ⟨rfl⟩, HB0⟩
  case round =>
    clear HB0
    obtain ⟨k, hk, rfl, HN, HB⟩ := hrel
    by_cases hlt : k < l.length
    · obtain ⟨ad, hA, c0, c1⟩ := at_T38 (Kd.C_below HR.out HB.out) (k : Int) (by omega) (by omega)
      subst hA
      obtain ⟨n1, hn1⟩ : ∃ n1, n1 = (rd_T38 l (k : Int)).f0 := ⟨_, rfl⟩
      obtain ⟨s, hs⟩ : ∃ s, s = (rd_T38 l (k : Int)).f1 := ⟨_, rfl⟩
      rw [← hn1] at c0
      rw [← hs] at c1
      rw [Int.toNat_natCast] at c0 c1
      have hdr : l.drop k = ⟨n1, s⟩ :: l.drop (k + 1) := by
        have : rd_T38 l (k : Int) = l[k] := by simp [rd_T38, hlt]
        rw [hn1, hs, this, List.drop_eq_getElem_cons hlt]
      have HN2 : Aside0 ((if n1 = no then (s, true) else getL no (l.drop (k + 1))) = getL no l) := ⟨by rw [← HN.out, hdr]; rfl⟩
      have hlti : (k : Int) < (l.length : Int) := by omega
      have HB2 := Aside0.mk (below_alloc HB.out (.cells #[.int .i64 n1, .string s] 38))
      clear hn1 hs hdr HN
      by_cases he : n1 = no
      · have HG : Aside0 (getL no l = (s, true)) := ⟨by rw [← HN2.out, if_pos he]⟩
        have heb : (n1 == no) = true := by rw [he]; simp
        clear HN2
        go_wp2_with fail
        rw [HG.out]
        exact bodyPost_ret (v := .tuple #[.string s, .bool true]) (by simp [results, Tryz.results30, go_sem]) rfl ⟨rfl, below_alloc HB.out _⟩
      · have HG : Aside0 (getL no (l.drop (k + 1)) = getL no l) := ⟨by rw [← HN2.out, if_neg he]⟩
        have heb : (n1 == no) = false := by rw [beq_eq_false_iff_ne]; exact he
        clear HN2
        go_wp2_with fail
        exact ⟨⟨k + 1, by omega, by rfl, HG, HB2⟩, by simp only [intOf]; omega⟩
    · have hkl : k = l.length := by omega
      have HG : Aside0 (getL no l = (⟨#[]⟩, false)) := ⟨by rw [← HN.out, hkl, List.drop_length]; rfl⟩
      have hlti : ¬ ((k : Int) < (l.length : Int)) := by omega
      clear HN hkl
      go_wp2_with fail
      rw [HG.out]
      exact bodyPost_ret (v := .tuple #[.string ⟨#[]⟩, .bool false]) (by simp [results, Tryz.results30, go_sem]) rfl ⟨rfl, HB.out⟩
end Go.Proofs.YtbnbplppgbmkpaaGreatDoor
