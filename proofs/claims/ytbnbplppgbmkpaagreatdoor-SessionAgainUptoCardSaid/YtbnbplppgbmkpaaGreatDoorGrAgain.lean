/- For any member and any message: the law SessionAgain returns true: a message that is sealed twice is as sealed once, and sealing changes no other field. Conditions: those of the given second card (what came in is of bulk at most 1048576; what its row lists of the package-level tables, tied to the text by the program); no other. -/
import Derived.Test.YtbnbplppgbmkpaaGreatDoorGrG
import Derived.Test.YtbnbplppgbmkpaaGreatDoorGrA
import Derived.Test.YtbnbplppgbmkpaaGreatDoorGrH
namespace Go.Proofs.YtbnbplppgbmkpaaGreatDoor
open Go.RowKit Go.Extern.Stop Go.Stop Go.Extern Go.Proofs.YtbnbplppgbmkpaaGreatDoorW.PrintWords PSessionSeals

theorem rd_at {l : List S38} {k : Nat} (h : k < l.length) : rd_T38 l (k : Int) = l[k] := by simp [rd_T38, h]
set_option maxHeartbeats 1000000 in
theorem RefGet_any (typ no : Int) (l : List S38) (A : Option Addr) (cp : Nat) (w : World) (hr : Kd.C k38 w A l.length l) :
    Calls Tryz.prog 14 #[.agg #[.int .i64 typ, .slice A l.length cp], .int .i64 no] w fun e w' => e = .returned (.tuple #[.string (getL no l).1, .bool (getL no l).2]) ∧ Below w.heap.size w w' := by
  have hlm := Kd.C_max hr
  have hb := below_alloc (Below.refl w.heap.size w) (.cells #[.int .i64 typ, .slice A l.length cp] 29)
  have HB0 := Aside0.mk hb
  have HR := Aside0.mk (Kd.C_below hr hb)
  have p1 := blk_new w (.cells #[.int .i64 typ, .slice A l.length cp] 29)
  have m1 := blk_cell p1 1
  simp only [List.getElem?_toArray, List.getElem?_cons_zero, List.getElem?_cons_succ] at m1
  clear hr hb p1
  go_enter Tryz.func14, Tryz.ntmps14
  go_wp2_with fail
  go_loopw [6] (fun v6 wr => ∃ (k : Nat), k ≤ l.length ∧ v6 = .int .i64 k ∧ Aside0 (getL no (l.drop k) = getL no l) ∧ wr = w.alloc (.cells #[.int .i64 typ, .slice A l.length cp] 29)) (fun i _ => l.length - (intOf i).toNat)
  case atStart => exact ⟨0, Nat.zero_le _, rfl, ⟨rfl⟩, rfl⟩
  case round =>
    obtain ⟨k, hk, rfl, HN, rfl⟩ := hrel
    by_cases hlt : k < l.length
    · obtain ⟨ad, hA, c0, c1⟩ := at_T38 HR.out (k : Int) (by omega) (by omega)
      subst hA
      obtain ⟨n1, hn1⟩ : ∃ n1, n1 = (rd_T38 l (k : Int)).f0 := ⟨_, rfl⟩
      obtain ⟨s, hs⟩ : ∃ s, s = (rd_T38 l (k : Int)).f1 := ⟨_, rfl⟩
      rw [← hn1] at c0
      rw [← hs] at c1
      rw [Int.toNat_natCast] at c0 c1
      have hdr : l.drop k = ⟨n1, s⟩ :: l.drop (k + 1) := by
        rw [hn1, hs, rd_at hlt, List.drop_eq_getElem_cons hlt]
      have HN2 : Aside0 ((if n1 = no then (s, true) else getL no (l.drop (k + 1))) = getL no l) := ⟨by rw [← HN.out, hdr]; rfl⟩
      have hlti : (k : Int) < (l.length : Int) := by omega
      clear hn1 hs hdr HN
      by_cases he : n1 = no
      · have HG : Aside0 (getL no l = (s, true)) := ⟨by rw [← HN2.out, if_pos he]⟩
        have heb : (n1 == no) = true := by rw [he]; simp
        clear HN2
        go_wp2_with fail
        rw [HG.out]
        exact bodyPost_ret (v := .tuple #[.string s, .bool true]) (by simp [results, Tryz.results14, go_sem]) rfl ⟨rfl, HB0.out⟩
      · have HG : Aside0 (getL no (l.drop (k + 1)) = getL no l) := ⟨by rw [← HN2.out, if_neg he]⟩
        have heb : (n1 == no) = false := by rw [beq_eq_false_iff_ne]; exact he
        clear HN2
        go_wp2_with fail
        exact ⟨⟨k + 1, by omega, by rfl, HG, trivial⟩, by simp only [intOf]; omega⟩
    · have hkl : k = l.length := by omega
      have HG : Aside0 (getL no l = (⟨#[]⟩, false)) := ⟨by rw [← HN.out, hkl, List.drop_length]; rfl⟩
      have hlti : ¬ ((k : Int) < (l.length : Int)) := by omega
      clear HN hkl
      go_wp2_with fail
      rw [HG.out]
      exact bodyPost_ret (v := .tuple #[.string ⟨#[]⟩, .bool false]) (by simp [results, Tryz.results14, go_sem]) rfl ⟨rfl, HB0.out⟩

theorem neS38 (n : Int) (s : ByteArray) (w : World) : (binOp .neq 38 (.agg #[.int .i64 n, .string s]) (.agg #[.int .i64 n, .string s])).run Tryz.prog w = .ok (.bool false) w := by
  have h := eqA38 9998 w n n s s
  simp only [binOp]
  simp [Op.equal, Op.maxDepth, h]
set_option maxHeartbeats 1000000 in
theorem Same_self (typ : Int) (l : List S38) (A A' : Option Addr) (cp cp' : Nat) (w : World) (hr : Kd.C k38 w A l.length l) (hr' : Kd.C k38 w A' l.length l) :
    Calls Tryz.prog 11 #[.agg #[.int .i64 typ, .slice A l.length cp], .agg #[.int .i64 typ, .slice A' l.length cp']] w fun e w' => e = .returned (.bool true) ∧ Below w.heap.size w w' := by
  have hlm := Kd.C_max hr
  have HB0 := Aside0.mk (below_alloc (below_alloc (Below.refl w.heap.size w) (.cells #[.int .i64 typ, .slice A l.length cp] 29)) (.cells #[.int .i64 typ, .slice A' l.length cp'] 29))
  have HR := Aside0.mk hr
  have HR' := Aside0.mk hr'
  have p1 := blk_alloc (blk_new w (.cells #[.int .i64 typ, .slice A l.length cp] 29)) (.cells #[.int .i64 typ, .slice A' l.length cp'] 29)
  have p2 := blk_new (w.alloc (.cells #[.int .i64 typ, .slice A l.length cp] 29)) (.cells #[.int .i64 typ, .slice A' l.length cp'] 29)
  simp only [World.size_alloc] at p2
  have P0 := Aside0.mk (And.intro p1 p2)
  have m0 := blk_cell p1 0
  have m1 := blk_cell p1 1
  have m2 := blk_cell p2 0
  have m3 := blk_cell p2 1
  simp only [List.getElem?_toArray, List.getElem?_cons_zero, List.getElem?_cons_succ] at m0 m1 m2 m3
  clear hr hr' p1 p2
  go_enter Tryz.func11, Tryz.ntmps11
  go_wp2_with fail
  clear m0 m1 m2 m3
  go_loopw [5] (fun v5 wr => ∃ (k : Nat), k ≤ l.length ∧ v5 = .int .i64 k ∧ Aside0 (wr.heap[w.heap.size]? = some (.cells #[.int .i64 typ, .slice A l.length cp] 29 (0, 0)) ∧ wr.heap[w.heap.size + 1]? = some (.cells #[.int .i64 typ, .slice A' l.length cp'] 29 (0, 0))) ∧ Aside0 (Below w.heap.size w wr)) (fun i _ => l.length - (intOf i).toNat)
  case atStart => exact ⟨0, Nat.zero_le _, rfl, P0, HB0⟩
  case round =>
    clear P0 HB0
    obtain ⟨k, hk, rfl, HP, HB⟩ := hrel
    have m1 := blk_cell HP.out.1 1
    have m3 := blk_cell HP.out.2 1
    simp only [List.getElem?_toArray, List.getElem?_cons_zero, List.getElem?_cons_succ] at m1 m3
    by_cases hlt : k < l.length
    · obtain ⟨ad, hA, c0, c1⟩ := at_T38 (Kd.C_below HR.out HB.out) (k : Int) (by omega) (by omega)
      obtain ⟨ad', hA', c2, c3⟩ := at_T38 (Kd.C_below HR'.out HB.out) (k : Int) (by omega) (by omega)
      subst hA hA'
      obtain ⟨n1, hn1⟩ : ∃ n1, n1 = (rd_T38 l (k : Int)).f0 := ⟨_, rfl⟩
      obtain ⟨s, hs⟩ : ∃ s, s = (rd_T38 l (k : Int)).f1 := ⟨_, rfl⟩
      rw [← hn1] at c0 c2
      rw [← hs] at c1 c3
      rw [Int.toNat_natCast] at c0 c1 c2 c3
      have hlti : (k : Int) < (l.length : Int) := by omega
      have hE := neS38 n1 s
      clear hn1 hs
      go_wp2_with fail
      go_quiet (fail)
      have HP2 : Aside0 ((wr.drewN nq).heap[w.heap.size]? = some (.cells #[.int .i64 typ, .slice (some ad) l.length cp] 29 (0, 0)) ∧ (wr.drewN nq).heap[w.heap.size + 1]? = some (.cells #[.int .i64 typ, .slice (some ad') l.length cp'] 29 (0, 0))) := ⟨⟨blk_drewN HP.out.1 nq, blk_drewN HP.out.2 nq⟩⟩
      have HB2 : Aside0 (Below w.heap.size w (wr.drewN nq)) := ⟨HB.out.trans ⟨rfl, rfl, rfl, Nat.le_refl _, fun _ _ => rfl⟩⟩
      clear HP HB c0 c1 c2 c3 m1 m3
      go_wp2_with fail
      exact ⟨⟨k + 1, by omega, by rfl, HP2, HB2⟩, by simp only [intOf]; omega⟩
    · have hlti : ¬ ((k : Int) < (l.length : Int)) := by omega
      go_wp2_with fail
      go_ret
      exact ⟨rfl, HB.out⟩
end Go.Proofs.YtbnbplppgbmkpaaGreatDoor

namespace Go.Proofs.YtbnbplppgbmkpaaGreatDoor
open Go.RowKit Go.Extern.Stop Go.Stop Go.Extern Go.Proofs.YtbnbplppgbmkpaaGreatDoorW.PrintWords PSessionSeals

theorem filter_not (p : S38 → Bool) (l : List S38) : (l.filter (fun x => !p x)).filter (fun x => !p x) = l.filter (fun x => !p x) := by
  rw [List.filter_filter]
  congr 1
  funext x
  cases p x <;> rfl
theorem setL_rest (no : Int) (t : ByteArray) (l : List S38) : (setL no t l).filter (fun x => !(isNo no) x) = l.filter (fun x => !(isNo no) x) := by
  unfold setL
  obtain ⟨m, hm⟩ : ∃ m, m = l.filter (fun x => !(isNo no) x) := ⟨_, rfl⟩
  have hf : m.filter (fun x => !(isNo no) x) = m := by rw [hm]; exact filter_not _ _
  rw [← hm]
  have h0 : (⟨no, t⟩ : S38) :: m.drop (setK no m) = [⟨no, t⟩] ++ m.drop (setK no m) := rfl
  rw [h0, List.filter_append, List.filter_append]
  have h1 : List.filter (fun x => !(isNo no) x) [(⟨no, t⟩ : S38)] = [] := by simp [isNo]
  rw [h1, List.nil_append, ← List.filter_append, List.take_append_drop, hf]
theorem setL_bare (s : ByteArray) (l : List S38) : (setL 64 s l).filter (fun x => !isMac x) = l.filter (fun x => !isMac x) := setL_rest 64 s l
theorem macR_set (ks key : List Int) (d typ : Int) (s : ByteArray) (l : List S38) : macR ks key d typ (setL 64 s l) = macR ks key d typ l := by
  unfold macR
  rw [setL_bare]
theorem setL_of (no : Int) (s : ByteArray) {l l' : List S38} (h : l.filter (fun x => !(isNo no) x) = l'.filter (fun x => !(isNo no) x)) : setL no s l = setL no s l' := by
  unfold setL
  rw [h]
theorem setL_set (no : Int) (s : ByteArray) (l : List S38) : setL no s (setL no s l) = setL no s l := setL_of no s (setL_rest no s l)
theorem seal_again (ks key : List Int) (d typ : Int) (l : List S38) : sealT ks key d typ (setL 64 (macR ks key d typ l).1 l) = sealT ks key d typ l := by
  unfold sealT
  rw [macR_set, setL_set]
theorem setL_count (no : Int) (t : ByteArray) (l : List S38) : ((setL no t l).filter (isNo no)).length = 1 := by
  unfold setL
  obtain ⟨m, hm⟩ : ∃ m, m = l.filter (fun x => !(isNo no) x) := ⟨_, rfl⟩
  have hf : ∀ k, (m.take k).filter (isNo no) = [] ∧ (m.drop k).filter (isNo no) = [] := fun k => by
    have hx : ∀ x ∈ m, isNo no x = false := by
      intro x hx
      rw [hm, List.mem_filter] at hx
      simpa using hx.2
    refine ⟨List.filter_eq_nil_iff.2 fun x h => ?_, List.filter_eq_nil_iff.2 fun x h => ?_⟩
    · rw [hx x (List.mem_of_mem_take h)]; decide
    · rw [hx x (List.mem_of_mem_drop h)]; decide
  rw [← hm, List.filter_append, (hf _).1, List.nil_append, List.filter_cons, if_pos (by simp [isNo]), (hf _).2]
  rfl
theorem setL_mem (no : Int) (t : ByteArray) (l : List S38) (x : S38) (hx : x ∈ setL no t l) (h : x.f0 ≠ no) : x ∈ l.filter (fun x => !(isNo no) x) := by
  unfold setL at hx
  rw [List.mem_append, List.mem_cons] at hx
  rcases hx with hx | rfl | hx
  · exact List.mem_of_mem_take hx
  · exact absurd rfl h
  · exact List.mem_of_mem_drop hx
theorem checkL_sorted : ∀ (l : List S38) (last : Int), checkL last l = 0 → (∀ x ∈ l, last < x.f0) ∧ l.Pairwise (fun a b => a.f0 < b.f0)
  | [], _, _ => ⟨by simp, .nil⟩
  | x :: r, last, h => by
    unfold checkL at h
    cases hk : kindOf x.f0 with
    | none => rw [hk] at h; simp at h
    | some p =>
      obtain ⟨k, n⟩ := p
      rw [hk] at h
      dsimp only at h
      by_cases hl : x.f0 ≤ last
      · rw [if_pos hl] at h; simp at h
      · rw [if_neg hl] at h
        by_cases hw : wrongOf k n x.f1 = 0
        · rw [if_pos hw] at h
          obtain ⟨h1, h2⟩ := checkL_sorted r x.f0 h
          refine ⟨fun y hy => ?_, .cons h1 h2⟩
          rcases List.mem_cons.1 hy with rfl | hy
          · omega
          · have := h1 y hy; omega
        · rw [if_neg hw] at h; exact absurd h hw
theorem getL_sorted : ∀ (l : List S38) (x : S38), l.Pairwise (fun a b => a.f0 < b.f0) → x ∈ l → getL x.f0 l = (x.f1, true)
  | [], x, _, hx => by cases hx
  | y :: r, x, hp, hx => by
    unfold getL
    cases hp with
    | cons h1 h2 =>
      rcases List.mem_cons.1 hx with rfl | hx
      · rw [if_pos rfl]
      · have := h1 x hx
        rw [if_neg (by omega)]
        exact getL_sorted r x h2 hx
theorem getL_bare (no : Int) (h : no ≠ 64) : ∀ l : List S38, getL no (l.filter (fun x => !isMac x)) = getL no l
  | [] => rfl
  | x :: r => by
    rw [List.filter_cons]
    by_cases hx : x.f0 = 64
    · have : (!isMac x) = false := by unfold isMac; rw [hx]; rfl
      rw [if_neg (by rw [this]; decide), getL_bare no h r]
      conv => rhs; unfold getL
      rw [if_neg (by omega)]
    · have : (!isMac x) = true := by unfold isMac; simp [hx]
      rw [if_pos this]
      unfold getL
      rw [getL_bare no h r]
theorem mac_sorted {ks key : List Int} {d typ : Int} {l : List S38} (h : (macR ks key d typ l).2 = 0) : checkN typ (l.filter (fun x => !isMac x)) = 0 := by
  unfold macR at h
  by_cases he : (encodeF d typ (l.filter (fun x => !isMac x))).2 = 0
  · clear h
    unfold encodeF at he
    by_cases hd : 1 ≤ d ∧ d < 4
    · rw [if_pos hd] at he
      unfold encF at he
      by_cases hc : checkN typ (l.filter (fun x => !isMac x)) = 0
      · exact hc
      · rw [if_neg hc] at he; exact he
    · rw [if_neg hd] at he; simp at he
  · rw [if_neg he] at h; exact absurd h he
/-- What is there of a field that sealing did not set. -/
theorem seal_others {ks key : List Int} {d typ : Int} {l : List S38} (h : (macR ks key d typ l).2 = 0) (t : ByteArray) (x : S38) (hx : x ∈ setL 64 t l) (hn : x.f0 ≠ 64) : getL x.f0 l = (x.f1, true) := by
  have hm := setL_mem 64 t l x hx hn
  have hc := mac_sorted h
  unfold checkN at hc
  by_cases ht : typesL.contains typ = true
  · rw [if_pos ht] at hc
    by_cases h24 : 24 < (l.filter (fun x => !isMac x)).length
    · rw [if_pos h24] at hc; simp at hc
    · rw [if_neg h24] at hc
      rw [← getL_bare x.f0 hn l]
      exact getL_sorted _ x (checkL_sorted _ _ hc).2 hm
  · rw [if_neg ht] at hc; simp at hc
end Go.Proofs.YtbnbplppgbmkpaaGreatDoor

namespace Go.Proofs.YtbnbplppgbmkpaaGreatDoor
open Go.RowKit Go.Extern.Stop Go.Stop Go.Extern Go.Proofs.YtbnbplppgbmkpaaGreatDoorW.PrintLast Go.Proofs.YtbnbplppgbmkpaaGreatDoorW.PrintWords PSessionSeals

theorem macR_size (ks key : List Int) (d typ : Int) (l : List S38) : (macR ks key d typ l).1.size ≤ 16 := by
  unfold macR
  split
  · show (strOfNums (digs _ 8)).size ≤ 16
    have := digs_length (macF ks key (encodeF d typ (l.filter (fun x => !isMac x))).1) 8 (by decide)
    rw [strOfNums_size, this]
    decide
  · show (ByteArray.mk #[]).size ≤ 16
    decide
theorem setL_sizes (no : Int) (t : ByteArray) (l : List S38) (ht : t.size ≤ maxLen) (hs : ∀ x ∈ l, x.f1.size ≤ maxLen) : ∀ x ∈ setL no t l, x.f1.size ≤ maxLen := by
  intro x hx
  unfold setL at hx
  rw [List.mem_append, List.mem_cons] at hx
  rcases hx with hx | rfl | hx
  · exact hs x ((List.mem_filter.1 (List.mem_of_mem_take hx)).1)
  · exact ht
  · exact hs x ((List.mem_filter.1 (List.mem_of_mem_drop hx)).1)
/-- How many fields 64 there are among the first. -/
def cnt (L : List S38) (k : Nat) : Nat := ((L.take k).filter (isNo 64)).length
theorem cnt_le (L : List S38) (k : Nat) : cnt L k ≤ k := Nat.le_trans (List.length_filter_le _ _) (by rw [List.length_take]; omega)
theorem cnt_succ (L : List S38) (k : Nat) (h : k < L.length) : cnt L (k + 1) = cnt L k + (if L[k].f0 = 64 then 1 else 0) := by
  unfold cnt
  rw [List.take_add_one, List.getElem?_eq_getElem h, List.filter_append, List.length_append]
  congr 1
  by_cases he : L[k].f0 = 64
  · rw [if_pos he]; simp [isNo, he]
  · rw [if_neg he]; simp [isNo, he]

set_option maxRecDepth 4000 in
set_option maxHeartbeats 2000000 in
theorem again_any (key : List Int) (code : ByteArray) (s0 s1 : Value) (d typ : Int) (l : List S38) (A AK : Option Addr) (cp ck : Nat) (w : World) (hr : Kd.C k38 w A l.length l) (hl : l.length ≤ 80000000) (hs : ∀ x ∈ l, x.f1.size ≤ maxLen) (ht : Env w) (hk : Kd.C (Kd.int .u8) w AK key.length key) (hkl : key.length ≤ 140737488355328) (hks : ∀ i, i < 64 → w.cell? ⟨4, i, none⟩ = some (.int .u32 (ksL.getD i 0))) :
    Calls Tryz.prog 5 #[.agg #[.string code, .int .i64 d, .slice AK key.length ck, s0, s1], .agg #[.int .i64 typ, .slice A l.length cp]] w fun e w' => e = .returned (.bool true) ∧ Below w.heap.size w w' := by
  have h4 : 4 < w.heap.size := Nat.lt_of_lt_of_le (by decide) ht.deb.lt
  have b1 := below_alloc (below_alloc (Below.refl w.heap.size w) (.cells #[.string code, .int .i64 d, .slice AK key.length ck, s0, s1] 26)) (.cells #[.int .i64 typ, .slice A l.length cp] 29)
  have pm := blk_alloc (blk_new w (.cells #[.string code, .int .i64 d, .slice AK key.length ck, s0, s1] 26)) (.cells #[.int .i64 typ, .slice A l.length cp] 29)
  have px := blk_new (w.alloc (.cells #[.string code, .int .i64 d, .slice AK key.length ck, s0, s1] 26)) (.cells #[.int .i64 typ, .slice A l.length cp] 29)
  simp only [World.size_alloc] at px
  have HSH := Aside0.mk (shown_any _ (ht.below b1) (fun i hi => (b1.cell (p := ⟨4, i, none⟩) h4).trans (hks i hi)))
  have HPM := Aside0.mk pm
  have HPX := Aside0.mk px
  have HB1 := Aside0.mk b1
  have HT := Aside0.mk ht
  have HKS := Aside0.mk hks
  have HK := Aside0.mk hk
  have HR := Aside0.mk hr
  have HS := Aside0.mk hs
  clear hr hs ht hk hks b1 pm px
  go_enter Tryz.func5, Tryz.ntmps5
  go_wp2_with fail
  refine HSH.out.mono ?_
  rintro e w1 ⟨rfl, hb1⟩
  have HB2 := Aside0.mk (HB1.out.trans (hb1.mono HB1.out.size))
  have HM1 := Aside0.mk (blk_below HPM.out hb1)
  have HX1 := Aside0.mk (blk_below HPX.out hb1)
  clear hb1 HB1 HPM HPX HSH
  have m0 := blk_cell HM1.out 0
  have m1 := blk_cell HM1.out 1
  have m2 := blk_cell HM1.out 2
  have m3 := blk_cell HM1.out 3
  have m4 := blk_cell HM1.out 4
  have x0 := blk_cell HX1.out 0
  have x1 := blk_cell HX1.out 1
  simp only [List.getElem?_toArray, List.getElem?_cons_zero, List.getElem?_cons_succ] at m0 m1 m2 m3 m4 x0 x1
  have HSE := Seal_any ksL key code s0 s1 d typ l A AK cp ck w1 (Kd.C_below HR.out HB2.out) (by omega) HS.out (HT.out.below HB2.out) (Kd.C_below HK.out HB2.out) hkl (fun i hi => (HB2.out.cell (p := ⟨4, i, none⟩) h4).trans (HKS.out i hi))
  have hmac := fun h => seal_others (ks := ksL) (key := key) (d := d) (typ := typ) (l := l) h (macR ksL key d typ l).1
  have hagain := seal_again ksL key d typ l
  have hset := setL_length 64 (macR ksL key d typ l).1 l
  have hcnt := setL_count 64 (macR ksL key d typ l).1 l
  have hsz : Aside0 (∀ x ∈ setL 64 (macR ksL key d typ l).1 l, x.f1.size ≤ maxLen) := ⟨setL_sizes 64 _ l (Nat.le_trans (macR_size ksL key d typ l) (by decide)) HS.out⟩
  have hST : sealT ksL key d typ l = (if (macR ksL key d typ l).2 = 0 then (typ, setL 64 (macR ksL key d typ l).1 l, 0) else (0, [], (macR ksL key d typ l).2)) := rfl
  obtain ⟨r, hre⟩ : ∃ r, r = macR ksL key d typ l := ⟨_, rfl⟩
  rw [← hre] at hmac hagain hset hcnt hsz hST
  obtain ⟨s, en⟩ := r
  dsimp only at hmac hagain hset hcnt hsz hST
  rw [hST] at HSE hagain
  clear hre hST
  by_cases hen : en = 0
  · subst hen
    simp only [if_pos] at HSE hagain
    obtain ⟨L, hL⟩ : ∃ L, L = setL 64 s l := ⟨_, rfl⟩
    rw [← hL] at HSE hmac hagain hset hcnt hsz
    clear hL
    have HSE := Aside0.mk HSE
    have HMA := Aside0.mk (hmac rfl)
    have HAG := Aside0.mk hagain
    have HCN := Aside0.mk hcnt
    clear hmac hagain hcnt
    go_wp2_with fail
    refine HSE.out.mono ?_
    rintro e w2 ⟨A2, c2, rfl, hq2, hb2⟩
    have hb3 := HB2.out.trans (hb2.mono HB2.out.size)
    have hb4 := below_alloc hb3 (.cells #[.int .i64 typ, .slice A2 L.length c2] 29)
    have p3 := blk_new w2 (.cells #[.int .i64 typ, .slice A2 L.length c2] 29)
    have hq3 := frow_below hq2 (below_alloc (Below.refl w2.heap.size w2) (.cells #[.int .i64 typ, .slice A2 L.length c2] 29))
    have hb13 := below_alloc hb2 (.cells #[.int .i64 typ, .slice A2 L.length c2] 29)
    have m0 := blk_cell (blk_below HM1.out hb13) 0
    have m1 := blk_cell (blk_below HM1.out hb13) 1
    have m2 := blk_cell (blk_below HM1.out hb13) 2
    have m3 := blk_cell (blk_below HM1.out hb13) 3
    have m4 := blk_cell (blk_below HM1.out hb13) 4
    have x0 := blk_cell p3 0
    have x1 := blk_cell p3 1
    simp only [List.getElem?_toArray, List.getElem?_cons_zero, List.getElem?_cons_succ] at m0 m1 m2 m3 m4 x0 x1
    have HSE2 := Seal_any ksL key code s0 s1 d typ L A2 AK c2 ck _ (frow_reads hq3) (by omega) hsz.out (HT.out.below hb4) (Kd.C_below HK.out hb4) hkl (fun i hi => (hb4.cell (p := ⟨4, i, none⟩) h4).trans (HKS.out i hi))
    rw [HAG.out] at HSE2
    have HSE2 := Aside0.mk HSE2
    have HB4 := Aside0.mk hb4
    have HP3 := Aside0.mk p3
    have HQ3 := Aside0.mk hq3
    have HX3 := Aside0.mk (blk_below HX1.out hb13)
    clear hb3 hb4 p3 hq3 hb13 hq2 hb2
    dsimp only
    go_wp2_with fail
    clear m0 m1 m2 m3 m4 x0 x1
    obtain ⟨pa, hpa⟩ : ∃ pa, pa = w2.heap.size := ⟨_, rfl⟩
    rw [← hpa] at HP3 ⊢
    clear hpa
    generalize w2.alloc (.cells #[.int .i64 typ, .slice A2 L.length c2] 29) = W3 at *
    refine HSE2.out.mono ?_
    rintro e w4 ⟨A4, c4, rfl, hq4, hb4⟩
    have hb35 := below_alloc hb4 (.cells #[.int .i64 typ, .slice A4 L.length c4] 29)
    have p5 := blk_new w4 (.cells #[.int .i64 typ, .slice A4 L.length c4] 29)
    have hq5 := frow_below hq4 (below_alloc (Below.refl w4.heap.size w4) (.cells #[.int .i64 typ, .slice A4 L.length c4] 29))
    have hb5 := HB4.out.trans (hb35.mono HB4.out.size)
    have HB5 := Aside0.mk hb5
    have HP5 := Aside0.mk (blk_below HP3.out hb35)
    have HX5 := Aside0.mk (blk_below HX3.out hb35)
    have HQ5 := Aside0.mk (frow_reads (frow_below HQ3.out hb35))
    have HSM := Aside0.mk (Same_self typ L A2 A4 c2 c4 _ HQ5.out (frow_reads hq5))
    have x0 := blk_cell HP5.out 0
    have x1 := blk_cell HP5.out 1
    have y0 := blk_cell p5 0
    have y1 := blk_cell p5 1
    simp only [List.getElem?_toArray, List.getElem?_cons_zero, List.getElem?_cons_succ] at x0 x1 y0 y1
    clear hb35 p5 hq5 hb5 hq4 hb4 HSE2 HB4 HP3 HX3 HQ3
    dsimp only
    go_wp2_with fail
    clear x0 x1 y0 y1
    generalize w4.alloc (.cells #[.int .i64 typ, .slice A4 L.length c4] 29) = W5 at *
    refine HSM.out.mono ?_
    rintro e w6 ⟨rfl, hb6⟩
    have HB6 := Aside0.mk (HB5.out.trans (hb6.mono HB5.out.size))
    have HP6 := Aside0.mk (blk_below HP5.out hb6)
    have HX6 := Aside0.mk (blk_below HX5.out hb6)
    have HQ6 := Aside0.mk (Kd.C_below HQ5.out hb6)
    have HR6 := Aside0.mk (Kd.C_below HR.out HB6.out)
    clear hb6 HB5 HP5 HX5 HQ5 HSM
    have hL63 := Kd.C_max HQ6.out
    dsimp only
    go_wp2_with fail
    go_loopw [11, 12] (fun v11 v12 wr => ∃ (k : Nat), k ≤ L.length ∧ v12 = .int .i64 k ∧ v11 = .int .i64 (cnt L k : Nat) ∧ Aside0 (Below w6.heap.size w6 wr)) (fun _ i _ => L.length - (intOf i).toNat)
    case atStart => exact ⟨0, Nat.zero_le _, rfl, rfl, ⟨Below.refl _ _⟩⟩
    case round =>
      obtain ⟨k, hk, rfl, rfl, HB⟩ := hrel
      have x0 := blk_cell (blk_below HP6.out HB.out) 0
      have x1 := blk_cell (blk_below HP6.out HB.out) 1
      have y0 := blk_cell (blk_below HX6.out HB.out) 0
      have y1 := blk_cell (blk_below HX6.out HB.out) 1
      simp only [List.getElem?_toArray, List.getElem?_cons_zero, List.getElem?_cons_succ] at x0 x1 y0 y1
      have hcl := cnt_le L k
      by_cases hlt : k < L.length
      · obtain ⟨ad, hA, c0, c1⟩ := at_T38 (Kd.C_below HQ6.out HB.out) (k : Int) (by omega) (by omega)
        have hcs := cnt_succ L k hlt
        have hg := HMA.out L[k] (List.getElem_mem hlt)
        rw [rd_at hlt] at c0 c1
        obtain ⟨n1, hn1⟩ : ∃ n1, n1 = L[k].f0 := ⟨_, rfl⟩
        obtain ⟨t, htt⟩ : ∃ t, t = L[k].f1 := ⟨_, rfl⟩
        rw [← hn1] at c0 hcs hg
        rw [← htt] at c1 hg
        rw [Int.toNat_natCast] at c0 c1
        have hlti : (k : Int) < (L.length : Int) := by omega
        clear hn1
        by_cases he : n1 = 64
        · have HCS := Aside0.mk hcs
          subst hA
          subst he
          clear hcs hg htt
          go_wp2_with fail
          exact ⟨⟨k + 1, by omega, by rfl, by rw [HCS.out, if_pos rfl]; rfl, HB⟩, by simp only [intOf]; omega⟩
        · have HG := Aside0.mk (hg he)
          have HCS : Aside0 (cnt L (k + 1) = cnt L k) := ⟨by rw [hcs, if_neg he]; rfl⟩
          have heb : (n1 == 64) = false := by rw [beq_eq_false_iff_ne]; exact he
          have HGET := Aside0.mk (RefGet_any typ n1 l A cp wr.drew (Kd.C_drew (Kd.C_below HR6.out HB.out)))
          rw [HG.out] at HGET
          subst hA
          have HTT := Aside0.mk htt
          clear hcs hg HG htt
          go_wp2_with fail
          refine start_ (n := 13) (S := fun w' => w'.cell? ⟨w.heap.size + 1, 0, none⟩ = some (.int .i64 typ) ∧ w'.cell? ⟨w.heap.size + 1, 1, none⟩ = some (.slice A l.length cp) ∧ w'.cell? ⟨pa, 1, none⟩ = some (.slice (some ad) L.length c2) ∧ w'.cell? (ad.add (k * 2)) = some (.int .i64 n1)) (ds := [7]) #[false, false, false, false, false, false, false, false, false, false, false, false, false] (by kernel_rfl) rfl rfl ⟨y0, y1, x1, c0⟩ (fun hHeld => ?_)
          refine pure_ (i := 1) (N := some 56) (v := ?_) (a' := ?_) #[false, true, false, false, false, false, false, false, false, false, false, false, false] rfl rfl (by kernel_rfl) (fun _ _ _ h => h) (Or.inl ⟨by rfl, ?_⟩) ?_ ?_
          rotate_left
          · intro w'
            go_simp
            with_reducible rfl
          rotate_left
          · simp only [Act.put, List.setIfInBounds_toArray, List.set_cons_zero, List.set_cons_succ]
            rfl
          refine pure_ (i := 3) (N := some 58) (v := ?_) (a' := ?_) #[false, true, false, true, false, false, false, false, false, false, false, false, false] rfl rfl (by kernel_rfl) (fun _ _ _ h => h) (Or.inl ⟨by rfl, ?_⟩) ?_ ?_
          rotate_left
          · intro w'
            go_simp
            with_reducible rfl
          rotate_left
          · simp only [Act.put, List.setIfInBounds_toArray, List.set_cons_zero, List.set_cons_succ]
            rfl
          refine take_ (i := 0) (N := some 55) (v := ?_) (a' := ?_) #[true, true, false, true, false, false, false, false, false, false, false, false, false] rfl rfl (by kernel_rfl) (fun _ _ _ h => h) (Or.inl ⟨by rfl, ?_⟩) hHeld ?_ ?_
          rotate_left
          · rintro w' ⟨s0, s1, s2, s3⟩
            go_simp
            with_reducible rfl
          rotate_left
          · simp only [Act.put, List.setIfInBounds_toArray, List.set_cons_zero, List.set_cons_succ]
            rfl
          refine take_ (i := 2) (N := some 57) (v := ?_) (a' := ?_) #[true, true, true, true, false, false, false, false, false, false, false, false, false] rfl rfl (by kernel_rfl) (fun _ _ _ h => h) (Or.inl ⟨by rfl, ?_⟩) hHeld ?_ ?_
          rotate_left
          · rintro w' ⟨s0, s1, s2, s3⟩
            go_simp
            with_reducible rfl
          rotate_left
          · simp only [Act.put, List.setIfInBounds_toArray, List.set_cons_zero, List.set_cons_succ]
            rfl
          refine pure_ (i := 4) (N := some 59) (v := ?_) (a' := ?_) #[true, true, true, true, true, false, false, false, false, false, false, false, false] rfl rfl (by kernel_rfl) (fun _ _ _ h => h) (Or.inl ⟨by rfl, ?_⟩) ?_ ?_
          rotate_left
          · intro w'
            go_simp
            with_reducible rfl
          rotate_left
          · simp only [Act.put, List.setIfInBounds_toArray, List.set_cons_zero, List.set_cons_succ]
            rfl
          refine pure_ (i := 5) (N := some 60) (v := ?_) (a' := ?_) #[true, true, true, true, true, true, false, false, false, false, false, false, false] rfl rfl (by kernel_rfl) (fun _ _ _ h => h) (Or.inl ⟨by rfl, ?_⟩) ?_ ?_
          rotate_left
          · intro w'
            go_simp
            with_reducible rfl
          rotate_left
          · simp only [Act.put, List.setIfInBounds_toArray, List.set_cons_zero, List.set_cons_succ]
            rfl
          refine take_ (i := 6) (N := some 61) (v := ?_) (a' := ?_) #[true, true, true, true, true, true, true, false, false, false, false, false, false] rfl rfl (by kernel_rfl) (fun _ _ _ h => h) (Or.inl ⟨by rfl, ?_⟩) hHeld ?_ ?_
          rotate_left
          · rintro w' ⟨s0, s1, s2, s3⟩
            go_simp
            with_reducible rfl
          rotate_left
          · simp only [Act.put, List.setIfInBounds_toArray, List.set_cons_zero, List.set_cons_succ]
            rfl
          refine last_ (i := 7) (N := some 62) #[true, true, true, true, true, true, true, true, false, false, false, false, false] rfl rfl (by kernel_rfl) (by decide) (fun K hK => ?_)
          refine goes_ Tryz.func14 (by kernel_rfl) rfl #[.agg #[.int .i64 typ, .slice A l.length cp], .int .i64 n1] (by rfl) rfl rfl (by simp only [List.map_toArray, List.map_cons, List.map_nil]; rfl) ?_
          with_reducible refine (HGET.out).mono ?_
          rintro e w7 ⟨rfl, hb7⟩
          refine ⟨_, rfl, ?_⟩
          refine hK.out _ _ ?_
          clear hK K
          refine norm_ (a' := ?_) ?_ ?_
          rotate_left
          · show Act.put _ (some 62) _ = _
            simp only [Act.put, List.setIfInBounds_toArray, List.set_cons_zero, List.set_cons_succ]
            rfl
          refine pure_ (i := 8) (N := some 54) (v := ?_) (a' := ?_) #[true, true, true, true, true, true, true, true, true, false, false, false, false] rfl rfl (by kernel_rfl) (fun _ _ _ h => h) (Or.inl ⟨by rfl, ?_⟩) ?_ ?_
          rotate_left
          · intro w'
            go_simp
            with_reducible rfl
          rotate_left
          · simp only [Act.put, List.setIfInBounds_toArray, List.set_cons_zero, List.set_cons_succ]
            rfl
          refine pure_ (i := 9) (N := some 63) (v := ?_) (a' := ?_) #[true, true, true, true, true, true, true, true, true, true, false, false, false] rfl rfl (by kernel_rfl) (fun _ _ _ h => h) (Or.inl ⟨by rfl, ?_⟩) ?_ ?_
          rotate_left
          · intro w'
            go_simp
            with_reducible rfl
          rotate_left
          · simp only [Act.put, List.setIfInBounds_toArray, List.set_cons_zero, List.set_cons_succ]
            rfl
          refine pure_ (i := 10) (N := some 64) (v := ?_) (a' := ?_) #[true, true, true, true, true, true, true, true, true, true, true, false, false] rfl rfl (by kernel_rfl) (fun _ _ _ h => h) (Or.inl ⟨by rfl, ?_⟩) ?_ ?_
          rotate_left
          · intro w'
            go_simp
            with_reducible rfl
          rotate_left
          · simp only [Act.put, List.setIfInBounds_toArray, List.set_cons_zero, List.set_cons_succ]
            rfl
          refine pure_ (i := 11) (N := some 13) (v := ?_) (a' := ?_) #[true, true, true, true, true, true, true, true, true, true, true, true, false] rfl rfl (by kernel_rfl) (fun _ _ _ h => h) (Or.inl ⟨by rfl, ?_⟩) ?_ ?_
          rotate_left
          · intro w'
            go_simp
            with_reducible rfl
          rotate_left
          · simp only [Act.put, List.setIfInBounds_toArray, List.set_cons_zero, List.set_cons_succ]
            rfl
          refine pure_ (i := 12) (N := some 14) (v := ?_) (a' := ?_) #[true, true, true, true, true, true, true, true, true, true, true, true, true] rfl rfl (by kernel_rfl) (fun _ _ _ h => h) (Or.inl ⟨by rfl, ?_⟩) ?_ ?_
          rotate_left
          · intro w'
            go_simp
            with_reducible rfl
          rotate_left
          · simp only [Act.put, List.setIfInBounds_toArray, List.set_cons_zero, List.set_cons_succ]
            rfl
          refine done_ (by kernel_rfl) ?_

          have HB7 := Aside0.mk (HB.out.trans ((below_drew (Below.refl wr.heap.size wr)).trans hb7 |>.mono HB.out.size))
          clear hHeld hb7 HGET x0 x1 y0 y1 c0 c1 HB
          obtain ⟨ad', hA', c0, c1⟩ := at_T38 (Kd.C_below HQ6.out HB7.out) (k : Int) (by omega) (by omega)
          obtain rfl : ad' = ad := (Option.some.inj hA').symm
          have x1 := blk_cell (blk_below HP6.out HB7.out) 1
          simp only [List.getElem?_toArray, List.getElem?_cons_zero, List.getElem?_cons_succ] at x1
          rw [rd_at hlt, Int.toNat_natCast, ← HTT.out] at c1
          clear c0 hA'
          go_wp2_with fail
          exact ⟨⟨k + 1, by omega, by rfl, by rw [HCS.out], HB7⟩, by simp only [intOf]; omega⟩
      · have hlti : ¬ ((k : Int) < (L.length : Int)) := by omega
        obtain rfl : k = L.length := by omega
        have hcn : cnt L L.length = 1 := by unfold cnt; rw [List.take_length]; exact HCN.out
        rw [hcn]
        go_wp2_with fail
        go_ret
        exact ⟨rfl, HB6.out.trans (HB.out.mono HB6.out.size)⟩
  · simp only [if_neg hen] at HSE
    have hnb : (en != 0) = true := by simpa using hen
    have HSE := Aside0.mk HSE
    clear hmac hagain hcnt
    go_wp2_with fail
    refine HSE.out.mono ?_
    rintro e w2 ⟨A2, c2, rfl, hq2, hb2⟩
    have hb9 := Aside0.mk (below_alloc (HB2.out.trans (hb2.mono HB2.out.size)) (.cells #[.int .i64 0, .slice A2 0 c2] 29))
    clear hq2 hb2 m0 m1 m2 m3 m4 x0 x1
    dsimp only [List.length_nil]
    go_wp2_with fail
    go_ret
    exact ⟨rfl, hb9.out⟩
end Go.Proofs.YtbnbplppgbmkpaaGreatDoor

namespace Go.Proofs.YtbnbplppgbmkpaaGreatDoor.sessionAgain
open Go.ChangeShapes Go.WideShapes Go.ChangeAt Go.RowKit

set_option maxRecDepth 100000 in
theorem contract (H : Type) (enc : TypeId × Value → H) (W : World) (base : Nat) (args : Array Value) (ds gs : List (DataW H)) (before : List MemPlace)
    (hval : ∀ (j : Nat) t v, Tryz.f5.params[j]? = some t → args[j]? = some v → Value.okWide Tryz.prog W .any base t v)
    (hW : DataW.Whole enc Tryz.prog Tryz.f5.params.toList Rows.sessionAgainSpec.vars false W args.toList ds gs before) (hk : Rows.uptoSmall H (ds ++ gs) = true) (hL : laidMetH Tryz.prog sesLaid W) :
    Calls Tryz.prog 5 args W fun e W' => ∃ v, e = .returned v ∧ Rows.sessionAgainSpec.post enc Tryz.prog Tryz.f5 false true false false W args v W' := by
  have hW' := hW
  obtain ⟨p, q, hA0, hV, rfl, hfz, hnd⟩ := hW
  have hA : DataW.TrodAll enc Tryz.prog W 0 (fun _ => true) true Tryz.f5.params.toList args.toList ds p := hA0
  rw [Tryz.params5] at hA hval
  obtain ⟨v0, vs0, d0, ds0, p0, q0, hargs, rfl, rfl, h0, r0⟩ := trodAll_cons hA
  obtain ⟨v1, vs1, d1, ds1, p1, q1, rfl, rfl, rfl, h1, r1⟩ := trodAll_cons r0
  obtain ⟨rfl, rfl, rfl⟩ := trodAll_nil r1
  obtain rfl : args = #[v0, v1] := by cases args; simp_all
  obtain ⟨rfl, rfl⟩ := trodVars_none hV
  have k0 := h0
  have k1 := h1
  have lt0 : ∀ x ∈ p0, x.block < W.heap.size := by obtain ⟨m, hm⟩ := k0; exact DataW.trod_lt m _ _ _ hm
  have lt1 : ∀ x ∈ p1, x.block < W.heap.size := by obtain ⟨m, hm⟩ := k1; exact DataW.trod_lt m _ _ _ hm
  obtain ⟨code, m, AK, key, ck, s0, s1, rfl, hC, hb⟩ := open_member (hval 0 26 v0 rfl rfl) h0
  obtain ⟨typ, A, l, c, rfl, hC', hs, hb'⟩ := open_msg (hval 1 29 v1 rfl rfl) h1
  clear hA0
  have hbulk : Rows.uptoBulk d0 + Rows.uptoBulk d1 ≤ 1048576 := by
    have h := of_decide_eq_true hk
    simp only [List.append_nil, Rows.uptoBulkAll] at h
    omega
  simp only [List.append_nil] at hW'
  obtain ⟨henv, hks⟩ := laid_env hL
  refine (again_any key code s0 s1 m typ l A AK c ck W hC' (by omega) (fun x hx => by have := hs x hx; simp only [maxLen]; omega) henv hC (by omega) hks).mono fun e W' ⟨he, bel⟩ => ?_
  subst he
  exact ⟨_, rfl, _, _, _, [], _, [], hW', trodAll_mk1 (shut_bool Tryz.underlying4 _),
    trodAll_cons_mk (Below.trod laidOut (by kernel_rfl) (of_decide_eq_true (by kernel_rfl)) k0 bel lt0) (trodAll_cons_mk (Below.trod laidOut (by kernel_rfl) (of_decide_eq_true (by kernel_rfl)) k1 bel lt1) trodAll_mk0), rfl, bel.frame _, fun h => by cases h⟩

theorem reads (os : Os) {H : Type} (enc : TypeId × Value → H) : ∃ ds places, DataW.whole enc Tryz.prog ((sesWorld os).forCall (fun _ _ => 0) ⟨#[], #[.agg #[.string ByteArray.empty, .int .i64 0, .slice none 0 0, .int .i64 0, .int .i64 0], .agg #[.int .i64 0, .slice none 0 0]], []⟩).memory Tryz.f5.params.toList Rows.sessionAgainSpec.vars false #[Value.agg #[.string ByteArray.empty, .int .i64 0, .slice none 0 0, .int .i64 0, .int .i64 0], .agg #[.int .i64 0, .slice none 0 0]].toList 8 = some (ds, [], places) ∧ Rows.uptoSmall H (ds ++ []) = true :=
  ⟨[.agg [.lit (.string []), .lit (.int .i64 0), .nil, .agg [.lit (.int .i64 0), .lit (.int .i64 0)]], .agg [.lit (.int .i64 0), .nil]], [], by kernel_rfl, by kernel_rfl⟩

set_option maxRecDepth 100000 in
theorem lifted (os : Os) (started : os.Started) (H : Type) (enc : TypeId × Value → H) (F : Stop.Interp) :
    ReturnsInHanded {} Tryz.checked os 5 .any ((Rows.OpenSpec.upto Rows.sessionAgainSpec).preRow enc Tryz.prog Tryz.f5 Rows.sessionAgainUptoRow.domain false Rows.sessionAgainUptoRow.laid) (((Rows.OpenSpec.upto Rows.sessionAgainSpec).at F).post enc Tryz.prog Tryz.f5 false true false false) := by
  obtain ⟨ds, places, hx, hsm⟩ := reads os enc
  refine returnsInHanded_of_row (C := Tryz.checked) (s := Rows.OpenSpec.upto Rows.sessionAgainSpec) own started (by kernel_rfl) Tryz.func5
    (witness_row_at (enc := enc) (C := Tryz.checked) false (sesWorld os) #[.agg #[.string ByteArray.empty, .int .i64 0, .slice none 0 0, .int .i64 0, .int .i64 0], .agg #[.int .i64 0, .slice none 0 0]] (sesWorld_os _) (by kernel_rfl) (by kernel_rfl) (by kernel_rfl)
      (OpenSpec.preRow_of_cond 8 hx (by kernel_rfl) (fun k hk => by cases hk; exact hsm) (by kernel_rfl) (laid_met os _))) ?_
  intro W base args ds gs before hval hW _ hcond _ hL hsh _
  exact contract H enc W base args ds gs before hval hW (hcond _ rfl) hL

theorem said : Rows.SessionAgainUptoSaid :=
  OpenClaim.holds_of_cond 5 Tryz.f5 rfl rfl rfl rfl rfl rfl rfl ⟨rfl, rfl, rfl, rfl, rfl⟩ rfl rfl rfl rfl rfl (by kernel_rfl) Tryz.func5 (by kernel_rfl)
    (of_decide_eq_true (by kernel_rfl)) (by unfold Func.isWrapper; first | (rw [if_pos (by decide +kernel)]; kernel_rfl) | (rw [if_neg (by decide +kernel)]; exact ⟨rfl, rfl⟩))
    (fun os started H enc _ F => by rw [OpenClaim.pre_eq_preRow]; exact lifted os started H enc F)

theorem plain (f : FuncId) (fn : Func) (hf : Tryz.pinned.checked.prog.funcNamed "groat/groatlaw13.SessionAgain" = some f) (hfn : Tryz.pinned.checked.prog.funcs[f]? = some fn) :
    true = Tryz.pinned.checked.prog.looks [] ∧ ∀ (j : Nat) t, fn.params[j]? = some t → Tryz.pinned.checked.prog.wantsStandIn t = false := by
  obtain rfl : f = 5 := Option.some.inj ((show Tryz.prog.funcNamed "groat/groatlaw13.SessionAgain" = some 5 by kernel_rfl).symm.trans hf) |>.symm
  obtain rfl : fn = Tryz.f5 := (Option.some.inj (Tryz.func5.symm.trans hfn)).symm
  refine ⟨by kernel_rfl, fun j t ht => ?_⟩
  rw [Tryz.params5] at ht
  have h : t = 26 ∨ t = 29 := by simpa using Array.mem_of_getElem? ht
  rcases h with rfl | rfl
  · exact (show Tryz.prog.wantsStandIn 26 = false by kernel_rfl)
  · exact (show Tryz.prog.wantsStandIn 29 = false by kernel_rfl)

theorem card : Rows.SessionAgainUptoCardSaid :=
  Claim7.holds_tied_plain_at .later [] _ _ _ _ said (fun _ h => by cases h) (by kernel_rfl) (fun _ h => by cases h) sessionAgainUpto_row_tie rfl ⟨rfl, rfl⟩ (by kernel_rfl) rfl plain (by kernel_rfl)
#print axioms card
end Go.Proofs.YtbnbplppgbmkpaaGreatDoor.sessionAgain
