/- The contract of the console's 'read'. -/
import Derived.Test.YtegalamdbbjfoaaDoorConG
namespace Go.Proofs.YtegalamdbbjfoaaDoor
open Go.RowKit Go.Proofs.YtegalamdbbjfoaaDoorW.PrintWords

def ReadPost : Option Cmd → World → Ending → World → Prop
  | none, w, e, w' => ReadNo w e w'
  | some (wd, m, pf, ts, key), w, e, w' => ReadYes wd m pf ts key w e w'

theorem lit_of {c : ByteArray} {l : List UInt8} (h : c.toList = l) : c = ⟨l.toArray⟩ := by
  rw [Lib.toList_data] at h
  subst h
  cases c
  simp

theorem read_block (b : Nat) (w : World) (c : ByteArray) (r : List ByteArray) (hm : (c :: r).length ≤ 1000) (hw : c.toList = [98, 108, 111, 99, 107])
    (hc : ∀ j, (hj : j < (c :: r).length) → w.cell? ⟨b, j, none⟩ = some (.string (c :: r)[j])) :
    Calls Tryd.prog 15 #[.slice (some ⟨b, 0, none⟩) (c :: r).length (c :: r).length] w (ReadPost (match r with | [a] => (dgv 6 a).map fun d => (c, d, ⟨#[]⟩, [], ⟨#[]⟩) | _ => none) w) := by
  have e := lit_of hw
  subst e
  have c0 := hc 0 (by simp)
  match r, hm, hc with
  | [], hm, hc => exact read_block_count b _ w (by simp) (by simp) hm c0
  | [a], hm, hc =>
    have c1 := hc 1 (by simp)
    cases hd : dgv 6 a with
    | none => exact (read_block_bad b w c0 a c1 (dgv_throws a 6 hd)).mono fun e w' h => by simp only [hd]; exact h
    | some d => exact (read_block_yes b w c0 a c1 d (dgv_tells a 6 d hd)).mono fun e w' h => by simp only [hd]; exact h
  | _ :: _ :: _, hm, hc => exact read_block_count b _ w (by simp) (by simp) hm c0

theorem read_unblock (b : Nat) (w : World) (c : ByteArray) (r : List ByteArray) (hm : (c :: r).length ≤ 1000) (hw : c.toList = [117, 110, 98, 108, 111, 99, 107])
    (hc : ∀ j, (hj : j < (c :: r).length) → w.cell? ⟨b, j, none⟩ = some (.string (c :: r)[j])) :
    Calls Tryd.prog 15 #[.slice (some ⟨b, 0, none⟩) (c :: r).length (c :: r).length] w (ReadPost (match r with | [a] => (dgv 6 a).map fun d => (c, d, ⟨#[]⟩, [], ⟨#[]⟩) | _ => none) w) := by
  have e := lit_of hw
  subst e
  have c0 := hc 0 (by simp)
  match r, hm, hc with
  | [], hm, hc => exact read_unblock_count b _ w (by simp) (by simp) hm c0
  | [a], hm, hc =>
    have c1 := hc 1 (by simp)
    cases hd : dgv 6 a with
    | none => exact (read_unblock_bad b w c0 a c1 (dgv_throws a 6 hd)).mono fun e w' h => by simp only [hd]; exact h
    | some d => exact (read_unblock_yes b w c0 a c1 d (dgv_tells a 6 d hd)).mono fun e w' h => by simp only [hd]; exact h
  | _ :: _ :: _, hm, hc => exact read_unblock_count b _ w (by simp) (by simp) hm c0

theorem read_saf (b : Nat) (w : World) (c : ByteArray) (r : List ByteArray) (hm : (c :: r).length ≤ 1000) (hw : c.toList = [115, 97, 102])
    (hc : ∀ j, (hj : j < (c :: r).length) → w.cell? ⟨b, j, none⟩ = some (.string (c :: r)[j])) :
    Calls Tryd.prog 15 #[.slice (some ⟨b, 0, none⟩) (c :: r).length (c :: r).length] w (ReadPost (match r with | [a] => (dgv 6 a).map fun d => (c, d, ⟨#[]⟩, [], ⟨#[]⟩) | _ => none) w) := by
  have e := lit_of hw
  subst e
  have c0 := hc 0 (by simp)
  match r, hm, hc with
  | [], hm, hc => exact read_saf_count b _ w (by simp) (by simp) hm c0
  | [a], hm, hc =>
    have c1 := hc 1 (by simp)
    cases hd : dgv 6 a with
    | none => exact (read_saf_bad b w c0 a c1 (dgv_throws a 6 hd)).mono fun e w' h => by simp only [hd]; exact h
    | some d => exact (read_saf_yes b w c0 a c1 d (dgv_tells a 6 d hd)).mono fun e w' h => by simp only [hd]; exact h
  | _ :: _ :: _, hm, hc => exact read_saf_count b _ w (by simp) (by simp) hm c0

theorem read_balance (b : Nat) (w : World) (c : ByteArray) (r : List ByteArray) (hm : (c :: r).length ≤ 1000) (hw : c.toList = [98, 97, 108, 97, 110, 99, 101])
    (hc : ∀ j, (hj : j < (c :: r).length) → w.cell? ⟨b, j, none⟩ = some (.string (c :: r)[j])) :
    Calls Tryd.prog 15 #[.slice (some ⟨b, 0, none⟩) (c :: r).length (c :: r).length] w (ReadPost (match r with | [a] => (dgv 7 a).map fun d => (c, d, ⟨#[]⟩, [], ⟨#[]⟩) | _ => none) w) := by
  have e := lit_of hw
  subst e
  have c0 := hc 0 (by simp)
  match r, hm, hc with
  | [], hm, hc => exact read_balance_count b _ w (by simp) (by simp) hm c0
  | [a], hm, hc =>
    have c1 := hc 1 (by simp)
    cases hd : dgv 7 a with
    | none => exact (read_balance_bad b w c0 a c1 (dgv_throws a 7 hd)).mono fun e w' h => by simp only [hd]; exact h
    | some d => exact (read_balance_yes b w c0 a c1 d (dgv_tells a 7 d hd)).mono fun e w' h => by simp only [hd]; exact h
  | _ :: _ :: _, hm, hc => exact read_balance_count b _ w (by simp) (by simp) hm c0

theorem read_unroute (b : Nat) (w : World) (c : ByteArray) (r : List ByteArray) (hm : (c :: r).length ≤ 1000) (hs : ∀ s ∈ r, s.size ≤ maxLen) (hw : c.toList = [117, 110, 114, 111, 117, 116, 101])
    (hc : ∀ j, (hj : j < (c :: r).length) → w.cell? ⟨b, j, none⟩ = some (.string (c :: r)[j])) :
    Calls Tryd.prog 15 #[.slice (some ⟨b, 0, none⟩) (c :: r).length (c :: r).length] w (ReadPost (match r with | [a] => if onl bDigits 8 a then some (c, 0, a, [], ⟨#[]⟩) else none | _ => none) w) := by
  have e := lit_of hw
  subst e
  have c0 := hc 0 (by simp)
  match r, hm, hs, hc with
  | [], hm, hs, hc => exact read_unroute_count b _ w (by simp) (by simp) hm c0
  | [a], hm, hs, hc =>
    have c1 := hc 1 (by simp)
    cases hd : onl bDigits 8 a with
    | false => exact (read_unroute_bad b w c0 a c1 (onl_throws a bDigits 8 hd (hs a (by simp)))).mono fun e w' h => by simp only [hd]; exact h
    | true => exact (read_unroute_yes b w c0 a c1 (onl_tells a bDigits 8 hd (hs a (by simp)))).mono fun e w' h => by simp only [hd]; exact h
  | _ :: _ :: _, hm, hs, hc => exact read_unroute_count b _ w (by simp) (by simp) hm c0

theorem read_state (b : Nat) (w : World) (c : ByteArray) (r : List ByteArray) (hm : (c :: r).length ≤ 1000) (hs : ∀ s ∈ r, s.size ≤ maxLen) (hw : c.toList = [115, 116, 97, 116, 101])
    (hc : ∀ j, (hj : j < (c :: r).length) → w.cell? ⟨b, j, none⟩ = some (.string (c :: r)[j])) :
    Calls Tryd.prog 15 #[.slice (some ⟨b, 0, none⟩) (c :: r).length (c :: r).length] w (ReadPost (match r with | [a] => if onl bDotted 32 a then some (c, 0, ⟨#[]⟩, [], a) else none | _ => none) w) := by
  have e := lit_of hw
  subst e
  have c0 := hc 0 (by simp)
  match r, hm, hs, hc with
  | [], hm, hs, hc => exact read_state_count b _ w (by simp) (by simp) hm c0
  | [a], hm, hs, hc =>
    have c1 := hc 1 (by simp)
    cases hd : onl bDotted 32 a with
    | false => exact (read_state_bad b w c0 a c1 (onl_throws a bDotted 32 hd (hs a (by simp)))).mono fun e w' h => by simp only [hd]; exact h
    | true => exact (read_state_yes b w c0 a c1 (onl_tells a bDotted 32 hd (hs a (by simp)))).mono fun e w' h => by simp only [hd]; exact h
  | _ :: _ :: _, hm, hs, hc => exact read_state_count b _ w (by simp) (by simp) hm c0

theorem read_cut (b : Nat) (w : World) (c : ByteArray) (r : List ByteArray) (hm : (c :: r).length ≤ 1000) (hw : c.toList = [99, 117, 116])
    (hc : ∀ j, (hj : j < (c :: r).length) → w.cell? ⟨b, j, none⟩ = some (.string (c :: r)[j])) :
    Calls Tryd.prog 15 #[.slice (some ⟨b, 0, none⟩) (c :: r).length (c :: r).length] w (ReadPost (match r with | [] => some (c, 0, ⟨#[]⟩, [], ⟨#[]⟩) | _ => none) w) := by
  have e := lit_of hw
  subst e
  have c0 := hc 0 (by simp)
  match r, hm, hc with
  | [], hm, hc => exact read_cut_yes b w c0
  | _ :: _, hm, hc => exact read_cut_count b _ w (by simp) (by simp) hm c0

theorem read_day (b : Nat) (w : World) (c : ByteArray) (r : List ByteArray) (hm : (c :: r).length ≤ 1000) (hw : c.toList = [100, 97, 121])
    (hc : ∀ j, (hj : j < (c :: r).length) → w.cell? ⟨b, j, none⟩ = some (.string (c :: r)[j])) :
    Calls Tryd.prog 15 #[.slice (some ⟨b, 0, none⟩) (c :: r).length (c :: r).length] w (ReadPost (match r with | [] => some (c, 0, ⟨#[]⟩, [], ⟨#[]⟩) | _ => none) w) := by
  have e := lit_of hw
  subst e
  have c0 := hc 0 (by simp)
  match r, hm, hc with
  | [], hm, hc => exact read_day_yes b w c0
  | _ :: _, hm, hc => exact read_day_count b _ w (by simp) (by simp) hm c0

theorem read_route (b : Nat) (w : World) (c : ByteArray) (r : List ByteArray) (hm : (c :: r).length ≤ 1000) (hs : ∀ s ∈ r, s.size ≤ maxLen) (hw : c.toList = [114, 111, 117, 116, 101])
    (hc : ∀ j, (hj : j < (c :: r).length) → w.cell? ⟨b, j, none⟩ = some (.string (c :: r)[j])) :
    Calls Tryd.prog 15 #[.slice (some ⟨b, 0, none⟩) (c :: r).length (c :: r).length] w (ReadPost (match r with
      | a :: ws => if 1 ≤ ws.length ∧ ws.length ≤ 6 ∧ ((ws.all fun s => (dgv 6 s).isSome) && onl bDigits 8 a) = true then some (c, 0, a, ws.filterMap (dgv 6), ⟨#[]⟩) else none
      | [] => none) w) := by
  have e := lit_of hw
  subst e
  have c0 := hc 0 (by simp)
  match r, hm, hs, hc with
  | [], hm, hs, hc => exact read_route_count b _ w (by simp) (by simp) hm c0
  | a :: ws, hm, hs, hc =>
    dsimp only
    by_cases h1 : 1 ≤ ws.length ∧ ws.length ≤ 6
    · have c1 := hc 1 (by simp)
      have hcs : ∀ j, (hj : j < ws.length) → w.cell? ⟨b, 2 + j, none⟩ = some (.string ws[j]) := by
        intro j hj
        have := hc (j + 2) (by simp; omega)
        rw [Nat.add_comm 2 j]
        simpa using this
      refine (read_route_any b _ w ws rfl h1.1 h1.2 c0 a c1 hcs (dgv 6) (fun s d h => dgv_tells s 6 d h) (fun s h => dgv_throws s 6 h) (onl bDigits 8 a)
        (fun h => onl_tells a bDigits 8 h (hs a (by simp))) (fun h => onl_throws a bDigits 8 h (hs a (by simp)))).mono ?_
      intro e w' h
      unfold RoutePost at h
      by_cases h2 : ((ws.all fun s => (dgv 6 s).isSome) && onl bDigits 8 a) = true
      · rw [if_pos h2] at h
        simp only [h1.1, h1.2, h2, and_self, if_true]
        exact h
      · rw [if_neg h2] at h
        rw [if_neg (fun k => h2 k.2.2)]
        exact h
    · rw [if_neg (fun k => h1 ⟨k.1, k.2.1⟩)]
      refine read_route_count b _ w ?_ (by simp) hm c0
      simp only [List.length_cons]
      omega

theorem read_any (b : Nat) (w : World) (ws : List ByteArray) (h1 : 1 ≤ ws.length) (hm : ws.length ≤ 1000) (hs : ∀ s ∈ ws, s.size ≤ maxLen)
    (hc : ∀ j, (hj : j < ws.length) → w.cell? ⟨b, j, none⟩ = some (.string ws[j])) :
    Calls Tryd.prog 15 #[.slice (some ⟨b, 0, none⟩) ws.length ws.length] w (ReadPost (cmdOf ws) w) := by
  match ws, h1, hm, hs, hc with
  | c :: r, h1, hm, hs, hc =>
    have hr : ∀ s ∈ r, s.size ≤ maxLen := fun s h => hs s (List.mem_cons_of_mem _ h)
    unfold cmdOf
    dsimp only
    by_cases k1 : c.toList = [98, 108, 111, 99, 107]
    · rw [if_pos (Or.inl k1)]; exact read_block b w c r hm k1 hc
    by_cases k2 : c.toList = [117, 110, 98, 108, 111, 99, 107]
    · rw [if_pos (Or.inr (Or.inl k2))]; exact read_unblock b w c r hm k2 hc
    by_cases k3 : c.toList = [115, 97, 102]
    · rw [if_pos (Or.inr (Or.inr k3))]; exact read_saf b w c r hm k3 hc
    rw [if_neg (by simp only [k1, k2, k3, or_self, not_false_eq_true])]
    by_cases k4 : c.toList = [98, 97, 108, 97, 110, 99, 101]
    · rw [if_pos k4]; exact read_balance b w c r hm k4 hc
    rw [if_neg k4]
    by_cases k5 : c.toList = [117, 110, 114, 111, 117, 116, 101]
    · rw [if_pos k5]; exact read_unroute b w c r hm hr k5 hc
    rw [if_neg k5]
    by_cases k6 : c.toList = [115, 116, 97, 116, 101]
    · rw [if_pos k6]; exact read_state b w c r hm hr k6 hc
    rw [if_neg k6]
    by_cases k7 : c.toList = [99, 117, 116]
    · rw [if_pos (Or.inl k7)]; exact read_cut b w c r hm k7 hc
    by_cases k8 : c.toList = [100, 97, 121]
    · rw [if_pos (Or.inr k8)]; exact read_day b w c r hm k8 hc
    rw [if_neg (by simp only [k7, k8, or_self, not_false_eq_true])]
    by_cases k9 : c.toList = [114, 111, 117, 116, 101]
    · rw [if_pos k9]; exact read_route b w c r hm hr k9 hc
    rw [if_neg k9]
    exact read_other b _ c w (by simp) hm (hc 0 (by simp)) (by simpa using k9) (by simpa using k7) (by simpa using k8) (by simpa using k1) (by simpa using k2) (by simpa using k3) (by simpa using k4) (by simpa using k5) (by simpa using k6)
end Go.Proofs.YtegalamdbbjfoaaDoor
