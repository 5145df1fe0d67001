/- A command that came in, opened; the rows of the laws over commands, up to a bulk. -/
import Derived.Test.YtegalamdbbjfoaaDoorConZ
import Derived.Test.YtegalamdbbjfoaaDoorConL
import Derived.ChangeSlices
namespace Go.Proofs.YtegalamdbbjfoaaDoor
open Go.ChangeShapes Go.WideShapes Go.ChangeAt Go.RowKit
open Go.ChangeMaps (open_string shut_string)
open Go.Proofs.YtegalamdbbjfoaaDoorW.PrintWords

theorem cells25 : Tryd.prog.cellsOf 25 = 5 := by kernel_rfl
theorem cells3 : Tryd.prog.cellsOf 3 = 1 := by kernel_rfl
theorem cells9 : Tryd.prog.cellsOf 9 = 1 := by kernel_rfl
theorem cells23 : Tryd.prog.cellsOf 23 = 1 := by kernel_rfl

theorem bulk_lits {H : Type} (k : IntKind) : ∀ (zs : List Int), Rows.uptoBulkAll (lits (H := H) k zs) = zs.length
  | [] => rfl
  | z :: zs => by
    have := bulk_lits (H := H) k zs
    simp only [lits, List.map_cons, Rows.uptoBulkAll, Rows.uptoBulk, List.length_cons] at this ⊢
    omega
theorem ints_wf {n : Int} (h : (Lit.int .i64 n).wf = true) : -9223372036854775808 ≤ n ∧ n ≤ 9223372036854775807 := by
  simpa [Lit.wf, IntKind.min, IntKind.max, IntKind.signed, IntKind.bits] using h

theorem open_list {H : Type} {enc : TypeId × Value → H} {W : World} {fuel : Nat} {cs : List Value} {x : DataW H × List MemPlace} (h : DataW.trod enc Tryd.prog W 0 (fun _ => true) true fuel 23 cs = some x) :
    ∃ (A : Option Addr) (l : List Int) (c : Nat), cs = [.slice A l.length c] ∧ l.length ≤ c ∧ Kd.C (Kd.int .i64) W A l.length l ∧ Ints l ∧ l.length ≤ Rows.uptoBulk x.1 := by
  rcases open_ints Tryd.underlying23 Tryd.underlying3 cells3 h with ⟨hcs, hx⟩ | ⟨x, l, c, zs, hcs, _, hl, hm, hz, hx, hcell, hwz⟩
  · exact ⟨none, [], 0, hcs, Nat.le_refl _, Kd.C_nil .., (fun n hn => by cases hn), by simp⟩
  · have hz' : zs.length = c := by simpa using hz
    have hlen : (zs.take l).length = l := by simp; omega
    refine ⟨some x, zs.take l, c, by rw [hlen]; exact hcs, by omega, ?_, ?_, ?_⟩
    · refine Kd.C_of_reads (d := 0) ⟨rfl, by have : c ≤ 9223372036854775807 := hm; simp; omega, fun _ => ⟨_, rfl, fun j hj => ?_⟩⟩
      have hj' : j < l := by omega
      rw [hcell j (by omega)]
      simp [List.getD, hj']
    · intro n hn
      exact ints_wf (hwz n (List.mem_of_mem_take hn))
    · subst hx
      have h1 := bulk_lits (H := H) .i64 (zs.take l)
      simp only [Rows.uptoBulk]
      omega

theorem open_cmd {H : Type} {enc : TypeId × Value → H} {W : World} {base : Nat} {v : Value} {d : DataW H} {p : List MemPlace} (hv : Value.okWide Tryd.prog W .any base 25 v) (h : DataW.Trod enc Tryd.prog W 0 (fun _ => true) true 25 v d p) :
    ∃ (wd : ByteArray) (m : Int) (pf : ByteArray) (A : Option Addr) (l : List Int) (c : Nat) (key : ByteArray), v = .agg #[.string wd, .int .i64 m, .string pf, .slice A l.length c, .string key] ∧
      l.length ≤ c ∧ Kd.C (Kd.int .i64) W A l.length l ∧ Ints l ∧ Ints [m] ∧ wd.size + pf.size + key.size + l.length ≤ Rows.uptoBulk d := by
  obtain ⟨cs, rfl, hsz⟩ := okWide_struct Tryd.underlying25 hv
  rw [cells25] at hsz
  obtain ⟨fuel, hf⟩ := h
  obtain ⟨xs, n, rfl, hx, hl, hxl, hd⟩ := DataW.trod_struct Tryd.underlying25 hf
  have hcs : (Value.agg cs).cells.toList = cs.toList := by simp [Value.cells]
  rw [hcs] at hd
  obtain ⟨l5⟩ := cs
  match l5, hsz with
  | [c0, c1, c2, c3, c4], _ =>
    match xs, hxl with
    | [x0, x1, x2, x3, x4], _ =>
      have d0 := hd 0 _ rfl
      have d1 := hd 1 _ rfl
      have d2 := hd 2 _ rfl
      have d3 := hd 3 _ rfl
      have d4 := hd 4 _ rfl
      obtain ⟨s0, e0, y0, _⟩ := DataW.trod_string Tryd.underlying9 d0
      obtain ⟨m, e1, y1, w1⟩ := DataW.trod_int Tryd.underlying3 d1
      obtain ⟨s2, e2, y2, _⟩ := DataW.trod_string Tryd.underlying9 d2
      obtain ⟨A, l, c, e3, hle, hC, hI, hb⟩ := open_list d3
      obtain ⟨s4, e4, y4, _⟩ := DataW.trod_string Tryd.underlying9 d4
      simp [cells9, cells3, cells23] at e0 e1 e2 e3 e4
      subst e0 e1 e2 e3 e4
      refine ⟨s0, m, s2, A, l, c, s4, rfl, hle, hC, hI, ?_, ?_⟩
      · intro n hn
        obtain rfl := List.mem_singleton.1 hn
        exact ints_wf w1
      · injection hx with hx _
        subst hx y0 y2 y4
        simp only [List.map_cons, List.map_nil, Rows.uptoBulk, Rows.uptoBulkAll, Array.length_toList, ByteArray.size]
        omega
end Go.Proofs.YtegalamdbbjfoaaDoor
