/- From the rows' list to what the walks ask; a world for the witnesses. A member and a message that came in, opened. -/
import Derived.Test.YtbnbplppgbmkpaaGreatDoorGrG
import Derived.Test.YtbnbplppgbmkpaaGreatDoorCards
import Derived.Test.YtbnbplppgbmkpaaGreatDoorTie
import Derived.WalkKit
import Derived.ProofKit
import Derived.OpenShut
import Derived.ShutString
import Derived.Below
import Derived.Lay
import Derived.LaidHandle
import Derived.Deep.DeepHandedRow
import Derived.Deep.Strs
import Derived.Lib.LaidTab
import Derived.Lib.LaidU8
import Derived.ChangeSlices
namespace Go.Proofs.YtbnbplppgbmkpaaGreatDoor
open Go.ChangeShapes Go.WideShapes Go.ChangeAt Go.RowKit

theorem own : ownKnob Tryz.prog.godebug = none := by kernel_rfl
theorem laidOut : laidOutB Tryz.prog = true := by kernel_rfl
theorem cells3 : Tryz.prog.cellsOf 3 = 1 := by kernel_rfl
theorem cells5 : Tryz.prog.cellsOf 5 = 1 := by kernel_rfl
theorem cells9 : Tryz.prog.cellsOf 9 = 1 := by kernel_rfl
theorem cells114 : Tryz.prog.cellsOf 114 = 1 := by kernel_rfl
theorem cells130 : Tryz.prog.cellsOf 130 = 1 := by kernel_rfl
theorem cells86 : Tryz.prog.cellsOf 86 = 3 := by kernel_rfl
theorem cells150 : Tryz.prog.cellsOf 150 = 3 := by kernel_rfl

/-- A table of whole numbers, out of what the list says. -/
theorem tab_cells {W : World} {name : String} {k : IntKind} {zs : List Int} {g t e n : Nat} (hg : Tryz.prog.globalNamed name = some g) (ht : (Tryz.prog.globals[g]?).map (·.type) = some t) (hu : Tryz.prog.underlying t = some (.array n e)) (he : Tryz.prog.underlying e = some (.int k)) (hce : Tryz.prog.cellsOf e = 1) (hct : Tryz.prog.cellsOf t = n)
    (h : Lib.VarReads Tryz.prog W name (Lib.tabData k zs)) : Lib.TabIs Tryz.prog W name k zs := by
  obtain ⟨g', t', cs, fuel, p, hg', ht', hv, hd⟩ := h
  obtain rfl := Option.some.inj (hg.symm.trans hg')
  obtain rfl := Option.some.inj (ht.symm.trans ht')
  unfold Lib.TabIs
  rw [hv, ← Lib.cells_of_tab hu he hce hct hd]
/-- A table of structs of three whole numbers. -/
theorem tab3_cells {W : World} {name : String} {k0 k1 k2 : IntKind} {zs : List (Int × Int × Int)} {g t e n t0 t1 t2 : Nat} {f0 f1 f2 : Field} (hg : Tryz.prog.globalNamed name = some g) (ht : (Tryz.prog.globals[g]?).map (·.type) = some t) (hu : Tryz.prog.underlying t = some (.array n e)) (he : Tryz.prog.underlying e = some (.struct #[f0, f1, f2])) (hce : Tryz.prog.cellsOf e = 3)
    (o0 : f0.offset = 0) (o1 : f1.offset = 1) (o2 : f2.offset = 2) (y0 : f0.type = t0) (y1 : f1.type = t1) (y2 : f2.type = t2) (c0 : Tryz.prog.cellsOf t0 = 1) (c1 : Tryz.prog.cellsOf t1 = 1) (c2 : Tryz.prog.cellsOf t2 = 1) (u0 : Tryz.prog.underlying t0 = some (.int k0)) (u1 : Tryz.prog.underlying t1 = some (.int k1)) (u2 : Tryz.prog.underlying t2 = some (.int k2)) (hn : zs.length = n)
    (h : Lib.VarReads Tryz.prog W name (.agg (zs.map fun z => .agg [.lit (.int k0 z.1), .lit (.int k1 z.2.1), .lit (.int k2 z.2.2)]))) (i : Nat) (hi : i < n) :
    W.cell? ⟨g, i * 3, none⟩ = some (.int k0 (zs.getD i (0, 0, 0)).1) ∧ W.cell? ⟨g, i * 3 + 1, none⟩ = some (.int k1 (zs.getD i (0, 0, 0)).2.1) ∧ W.cell? ⟨g, i * 3 + 2, none⟩ = some (.int k2 (zs.getD i (0, 0, 0)).2.2) := by
  obtain ⟨g', t', cs, fuel, p, hg', ht', hv, hd⟩ := h
  obtain rfl := Option.some.inj (hg.symm.trans hg')
  obtain rfl := Option.some.inj (ht.symm.trans ht')
  rw [World.var?_cell hg hv, World.var?_cell hg hv, World.var?_cell hg hv]
  cases fuel with
  | zero => simp [DataW.trod] at hd
  | succ fuel =>
    simp only [DataW.trod, hu, hce] at hd
    split at hd
    · obtain ⟨xs, hm, hx⟩ := Option.map_eq_some_iff.1 hd
      have hxs : xs.map (·.1) = zs.map fun z => (DataW.agg [.lit (.int k0 z.1), .lit (.int k1 z.2.1), .lit (.int k2 z.2.2)] : DataW Unit) := by
        have := congrArg Prod.fst hx
        simpa using this
      obtain ⟨b, hb, hf⟩ := Lib.mapM_at hm i i (by simp [hi])
      obtain ⟨x0, x1, x2, m, rfl, _, r0, r1, r2⟩ := Deep.trod_struct3 he hf
      rw [y0, c0, o0] at r0
      rw [y1, c1, o1] at r1
      rw [y2, c2, o2] at r2
      obtain ⟨z0, q0, w0, _⟩ := DataW.trod_int u0 r0
      obtain ⟨z1, q1, w1, _⟩ := DataW.trod_int u1 r1
      obtain ⟨z2, q2, w2, _⟩ := DataW.trod_int u2 r2
      have h2 : (xs.map (·.1))[i]? = some (DataW.agg [x0.1, x1.1, x2.1] : DataW Unit) := by simp [hb]
      have hz : zs[i]? = some (zs.getD i (0, 0, 0)) := by simp [List.getD, hn, hi]
      rw [hxs, List.getElem?_map, hz] at h2
      simp only [Option.map_some, Option.some.injEq, DataW.agg.injEq, List.cons.injEq, w0, w1, w2, DataW.lit.injEq, Lit.int.injEq, true_and, and_true] at h2
      obtain ⟨e0, e1, e2⟩ := h2
      rw [e0, e1, e2]
      have g0 := congrArg (·[0]?) q0
      have g1 := congrArg (·[0]?) q1
      have g2 := congrArg (·[0]?) q2
      simp only [List.getElem?_take, List.getElem?_drop, List.getElem?_cons_zero, Nat.add_zero] at g0 g1 g2
      simp at g0 g1 g2
      rw [← g0, ← g1, ← g2]
      exact ⟨by congr 1, by congr 1, by congr 1⟩
    · cases hd

abbrev sesLaid : List (String × DataW Unit) := Rows.sessionSealsRow.laid
def sesPlain : List (String × DataW Unit) := [("math/bits.deBruijn32tab", Rows.laid_math_bits_deBruijn32tab), ("math/bits.deBruijn64tab", Rows.laid_math_bits_deBruijn64tab), ("groat/sha.rounds", Rows.laid_groat_sha_rounds), ("internal/strconv.uint64pow10", Rows.laid_internal_strconv_uint64pow10), ("groat/message.fields", Rows.laid_groat_message_fields), ("groat/message.types", Rows.laid_groat_message_types), ("groat/message.dialects", Rows.laid_groat_message_dialects)]
theorem plain_eq : (sesLaid.filter fun x => x.2.handleName?.isNone) = sesPlain := by rfl
theorem handle_eq : (sesLaid.filter fun x => x.2.handleName?.isSome) = [("errors.errorType", Rows.laid_errors_errorType)] := by rfl
theorem laid_parts {W : World} (h : laidMetH Tryz.prog sesLaid W) : laidMet Tryz.prog sesPlain W ∧ handlesMet Tryz.prog [("errors.errorType", Rows.laid_errors_errorType)] W := by
  unfold laidMetH at h
  rw [handle_eq, plain_eq] at h
  exact h
def deb64L : List Int := [0, 1, 56, 2, 57, 49, 28, 3, 61, 58, 42, 50, 38, 29, 17, 4, 62, 47, 59, 36, 45, 43, 51, 22, 53, 39, 33, 30, 24, 18, 12, 5, 63, 55, 48, 27, 60, 41, 37, 16, 46, 35, 44, 21, 52, 32, 23, 11, 54, 26, 40, 15, 34, 20, 31, 10, 25, 14, 19, 9, 13, 8, 7, 6]
theorem deb64 : Rows.laid_math_bits_deBruijn64tab (H := Unit) = Lib.tabData .u8 deb64L := by rfl
theorem roundsData : Rows.laid_groat_sha_rounds (H := Unit) = Lib.tabData .u32 ksL := by rfl
theorem powData : Rows.laid_internal_strconv_uint64pow10 (H := Unit) = Lib.tabData .u64 Lib.pow10Tab := by rfl
theorem typesData : Rows.laid_groat_message_types (H := Unit) = Lib.tabData .i64 typesL := by rfl
theorem fieldsData : Rows.laid_groat_message_fields (H := Unit) = .agg (fieldsL.map fun z => .agg [.lit (.int .i64 z.1), .lit (.int .i64 z.2.1), .lit (.int .i64 z.2.2)]) := by rfl
theorem diasData : Rows.laid_groat_message_dialects (H := Unit) = .agg (diaL.map fun z => .agg [.lit (.int .i64 z.1), .lit (.int .u8 z.2.1), .lit (.int .i64 z.2.2)]) := by rfl
theorem gDeb : Tryz.prog.globalNamed "math/bits.deBruijn64tab" = some 8 := by kernel_rfl
theorem gRounds : Tryz.prog.globalNamed "groat/sha.rounds" = some 4 := by kernel_rfl
theorem gTypes : Tryz.prog.globalNamed "groat/message.types" = some 1 := by kernel_rfl
theorem errGlobal : Tryz.prog.globalNamed "errors.errorType" = some 3 := by kernel_rfl
theorem errRtype : (Tryz.prog.cutTypes.find? (·.1 == "internal/reflectlite.rtype")).map (·.2) = some 209 := by kernel_rfl
theorem errSize : Tryz.prog.types.size ≤ 400 := of_decide_eq_true (by kernel_rfl)
theorem errRow : ((List.range 400).filter fun t => Tryz.prog.rowNamed t [101, 114, 114, 111, 114]) = [90] := by kernel_rfl
theorem err_cell {W : World} (h : handlesMet Tryz.prog [("errors.errorType", Rows.laid_errors_errorType)] W) : W.cell? ⟨3, 0, none⟩ = some (.iface 209 (.agg #[.pointer (some ⟨9, 90, none⟩)])) := by
  obtain ⟨name, u, ty, e1, e2, e3, e4, e5⟩ := h _ (List.mem_singleton.2 rfl)
  have en : name = [101, 114, 114, 111, 114] := (Option.some.inj e1).symm
  subst en
  obtain rfl := Option.some.inj (errRtype.symm.trans e2)
  have hm : ty ∈ (List.range 400).filter fun t => Tryz.prog.rowNamed t [101, 114, 114, 111, 114] := List.mem_filter.2 ⟨List.mem_range.2 (Nat.lt_of_lt_of_le e3 errSize), e4⟩
  rw [errRow] at hm
  obtain rfl := List.mem_singleton.1 hm
  have hh : typeHandle Tryz.prog 90 = .pointer (some ⟨9, 90, none⟩) := by kernel_rfl
  rw [hh] at e5
  simpa using World.var?_cell errGlobal e5 0
theorem laid_env {W : World} (h : laidMetH Tryz.prog sesLaid W) : Env W ∧ ∀ i, i < 64 → W.cell? ⟨4, i, none⟩ = some (.int .u32 (ksL.getD i 0)) := by
  obtain ⟨hp, hh⟩ := laid_parts h
  have r1 := deb64 ▸ Lib.laidMet.reads hp (.tail _ (.head _))
  have r2 := roundsData ▸ Lib.laidMet.reads hp (.tail _ (.tail _ (.head _)))
  have r3 := powData ▸ Lib.laidMet.reads hp (.tail _ (.tail _ (.tail _ (.head _))))
  have r4 := fieldsData ▸ Lib.laidMet.reads hp (.tail _ (.tail _ (.tail _ (.tail _ (.head _)))))
  have r5 := typesData ▸ Lib.laidMet.reads hp (.tail _ (.tail _ (.tail _ (.tail _ (.tail _ (.head _))))))
  have r6 := diasData ▸ Lib.laidMet.reads hp (.tail _ (.tail _ (.tail _ (.tail _ (.tail _ (.tail _ (.head _)))))))
  have t1 := tab_cells gDeb (by kernel_rfl) Tryz.underlying94 Tryz.underlying5 cells5 (by kernel_rfl) r1
  have t2 := tab_cells gRounds (by kernel_rfl) Tryz.underlying185 Tryz.underlying130 cells130 (by kernel_rfl) r2
  have t3 := tab_cells (g := 5) (by kernel_rfl) (by kernel_rfl) Tryz.underlying232 Tryz.underlying114 cells114 (by kernel_rfl) r3
  have t5 := tab_cells gTypes (by kernel_rfl) Tryz.underlying145 Tryz.underlying3 cells3 (by kernel_rfl) r5
  have t4 := tab3_cells (g := 2) (by kernel_rfl) (by kernel_rfl) Tryz.underlying151 Tryz.underlying150 cells150 rfl rfl rfl rfl rfl rfl cells3 cells3 cells3 Tryz.underlying3 Tryz.underlying3 Tryz.underlying3 rfl r4
  have t6 := tab3_cells (g := 0) (by kernel_rfl) (by kernel_rfl) Tryz.underlying112 Tryz.underlying86 cells86 rfl rfl rfl rfl rfl rfl cells3 cells5 cells3 Tryz.underlying3 Tryz.underlying5 Tryz.underlying3 rfl r6
  exact ⟨⟨⟨t4, fun k hk => t5.cell gTypes k hk, t6⟩, t1.cell gDeb 15 (by decide), err_cell hh, t3⟩, fun i hi => t2.cell gRounds i hi⟩
noncomputable def sesWorld0 (os : Os) : World :=
  let w0 := World.holding Tryz.prog os ⟨#[], #[], []⟩
  { w0 with heap := w0.heap.modify 3 fun
      | .cells _ t frozen => .cells #[.iface 209 (.agg #[.pointer (some ⟨9, 90, none⟩)])] t frozen
      | o => o }
noncomputable def sesWorld (os : Os) : World := (sesWorld0 os).layVars Tryz.prog sesPlain
theorem sesWorld_os (os : Os) : (sesWorld os).os = os := World.layVars_os _ _ _
theorem laid_met (os : Os) (args : Array Value) : laidMetH Tryz.prog sesLaid ((sesWorld os).forCall (fun _ _ => 0) ⟨#[], args, []⟩).memory := by
  refine laidMetH_of_parts ?_ ?_
  · rw [plain_eq]
    have e1 : (sesPlain.filter fun x => (sesPlain.map (·.1)).contains x.1) = sesPlain := List.filter_eq_self.2 fun x hx => List.contains_iff_mem.2 (List.mem_map.2 ⟨x, hx, rfl⟩)
    have e2 : (sesPlain.filter fun x => !(sesPlain.map (·.1)).contains x.1) = [] := List.filter_eq_nil_iff.2 fun x hx => by rw [List.contains_iff_mem.2 (List.mem_map.2 ⟨x, hx, rfl⟩)]; simp
    have h : laidMet Tryz.prog sesPlain (sesWorld os) := laidMet_layVars (w0 := sesWorld0 os) (sesPlain.map (·.1)) [] (by rw [e1]; rfl) (by rw [e1]; kernel_rfl) (by rw [e1]; kernel_rfl) (by rw [e2]; exact LaidIn.none)
    exact h.of_heap (by simp [World.memory, World.forCall, Input.heap])
  · rw [handle_eq]
    kernel_rfl
end Go.Proofs.YtbnbplppgbmkpaaGreatDoor

namespace Go.Proofs.YtbnbplppgbmkpaaGreatDoor
open Go.ChangeShapes Go.WideShapes Go.ChangeAt Go.RowKit
open Go.ChangeMaps (open_string shut_string)
open Go.Proofs.YtbnbplppgbmkpaaGreatDoorW.PrintWords PSessionSeals

theorem cells22 : Tryz.prog.cellsOf 22 = 1 := by kernel_rfl
theorem cells24 : Tryz.prog.cellsOf 24 = 2 := by kernel_rfl
theorem cells26 : Tryz.prog.cellsOf 26 = 5 := by kernel_rfl
theorem cells27 : Tryz.prog.cellsOf 27 = 1 := by kernel_rfl
theorem cells29 : Tryz.prog.cellsOf 29 = 2 := by kernel_rfl
theorem cells38n : Tryz.prog.cellsOf 38 = 2 := by kernel_rfl

theorem list_of {α : Type} {P : Nat → α → Prop} : ∀ n, (∀ i, i < n → ∃ p, P i p) → ∃ l : List α, l.length = n ∧ ∀ i p, l[i]? = some p → P i p
  | 0, _ => ⟨[], rfl, by simp⟩
  | n + 1, h => by
    obtain ⟨l, hl, hp⟩ := list_of n fun i hi => h i (Nat.lt_succ_of_lt hi)
    obtain ⟨p, hn⟩ := h n (Nat.lt_succ_self n)
    refine ⟨l ++ [p], by simp [hl], fun i q hq => ?_⟩
    rw [List.getElem?_append] at hq
    split at hq
    · exact hp i q hq
    · have : i - l.length = 0 := by
        have h1 := (List.getElem?_eq_some_iff.1 hq).1
        simp at h1
        omega
      rw [this] at hq
      obtain rfl : p = q := by simpa using hq
      obtain rfl : i = n := by omega
      exact hn
theorem bulk_one {H : Type} (d : DataW H) : 1 ≤ Rows.uptoBulk d := by
  cases d with
  | lit l => cases l <;> simp [Rows.uptoBulk]
  | _ => simp [Rows.uptoBulk]
theorem bulk_len {H : Type} : ∀ ds : List (DataW H), ds.length ≤ Rows.uptoBulkAll ds
  | [] => Nat.le_refl _
  | d :: r => by
    have := bulk_len r
    have := bulk_one d
    simp only [Rows.uptoBulkAll, List.length_cons]
    omega
theorem bulk_at {H : Type} : ∀ (ds : List (DataW H)) (i : Nat) (d : DataW H), ds[i]? = some d → Rows.uptoBulk d ≤ Rows.uptoBulkAll ds
  | [], i, d, h => by simp at h
  | x :: r, 0, d, h => by
    obtain rfl : x = d := by simpa using h
    simp only [Rows.uptoBulkAll]
    omega
  | x :: r, i + 1, d, h => by
    have := bulk_at r i d (by simpa using h)
    simp only [Rows.uptoBulkAll]
    omega
theorem bulk_lits {H : Type} (k : IntKind) : ∀ (zs : List Int), Rows.uptoBulkAll (lits (H := H) k zs) = zs.length
  | [] => rfl
  | z :: zs => by
    have := bulk_lits (H := H) k zs
    simp only [lits, List.map_cons, Rows.uptoBulkAll, Rows.uptoBulk, List.length_cons] at this ⊢
    omega

theorem open_fields {H : Type} {enc : TypeId × Value → H} {W : World} {fuel : Nat} {cs : List Value} {x : DataW H × List MemPlace} (h : DataW.trod enc Tryz.prog W 0 (fun _ => true) true fuel 27 cs = some x) :
    ∃ (A : Option Addr) (l : List S38) (c : Nat), cs = [.slice A l.length c] ∧ Kd.C k38 W A l.length l ∧ (∀ y ∈ l, y.f1.size ≤ Rows.uptoBulk x.1) ∧ l.length ≤ Rows.uptoBulk x.1 := by
  rcases DataW.trod_slice Tryz.underlying27 h with ⟨rfl, rfl⟩ | ⟨a, len, cap, elems, rest, n, _, rfl, rfl, hb, hl, hm, hlen, hel, _, _⟩
  · exact ⟨none, [], 0, rfl, Kd.C_nil .., (fun y hy => by cases hy), by simp⟩
  · have hall : ∀ i, i < len → ∃ p : S38, W.cell? (a.add (i * 2)) = some (.int .i64 p.f0) ∧ W.cell? (a.add (i * 2 + 1)) = some (.string p.f1) ∧ p.f1.size ≤ Rows.uptoBulkAll (elems.map (·.1)) := by
      intro i hi
      have he := hel i hi
      rw [cells38n, List.getElem?_eq_getElem (by omega : i < elems.length)] at he
      obtain ⟨cs', hc, ht⟩ := Option.bind_eq_some_iff.1 he
      obtain ⟨y0, y1, m, hy, hlc, r0, r1⟩ := trod_struct2 Tryz.underlying38 ht
      rw [cells3] at r0
      rw [cells9] at r1
      obtain ⟨z, q0, w0, _⟩ := DataW.trod_int Tryz.underlying3 r0
      obtain ⟨s, q1, w1, _⟩ := DataW.trod_string Tryz.underlying9 r1
      rw [cells38n] at hlc
      match cs', hlc with
      | [c0, c1], _ =>
        simp at q0 q1
        subst q0 q1
        have hcs := World.cells?_some hc
        refine ⟨⟨z, s⟩, ?_, ?_, ?_⟩
        · have := hcs.2.2 0 (by decide)
          rw [Addr.add_add] at this
          exact this
        · have := hcs.2.2 1 (by decide)
          rw [Addr.add_add] at this
          exact this
        · have hat := bulk_at (elems.map (·.1)) i elems[i].1 (by simp [List.getElem?_eq_getElem (by omega : i < elems.length)])
          rw [hy] at hat
          simp only [Rows.uptoBulk, Rows.uptoBulkAll, w0, w1, Array.length_toList] at hat
          show s.size ≤ _
          have : s.data.size = s.size := rfl
          omega
    obtain ⟨l, hll, hp⟩ := list_of len hall
    have hlenb := bulk_len (elems.map (·.1))
    rw [List.length_map, hlen] at hlenb
    refine ⟨some a, l, cap, by rw [hll], ⟨rfl, by simp only [maxLen] at hm; omega, fun _ => ⟨a, rfl, fun j p hj => ⟨[.int .i64 p.f0, .string p.f1], rfl, k38_mk _ _, fun i u hu => ?_⟩⟩⟩, ?_, ?_⟩
    · obtain ⟨h0, h1, _⟩ := hp j p hj
      have hi : i < 2 := (List.getElem?_eq_some_iff.1 hu).1
      have : i = 0 ∨ i = 1 := by omega
      rcases this with rfl | rfl
      · obtain rfl : Value.int .i64 p.f0 = u := by simpa using hu
        exact h0
      · obtain rfl : Value.string p.f1 = u := by simpa using hu
        exact h1
    · intro y hy
      obtain ⟨j, hj⟩ := List.getElem?_of_mem hy
      have := (hp j y hj).2.2
      simp only [Rows.uptoBulk]
      omega
    · simp only [Rows.uptoBulk]
      omega

theorem open_bytes {H : Type} {enc : TypeId × Value → H} {W : World} {fuel : Nat} {cs : List Value} {x : DataW H × List MemPlace} (h : DataW.trod enc Tryz.prog W 0 (fun _ => true) true fuel 22 cs = some x) :
    ∃ (A : Option Addr) (l : List Int) (c : Nat), cs = [.slice A l.length c] ∧ Kd.C (Kd.int .u8) W A l.length l ∧ l.length ≤ Rows.uptoBulk x.1 := by
  rcases open_ints Tryz.underlying22 Tryz.underlying5 cells5 h with ⟨hcs, hx⟩ | ⟨x, l, c, zs, hcs, _, hl, hm, hz, hx, hcell, hwz⟩
  · exact ⟨none, [], 0, hcs, Kd.C_nil .., by simp⟩
  · have hz' : zs.length = c := by simpa using hz
    have hlen : (zs.take l).length = l := by simp; omega
    refine ⟨some x, zs.take l, c, by rw [hlen]; exact hcs, ?_, ?_⟩
    · refine Kd.C_of_reads (d := 0) ⟨rfl, by have : c ≤ 9223372036854775807 := hm; simp; omega, fun _ => ⟨_, rfl, fun j hj => ?_⟩⟩
      have hj' : j < l := by omega
      rw [hcell j (by omega)]
      simp [List.getD, hj']
    · subst hx
      have h1 := bulk_lits (H := H) .u8 (zs.take l)
      simp only [Rows.uptoBulk]
      omega

set_option maxRecDepth 100000 in
theorem open_member {H : Type} {enc : TypeId × Value → H} {W : World} {base : Nat} {v : Value} {d : DataW H} {p : List MemPlace} (hv : Value.okWide Tryz.prog W .any base 26 v) (h : DataW.Trod enc Tryz.prog W 0 (fun _ => true) true 26 v d p) :
    ∃ (code : ByteArray) (m : Int) (A : Option Addr) (key : List Int) (c : Nat) (s0 s1 : Value), v = .agg #[.string code, .int .i64 m, .slice A key.length c, s0, s1] ∧ Kd.C (Kd.int .u8) W A key.length key ∧ key.length ≤ Rows.uptoBulk d := by
  obtain ⟨cs, rfl, hsz⟩ := okWide_struct Tryz.underlying26 hv
  rw [cells26] at hsz
  obtain ⟨fuel, hf⟩ := h
  obtain ⟨xs, n, rfl, hx, hl, hxl, hd⟩ := DataW.trod_struct Tryz.underlying26 hf
  have hcs : (Value.agg cs).cells.toList = cs.toList := rfl
  rw [hcs] at hd
  obtain ⟨l5⟩ := cs
  match l5, hsz with
  | [c0, c1, c2, c3, c4], _ =>
    match xs, hxl with
    | [x0, x1, x2, x3], _ =>
      have d0 := hd 0 _ rfl
      have d1 := hd 1 _ rfl
      have d2 := hd 2 _ rfl
      obtain ⟨s, e0, y0, _⟩ := DataW.trod_string Tryz.underlying9 d0
      obtain ⟨m, e1, y1, w1⟩ := DataW.trod_int Tryz.underlying3 d1
      obtain ⟨A, key, c, e2, hC, hb⟩ := open_bytes d2
      simp [cells9, cells3, cells22] at e0 e1 e2
      subst e0 e1 e2
      refine ⟨s, m, A, key, c, c3, c4, rfl, hC, ?_⟩
      injection hx with hx _
      subst hx
      simp only [List.map_cons, List.map_nil, Rows.uptoBulk, Rows.uptoBulkAll]
      omega

set_option maxRecDepth 100000 in
theorem open_msg {H : Type} {enc : TypeId × Value → H} {W : World} {base : Nat} {v : Value} {d : DataW H} {p : List MemPlace} (hv : Value.okWide Tryz.prog W .any base 29 v) (h : DataW.Trod enc Tryz.prog W 0 (fun _ => true) true 29 v d p) :
    ∃ (typ : Int) (A : Option Addr) (l : List S38) (c : Nat), v = .agg #[.int .i64 typ, .slice A l.length c] ∧ Kd.C k38 W A l.length l ∧ (∀ y ∈ l, y.f1.size ≤ Rows.uptoBulk d) ∧ l.length ≤ Rows.uptoBulk d := by
  obtain ⟨cs, rfl, hsz⟩ := okWide_struct Tryz.underlying29 hv
  rw [cells29] at hsz
  obtain ⟨fuel, hf⟩ := h
  obtain ⟨xs, n, rfl, hx, hl, hxl, hd⟩ := DataW.trod_struct Tryz.underlying29 hf
  have hcs : (Value.agg cs).cells.toList = cs.toList := rfl
  rw [hcs] at hd
  obtain ⟨l2⟩ := cs
  match l2, hsz with
  | [c0, c1], _ =>
    match xs, hxl with
    | [x0, x1], _ =>
      have d0 := hd 0 _ rfl
      have d1 := hd 1 _ rfl
      obtain ⟨m, e0, y0, w0⟩ := DataW.trod_int Tryz.underlying3 d0
      obtain ⟨A, l, c, e1, hC, hs, hb⟩ := open_fields d1
      simp [cells3, cells27] at e0 e1
      subst e0 e1
      injection hx with hx _
      subst hx
      refine ⟨m, A, l, c, rfl, hC, fun y hy => ?_, ?_⟩
      · have := hs y hy
        simp only [List.map_cons, List.map_nil, Rows.uptoBulk, Rows.uptoBulkAll]
        omega
      · simp only [List.map_cons, List.map_nil, Rows.uptoBulk, Rows.uptoBulkAll]
        omega
end Go.Proofs.YtbnbplppgbmkpaaGreatDoor
