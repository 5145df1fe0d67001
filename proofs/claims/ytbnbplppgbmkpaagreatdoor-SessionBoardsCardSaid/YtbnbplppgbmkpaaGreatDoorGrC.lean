/- Fields: how a form's signs, digits and bytes are written. Fields: Put, as the program runs it. -/
import Derived.Test.YtbnbplppgbmkpaaGreatDoorGrB
import Derived.Laws.EntriesVeiled
import Derived.Laws.Tables
import Derived.Laws.Rows
import Derived.Deep.DeepCutAuto
import Derived.Deep.CutBlock
import Derived.Lib.PathFns
namespace Go.Proofs.YtbnbplppgbmkpaaGreatDoor
open Go.RowKit Go.Proofs.YtbnbplppgbmkpaaGreatDoorW.PrintLast Go.Proofs.YtbnbplppgbmkpaaGreatDoorW.PrintWords

abbrev highS : ByteArray := ⟨#[48, 49, 50, 51, 52, 53, 54, 55, 56, 57, 65, 66, 67, 68, 69, 70]⟩
abbrev ebcS : ByteArray := ⟨#[193, 194, 195, 196, 197, 198, 199, 200, 201, 209, 210, 211, 212, 213, 214, 215, 216, 217, 226, 227, 228, 229, 230, 231, 232, 233, 240, 241, 242, 243, 244, 245, 246, 247, 248, 249, 64]⟩
abbrev ebtS : ByteArray := ⟨#[240, 241, 242, 243, 244, 245, 246, 247, 248, 249]⟩

/-- What 'plain' makes, of two boxed rows; what 'packed' makes. -/
abbrev plainV (a b : Nat) : Value := .agg #[.func (.func 135) #[] #[.pointer (some ⟨a, 0, none⟩), .pointer (some ⟨b, 0, none⟩)], .func (.func 137) #[] #[], .func (.func 138) #[] #[.pointer (some ⟨b, 0, none⟩), .pointer (some ⟨a, 0, none⟩)]]
abbrev packV (a : Nat) : Value := .agg #[.func (.func 139) #[] #[], .func (.func 140) #[] #[], .func (.func 141) #[] #[.pointer (some ⟨a, 0, none⟩)]]
def BoxS (w : World) (a : Nat) (s : ByteArray) : Prop := w.heap[a]? = some (.cells #[.string s] 9 (0, 0))

theorem plain_any (fr tt : ByteArray) (w : World) : Calls Tryz.prog 114 #[.string fr, .string tt] w fun e w' => ∃ a b, e = .returned (plainV a b) ∧ BoxS w' a fr ∧ BoxS w' b tt ∧ Below w.heap.size w w' := by
  go_enter Tryz.func114, Tryz.ntmps114
  go_wp2
  refine bodyPost_ret (v := plainV w.heap.size (w.heap.size + 1)) (by simp [results, Tryz.results114, go_sem]) rfl ⟨_, _, rfl, ?_, ?_, by go_grown⟩
  · exact blk_alloc (heap_alloc2_old w _ _) _
  · exact blk_alloc (heap_alloc2_new w _ _) _
theorem packed_any (s : ByteArray) (w : World) : Calls Tryz.prog 115 #[.string s] w fun e w' => ∃ a, e = .returned (packV a) ∧ Below w.heap.size w w' := by
  go_enter Tryz.func115, Tryz.ntmps115
  go_wp2
  exact bodyPost_ret (v := packV w.heap.size) (by simp [results, Tryz.results115, go_sem]) rfl ⟨_, rfl, by go_grown⟩
theorem plain_put (s fr tt : ByteArray) (a b : Nat) (hall : allW fr s = true) (hto : fr.size ≤ tt.size) (hs : s.size ≤ 1048576) (w : World) (ha : BoxS w a fr) (hb : BoxS w b tt) :
    Calls Tryz.prog 135 #[.string s, .pointer (some ⟨a, 0, none⟩), .pointer (some ⟨b, 0, none⟩)] w fun e w' => e = .returned (.string ⟨(turnL fr tt s.data.toList).toArray⟩) ∧ Below w.heap.size w w' := by
  have ca := blk_cell ha 0
  have cb := blk_cell hb 0
  simp only [List.getElem?_toArray, List.getElem?_cons_zero] at ca cb
  clear ha hb
  go_enter Tryz.func135, Tryz.ntmps135
  go_wp2_with (go_at_call 136; refine (turned_yes _ _ _ hall hto hs _).mono ?_; rintro e w1 ⟨rfl, hb1⟩)
  go_ret
  exact ⟨rfl, hb1⟩

theorem box_far {W : World} {a g : Nat} {s : ByteArray} (h : BoxS W a s) (hg : a ≠ g) (i : Nat) (u : Value) : BoxS (W.setCell ⟨g, i, none⟩ u) a s := blk_far h (by exact hg) u
set_option maxRecDepth 100000 in
set_option maxHeartbeats 4000000 in
theorem codes_1 (k n : Int) (w : World) : Calls Tryz.prog 85 #[.agg #[.int .i64 k, .int .i64 n, .int .i64 1]] w fun e w' => ∃ a b c d f g, e = .returned (.tuple #[plainV a b, plainV c d, plainV f g]) ∧ BoxS w' a signS ∧ BoxS w' b signS ∧ BoxS w' c tenS ∧ BoxS w' d tenS ∧ BoxS w' f lowS ∧ BoxS w' g highS ∧ Below w.heap.size w w' := by
  have b1 : ((((w.alloc (.cells #[Value.int .i64 k, .int .i64 n, .int .i64 1] 107)).alloc (.cells #[Value.nilFunc, .nilFunc, .nilFunc] 157)).alloc (.cells #[Value.nilFunc, .nilFunc, .nilFunc] 157)).alloc (.cells #[Value.nilFunc, .nilFunc, .nilFunc] 157)).heap[w.heap.size + 1]? = some (.cells #[Value.nilFunc, .nilFunc, .nilFunc] 157 (0, 0)) := blk_alloc (blk_alloc (heap_alloc2_new w _ _) _) _
  have b2 : ((((w.alloc (.cells #[Value.int .i64 k, .int .i64 n, .int .i64 1] 107)).alloc (.cells #[Value.nilFunc, .nilFunc, .nilFunc] 157)).alloc (.cells #[Value.nilFunc, .nilFunc, .nilFunc] 157)).alloc (.cells #[Value.nilFunc, .nilFunc, .nilFunc] 157)).heap[w.heap.size + 1 + 1]? = some (.cells #[Value.nilFunc, .nilFunc, .nilFunc] 157 (0, 0)) := by
    have h := blk_alloc (blk_new ((w.alloc (.cells #[Value.int .i64 k, .int .i64 n, .int .i64 1] 107)).alloc (.cells #[Value.nilFunc, .nilFunc, .nilFunc] 157)) (.cells #[Value.nilFunc, .nilFunc, .nilFunc] 157)) (.cells #[Value.nilFunc, .nilFunc, .nilFunc] 157)
    simpa using h
  have b3 : ((((w.alloc (.cells #[Value.int .i64 k, .int .i64 n, .int .i64 1] 107)).alloc (.cells #[Value.nilFunc, .nilFunc, .nilFunc] 157)).alloc (.cells #[Value.nilFunc, .nilFunc, .nilFunc] 157)).alloc (.cells #[Value.nilFunc, .nilFunc, .nilFunc] 157)).heap[w.heap.size + 1 + 1 + 1]? = some (.cells #[Value.nilFunc, .nilFunc, .nilFunc] 157 (0, 0)) := by
    have h := blk_new (((w.alloc (.cells #[Value.int .i64 k, .int .i64 n, .int .i64 1] 107)).alloc (.cells #[Value.nilFunc, .nilFunc, .nilFunc] 157)).alloc (.cells #[Value.nilFunc, .nilFunc, .nilFunc] 157)) (.cells #[Value.nilFunc, .nilFunc, .nilFunc] 157)
    simpa using h
  have hB0 : Below w.heap.size w ((((w.alloc (.cells #[Value.int .i64 k, .int .i64 n, .int .i64 1] 107)).alloc (.cells #[Value.nilFunc, .nilFunc, .nilFunc] 157)).alloc (.cells #[Value.nilFunc, .nilFunc, .nilFunc] 157)).alloc (.cells #[Value.nilFunc, .nilFunc, .nilFunc] 157)) := below_alloc (below_alloc (below_alloc (below_alloc (Below.refl _ _) _) _) _) _
  have X1 := Aside0.mk b1
  have X2 := Aside0.mk b2
  have X3 := Aside0.mk b3
  have X0 := Aside0.mk hB0
  clear b1 b2 b3 hB0
  go_enter Tryz.func85, Tryz.ntmps85
  go_wp2_with fail
  refine (plain_any signS signS _).mono ?_
  rintro e w1 ⟨a, b, rfl, h1, h2, hb1⟩
  have Z0 := Aside0.mk (X0.out.trans (hb1.mono X0.out.size))
  have Z1 := Aside0.mk (blk_below X1.out hb1)
  have Z2 := Aside0.mk (blk_below X2.out hb1)
  have Z3 := Aside0.mk (blk_below X3.out hb1)
  have Ba := Aside0.mk h1
  have Bb := Aside0.mk h2
  clear X0 X1 X2 X3 hb1 h1 h2
  have X0 := Aside0.mk Z0.out
  have X1 := Aside0.mk Z1.out
  have X2 := Aside0.mk Z2.out
  have X3 := Aside0.mk Z3.out
  clear Z0 Z1 Z2 Z3
  go_wp2_with fail
  refine (plain_any tenS tenS _).mono ?_
  rintro e w2 ⟨c, d, rfl, h1, h2, hb2⟩
  have Z0 := Aside0.mk (X0.out.trans (hb2.mono X0.out.size))
  have Z1 := Aside0.mk (blk_below X1.out hb2)
  have Z2 := Aside0.mk (blk_below X2.out hb2)
  have Z3 := Aside0.mk (blk_below X3.out hb2)
  have Ba := Aside0.mk (blk_below Ba.out hb2)
  have Bb := Aside0.mk (blk_below Bb.out hb2)
  have Bc := Aside0.mk h1
  have Bd := Aside0.mk h2
  clear X0 X1 X2 X3 hb2 h1 h2
  have X0 := Aside0.mk Z0.out
  have X1 := Aside0.mk Z1.out
  have X2 := Aside0.mk Z2.out
  have X3 := Aside0.mk Z3.out
  clear Z0 Z1 Z2 Z3
  go_wp2_with fail
  refine (plain_any lowS highS _).mono ?_
  rintro e w3 ⟨f, g, rfl, h1, h2, hb3⟩
  have Z0 := Aside0.mk (X0.out.trans (hb3.mono X0.out.size))
  have Z1 := Aside0.mk (blk_below X1.out hb3)
  have Z2 := Aside0.mk (blk_below X2.out hb3)
  have Z3 := Aside0.mk (blk_below X3.out hb3)
  have Ba := Aside0.mk (blk_below Ba.out hb3)
  have Bb := Aside0.mk (blk_below Bb.out hb3)
  have Bc := Aside0.mk (blk_below Bc.out hb3)
  have Bd := Aside0.mk (blk_below Bd.out hb3)
  have Bf := Aside0.mk h1
  have Bg := Aside0.mk h2
  clear X0 X1 X2 X3 hb3 h1 h2
  have X0 := Aside0.mk Z0.out
  have X1 := Aside0.mk Z1.out
  have X2 := Aside0.mk Z2.out
  have X3 := Aside0.mk Z3.out
  clear Z0 Z1 Z2 Z3
  have c10 := blk_cell X1.out 0
  have f10 := blk_frozen X1.out 0
  have c11 := blk_cell X1.out 1
  have f11 := blk_frozen X1.out 1
  have c12 := blk_cell X1.out 2
  have f12 := blk_frozen X1.out 2
  have c20 := blk_cell X2.out 0
  have f20 := blk_frozen X2.out 0
  have c21 := blk_cell X2.out 1
  have f21 := blk_frozen X2.out 1
  have c22 := blk_cell X2.out 2
  have f22 := blk_frozen X2.out 2
  have c30 := blk_cell X3.out 0
  have f30 := blk_frozen X3.out 0
  have c31 := blk_cell X3.out 1
  have f31 := blk_frozen X3.out 1
  have c32 := blk_cell X3.out 2
  have f32 := blk_frozen X3.out 2
  simp only [List.getElem?_toArray, List.getElem?_cons_zero, List.getElem?_cons_succ] at c10 c11 c12 c20 c21 c22 c30 c31 c32
  go_wp2_with fail
  have la1 : a ≠ w.heap.size + 1 := fun e => blk_ne Ba.out X1.out (by decide) e
  have la2 : a ≠ w.heap.size + 1 + 1 := fun e => blk_ne Ba.out X2.out (by decide) e
  have la3 : a ≠ w.heap.size + 1 + 1 + 1 := fun e => blk_ne Ba.out X3.out (by decide) e
  have lb1 : b ≠ w.heap.size + 1 := fun e => blk_ne Bb.out X1.out (by decide) e
  have lb2 : b ≠ w.heap.size + 1 + 1 := fun e => blk_ne Bb.out X2.out (by decide) e
  have lb3 : b ≠ w.heap.size + 1 + 1 + 1 := fun e => blk_ne Bb.out X3.out (by decide) e
  have lc1 : c ≠ w.heap.size + 1 := fun e => blk_ne Bc.out X1.out (by decide) e
  have lc2 : c ≠ w.heap.size + 1 + 1 := fun e => blk_ne Bc.out X2.out (by decide) e
  have lc3 : c ≠ w.heap.size + 1 + 1 + 1 := fun e => blk_ne Bc.out X3.out (by decide) e
  have ld1 : d ≠ w.heap.size + 1 := fun e => blk_ne Bd.out X1.out (by decide) e
  have ld2 : d ≠ w.heap.size + 1 + 1 := fun e => blk_ne Bd.out X2.out (by decide) e
  have ld3 : d ≠ w.heap.size + 1 + 1 + 1 := fun e => blk_ne Bd.out X3.out (by decide) e
  have lf1 : f ≠ w.heap.size + 1 := fun e => blk_ne Bf.out X1.out (by decide) e
  have lf2 : f ≠ w.heap.size + 1 + 1 := fun e => blk_ne Bf.out X2.out (by decide) e
  have lf3 : f ≠ w.heap.size + 1 + 1 + 1 := fun e => blk_ne Bf.out X3.out (by decide) e
  have lg1 : g ≠ w.heap.size + 1 := fun e => blk_ne Bg.out X1.out (by decide) e
  have lg2 : g ≠ w.heap.size + 1 + 1 := fun e => blk_ne Bg.out X2.out (by decide) e
  have lg3 : g ≠ w.heap.size + 1 + 1 + 1 := fun e => blk_ne Bg.out X3.out (by decide) e
  have G1 := (blk_far (blk_far (blk_far (blk_far (blk_far (blk_far (blk_set (blk_set (blk_set X1.out 0 (Value.func (.func 135) #[] #[.pointer (some ⟨a, 0, none⟩), .pointer (some ⟨b, 0, none⟩)])) 1 (Value.func (.func 137) #[] #[])) 2 (Value.func (.func 138) #[] #[.pointer (some ⟨b, 0, none⟩), .pointer (some ⟨a, 0, none⟩)])) (p := ⟨w.heap.size + 1 + 1, 0, none⟩) (by dsimp only; omega) (Value.func (.func 135) #[] #[.pointer (some ⟨c, 0, none⟩), .pointer (some ⟨d, 0, none⟩)])) (p := ⟨w.heap.size + 1 + 1, 1, none⟩) (by dsimp only; omega) (Value.func (.func 137) #[] #[])) (p := ⟨w.heap.size + 1 + 1, 2, none⟩) (by dsimp only; omega) (Value.func (.func 138) #[] #[.pointer (some ⟨d, 0, none⟩), .pointer (some ⟨c, 0, none⟩)])) (p := ⟨w.heap.size + 1 + 1 + 1, 0, none⟩) (by dsimp only; omega) (Value.func (.func 135) #[] #[.pointer (some ⟨f, 0, none⟩), .pointer (some ⟨g, 0, none⟩)])) (p := ⟨w.heap.size + 1 + 1 + 1, 1, none⟩) (by dsimp only; omega) (Value.func (.func 137) #[] #[])) (p := ⟨w.heap.size + 1 + 1 + 1, 2, none⟩) (by dsimp only; omega) (Value.func (.func 138) #[] #[.pointer (some ⟨g, 0, none⟩), .pointer (some ⟨f, 0, none⟩)]))
  have G2 := (blk_far (blk_far (blk_far (blk_set (blk_set (blk_set (blk_far (blk_far (blk_far X2.out (p := ⟨w.heap.size + 1, 0, none⟩) (by dsimp only; omega) (Value.func (.func 135) #[] #[.pointer (some ⟨a, 0, none⟩), .pointer (some ⟨b, 0, none⟩)])) (p := ⟨w.heap.size + 1, 1, none⟩) (by dsimp only; omega) (Value.func (.func 137) #[] #[])) (p := ⟨w.heap.size + 1, 2, none⟩) (by dsimp only; omega) (Value.func (.func 138) #[] #[.pointer (some ⟨b, 0, none⟩), .pointer (some ⟨a, 0, none⟩)])) 0 (Value.func (.func 135) #[] #[.pointer (some ⟨c, 0, none⟩), .pointer (some ⟨d, 0, none⟩)])) 1 (Value.func (.func 137) #[] #[])) 2 (Value.func (.func 138) #[] #[.pointer (some ⟨d, 0, none⟩), .pointer (some ⟨c, 0, none⟩)])) (p := ⟨w.heap.size + 1 + 1 + 1, 0, none⟩) (by dsimp only; omega) (Value.func (.func 135) #[] #[.pointer (some ⟨f, 0, none⟩), .pointer (some ⟨g, 0, none⟩)])) (p := ⟨w.heap.size + 1 + 1 + 1, 1, none⟩) (by dsimp only; omega) (Value.func (.func 137) #[] #[])) (p := ⟨w.heap.size + 1 + 1 + 1, 2, none⟩) (by dsimp only; omega) (Value.func (.func 138) #[] #[.pointer (some ⟨g, 0, none⟩), .pointer (some ⟨f, 0, none⟩)]))
  have G3 := (blk_set (blk_set (blk_set (blk_far (blk_far (blk_far (blk_far (blk_far (blk_far X3.out (p := ⟨w.heap.size + 1, 0, none⟩) (by dsimp only; omega) (Value.func (.func 135) #[] #[.pointer (some ⟨a, 0, none⟩), .pointer (some ⟨b, 0, none⟩)])) (p := ⟨w.heap.size + 1, 1, none⟩) (by dsimp only; omega) (Value.func (.func 137) #[] #[])) (p := ⟨w.heap.size + 1, 2, none⟩) (by dsimp only; omega) (Value.func (.func 138) #[] #[.pointer (some ⟨b, 0, none⟩), .pointer (some ⟨a, 0, none⟩)])) (p := ⟨w.heap.size + 1 + 1, 0, none⟩) (by dsimp only; omega) (Value.func (.func 135) #[] #[.pointer (some ⟨c, 0, none⟩), .pointer (some ⟨d, 0, none⟩)])) (p := ⟨w.heap.size + 1 + 1, 1, none⟩) (by dsimp only; omega) (Value.func (.func 137) #[] #[])) (p := ⟨w.heap.size + 1 + 1, 2, none⟩) (by dsimp only; omega) (Value.func (.func 138) #[] #[.pointer (some ⟨d, 0, none⟩), .pointer (some ⟨c, 0, none⟩)])) 0 (Value.func (.func 135) #[] #[.pointer (some ⟨f, 0, none⟩), .pointer (some ⟨g, 0, none⟩)])) 1 (Value.func (.func 137) #[] #[])) 2 (Value.func (.func 138) #[] #[.pointer (some ⟨g, 0, none⟩), .pointer (some ⟨f, 0, none⟩)]))
  have G0 := (Below.setCell (p := ⟨w.heap.size + 1 + 1 + 1, 2, none⟩) (Below.setCell (p := ⟨w.heap.size + 1 + 1 + 1, 1, none⟩) (Below.setCell (p := ⟨w.heap.size + 1 + 1 + 1, 0, none⟩) (Below.setCell (p := ⟨w.heap.size + 1 + 1, 2, none⟩) (Below.setCell (p := ⟨w.heap.size + 1 + 1, 1, none⟩) (Below.setCell (p := ⟨w.heap.size + 1 + 1, 0, none⟩) (Below.setCell (p := ⟨w.heap.size + 1, 2, none⟩) (Below.setCell (p := ⟨w.heap.size + 1, 1, none⟩) (Below.setCell (p := ⟨w.heap.size + 1, 0, none⟩) X0.out (by dsimp only; omega) (Value.func (.func 135) #[] #[.pointer (some ⟨a, 0, none⟩), .pointer (some ⟨b, 0, none⟩)])) (by dsimp only; omega) (Value.func (.func 137) #[] #[])) (by dsimp only; omega) (Value.func (.func 138) #[] #[.pointer (some ⟨b, 0, none⟩), .pointer (some ⟨a, 0, none⟩)])) (by dsimp only; omega) (Value.func (.func 135) #[] #[.pointer (some ⟨c, 0, none⟩), .pointer (some ⟨d, 0, none⟩)])) (by dsimp only; omega) (Value.func (.func 137) #[] #[])) (by dsimp only; omega) (Value.func (.func 138) #[] #[.pointer (some ⟨d, 0, none⟩), .pointer (some ⟨c, 0, none⟩)])) (by dsimp only; omega) (Value.func (.func 135) #[] #[.pointer (some ⟨f, 0, none⟩), .pointer (some ⟨g, 0, none⟩)])) (by dsimp only; omega) (Value.func (.func 137) #[] #[])) (by dsimp only; omega) (Value.func (.func 138) #[] #[.pointer (some ⟨g, 0, none⟩), .pointer (some ⟨f, 0, none⟩)]))
  have Ea := (box_far (box_far (box_far (box_far (box_far (box_far (box_far (box_far (box_far Ba.out (g := w.heap.size + 1) (by first | exact la1 | omega) 0 (Value.func (.func 135) #[] #[.pointer (some ⟨a, 0, none⟩), .pointer (some ⟨b, 0, none⟩)])) (g := w.heap.size + 1) (by first | exact la1 | omega) 1 (Value.func (.func 137) #[] #[])) (g := w.heap.size + 1) (by first | exact la1 | omega) 2 (Value.func (.func 138) #[] #[.pointer (some ⟨b, 0, none⟩), .pointer (some ⟨a, 0, none⟩)])) (g := w.heap.size + 1 + 1) (by first | exact la2 | omega) 0 (Value.func (.func 135) #[] #[.pointer (some ⟨c, 0, none⟩), .pointer (some ⟨d, 0, none⟩)])) (g := w.heap.size + 1 + 1) (by first | exact la2 | omega) 1 (Value.func (.func 137) #[] #[])) (g := w.heap.size + 1 + 1) (by first | exact la2 | omega) 2 (Value.func (.func 138) #[] #[.pointer (some ⟨d, 0, none⟩), .pointer (some ⟨c, 0, none⟩)])) (g := w.heap.size + 1 + 1 + 1) (by first | exact la3 | omega) 0 (Value.func (.func 135) #[] #[.pointer (some ⟨f, 0, none⟩), .pointer (some ⟨g, 0, none⟩)])) (g := w.heap.size + 1 + 1 + 1) (by first | exact la3 | omega) 1 (Value.func (.func 137) #[] #[])) (g := w.heap.size + 1 + 1 + 1) (by first | exact la3 | omega) 2 (Value.func (.func 138) #[] #[.pointer (some ⟨g, 0, none⟩), .pointer (some ⟨f, 0, none⟩)]))
  have Eb := (box_far (box_far (box_far (box_far (box_far (box_far (box_far (box_far (box_far Bb.out (g := w.heap.size + 1) (by first | exact lb1 | omega) 0 (Value.func (.func 135) #[] #[.pointer (some ⟨a, 0, none⟩), .pointer (some ⟨b, 0, none⟩)])) (g := w.heap.size + 1) (by first | exact lb1 | omega) 1 (Value.func (.func 137) #[] #[])) (g := w.heap.size + 1) (by first | exact lb1 | omega) 2 (Value.func (.func 138) #[] #[.pointer (some ⟨b, 0, none⟩), .pointer (some ⟨a, 0, none⟩)])) (g := w.heap.size + 1 + 1) (by first | exact lb2 | omega) 0 (Value.func (.func 135) #[] #[.pointer (some ⟨c, 0, none⟩), .pointer (some ⟨d, 0, none⟩)])) (g := w.heap.size + 1 + 1) (by first | exact lb2 | omega) 1 (Value.func (.func 137) #[] #[])) (g := w.heap.size + 1 + 1) (by first | exact lb2 | omega) 2 (Value.func (.func 138) #[] #[.pointer (some ⟨d, 0, none⟩), .pointer (some ⟨c, 0, none⟩)])) (g := w.heap.size + 1 + 1 + 1) (by first | exact lb3 | omega) 0 (Value.func (.func 135) #[] #[.pointer (some ⟨f, 0, none⟩), .pointer (some ⟨g, 0, none⟩)])) (g := w.heap.size + 1 + 1 + 1) (by first | exact lb3 | omega) 1 (Value.func (.func 137) #[] #[])) (g := w.heap.size + 1 + 1 + 1) (by first | exact lb3 | omega) 2 (Value.func (.func 138) #[] #[.pointer (some ⟨g, 0, none⟩), .pointer (some ⟨f, 0, none⟩)]))
  have Ec := (box_far (box_far (box_far (box_far (box_far (box_far (box_far (box_far (box_far Bc.out (g := w.heap.size + 1) (by first | exact lc1 | omega) 0 (Value.func (.func 135) #[] #[.pointer (some ⟨a, 0, none⟩), .pointer (some ⟨b, 0, none⟩)])) (g := w.heap.size + 1) (by first | exact lc1 | omega) 1 (Value.func (.func 137) #[] #[])) (g := w.heap.size + 1) (by first | exact lc1 | omega) 2 (Value.func (.func 138) #[] #[.pointer (some ⟨b, 0, none⟩), .pointer (some ⟨a, 0, none⟩)])) (g := w.heap.size + 1 + 1) (by first | exact lc2 | omega) 0 (Value.func (.func 135) #[] #[.pointer (some ⟨c, 0, none⟩), .pointer (some ⟨d, 0, none⟩)])) (g := w.heap.size + 1 + 1) (by first | exact lc2 | omega) 1 (Value.func (.func 137) #[] #[])) (g := w.heap.size + 1 + 1) (by first | exact lc2 | omega) 2 (Value.func (.func 138) #[] #[.pointer (some ⟨d, 0, none⟩), .pointer (some ⟨c, 0, none⟩)])) (g := w.heap.size + 1 + 1 + 1) (by first | exact lc3 | omega) 0 (Value.func (.func 135) #[] #[.pointer (some ⟨f, 0, none⟩), .pointer (some ⟨g, 0, none⟩)])) (g := w.heap.size + 1 + 1 + 1) (by first | exact lc3 | omega) 1 (Value.func (.func 137) #[] #[])) (g := w.heap.size + 1 + 1 + 1) (by first | exact lc3 | omega) 2 (Value.func (.func 138) #[] #[.pointer (some ⟨g, 0, none⟩), .pointer (some ⟨f, 0, none⟩)]))
  have Ed := (box_far (box_far (box_far (box_far (box_far (box_far (box_far (box_far (box_far Bd.out (g := w.heap.size + 1) (by first | exact ld1 | omega) 0 (Value.func (.func 135) #[] #[.pointer (some ⟨a, 0, none⟩), .pointer (some ⟨b, 0, none⟩)])) (g := w.heap.size + 1) (by first | exact ld1 | omega) 1 (Value.func (.func 137) #[] #[])) (g := w.heap.size + 1) (by first | exact ld1 | omega) 2 (Value.func (.func 138) #[] #[.pointer (some ⟨b, 0, none⟩), .pointer (some ⟨a, 0, none⟩)])) (g := w.heap.size + 1 + 1) (by first | exact ld2 | omega) 0 (Value.func (.func 135) #[] #[.pointer (some ⟨c, 0, none⟩), .pointer (some ⟨d, 0, none⟩)])) (g := w.heap.size + 1 + 1) (by first | exact ld2 | omega) 1 (Value.func (.func 137) #[] #[])) (g := w.heap.size + 1 + 1) (by first | exact ld2 | omega) 2 (Value.func (.func 138) #[] #[.pointer (some ⟨d, 0, none⟩), .pointer (some ⟨c, 0, none⟩)])) (g := w.heap.size + 1 + 1 + 1) (by first | exact ld3 | omega) 0 (Value.func (.func 135) #[] #[.pointer (some ⟨f, 0, none⟩), .pointer (some ⟨g, 0, none⟩)])) (g := w.heap.size + 1 + 1 + 1) (by first | exact ld3 | omega) 1 (Value.func (.func 137) #[] #[])) (g := w.heap.size + 1 + 1 + 1) (by first | exact ld3 | omega) 2 (Value.func (.func 138) #[] #[.pointer (some ⟨g, 0, none⟩), .pointer (some ⟨f, 0, none⟩)]))
  have Ef := (box_far (box_far (box_far (box_far (box_far (box_far (box_far (box_far (box_far Bf.out (g := w.heap.size + 1) (by first | exact lf1 | omega) 0 (Value.func (.func 135) #[] #[.pointer (some ⟨a, 0, none⟩), .pointer (some ⟨b, 0, none⟩)])) (g := w.heap.size + 1) (by first | exact lf1 | omega) 1 (Value.func (.func 137) #[] #[])) (g := w.heap.size + 1) (by first | exact lf1 | omega) 2 (Value.func (.func 138) #[] #[.pointer (some ⟨b, 0, none⟩), .pointer (some ⟨a, 0, none⟩)])) (g := w.heap.size + 1 + 1) (by first | exact lf2 | omega) 0 (Value.func (.func 135) #[] #[.pointer (some ⟨c, 0, none⟩), .pointer (some ⟨d, 0, none⟩)])) (g := w.heap.size + 1 + 1) (by first | exact lf2 | omega) 1 (Value.func (.func 137) #[] #[])) (g := w.heap.size + 1 + 1) (by first | exact lf2 | omega) 2 (Value.func (.func 138) #[] #[.pointer (some ⟨d, 0, none⟩), .pointer (some ⟨c, 0, none⟩)])) (g := w.heap.size + 1 + 1 + 1) (by first | exact lf3 | omega) 0 (Value.func (.func 135) #[] #[.pointer (some ⟨f, 0, none⟩), .pointer (some ⟨g, 0, none⟩)])) (g := w.heap.size + 1 + 1 + 1) (by first | exact lf3 | omega) 1 (Value.func (.func 137) #[] #[])) (g := w.heap.size + 1 + 1 + 1) (by first | exact lf3 | omega) 2 (Value.func (.func 138) #[] #[.pointer (some ⟨g, 0, none⟩), .pointer (some ⟨f, 0, none⟩)]))
  have Eg := (box_far (box_far (box_far (box_far (box_far (box_far (box_far (box_far (box_far Bg.out (g := w.heap.size + 1) (by first | exact lg1 | omega) 0 (Value.func (.func 135) #[] #[.pointer (some ⟨a, 0, none⟩), .pointer (some ⟨b, 0, none⟩)])) (g := w.heap.size + 1) (by first | exact lg1 | omega) 1 (Value.func (.func 137) #[] #[])) (g := w.heap.size + 1) (by first | exact lg1 | omega) 2 (Value.func (.func 138) #[] #[.pointer (some ⟨b, 0, none⟩), .pointer (some ⟨a, 0, none⟩)])) (g := w.heap.size + 1 + 1) (by first | exact lg2 | omega) 0 (Value.func (.func 135) #[] #[.pointer (some ⟨c, 0, none⟩), .pointer (some ⟨d, 0, none⟩)])) (g := w.heap.size + 1 + 1) (by first | exact lg2 | omega) 1 (Value.func (.func 137) #[] #[])) (g := w.heap.size + 1 + 1) (by first | exact lg2 | omega) 2 (Value.func (.func 138) #[] #[.pointer (some ⟨d, 0, none⟩), .pointer (some ⟨c, 0, none⟩)])) (g := w.heap.size + 1 + 1 + 1) (by first | exact lg3 | omega) 0 (Value.func (.func 135) #[] #[.pointer (some ⟨f, 0, none⟩), .pointer (some ⟨g, 0, none⟩)])) (g := w.heap.size + 1 + 1 + 1) (by first | exact lg3 | omega) 1 (Value.func (.func 137) #[] #[])) (g := w.heap.size + 1 + 1 + 1) (by first | exact lg3 | omega) 2 (Value.func (.func 138) #[] #[.pointer (some ⟨g, 0, none⟩), .pointer (some ⟨f, 0, none⟩)]))
  simp only [List.setIfInBounds_toArray, List.set_cons_zero, List.set_cons_succ] at G1 G2 G3
  generalize (World.setCell (World.setCell (World.setCell (World.setCell (World.setCell (World.setCell (World.setCell (World.setCell (World.setCell w3 ⟨w.heap.size + 1, 0, none⟩ (Value.func (.func 135) #[] #[.pointer (some ⟨a, 0, none⟩), .pointer (some ⟨b, 0, none⟩)])) ⟨w.heap.size + 1, 1, none⟩ (Value.func (.func 137) #[] #[])) ⟨w.heap.size + 1, 2, none⟩ (Value.func (.func 138) #[] #[.pointer (some ⟨b, 0, none⟩), .pointer (some ⟨a, 0, none⟩)])) ⟨w.heap.size + 1 + 1, 0, none⟩ (Value.func (.func 135) #[] #[.pointer (some ⟨c, 0, none⟩), .pointer (some ⟨d, 0, none⟩)])) ⟨w.heap.size + 1 + 1, 1, none⟩ (Value.func (.func 137) #[] #[])) ⟨w.heap.size + 1 + 1, 2, none⟩ (Value.func (.func 138) #[] #[.pointer (some ⟨d, 0, none⟩), .pointer (some ⟨c, 0, none⟩)])) ⟨w.heap.size + 1 + 1 + 1, 0, none⟩ (Value.func (.func 135) #[] #[.pointer (some ⟨f, 0, none⟩), .pointer (some ⟨g, 0, none⟩)])) ⟨w.heap.size + 1 + 1 + 1, 1, none⟩ (Value.func (.func 137) #[] #[])) ⟨w.heap.size + 1 + 1 + 1, 2, none⟩ (Value.func (.func 138) #[] #[.pointer (some ⟨g, 0, none⟩), .pointer (some ⟨f, 0, none⟩)])) = wz at G0 G1 G2 G3 Ea Eb Ec Ed Ef Eg ⊢
  have d10 := blk_cell G1 0
  have d11 := blk_cell G1 1
  have d12 := blk_cell G1 2
  have d20 := blk_cell G2 0
  have d21 := blk_cell G2 1
  have d22 := blk_cell G2 2
  have d30 := blk_cell G3 0
  have d31 := blk_cell G3 1
  have d32 := blk_cell G3 2
  simp only [List.getElem?_toArray, List.getElem?_cons_zero, List.getElem?_cons_succ] at d10 d11 d12 d20 d21 d22 d30 d31 d32
  exact bodyPost_ret (v := .tuple #[plainV a b, plainV c d, plainV f g]) (by simp [results, Tryz.results85, go_sem, d10, d11, d12, d20, d21, d22, d30, d31, d32]) rfl ⟨a, b, c, d, f, g, rfl, Ea, Eb, Ec, Ed, Ef, Eg, G0⟩
set_option maxRecDepth 100000 in
set_option maxHeartbeats 4000000 in
theorem codes_2 (k n : Int) (w : World) : Calls Tryz.prog 85 #[.agg #[.int .i64 k, .int .i64 n, .int .i64 2]] w fun e w' => ∃ a b c f, e = .returned (.tuple #[plainV a b, packV c, packV f]) ∧ BoxS w' a signS ∧ BoxS w' b signS ∧ Below w.heap.size w w' := by
  have b1 : ((((w.alloc (.cells #[Value.int .i64 k, .int .i64 n, .int .i64 2] 107)).alloc (.cells #[Value.nilFunc, .nilFunc, .nilFunc] 157)).alloc (.cells #[Value.nilFunc, .nilFunc, .nilFunc] 157)).alloc (.cells #[Value.nilFunc, .nilFunc, .nilFunc] 157)).heap[w.heap.size + 1]? = some (.cells #[Value.nilFunc, .nilFunc, .nilFunc] 157 (0, 0)) := blk_alloc (blk_alloc (heap_alloc2_new w _ _) _) _
  have b2 : ((((w.alloc (.cells #[Value.int .i64 k, .int .i64 n, .int .i64 2] 107)).alloc (.cells #[Value.nilFunc, .nilFunc, .nilFunc] 157)).alloc (.cells #[Value.nilFunc, .nilFunc, .nilFunc] 157)).alloc (.cells #[Value.nilFunc, .nilFunc, .nilFunc] 157)).heap[w.heap.size + 1 + 1]? = some (.cells #[Value.nilFunc, .nilFunc, .nilFunc] 157 (0, 0)) := by
    have h := blk_alloc (blk_new ((w.alloc (.cells #[Value.int .i64 k, .int .i64 n, .int .i64 2] 107)).alloc (.cells #[Value.nilFunc, .nilFunc, .nilFunc] 157)) (.cells #[Value.nilFunc, .nilFunc, .nilFunc] 157)) (.cells #[Value.nilFunc, .nilFunc, .nilFunc] 157)
    simpa using h
  have b3 : ((((w.alloc (.cells #[Value.int .i64 k, .int .i64 n, .int .i64 2] 107)).alloc (.cells #[Value.nilFunc, .nilFunc, .nilFunc] 157)).alloc (.cells #[Value.nilFunc, .nilFunc, .nilFunc] 157)).alloc (.cells #[Value.nilFunc, .nilFunc, .nilFunc] 157)).heap[w.heap.size + 1 + 1 + 1]? = some (.cells #[Value.nilFunc, .nilFunc, .nilFunc] 157 (0, 0)) := by
    have h := blk_new (((w.alloc (.cells #[Value.int .i64 k, .int .i64 n, .int .i64 2] 107)).alloc (.cells #[Value.nilFunc, .nilFunc, .nilFunc] 157)).alloc (.cells #[Value.nilFunc, .nilFunc, .nilFunc] 157)) (.cells #[Value.nilFunc, .nilFunc, .nilFunc] 157)
    simpa using h
  have hB0 : Below w.heap.size w ((((w.alloc (.cells #[Value.int .i64 k, .int .i64 n, .int .i64 2] 107)).alloc (.cells #[Value.nilFunc, .nilFunc, .nilFunc] 157)).alloc (.cells #[Value.nilFunc, .nilFunc, .nilFunc] 157)).alloc (.cells #[Value.nilFunc, .nilFunc, .nilFunc] 157)) := below_alloc (below_alloc (below_alloc (below_alloc (Below.refl _ _) _) _) _) _
  have X1 := Aside0.mk b1
  have X2 := Aside0.mk b2
  have X3 := Aside0.mk b3
  have X0 := Aside0.mk hB0
  clear b1 b2 b3 hB0
  go_enter Tryz.func85, Tryz.ntmps85
  go_wp2_with fail
  refine (plain_any signS signS _).mono ?_
  rintro e w1 ⟨a, b, rfl, h1, h2, hb1⟩
  have Z0 := Aside0.mk (X0.out.trans (hb1.mono X0.out.size))
  have Z1 := Aside0.mk (blk_below X1.out hb1)
  have Z2 := Aside0.mk (blk_below X2.out hb1)
  have Z3 := Aside0.mk (blk_below X3.out hb1)
  have Ba := Aside0.mk h1
  have Bb := Aside0.mk h2
  clear X0 X1 X2 X3 hb1 h1 h2
  have X0 := Aside0.mk Z0.out
  have X1 := Aside0.mk Z1.out
  have X2 := Aside0.mk Z2.out
  have X3 := Aside0.mk Z3.out
  clear Z0 Z1 Z2 Z3
  go_wp2_with fail
  refine (packed_any tenS _).mono ?_
  rintro e w2 ⟨c, rfl, hb2⟩
  have Z0 := Aside0.mk (X0.out.trans (hb2.mono X0.out.size))
  have Z1 := Aside0.mk (blk_below X1.out hb2)
  have Z2 := Aside0.mk (blk_below X2.out hb2)
  have Z3 := Aside0.mk (blk_below X3.out hb2)
  have Ba := Aside0.mk (blk_below Ba.out hb2)
  have Bb := Aside0.mk (blk_below Bb.out hb2)
  clear X0 X1 X2 X3 hb2
  have X0 := Aside0.mk Z0.out
  have X1 := Aside0.mk Z1.out
  have X2 := Aside0.mk Z2.out
  have X3 := Aside0.mk Z3.out
  clear Z0 Z1 Z2 Z3
  go_wp2_with fail
  refine (packed_any lowS _).mono ?_
  rintro e w3 ⟨f, rfl, hb3⟩
  have Z0 := Aside0.mk (X0.out.trans (hb3.mono X0.out.size))
  have Z1 := Aside0.mk (blk_below X1.out hb3)
  have Z2 := Aside0.mk (blk_below X2.out hb3)
  have Z3 := Aside0.mk (blk_below X3.out hb3)
  have Ba := Aside0.mk (blk_below Ba.out hb3)
  have Bb := Aside0.mk (blk_below Bb.out hb3)
  clear X0 X1 X2 X3 hb3
  have X0 := Aside0.mk Z0.out
  have X1 := Aside0.mk Z1.out
  have X2 := Aside0.mk Z2.out
  have X3 := Aside0.mk Z3.out
  clear Z0 Z1 Z2 Z3
  have c10 := blk_cell X1.out 0
  have f10 := blk_frozen X1.out 0
  have c11 := blk_cell X1.out 1
  have f11 := blk_frozen X1.out 1
  have c12 := blk_cell X1.out 2
  have f12 := blk_frozen X1.out 2
  have c20 := blk_cell X2.out 0
  have f20 := blk_frozen X2.out 0
  have c21 := blk_cell X2.out 1
  have f21 := blk_frozen X2.out 1
  have c22 := blk_cell X2.out 2
  have f22 := blk_frozen X2.out 2
  have c30 := blk_cell X3.out 0
  have f30 := blk_frozen X3.out 0
  have c31 := blk_cell X3.out 1
  have f31 := blk_frozen X3.out 1
  have c32 := blk_cell X3.out 2
  have f32 := blk_frozen X3.out 2
  simp only [List.getElem?_toArray, List.getElem?_cons_zero, List.getElem?_cons_succ] at c10 c11 c12 c20 c21 c22 c30 c31 c32
  go_wp2_with fail
  have la1 : a ≠ w.heap.size + 1 := fun e => blk_ne Ba.out X1.out (by decide) e
  have la2 : a ≠ w.heap.size + 1 + 1 := fun e => blk_ne Ba.out X2.out (by decide) e
  have la3 : a ≠ w.heap.size + 1 + 1 + 1 := fun e => blk_ne Ba.out X3.out (by decide) e
  have lb1 : b ≠ w.heap.size + 1 := fun e => blk_ne Bb.out X1.out (by decide) e
  have lb2 : b ≠ w.heap.size + 1 + 1 := fun e => blk_ne Bb.out X2.out (by decide) e
  have lb3 : b ≠ w.heap.size + 1 + 1 + 1 := fun e => blk_ne Bb.out X3.out (by decide) e
  have G1 := (blk_far (blk_far (blk_far (blk_far (blk_far (blk_far (blk_set (blk_set (blk_set X1.out 0 (Value.func (.func 135) #[] #[.pointer (some ⟨a, 0, none⟩), .pointer (some ⟨b, 0, none⟩)])) 1 (Value.func (.func 137) #[] #[])) 2 (Value.func (.func 138) #[] #[.pointer (some ⟨b, 0, none⟩), .pointer (some ⟨a, 0, none⟩)])) (p := ⟨w.heap.size + 1 + 1, 0, none⟩) (by dsimp only; omega) (Value.func (.func 139) #[] #[])) (p := ⟨w.heap.size + 1 + 1, 1, none⟩) (by dsimp only; omega) (Value.func (.func 140) #[] #[])) (p := ⟨w.heap.size + 1 + 1, 2, none⟩) (by dsimp only; omega) (Value.func (.func 141) #[] #[.pointer (some ⟨c, 0, none⟩)])) (p := ⟨w.heap.size + 1 + 1 + 1, 0, none⟩) (by dsimp only; omega) (Value.func (.func 139) #[] #[])) (p := ⟨w.heap.size + 1 + 1 + 1, 1, none⟩) (by dsimp only; omega) (Value.func (.func 140) #[] #[])) (p := ⟨w.heap.size + 1 + 1 + 1, 2, none⟩) (by dsimp only; omega) (Value.func (.func 141) #[] #[.pointer (some ⟨f, 0, none⟩)]))
  have G2 := (blk_far (blk_far (blk_far (blk_set (blk_set (blk_set (blk_far (blk_far (blk_far X2.out (p := ⟨w.heap.size + 1, 0, none⟩) (by dsimp only; omega) (Value.func (.func 135) #[] #[.pointer (some ⟨a, 0, none⟩), .pointer (some ⟨b, 0, none⟩)])) (p := ⟨w.heap.size + 1, 1, none⟩) (by dsimp only; omega) (Value.func (.func 137) #[] #[])) (p := ⟨w.heap.size + 1, 2, none⟩) (by dsimp only; omega) (Value.func (.func 138) #[] #[.pointer (some ⟨b, 0, none⟩), .pointer (some ⟨a, 0, none⟩)])) 0 (Value.func (.func 139) #[] #[])) 1 (Value.func (.func 140) #[] #[])) 2 (Value.func (.func 141) #[] #[.pointer (some ⟨c, 0, none⟩)])) (p := ⟨w.heap.size + 1 + 1 + 1, 0, none⟩) (by dsimp only; omega) (Value.func (.func 139) #[] #[])) (p := ⟨w.heap.size + 1 + 1 + 1, 1, none⟩) (by dsimp only; omega) (Value.func (.func 140) #[] #[])) (p := ⟨w.heap.size + 1 + 1 + 1, 2, none⟩) (by dsimp only; omega) (Value.func (.func 141) #[] #[.pointer (some ⟨f, 0, none⟩)]))
  have G3 := (blk_set (blk_set (blk_set (blk_far (blk_far (blk_far (blk_far (blk_far (blk_far X3.out (p := ⟨w.heap.size + 1, 0, none⟩) (by dsimp only; omega) (Value.func (.func 135) #[] #[.pointer (some ⟨a, 0, none⟩), .pointer (some ⟨b, 0, none⟩)])) (p := ⟨w.heap.size + 1, 1, none⟩) (by dsimp only; omega) (Value.func (.func 137) #[] #[])) (p := ⟨w.heap.size + 1, 2, none⟩) (by dsimp only; omega) (Value.func (.func 138) #[] #[.pointer (some ⟨b, 0, none⟩), .pointer (some ⟨a, 0, none⟩)])) (p := ⟨w.heap.size + 1 + 1, 0, none⟩) (by dsimp only; omega) (Value.func (.func 139) #[] #[])) (p := ⟨w.heap.size + 1 + 1, 1, none⟩) (by dsimp only; omega) (Value.func (.func 140) #[] #[])) (p := ⟨w.heap.size + 1 + 1, 2, none⟩) (by dsimp only; omega) (Value.func (.func 141) #[] #[.pointer (some ⟨c, 0, none⟩)])) 0 (Value.func (.func 139) #[] #[])) 1 (Value.func (.func 140) #[] #[])) 2 (Value.func (.func 141) #[] #[.pointer (some ⟨f, 0, none⟩)]))
  have G0 := (Below.setCell (p := ⟨w.heap.size + 1 + 1 + 1, 2, none⟩) (Below.setCell (p := ⟨w.heap.size + 1 + 1 + 1, 1, none⟩) (Below.setCell (p := ⟨w.heap.size + 1 + 1 + 1, 0, none⟩) (Below.setCell (p := ⟨w.heap.size + 1 + 1, 2, none⟩) (Below.setCell (p := ⟨w.heap.size + 1 + 1, 1, none⟩) (Below.setCell (p := ⟨w.heap.size + 1 + 1, 0, none⟩) (Below.setCell (p := ⟨w.heap.size + 1, 2, none⟩) (Below.setCell (p := ⟨w.heap.size + 1, 1, none⟩) (Below.setCell (p := ⟨w.heap.size + 1, 0, none⟩) X0.out (by dsimp only; omega) (Value.func (.func 135) #[] #[.pointer (some ⟨a, 0, none⟩), .pointer (some ⟨b, 0, none⟩)])) (by dsimp only; omega) (Value.func (.func 137) #[] #[])) (by dsimp only; omega) (Value.func (.func 138) #[] #[.pointer (some ⟨b, 0, none⟩), .pointer (some ⟨a, 0, none⟩)])) (by dsimp only; omega) (Value.func (.func 139) #[] #[])) (by dsimp only; omega) (Value.func (.func 140) #[] #[])) (by dsimp only; omega) (Value.func (.func 141) #[] #[.pointer (some ⟨c, 0, none⟩)])) (by dsimp only; omega) (Value.func (.func 139) #[] #[])) (by dsimp only; omega) (Value.func (.func 140) #[] #[])) (by dsimp only; omega) (Value.func (.func 141) #[] #[.pointer (some ⟨f, 0, none⟩)]))
  have Ea := (box_far (box_far (box_far (box_far (box_far (box_far (box_far (box_far (box_far Ba.out (g := w.heap.size + 1) (by first | exact la1 | omega) 0 (Value.func (.func 135) #[] #[.pointer (some ⟨a, 0, none⟩), .pointer (some ⟨b, 0, none⟩)])) (g := w.heap.size + 1) (by first | exact la1 | omega) 1 (Value.func (.func 137) #[] #[])) (g := w.heap.size + 1) (by first | exact la1 | omega) 2 (Value.func (.func 138) #[] #[.pointer (some ⟨b, 0, none⟩), .pointer (some ⟨a, 0, none⟩)])) (g := w.heap.size + 1 + 1) (by first | exact la2 | omega) 0 (Value.func (.func 139) #[] #[])) (g := w.heap.size + 1 + 1) (by first | exact la2 | omega) 1 (Value.func (.func 140) #[] #[])) (g := w.heap.size + 1 + 1) (by first | exact la2 | omega) 2 (Value.func (.func 141) #[] #[.pointer (some ⟨c, 0, none⟩)])) (g := w.heap.size + 1 + 1 + 1) (by first | exact la3 | omega) 0 (Value.func (.func 139) #[] #[])) (g := w.heap.size + 1 + 1 + 1) (by first | exact la3 | omega) 1 (Value.func (.func 140) #[] #[])) (g := w.heap.size + 1 + 1 + 1) (by first | exact la3 | omega) 2 (Value.func (.func 141) #[] #[.pointer (some ⟨f, 0, none⟩)]))
  have Eb := (box_far (box_far (box_far (box_far (box_far (box_far (box_far (box_far (box_far Bb.out (g := w.heap.size + 1) (by first | exact lb1 | omega) 0 (Value.func (.func 135) #[] #[.pointer (some ⟨a, 0, none⟩), .pointer (some ⟨b, 0, none⟩)])) (g := w.heap.size + 1) (by first | exact lb1 | omega) 1 (Value.func (.func 137) #[] #[])) (g := w.heap.size + 1) (by first | exact lb1 | omega) 2 (Value.func (.func 138) #[] #[.pointer (some ⟨b, 0, none⟩), .pointer (some ⟨a, 0, none⟩)])) (g := w.heap.size + 1 + 1) (by first | exact lb2 | omega) 0 (Value.func (.func 139) #[] #[])) (g := w.heap.size + 1 + 1) (by first | exact lb2 | omega) 1 (Value.func (.func 140) #[] #[])) (g := w.heap.size + 1 + 1) (by first | exact lb2 | omega) 2 (Value.func (.func 141) #[] #[.pointer (some ⟨c, 0, none⟩)])) (g := w.heap.size + 1 + 1 + 1) (by first | exact lb3 | omega) 0 (Value.func (.func 139) #[] #[])) (g := w.heap.size + 1 + 1 + 1) (by first | exact lb3 | omega) 1 (Value.func (.func 140) #[] #[])) (g := w.heap.size + 1 + 1 + 1) (by first | exact lb3 | omega) 2 (Value.func (.func 141) #[] #[.pointer (some ⟨f, 0, none⟩)]))
  simp only [List.setIfInBounds_toArray, List.set_cons_zero, List.set_cons_succ] at G1 G2 G3
  generalize (World.setCell (World.setCell (World.setCell (World.setCell (World.setCell (World.setCell (World.setCell (World.setCell (World.setCell w3 ⟨w.heap.size + 1, 0, none⟩ (Value.func (.func 135) #[] #[.pointer (some ⟨a, 0, none⟩), .pointer (some ⟨b, 0, none⟩)])) ⟨w.heap.size + 1, 1, none⟩ (Value.func (.func 137) #[] #[])) ⟨w.heap.size + 1, 2, none⟩ (Value.func (.func 138) #[] #[.pointer (some ⟨b, 0, none⟩), .pointer (some ⟨a, 0, none⟩)])) ⟨w.heap.size + 1 + 1, 0, none⟩ (Value.func (.func 139) #[] #[])) ⟨w.heap.size + 1 + 1, 1, none⟩ (Value.func (.func 140) #[] #[])) ⟨w.heap.size + 1 + 1, 2, none⟩ (Value.func (.func 141) #[] #[.pointer (some ⟨c, 0, none⟩)])) ⟨w.heap.size + 1 + 1 + 1, 0, none⟩ (Value.func (.func 139) #[] #[])) ⟨w.heap.size + 1 + 1 + 1, 1, none⟩ (Value.func (.func 140) #[] #[])) ⟨w.heap.size + 1 + 1 + 1, 2, none⟩ (Value.func (.func 141) #[] #[.pointer (some ⟨f, 0, none⟩)])) = wz at G0 G1 G2 G3 Ea Eb ⊢
  have d10 := blk_cell G1 0
  have d11 := blk_cell G1 1
  have d12 := blk_cell G1 2
  have d20 := blk_cell G2 0
  have d21 := blk_cell G2 1
  have d22 := blk_cell G2 2
  have d30 := blk_cell G3 0
  have d31 := blk_cell G3 1
  have d32 := blk_cell G3 2
  simp only [List.getElem?_toArray, List.getElem?_cons_zero, List.getElem?_cons_succ] at d10 d11 d12 d20 d21 d22 d30 d31 d32
  exact bodyPost_ret (v := .tuple #[plainV a b, packV c, packV f]) (by simp [results, Tryz.results85, go_sem, d10, d11, d12, d20, d21, d22, d30, d31, d32]) rfl ⟨a, b, c, f, rfl, Ea, Eb, G0⟩
set_option maxRecDepth 100000 in
set_option maxHeartbeats 4000000 in
theorem codes_3 (k n : Int) (w : World) : Calls Tryz.prog 85 #[.agg #[.int .i64 k, .int .i64 n, .int .i64 3]] w fun e w' => ∃ a b c d f, e = .returned (.tuple #[plainV a b, plainV c d, packV f]) ∧ BoxS w' a signS ∧ BoxS w' b ebcS ∧ BoxS w' c tenS ∧ BoxS w' d ebtS ∧ Below w.heap.size w w' := by
  have b1 : ((((w.alloc (.cells #[Value.int .i64 k, .int .i64 n, .int .i64 3] 107)).alloc (.cells #[Value.nilFunc, .nilFunc, .nilFunc] 157)).alloc (.cells #[Value.nilFunc, .nilFunc, .nilFunc] 157)).alloc (.cells #[Value.nilFunc, .nilFunc, .nilFunc] 157)).heap[w.heap.size + 1]? = some (.cells #[Value.nilFunc, .nilFunc, .nilFunc] 157 (0, 0)) := blk_alloc (blk_alloc (heap_alloc2_new w _ _) _) _
  have b2 : ((((w.alloc (.cells #[Value.int .i64 k, .int .i64 n, .int .i64 3] 107)).alloc (.cells #[Value.nilFunc, .nilFunc, .nilFunc] 157)).alloc (.cells #[Value.nilFunc, .nilFunc, .nilFunc] 157)).alloc (.cells #[Value.nilFunc, .nilFunc, .nilFunc] 157)).heap[w.heap.size + 1 + 1]? = some (.cells #[Value.nilFunc, .nilFunc, .nilFunc] 157 (0, 0)) := by
    have h := blk_alloc (blk_new ((w.alloc (.cells #[Value.int .i64 k, .int .i64 n, .int .i64 3] 107)).alloc (.cells #[Value.nilFunc, .nilFunc, .nilFunc] 157)) (.cells #[Value.nilFunc, .nilFunc, .nilFunc] 157)) (.cells #[Value.nilFunc, .nilFunc, .nilFunc] 157)
    simpa using h
  have b3 : ((((w.alloc (.cells #[Value.int .i64 k, .int .i64 n, .int .i64 3] 107)).alloc (.cells #[Value.nilFunc, .nilFunc, .nilFunc] 157)).alloc (.cells #[Value.nilFunc, .nilFunc, .nilFunc] 157)).alloc (.cells #[Value.nilFunc, .nilFunc, .nilFunc] 157)).heap[w.heap.size + 1 + 1 + 1]? = some (.cells #[Value.nilFunc, .nilFunc, .nilFunc] 157 (0, 0)) := by
    have h := blk_new (((w.alloc (.cells #[Value.int .i64 k, .int .i64 n, .int .i64 3] 107)).alloc (.cells #[Value.nilFunc, .nilFunc, .nilFunc] 157)).alloc (.cells #[Value.nilFunc, .nilFunc, .nilFunc] 157)) (.cells #[Value.nilFunc, .nilFunc, .nilFunc] 157)
    simpa using h
  have hB0 : Below w.heap.size w ((((w.alloc (.cells #[Value.int .i64 k, .int .i64 n, .int .i64 3] 107)).alloc (.cells #[Value.nilFunc, .nilFunc, .nilFunc] 157)).alloc (.cells #[Value.nilFunc, .nilFunc, .nilFunc] 157)).alloc (.cells #[Value.nilFunc, .nilFunc, .nilFunc] 157)) := below_alloc (below_alloc (below_alloc (below_alloc (Below.refl _ _) _) _) _) _
  have X1 := Aside0.mk b1
  have X2 := Aside0.mk b2
  have X3 := Aside0.mk b3
  have X0 := Aside0.mk hB0
  clear b1 b2 b3 hB0
  go_enter Tryz.func85, Tryz.ntmps85
  go_wp2_with fail
  refine start_ (n := 7) (S := fun w' => True) (ds := [4, 5, 6]) #[false, false, false, false, false, false, false] (by kernel_rfl) rfl rfl trivial (fun hHeld => ?_)
  refine pure_ (i := 1) (N := some 18) (v := ?_) (a' := ?_) #[false, true, false, false, false, false, false] rfl rfl (by kernel_rfl) (fun _ _ _ h => h) (Or.inl ⟨by rfl, ?_⟩) ?_ ?_
  rotate_left
  · intro w'
    go_simp
    with_reducible rfl
  rotate_left
  · simp only [Act.put, List.setIfInBounds_toArray, List.set_cons_zero, List.set_cons_succ]
    rfl
  refine one_ (i := 0) (N := some 17) #[true, true, false, false, false, false, false] rfl rfl (by kernel_rfl) (by decide) (fun K hK => ?_)
  refine goes_ Tryz.func114 (by kernel_rfl) rfl #[.string ⟨#[65, 66, 67, 68, 69, 70, 71, 72, 73, 74, 75, 76, 77, 78, 79, 80, 81, 82, 83, 84, 85, 86, 87, 88, 89, 90, 48, 49, 50, 51, 52, 53, 54, 55, 56, 57, 32]⟩, .string ebcS] (by rfl) rfl rfl (by simp only [List.map_toArray, List.map_cons, List.map_nil]; rfl) ?_
  with_reducible refine (plain_any signS ebcS _).mono ?_
  rintro e w1 ⟨a, b, rfl, h1, h2, hb1⟩
  have Z0 := Aside0.mk ((below_drew X0.out).trans (hb1.mono X0.out.size))
  have Z1 := Aside0.mk (blk_below (blk_drew X1.out) hb1)
  have Z2 := Aside0.mk (blk_below (blk_drew X2.out) hb1)
  have Z3 := Aside0.mk (blk_below (blk_drew X3.out) hb1)
  have Ba := Aside0.mk h1
  have Bb := Aside0.mk h2
  clear X0 X1 X2 X3 hb1 h1 h2
  have X0 := Aside0.mk Z0.out
  have X1 := Aside0.mk Z1.out
  have X2 := Aside0.mk Z2.out
  have X3 := Aside0.mk Z3.out
  clear Z0 Z1 Z2 Z3
  refine ⟨_, rfl, ?_⟩
  refine hK.out _ _ trivial (fun hHeld => ?_)
  clear hK K
  refine norm_ (a' := ?_) ?_ ?_
  rotate_left
  · show Act.put _ (some 17) _ = _
    simp only [Act.put, List.setIfInBounds_toArray, List.set_cons_zero, List.set_cons_succ]
    rfl
  refine one_ (i := 2) (N := some 19) #[true, true, true, false, false, false, false] rfl rfl (by kernel_rfl) (by decide) (fun K hK => ?_)
  refine goes_ Tryz.func114 (by kernel_rfl) rfl #[.string tenS, .string ebtS] (by rfl) rfl rfl (by simp only [List.map_toArray, List.map_cons, List.map_nil]; rfl) ?_
  with_reducible refine (plain_any tenS ebtS _).mono ?_
  rintro e w2 ⟨c, d, rfl, h1, h2, hb2⟩
  have Z0 := Aside0.mk (X0.out.trans (hb2.mono X0.out.size))
  have Z1 := Aside0.mk (blk_below X1.out hb2)
  have Z2 := Aside0.mk (blk_below X2.out hb2)
  have Z3 := Aside0.mk (blk_below X3.out hb2)
  have Ba := Aside0.mk (blk_below Ba.out hb2)
  have Bb := Aside0.mk (blk_below Bb.out hb2)
  have Bc := Aside0.mk h1
  have Bd := Aside0.mk h2
  clear X0 X1 X2 X3 hb2 h1 h2
  have X0 := Aside0.mk Z0.out
  have X1 := Aside0.mk Z1.out
  have X2 := Aside0.mk Z2.out
  have X3 := Aside0.mk Z3.out
  clear Z0 Z1 Z2 Z3
  refine ⟨_, rfl, ?_⟩
  refine hK.out _ _ trivial (fun hHeld => ?_)
  clear hK K
  refine norm_ (a' := ?_) ?_ ?_
  rotate_left
  · show Act.put _ (some 19) _ = _
    simp only [Act.put, List.setIfInBounds_toArray, List.set_cons_zero, List.set_cons_succ]
    rfl
  refine one_ (i := 3) (N := some 20) #[true, true, true, true, false, false, false] rfl rfl (by kernel_rfl) (by decide) (fun K hK => ?_)
  refine goes_ Tryz.func115 (by kernel_rfl) rfl #[.string lowS] (by rfl) rfl rfl (by simp only [List.map_toArray, List.map_cons, List.map_nil]; rfl) ?_
  with_reducible refine (packed_any lowS _).mono ?_
  rintro e w3 ⟨f, rfl, hb3⟩
  have Z0 := Aside0.mk (X0.out.trans (hb3.mono X0.out.size))
  have Z1 := Aside0.mk (blk_below X1.out hb3)
  have Z2 := Aside0.mk (blk_below X2.out hb3)
  have Z3 := Aside0.mk (blk_below X3.out hb3)
  have Ba := Aside0.mk (blk_below Ba.out hb3)
  have Bb := Aside0.mk (blk_below Bb.out hb3)
  have Bc := Aside0.mk (blk_below Bc.out hb3)
  have Bd := Aside0.mk (blk_below Bd.out hb3)
  clear X0 X1 X2 X3 hb3
  have X0 := Aside0.mk Z0.out
  have X1 := Aside0.mk Z1.out
  have X2 := Aside0.mk Z2.out
  have X3 := Aside0.mk Z3.out
  clear Z0 Z1 Z2 Z3
  have c10 := blk_cell X1.out 0
  have f10 := blk_frozen X1.out 0
  have c11 := blk_cell X1.out 1
  have f11 := blk_frozen X1.out 1
  have c12 := blk_cell X1.out 2
  have f12 := blk_frozen X1.out 2
  have c20 := blk_cell X2.out 0
  have f20 := blk_frozen X2.out 0
  have c21 := blk_cell X2.out 1
  have f21 := blk_frozen X2.out 1
  have c22 := blk_cell X2.out 2
  have f22 := blk_frozen X2.out 2
  have c30 := blk_cell X3.out 0
  have f30 := blk_frozen X3.out 0
  have c31 := blk_cell X3.out 1
  have f31 := blk_frozen X3.out 1
  have c32 := blk_cell X3.out 2
  have f32 := blk_frozen X3.out 2
  simp only [List.getElem?_toArray, List.getElem?_cons_zero, List.getElem?_cons_succ] at c10 c11 c12 c20 c21 c22 c30 c31 c32
  refine ⟨_, rfl, ?_⟩
  refine hK.out _ _ trivial (fun hHeld => ?_)
  clear hK K
  refine norm_ (a' := ?_) ?_ ?_
  rotate_left
  · show Act.put _ (some 20) _ = _
    simp only [Act.put, List.setIfInBounds_toArray, List.set_cons_zero, List.set_cons_succ]
    rfl
  refine last_ (i := 4) (N := none) #[true, true, true, true, true, false, false] rfl rfl (by kernel_rfl) (by decide) (fun K hK => ?_)
  refine skip_ (w1 := ?_) (by rfl) rfl ?_ ?_
  rotate_left
  · go_simp
    rfl
  refine hK.out _ _ ?_
  clear hK K
  refine last_ (i := 5) (N := none) #[true, true, true, true, true, true, false] rfl rfl (by kernel_rfl) (by decide) (fun K hK => ?_)
  refine skip_ (w1 := ?_) (by rfl) rfl ?_ ?_
  rotate_left
  · go_simp
    rfl
  refine hK.out _ _ ?_
  clear hK K
  refine last_ (i := 6) (N := none) #[true, true, true, true, true, true, true] rfl rfl (by kernel_rfl) (by decide) (fun K hK => ?_)
  refine skip_ (w1 := ?_) (by rfl) rfl ?_ ?_
  rotate_left
  · go_simp
    rfl
  refine hK.out _ _ ?_
  clear hK K
  refine done_ (by kernel_rfl) ?_
  clear hHeld
  go_wp2_with fail
  have la1 : a ≠ w.heap.size + 1 := fun e => blk_ne Ba.out X1.out (by decide) e
  have la2 : a ≠ w.heap.size + 1 + 1 := fun e => blk_ne Ba.out X2.out (by decide) e
  have la3 : a ≠ w.heap.size + 1 + 1 + 1 := fun e => blk_ne Ba.out X3.out (by decide) e
  have lb1 : b ≠ w.heap.size + 1 := fun e => blk_ne Bb.out X1.out (by decide) e
  have lb2 : b ≠ w.heap.size + 1 + 1 := fun e => blk_ne Bb.out X2.out (by decide) e
  have lb3 : b ≠ w.heap.size + 1 + 1 + 1 := fun e => blk_ne Bb.out X3.out (by decide) e
  have lc1 : c ≠ w.heap.size + 1 := fun e => blk_ne Bc.out X1.out (by decide) e
  have lc2 : c ≠ w.heap.size + 1 + 1 := fun e => blk_ne Bc.out X2.out (by decide) e
  have lc3 : c ≠ w.heap.size + 1 + 1 + 1 := fun e => blk_ne Bc.out X3.out (by decide) e
  have ld1 : d ≠ w.heap.size + 1 := fun e => blk_ne Bd.out X1.out (by decide) e
  have ld2 : d ≠ w.heap.size + 1 + 1 := fun e => blk_ne Bd.out X2.out (by decide) e
  have ld3 : d ≠ w.heap.size + 1 + 1 + 1 := fun e => blk_ne Bd.out X3.out (by decide) e
  have G1 := (blk_far (blk_far (blk_far (blk_far (blk_far (blk_far (blk_set (blk_set (blk_set X1.out 0 (Value.func (.func 135) #[] #[.pointer (some ⟨a, 0, none⟩), .pointer (some ⟨b, 0, none⟩)])) 1 (Value.func (.func 137) #[] #[])) 2 (Value.func (.func 138) #[] #[.pointer (some ⟨b, 0, none⟩), .pointer (some ⟨a, 0, none⟩)])) (p := ⟨w.heap.size + 1 + 1, 0, none⟩) (by dsimp only; omega) (Value.func (.func 135) #[] #[.pointer (some ⟨c, 0, none⟩), .pointer (some ⟨d, 0, none⟩)])) (p := ⟨w.heap.size + 1 + 1, 1, none⟩) (by dsimp only; omega) (Value.func (.func 137) #[] #[])) (p := ⟨w.heap.size + 1 + 1, 2, none⟩) (by dsimp only; omega) (Value.func (.func 138) #[] #[.pointer (some ⟨d, 0, none⟩), .pointer (some ⟨c, 0, none⟩)])) (p := ⟨w.heap.size + 1 + 1 + 1, 0, none⟩) (by dsimp only; omega) (Value.func (.func 139) #[] #[])) (p := ⟨w.heap.size + 1 + 1 + 1, 1, none⟩) (by dsimp only; omega) (Value.func (.func 140) #[] #[])) (p := ⟨w.heap.size + 1 + 1 + 1, 2, none⟩) (by dsimp only; omega) (Value.func (.func 141) #[] #[.pointer (some ⟨f, 0, none⟩)]))
  have G2 := (blk_far (blk_far (blk_far (blk_set (blk_set (blk_set (blk_far (blk_far (blk_far X2.out (p := ⟨w.heap.size + 1, 0, none⟩) (by dsimp only; omega) (Value.func (.func 135) #[] #[.pointer (some ⟨a, 0, none⟩), .pointer (some ⟨b, 0, none⟩)])) (p := ⟨w.heap.size + 1, 1, none⟩) (by dsimp only; omega) (Value.func (.func 137) #[] #[])) (p := ⟨w.heap.size + 1, 2, none⟩) (by dsimp only; omega) (Value.func (.func 138) #[] #[.pointer (some ⟨b, 0, none⟩), .pointer (some ⟨a, 0, none⟩)])) 0 (Value.func (.func 135) #[] #[.pointer (some ⟨c, 0, none⟩), .pointer (some ⟨d, 0, none⟩)])) 1 (Value.func (.func 137) #[] #[])) 2 (Value.func (.func 138) #[] #[.pointer (some ⟨d, 0, none⟩), .pointer (some ⟨c, 0, none⟩)])) (p := ⟨w.heap.size + 1 + 1 + 1, 0, none⟩) (by dsimp only; omega) (Value.func (.func 139) #[] #[])) (p := ⟨w.heap.size + 1 + 1 + 1, 1, none⟩) (by dsimp only; omega) (Value.func (.func 140) #[] #[])) (p := ⟨w.heap.size + 1 + 1 + 1, 2, none⟩) (by dsimp only; omega) (Value.func (.func 141) #[] #[.pointer (some ⟨f, 0, none⟩)]))
  have G3 := (blk_set (blk_set (blk_set (blk_far (blk_far (blk_far (blk_far (blk_far (blk_far X3.out (p := ⟨w.heap.size + 1, 0, none⟩) (by dsimp only; omega) (Value.func (.func 135) #[] #[.pointer (some ⟨a, 0, none⟩), .pointer (some ⟨b, 0, none⟩)])) (p := ⟨w.heap.size + 1, 1, none⟩) (by dsimp only; omega) (Value.func (.func 137) #[] #[])) (p := ⟨w.heap.size + 1, 2, none⟩) (by dsimp only; omega) (Value.func (.func 138) #[] #[.pointer (some ⟨b, 0, none⟩), .pointer (some ⟨a, 0, none⟩)])) (p := ⟨w.heap.size + 1 + 1, 0, none⟩) (by dsimp only; omega) (Value.func (.func 135) #[] #[.pointer (some ⟨c, 0, none⟩), .pointer (some ⟨d, 0, none⟩)])) (p := ⟨w.heap.size + 1 + 1, 1, none⟩) (by dsimp only; omega) (Value.func (.func 137) #[] #[])) (p := ⟨w.heap.size + 1 + 1, 2, none⟩) (by dsimp only; omega) (Value.func (.func 138) #[] #[.pointer (some ⟨d, 0, none⟩), .pointer (some ⟨c, 0, none⟩)])) 0 (Value.func (.func 139) #[] #[])) 1 (Value.func (.func 140) #[] #[])) 2 (Value.func (.func 141) #[] #[.pointer (some ⟨f, 0, none⟩)]))
  have G0 := (Below.setCell (p := ⟨w.heap.size + 1 + 1 + 1, 2, none⟩) (Below.setCell (p := ⟨w.heap.size + 1 + 1 + 1, 1, none⟩) (Below.setCell (p := ⟨w.heap.size + 1 + 1 + 1, 0, none⟩) (Below.setCell (p := ⟨w.heap.size + 1 + 1, 2, none⟩) (Below.setCell (p := ⟨w.heap.size + 1 + 1, 1, none⟩) (Below.setCell (p := ⟨w.heap.size + 1 + 1, 0, none⟩) (Below.setCell (p := ⟨w.heap.size + 1, 2, none⟩) (Below.setCell (p := ⟨w.heap.size + 1, 1, none⟩) (Below.setCell (p := ⟨w.heap.size + 1, 0, none⟩) X0.out (by dsimp only; omega) (Value.func (.func 135) #[] #[.pointer (some ⟨a, 0, none⟩), .pointer (some ⟨b, 0, none⟩)])) (by dsimp only; omega) (Value.func (.func 137) #[] #[])) (by dsimp only; omega) (Value.func (.func 138) #[] #[.pointer (some ⟨b, 0, none⟩), .pointer (some ⟨a, 0, none⟩)])) (by dsimp only; omega) (Value.func (.func 135) #[] #[.pointer (some ⟨c, 0, none⟩), .pointer (some ⟨d, 0, none⟩)])) (by dsimp only; omega) (Value.func (.func 137) #[] #[])) (by dsimp only; omega) (Value.func (.func 138) #[] #[.pointer (some ⟨d, 0, none⟩), .pointer (some ⟨c, 0, none⟩)])) (by dsimp only; omega) (Value.func (.func 139) #[] #[])) (by dsimp only; omega) (Value.func (.func 140) #[] #[])) (by dsimp only; omega) (Value.func (.func 141) #[] #[.pointer (some ⟨f, 0, none⟩)]))
  have Ea := (box_far (box_far (box_far (box_far (box_far (box_far (box_far (box_far (box_far Ba.out (g := w.heap.size + 1) (by first | exact la1 | omega) 0 (Value.func (.func 135) #[] #[.pointer (some ⟨a, 0, none⟩), .pointer (some ⟨b, 0, none⟩)])) (g := w.heap.size + 1) (by first | exact la1 | omega) 1 (Value.func (.func 137) #[] #[])) (g := w.heap.size + 1) (by first | exact la1 | omega) 2 (Value.func (.func 138) #[] #[.pointer (some ⟨b, 0, none⟩), .pointer (some ⟨a, 0, none⟩)])) (g := w.heap.size + 1 + 1) (by first | exact la2 | omega) 0 (Value.func (.func 135) #[] #[.pointer (some ⟨c, 0, none⟩), .pointer (some ⟨d, 0, none⟩)])) (g := w.heap.size + 1 + 1) (by first | exact la2 | omega) 1 (Value.func (.func 137) #[] #[])) (g := w.heap.size + 1 + 1) (by first | exact la2 | omega) 2 (Value.func (.func 138) #[] #[.pointer (some ⟨d, 0, none⟩), .pointer (some ⟨c, 0, none⟩)])) (g := w.heap.size + 1 + 1 + 1) (by first | exact la3 | omega) 0 (Value.func (.func 139) #[] #[])) (g := w.heap.size + 1 + 1 + 1) (by first | exact la3 | omega) 1 (Value.func (.func 140) #[] #[])) (g := w.heap.size + 1 + 1 + 1) (by first | exact la3 | omega) 2 (Value.func (.func 141) #[] #[.pointer (some ⟨f, 0, none⟩)]))
  have Eb := (box_far (box_far (box_far (box_far (box_far (box_far (box_far (box_far (box_far Bb.out (g := w.heap.size + 1) (by first | exact lb1 | omega) 0 (Value.func (.func 135) #[] #[.pointer (some ⟨a, 0, none⟩), .pointer (some ⟨b, 0, none⟩)])) (g := w.heap.size + 1) (by first | exact lb1 | omega) 1 (Value.func (.func 137) #[] #[])) (g := w.heap.size + 1) (by first | exact lb1 | omega) 2 (Value.func (.func 138) #[] #[.pointer (some ⟨b, 0, none⟩), .pointer (some ⟨a, 0, none⟩)])) (g := w.heap.size + 1 + 1) (by first | exact lb2 | omega) 0 (Value.func (.func 135) #[] #[.pointer (some ⟨c, 0, none⟩), .pointer (some ⟨d, 0, none⟩)])) (g := w.heap.size + 1 + 1) (by first | exact lb2 | omega) 1 (Value.func (.func 137) #[] #[])) (g := w.heap.size + 1 + 1) (by first | exact lb2 | omega) 2 (Value.func (.func 138) #[] #[.pointer (some ⟨d, 0, none⟩), .pointer (some ⟨c, 0, none⟩)])) (g := w.heap.size + 1 + 1 + 1) (by first | exact lb3 | omega) 0 (Value.func (.func 139) #[] #[])) (g := w.heap.size + 1 + 1 + 1) (by first | exact lb3 | omega) 1 (Value.func (.func 140) #[] #[])) (g := w.heap.size + 1 + 1 + 1) (by first | exact lb3 | omega) 2 (Value.func (.func 141) #[] #[.pointer (some ⟨f, 0, none⟩)]))
  have Ec := (box_far (box_far (box_far (box_far (box_far (box_far (box_far (box_far (box_far Bc.out (g := w.heap.size + 1) (by first | exact lc1 | omega) 0 (Value.func (.func 135) #[] #[.pointer (some ⟨a, 0, none⟩), .pointer (some ⟨b, 0, none⟩)])) (g := w.heap.size + 1) (by first | exact lc1 | omega) 1 (Value.func (.func 137) #[] #[])) (g := w.heap.size + 1) (by first | exact lc1 | omega) 2 (Value.func (.func 138) #[] #[.pointer (some ⟨b, 0, none⟩), .pointer (some ⟨a, 0, none⟩)])) (g := w.heap.size + 1 + 1) (by first | exact lc2 | omega) 0 (Value.func (.func 135) #[] #[.pointer (some ⟨c, 0, none⟩), .pointer (some ⟨d, 0, none⟩)])) (g := w.heap.size + 1 + 1) (by first | exact lc2 | omega) 1 (Value.func (.func 137) #[] #[])) (g := w.heap.size + 1 + 1) (by first | exact lc2 | omega) 2 (Value.func (.func 138) #[] #[.pointer (some ⟨d, 0, none⟩), .pointer (some ⟨c, 0, none⟩)])) (g := w.heap.size + 1 + 1 + 1) (by first | exact lc3 | omega) 0 (Value.func (.func 139) #[] #[])) (g := w.heap.size + 1 + 1 + 1) (by first | exact lc3 | omega) 1 (Value.func (.func 140) #[] #[])) (g := w.heap.size + 1 + 1 + 1) (by first | exact lc3 | omega) 2 (Value.func (.func 141) #[] #[.pointer (some ⟨f, 0, none⟩)]))
  have Ed := (box_far (box_far (box_far (box_far (box_far (box_far (box_far (box_far (box_far Bd.out (g := w.heap.size + 1) (by first | exact ld1 | omega) 0 (Value.func (.func 135) #[] #[.pointer (some ⟨a, 0, none⟩), .pointer (some ⟨b, 0, none⟩)])) (g := w.heap.size + 1) (by first | exact ld1 | omega) 1 (Value.func (.func 137) #[] #[])) (g := w.heap.size + 1) (by first | exact ld1 | omega) 2 (Value.func (.func 138) #[] #[.pointer (some ⟨b, 0, none⟩), .pointer (some ⟨a, 0, none⟩)])) (g := w.heap.size + 1 + 1) (by first | exact ld2 | omega) 0 (Value.func (.func 135) #[] #[.pointer (some ⟨c, 0, none⟩), .pointer (some ⟨d, 0, none⟩)])) (g := w.heap.size + 1 + 1) (by first | exact ld2 | omega) 1 (Value.func (.func 137) #[] #[])) (g := w.heap.size + 1 + 1) (by first | exact ld2 | omega) 2 (Value.func (.func 138) #[] #[.pointer (some ⟨d, 0, none⟩), .pointer (some ⟨c, 0, none⟩)])) (g := w.heap.size + 1 + 1 + 1) (by first | exact ld3 | omega) 0 (Value.func (.func 139) #[] #[])) (g := w.heap.size + 1 + 1 + 1) (by first | exact ld3 | omega) 1 (Value.func (.func 140) #[] #[])) (g := w.heap.size + 1 + 1 + 1) (by first | exact ld3 | omega) 2 (Value.func (.func 141) #[] #[.pointer (some ⟨f, 0, none⟩)]))
  simp only [List.setIfInBounds_toArray, List.set_cons_zero, List.set_cons_succ] at G1 G2 G3
  generalize (World.setCell (World.setCell (World.setCell (World.setCell (World.setCell (World.setCell (World.setCell (World.setCell (World.setCell w3 ⟨w.heap.size + 1, 0, none⟩ (Value.func (.func 135) #[] #[.pointer (some ⟨a, 0, none⟩), .pointer (some ⟨b, 0, none⟩)])) ⟨w.heap.size + 1, 1, none⟩ (Value.func (.func 137) #[] #[])) ⟨w.heap.size + 1, 2, none⟩ (Value.func (.func 138) #[] #[.pointer (some ⟨b, 0, none⟩), .pointer (some ⟨a, 0, none⟩)])) ⟨w.heap.size + 1 + 1, 0, none⟩ (Value.func (.func 135) #[] #[.pointer (some ⟨c, 0, none⟩), .pointer (some ⟨d, 0, none⟩)])) ⟨w.heap.size + 1 + 1, 1, none⟩ (Value.func (.func 137) #[] #[])) ⟨w.heap.size + 1 + 1, 2, none⟩ (Value.func (.func 138) #[] #[.pointer (some ⟨d, 0, none⟩), .pointer (some ⟨c, 0, none⟩)])) ⟨w.heap.size + 1 + 1 + 1, 0, none⟩ (Value.func (.func 139) #[] #[])) ⟨w.heap.size + 1 + 1 + 1, 1, none⟩ (Value.func (.func 140) #[] #[])) ⟨w.heap.size + 1 + 1 + 1, 2, none⟩ (Value.func (.func 141) #[] #[.pointer (some ⟨f, 0, none⟩)])) = wz at G0 G1 G2 G3 Ea Eb Ec Ed ⊢
  have d10 := blk_cell G1 0
  have d11 := blk_cell G1 1
  have d12 := blk_cell G1 2
  have d20 := blk_cell G2 0
  have d21 := blk_cell G2 1
  have d22 := blk_cell G2 2
  have d30 := blk_cell G3 0
  have d31 := blk_cell G3 1
  have d32 := blk_cell G3 2
  simp only [List.getElem?_toArray, List.getElem?_cons_zero, List.getElem?_cons_succ] at d10 d11 d12 d20 d21 d22 d30 d31 d32
  exact bodyPost_ret (v := .tuple #[plainV a b, plainV c d, packV f]) (by simp [results, Tryz.results85, go_sem, d10, d11, d12, d20, d21, d22, d30, d31, d32]) rfl ⟨a, b, c, d, f, rfl, Ea, Eb, Ec, Ed, G0⟩
end Go.Proofs.YtbnbplppgbmkpaaGreatDoor

namespace Go.Proofs.YtbnbplppgbmkpaaGreatDoor
open Go.RowKit Go.Proofs.YtbnbplppgbmkpaaGreatDoorW.PrintLast Go.Proofs.YtbnbplppgbmkpaaGreatDoorW.PrintWords

section
variable {P : Program} {ops : Array Oper} {Q : Exit → Act → World → Prop}
/-- A call of a function value, in a region that draws its order. -/
theorem goes_dyn {oi : Oper} {N : Option Tmp} {a : Act} {w : World} {K : Act → World → Prop} {f : FuncId} {fn : Func} {x : Operand} {xs : Array Operand} {ts : Array TypeId} {first caps : Array Value} (hf : P.funcs[f]? = some fn) (hname : (fn.name == "runtime.NumGoroutine") = false) (hb : fn.body.isSome = true) (args : Array Value)
    (hw : Region.wanted oi (yielded ops a.tmps) = true) (hN : oi.dst = N) (hop : oi.op = .call { callee := .value x, args := xs, argTypes := ts }) (hx : a.eval x = .func (.func f) first caps) (hargs : first ++ xs.map a.eval ++ caps = args)
    (h : Calls P f args w fun e w' => ∃ v, e = .returned v ∧ K (a.put N v) w') : if Region.wanted oi (yielded ops a.tmps) = true then Oper.wp P oi a w K Q else K (a.put N undef) w := by
  refine call_ f args hw hN ?_ h
  have he := enters_ hf hname hb args w
  unfold execOp
  subst hargs
  simpa [hop, resolve, Deferred.ofValue, invoke, hx] using he
end
theorem box_drew {W : World} {a : Nat} {s : ByteArray} (h : BoxS W a s) : BoxS W.drew a s := h
theorem box_below {W W1 : World} {a : Nat} {s : ByteArray} (h : BoxS W a s) (hb : Below W.heap.size W W1) : BoxS W1 a s := blk_below h hb
def turnF (fr tt s : ByteArray) : ByteArray := ⟨(turnL fr tt s.data.toList).toArray⟩
def letF (c : Int) (s : ByteArray) : ByteArray := if c = 3 then turnF signS ebcS s else turnF signS signS s
def digF (c : Int) (s : ByteArray) : ByteArray := if c = 1 then turnF tenS tenS s else if c = 2 then packF s else turnF tenS ebtS s
def rawF (c : Int) (s : ByteArray) : ByteArray := if c = 1 then turnF lowS highS s else packF s
def twoS (m : Nat) : ByteArray := ⟨#[UInt8.ofNat (48 + m / 10), UInt8.ofNat (48 + m % 10)]⟩
/-- A text as a form's bytes. -/
def putF (k c : Int) (s : ByteArray) : ByteArray :=
  if k = 1 then digF c s
  else if k = 2 then digF c (twoS s.size) ++ digF c s
  else if k = 3 then letF c s
  else if k = 4 then rawF c s
  else letF c (s.extract 0 1) ++ digF c (s.extract 1 s.size)
theorem ofB_all {s which : ByteArray} {n : Int} (h : ofB s which n = true) : allW which s = true := by
  unfold ofB at h
  rw [Bool.and_eq_true] at h
  exact h.1
theorem ofB_size {s which : ByteArray} {n : Int} (h : ofB s which n = true) : (s.size : Int) = n := by
  unfold ofB at h
  rw [Bool.and_eq_true] at h
  exact of_decide_eq_true h.2
theorem ten_low {s : ByteArray} (h : allW tenS s = true) : allW lowS s = true := by
  unfold allW at h ⊢
  rw [List.all_eq_true] at h ⊢
  intro c hc
  have h1 := h c hc
  have key : ∀ c : UInt8, inW tenS c = true → inW lowS c = true := by
    intro c
    have : ∀ n : Fin 256, inW tenS (UInt8.ofNat n.val) = true → inW lowS (UInt8.ofNat n.val) = true := by decide +kernel
    have h2 := this ⟨c.toNat, c.toNat_lt⟩
    simpa using h2
  exact key c h1

theorem turnF_size (fr tt s : ByteArray) : (turnF fr tt s).size = s.size := by
  unfold turnF turnL
  show ((s.data.toList.map (turnC fr tt)).toArray).size = _
  simp
theorem packF_size (s : ByteArray) : (packF s).size ≤ s.size + 1 := by
  have h := evenF_size s
  have h2 : (packF s).size = (packL (evenF s).data.toList).length := by
    unfold packF
    show ((packL (evenF s).data.toList).toArray).size = _
    simp
  rw [h2, packL_length, data_length]
  omega
theorem digF_size (c : Int) (s : ByteArray) : (digF c s).size ≤ s.size + 1 := by
  unfold digF
  split
  · rw [turnF_size]; omega
  · split
    · exact packF_size s
    · rw [turnF_size]; omega
theorem letF_size (c : Int) (s : ByteArray) : (letF c s).size = s.size := by
  unfold letF
  split <;> exact turnF_size _ _ _
theorem rawF_size (c : Int) (s : ByteArray) : (rawF c s).size ≤ s.size + 1 := by
  unfold rawF
  split
  · rw [turnF_size]; omega
  · exact packF_size s
section
variable (s : ByteArray) (a b : Nat) (w : World)
theorem dig_1 (hall : allW tenS s = true) (hs : s.size ≤ 1048575) (ha : BoxS w a tenS) (hb : BoxS w b tenS) :
    Calls Tryz.prog 135 #[.string s, .pointer (some ⟨a, 0, none⟩), .pointer (some ⟨b, 0, none⟩)] w fun e w' => e = .returned (.string (digF 1 s)) ∧ Below w.heap.size w w' := plain_put s tenS tenS a b hall (by decide) (by omega) w ha hb
theorem dig_2 (hall : allW tenS s = true) (hs : s.size ≤ 1048575) :
    Calls Tryz.prog 139 #[.string s] w fun e w' => e = .returned (.string (digF 2 s)) ∧ Below w.heap.size w w' := pack_any s (ten_low hall) hs w
theorem dig_3 (hall : allW tenS s = true) (hs : s.size ≤ 1048575) (ha : BoxS w a tenS) (hb : BoxS w b ebtS) :
    Calls Tryz.prog 135 #[.string s, .pointer (some ⟨a, 0, none⟩), .pointer (some ⟨b, 0, none⟩)] w fun e w' => e = .returned (.string (digF 3 s)) ∧ Below w.heap.size w w' := plain_put s tenS ebtS a b hall (by decide) (by omega) w ha hb
theorem let_1 (hall : allW signS s = true) (hs : s.size ≤ 1048575) (ha : BoxS w a signS) (hb : BoxS w b signS) :
    Calls Tryz.prog 135 #[.string s, .pointer (some ⟨a, 0, none⟩), .pointer (some ⟨b, 0, none⟩)] w fun e w' => e = .returned (.string (letF 1 s)) ∧ Below w.heap.size w w' := plain_put s signS signS a b hall (by decide) (by omega) w ha hb
theorem let_2 (hall : allW signS s = true) (hs : s.size ≤ 1048575) (ha : BoxS w a signS) (hb : BoxS w b signS) :
    Calls Tryz.prog 135 #[.string s, .pointer (some ⟨a, 0, none⟩), .pointer (some ⟨b, 0, none⟩)] w fun e w' => e = .returned (.string (letF 2 s)) ∧ Below w.heap.size w w' := plain_put s signS signS a b hall (by decide) (by omega) w ha hb
theorem let_3 (hall : allW signS s = true) (hs : s.size ≤ 1048575) (ha : BoxS w a signS) (hb : BoxS w b ebcS) :
    Calls Tryz.prog 135 #[.string s, .pointer (some ⟨a, 0, none⟩), .pointer (some ⟨b, 0, none⟩)] w fun e w' => e = .returned (.string (letF 3 s)) ∧ Below w.heap.size w w' := plain_put s signS ebcS a b hall (by decide) (by omega) w ha hb
theorem raw_1 (hall : allW lowS s = true) (hs : s.size ≤ 1048575) (ha : BoxS w a lowS) (hb : BoxS w b highS) :
    Calls Tryz.prog 135 #[.string s, .pointer (some ⟨a, 0, none⟩), .pointer (some ⟨b, 0, none⟩)] w fun e w' => e = .returned (.string (rawF 1 s)) ∧ Below w.heap.size w w' := plain_put s lowS highS a b hall (by decide) (by omega) w ha hb
theorem raw_2 (hall : allW lowS s = true) (hs : s.size ≤ 1048575) :
    Calls Tryz.prog 139 #[.string s] w fun e w' => e = .returned (.string (rawF 2 s)) ∧ Below w.heap.size w w' := pack_any s hall hs w
theorem raw_3 (hall : allW lowS s = true) (hs : s.size ≤ 1048575) :
    Calls Tryz.prog 139 #[.string s] w fun e w' => e = .returned (.string (rawF 3 s)) ∧ Below w.heap.size w w' := pack_any s hall hs w
end
theorem first_all {s : ByteArray} (h0 : 0 < s.size) (h : bt s 0 = 67 ∨ bt s 0 = 68) : allW signS (s.extract 0 1) = true := by
  unfold allW
  rw [List.all_eq_true]
  intro c hc
  have hb : bt s 0 = (s[0].toNat : Int) := by simp [bt, h0]
  rw [hb] at h
  have e : (s.extract 0 1).data.toList = [s[0]] := by
    rw [Go.Lib.Pa.extract_upto_list]
    have hl : 0 < s.data.toList.length := by rw [data_length]; exact h0
    rw [List.take_succ_eq_append_getElem hl, List.take_zero]
    rfl
  rw [e] at hc
  obtain rfl := List.mem_singleton.1 hc
  have key : ∀ n : Fin 256, (n.val : Int) = 67 ∨ (n.val : Int) = 68 → inW signS (UInt8.ofNat n.val) = true := by decide +kernel
  have h2 := key ⟨s[0].toNat, s[0].toNat_lt⟩ h
  simpa using h2
theorem two_all (m : Nat) (h : m < 100) : allW tenS (twoS m) = true := by
  have : ∀ m : Fin 100, allW tenS (twoS m.val) = true := by decide +kernel
  exact this ⟨m, h⟩
theorem two_nums : ∀ (a b : Fin 10), strOfNums [((tenS[a.val]'(by have := a.isLt; exact Nat.lt_of_lt_of_le this (by decide))).toNat : Int), ((tenS[b.val]'(by have := b.isLt; exact Nat.lt_of_lt_of_le this (by decide))).toNat : Int)] = ⟨#[UInt8.ofNat (48 + a.val), UInt8.ofNat (48 + b.val)]⟩ := by decide +kernel
theorem two_at (m d1 d2 : Nat) (h1 : d1 < 10) (h2 : d2 < 10) (hd1 : d1 = m / 10) (hd2 : d2 = m % 10) : strOfNums [((tenS[d1]'(by exact Nat.lt_of_lt_of_le h1 (by decide))).toNat : Int), ((tenS[d2]'(by exact Nat.lt_of_lt_of_le h2 (by decide))).toNat : Int)] = twoS m := by
  subst hd1 hd2
  exact two_nums ⟨_, h1⟩ ⟨_, h2⟩
theorem conv_two (W : World) (x y : Int) : (convert 22 9 (.slice (some ⟨W.heap.size, 0, none⟩) 2 2)).run Tryz.prog (W.alloc (.cells #[.int .u8 x, .int .u8 y] 5)).drew = .ok (.string (strOfNums [x, y])) (W.alloc (.cells #[.int .u8 x, .int .u8 y] 5)).drew := by
  have h := own_lit W W.heap.size 5 .u8 [x, y] (Nat.le_refl _) (by simp)
  exact own_string (n := 2) Tryz.underlying22 Tryz.underlying5 Tryz.underlying9 (pw_own_below h (below_drew (Below.refl _ _)))
theorem empty_append (s : ByteArray) : (⟨#[]⟩ : ByteArray) ++ s = s := by
  apply ByteArray.ext
  rw [ByteArray.data_append]
  simp

/-- The last step of 'Put', and what is ahead of it, code by code. -/
def PutPost (w : World) (bs : List Int) (out : ByteArray) (e : Ending) (w' : World) : Prop :=
  ∃ v, e = .returned (.tuple #[v, .int .i64 0]) ∧ w'.ownsRow w.heap.size 5 1 v (bs ++ bytesOf out).length (nums .u8 (bs ++ bytesOf out)) ∧ Below w.heap.size w w'

set_option maxRecDepth 100000 in
set_option maxHeartbeats 4000000 in
theorem put_1 (k n : Int) (hk : FormOk k n 1) (s : ByteArray) (hr : rightB k n s = true) (A : Option Addr) (cb : Nat) (bs : List Int) (w : World) (hb0 : Kd.C (Kd.int .u8) w A bs.length bs) (hl : bs.length ≤ 1048576) (hs : s.size ≤ 1048575) :
    Calls Tryz.prog 63 #[.slice A bs.length cb, .agg #[.int .i64 k, .int .i64 n, .int .i64 1], .string s] w (PutPost w bs (putF k 1 s)) := by
  have HR := Aside0.mk hr
  have HK := Aside0.mk hk
  have HB0 := Aside0.mk hb0
  have hm : s.size ≤ maxLen := by unfold maxLen; omega
  have hw0 : wrongOf k n s = 0 := by unfold wrongOf; rw [hr]; rfl
  clear hr hb0
  go_enter Tryz.func63, Tryz.ntmps63
  go_wp2_with fail
  refine (check_any k n 1 hk s hm _).mono ?_
  rw [hw0]
  rintro e w1 ⟨rfl, hb1⟩
  have X0 := Aside0.mk ((below_alloc (Below.refl w.heap.size w) _).trans (hb1.mono (by simp)))
  have X1 := Aside0.mk (blk_below (blk_new w _) hb1)
  have e0 := blk_cell X1.out 0
  have e1 := blk_cell X1.out 1
  have e2 := blk_cell X1.out 2
  simp only [List.getElem?_toArray, List.getElem?_cons_zero, List.getElem?_cons_succ] at e0 e1 e2
  clear hb1 hw0
  go_wp2_with fail
  refine (codes_1 k n _).mono ?_
  rintro e w2 ⟨a, b, c, d, f, g, rfl, ha, hb, hc, hd, hf, hg, hB2⟩
  have Y0 := Aside0.mk (X0.out.trans (hB2.mono X0.out.size))
  have Y1 := Aside0.mk (blk_below X1.out hB2)
  have Ba := Aside0.mk ha
  have Bb := Aside0.mk hb
  have Bc := Aside0.mk hc
  have Bd := Aside0.mk hd
  have Bf := Aside0.mk hf
  have Bg := Aside0.mk hg
  clear hB2 e0 e1 e2 X0 X1 ha hb hc hd hf hg
  have e0 := blk_cell Y1.out 0
  simp only [List.getElem?_toArray, List.getElem?_cons_zero] at e0
  have hz : w.heap.size < w2.heap.size := blk_lt Y1.out
  have e9 : (((w2.alloc (.cells #[Value.func (.func 135) #[] #[.pointer (some ⟨a, 0, none⟩), .pointer (some ⟨b, 0, none⟩)], .func (.func 137) #[] #[], .func (.func 138) #[] #[.pointer (some ⟨b, 0, none⟩), .pointer (some ⟨a, 0, none⟩)]] 157)).alloc (.cells #[Value.func (.func 135) #[] #[.pointer (some ⟨c, 0, none⟩), .pointer (some ⟨d, 0, none⟩)], .func (.func 137) #[] #[], .func (.func 138) #[] #[.pointer (some ⟨d, 0, none⟩), .pointer (some ⟨c, 0, none⟩)]] 157)).alloc (.cells #[Value.func (.func 135) #[] #[.pointer (some ⟨f, 0, none⟩), .pointer (some ⟨g, 0, none⟩)], .func (.func 137) #[] #[], .func (.func 138) #[] #[.pointer (some ⟨g, 0, none⟩), .pointer (some ⟨f, 0, none⟩)]] 157)).cell? ⟨w.heap.size, 0, none⟩ = some (.int .i64 k) := by
    rw [blk_cell (blk_alloc (blk_alloc (blk_alloc Y1.out _) _) _) 0]
    rfl
  go_upto_block 0 with fail
  go_cut [12] (fun v12 wx => ∃ out, v12 = .string out ∧ out = putF k 1 s ∧ Below w.heap.size w wx ∧ out.size ≤ 4194304)
  case first =>
    obtain ⟨⟨k1, k2⟩, ⟨n1, n2⟩, _⟩ := hk
    have hk5 : k = 1 ∨ k = 2 ∨ k = 3 ∨ k = 4 ∨ k = 5 := by omega
    rcases hk5 with rfl | rfl | rfl | rfl | rfl
    · have hof : ofB s tenS n = true := HR.out
      have hq := ofB_size hof
      have HQ := Aside0.mk hq
      clear hq
      go_wp2_with fail
      refine (dig_1 s c d _ (ofB_all hof) hs (blk_alloc (blk_alloc (blk_alloc Bc.out _) _) _) (blk_alloc (blk_alloc (blk_alloc Bd.out _) _) _)).mono ?_
      rintro e w3 ⟨rfl, hb3⟩
      have HB3 := Aside0.mk ((below_alloc (below_alloc (below_alloc Y0.out _) _) _).trans (hb3.mono (Nat.le_trans Y0.out.size (by simp; omega))))
      have hz3 : (digF 1 s).size ≤ 1048576 := by have := digF_size 1 s; omega
      clear hb3
      go_wp2_with fail
      go_meet
      exact ⟨_, rfl, empty_append _, HB3.out, by rw [empty_append]; omega⟩
    · have hR := HR.out
      have hq : ((decide (0 < s.size) && decide ((s.size : Int) ≤ n)) && ofB s tenS s.size) = true := hR
      rw [Bool.and_eq_true, Bool.and_eq_true] at hq
      have h0 := of_decide_eq_true hq.1.1
      have h1 := of_decide_eq_true hq.1.2
      have hof := hq.2
      obtain ⟨d1, hd1⟩ : ∃ d1, d1 = s.size / 10 := ⟨_, rfl⟩
      obtain ⟨d2, hd2⟩ : ∃ d2, d2 = s.size % 10 := ⟨_, rfl⟩
      have i1 : (s.size : Int).tdiv 10 = (d1 : Int) := by rw [Int.tdiv_eq_ediv_of_nonneg (by omega)]; omega
      have i2 : (s.size : Int).tmod 10 = (d2 : Int) := by rw [Int.tmod_eq_emod_of_nonneg (by omega)]; omega
      have iw1 : IntKind.i64.wrap (d1 : Int) = (d1 : Int) := by rw [i64_w]; unfold wrap64; omega
      have iw2 : IntKind.i64.wrap (d2 : Int) = (d2 : Int) := by rw [i64_w]; unfold wrap64; omega
      have HD1 := Aside0.mk hd1
      have HD2 := Aside0.mk hd2
      have l1 : d1 < 10 := by omega
      have l2 : d2 < 10 := by omega
      have l1i : (d1 : Int) < 10 := by omega
      have l2i : (d2 : Int) < 10 := by omega
      clear hq hR hd1 hd2
      have t0 : (twoS s.size).size = 2 := rfl
      have pf : (((w2.alloc (.cells #[Value.func (.func 135) #[] #[.pointer (some ⟨a, 0, none⟩), .pointer (some ⟨b, 0, none⟩)], .func (.func 137) #[] #[], .func (.func 138) #[] #[.pointer (some ⟨b, 0, none⟩), .pointer (some ⟨a, 0, none⟩)]] 157)).alloc (.cells #[Value.func (.func 135) #[] #[.pointer (some ⟨c, 0, none⟩), .pointer (some ⟨d, 0, none⟩)], .func (.func 137) #[] #[], .func (.func 138) #[] #[.pointer (some ⟨d, 0, none⟩), .pointer (some ⟨c, 0, none⟩)]] 157)).alloc (.cells #[Value.func (.func 135) #[] #[.pointer (some ⟨f, 0, none⟩), .pointer (some ⟨g, 0, none⟩)], .func (.func 137) #[] #[], .func (.func 138) #[] #[.pointer (some ⟨g, 0, none⟩), .pointer (some ⟨f, 0, none⟩)]] 157)).cell? ⟨w2.heap.size + 1, 0, none⟩ = some (Value.func (.func 135) #[] #[.pointer (some ⟨c, 0, none⟩), .pointer (some ⟨d, 0, none⟩)]) := by
        rw [blk_cell (blk_alloc (heap_alloc2_new w2 (.cells #[Value.func (.func 135) #[] #[.pointer (some ⟨a, 0, none⟩), .pointer (some ⟨b, 0, none⟩)], .func (.func 137) #[] #[], .func (.func 138) #[] #[.pointer (some ⟨b, 0, none⟩), .pointer (some ⟨a, 0, none⟩)]] 157) (.cells #[Value.func (.func 135) #[] #[.pointer (some ⟨c, 0, none⟩), .pointer (some ⟨d, 0, none⟩)], .func (.func 137) #[] #[], .func (.func 138) #[] #[.pointer (some ⟨d, 0, none⟩), .pointer (some ⟨c, 0, none⟩)]] 157)) (.cells #[Value.func (.func 135) #[] #[.pointer (some ⟨f, 0, none⟩), .pointer (some ⟨g, 0, none⟩)], .func (.func 137) #[] #[], .func (.func 138) #[] #[.pointer (some ⟨g, 0, none⟩), .pointer (some ⟨f, 0, none⟩)]] 157)) 0]
        rfl
      have B3 : Aside0 (Below w.heap.size w (((w2.alloc (.cells #[Value.func (.func 135) #[] #[.pointer (some ⟨a, 0, none⟩), .pointer (some ⟨b, 0, none⟩)], .func (.func 137) #[] #[], .func (.func 138) #[] #[.pointer (some ⟨b, 0, none⟩), .pointer (some ⟨a, 0, none⟩)]] 157)).alloc (.cells #[Value.func (.func 135) #[] #[.pointer (some ⟨c, 0, none⟩), .pointer (some ⟨d, 0, none⟩)], .func (.func 137) #[] #[], .func (.func 138) #[] #[.pointer (some ⟨d, 0, none⟩), .pointer (some ⟨c, 0, none⟩)]] 157)).alloc (.cells #[Value.func (.func 135) #[] #[.pointer (some ⟨f, 0, none⟩), .pointer (some ⟨g, 0, none⟩)], .func (.func 137) #[] #[], .func (.func 138) #[] #[.pointer (some ⟨g, 0, none⟩), .pointer (some ⟨f, 0, none⟩)]] 157))) := ⟨(below_alloc (below_alloc (below_alloc Y0.out _) _) _)⟩
      have hq2 : w.heap.size ≤ (((w2.alloc (.cells #[Value.func (.func 135) #[] #[.pointer (some ⟨a, 0, none⟩), .pointer (some ⟨b, 0, none⟩)], .func (.func 137) #[] #[], .func (.func 138) #[] #[.pointer (some ⟨b, 0, none⟩), .pointer (some ⟨a, 0, none⟩)]] 157)).alloc (.cells #[Value.func (.func 135) #[] #[.pointer (some ⟨c, 0, none⟩), .pointer (some ⟨d, 0, none⟩)], .func (.func 137) #[] #[], .func (.func 138) #[] #[.pointer (some ⟨d, 0, none⟩), .pointer (some ⟨c, 0, none⟩)]] 157)).alloc (.cells #[Value.func (.func 135) #[] #[.pointer (some ⟨f, 0, none⟩), .pointer (some ⟨g, 0, none⟩)], .func (.func 137) #[] #[], .func (.func 138) #[] #[.pointer (some ⟨g, 0, none⟩), .pointer (some ⟨f, 0, none⟩)]] 157)).heap.size := Nat.le_trans Y0.out.size (by simp; omega)
      have HP1 := Aside0.mk (blk_alloc (heap_alloc2_new w2 (.cells #[Value.func (.func 135) #[] #[.pointer (some ⟨a, 0, none⟩), .pointer (some ⟨b, 0, none⟩)], .func (.func 137) #[] #[], .func (.func 138) #[] #[.pointer (some ⟨b, 0, none⟩), .pointer (some ⟨a, 0, none⟩)]] 157) (.cells #[Value.func (.func 135) #[] #[.pointer (some ⟨c, 0, none⟩), .pointer (some ⟨d, 0, none⟩)], .func (.func 137) #[] #[], .func (.func 138) #[] #[.pointer (some ⟨d, 0, none⟩), .pointer (some ⟨c, 0, none⟩)]] 157)) (.cells #[Value.func (.func 135) #[] #[.pointer (some ⟨f, 0, none⟩), .pointer (some ⟨g, 0, none⟩)], .func (.func 137) #[] #[], .func (.func 138) #[] #[.pointer (some ⟨g, 0, none⟩), .pointer (some ⟨f, 0, none⟩)]] 157))
      have Ca : Aside0 (BoxS (((w2.alloc (.cells #[Value.func (.func 135) #[] #[.pointer (some ⟨a, 0, none⟩), .pointer (some ⟨b, 0, none⟩)], .func (.func 137) #[] #[], .func (.func 138) #[] #[.pointer (some ⟨b, 0, none⟩), .pointer (some ⟨a, 0, none⟩)]] 157)).alloc (.cells #[Value.func (.func 135) #[] #[.pointer (some ⟨c, 0, none⟩), .pointer (some ⟨d, 0, none⟩)], .func (.func 137) #[] #[], .func (.func 138) #[] #[.pointer (some ⟨d, 0, none⟩), .pointer (some ⟨c, 0, none⟩)]] 157)).alloc (.cells #[Value.func (.func 135) #[] #[.pointer (some ⟨f, 0, none⟩), .pointer (some ⟨g, 0, none⟩)], .func (.func 137) #[] #[], .func (.func 138) #[] #[.pointer (some ⟨g, 0, none⟩), .pointer (some ⟨f, 0, none⟩)]] 157)) a signS) := ⟨(blk_alloc (blk_alloc (blk_alloc Ba.out _) _) _)⟩
      have Cb : Aside0 (BoxS (((w2.alloc (.cells #[Value.func (.func 135) #[] #[.pointer (some ⟨a, 0, none⟩), .pointer (some ⟨b, 0, none⟩)], .func (.func 137) #[] #[], .func (.func 138) #[] #[.pointer (some ⟨b, 0, none⟩), .pointer (some ⟨a, 0, none⟩)]] 157)).alloc (.cells #[Value.func (.func 135) #[] #[.pointer (some ⟨c, 0, none⟩), .pointer (some ⟨d, 0, none⟩)], .func (.func 137) #[] #[], .func (.func 138) #[] #[.pointer (some ⟨d, 0, none⟩), .pointer (some ⟨c, 0, none⟩)]] 157)).alloc (.cells #[Value.func (.func 135) #[] #[.pointer (some ⟨f, 0, none⟩), .pointer (some ⟨g, 0, none⟩)], .func (.func 137) #[] #[], .func (.func 138) #[] #[.pointer (some ⟨g, 0, none⟩), .pointer (some ⟨f, 0, none⟩)]] 157)) b signS) := ⟨(blk_alloc (blk_alloc (blk_alloc Bb.out _) _) _)⟩
      have Cc : Aside0 (BoxS (((w2.alloc (.cells #[Value.func (.func 135) #[] #[.pointer (some ⟨a, 0, none⟩), .pointer (some ⟨b, 0, none⟩)], .func (.func 137) #[] #[], .func (.func 138) #[] #[.pointer (some ⟨b, 0, none⟩), .pointer (some ⟨a, 0, none⟩)]] 157)).alloc (.cells #[Value.func (.func 135) #[] #[.pointer (some ⟨c, 0, none⟩), .pointer (some ⟨d, 0, none⟩)], .func (.func 137) #[] #[], .func (.func 138) #[] #[.pointer (some ⟨d, 0, none⟩), .pointer (some ⟨c, 0, none⟩)]] 157)).alloc (.cells #[Value.func (.func 135) #[] #[.pointer (some ⟨f, 0, none⟩), .pointer (some ⟨g, 0, none⟩)], .func (.func 137) #[] #[], .func (.func 138) #[] #[.pointer (some ⟨g, 0, none⟩), .pointer (some ⟨f, 0, none⟩)]] 157)) c tenS) := ⟨(blk_alloc (blk_alloc (blk_alloc Bc.out _) _) _)⟩
      have Cd : Aside0 (BoxS (((w2.alloc (.cells #[Value.func (.func 135) #[] #[.pointer (some ⟨a, 0, none⟩), .pointer (some ⟨b, 0, none⟩)], .func (.func 137) #[] #[], .func (.func 138) #[] #[.pointer (some ⟨b, 0, none⟩), .pointer (some ⟨a, 0, none⟩)]] 157)).alloc (.cells #[Value.func (.func 135) #[] #[.pointer (some ⟨c, 0, none⟩), .pointer (some ⟨d, 0, none⟩)], .func (.func 137) #[] #[], .func (.func 138) #[] #[.pointer (some ⟨d, 0, none⟩), .pointer (some ⟨c, 0, none⟩)]] 157)).alloc (.cells #[Value.func (.func 135) #[] #[.pointer (some ⟨f, 0, none⟩), .pointer (some ⟨g, 0, none⟩)], .func (.func 137) #[] #[], .func (.func 138) #[] #[.pointer (some ⟨g, 0, none⟩), .pointer (some ⟨f, 0, none⟩)]] 157)) d tenS) := ⟨(blk_alloc (blk_alloc (blk_alloc Bd.out _) _) _)⟩
      have Cf : Aside0 (BoxS (((w2.alloc (.cells #[Value.func (.func 135) #[] #[.pointer (some ⟨a, 0, none⟩), .pointer (some ⟨b, 0, none⟩)], .func (.func 137) #[] #[], .func (.func 138) #[] #[.pointer (some ⟨b, 0, none⟩), .pointer (some ⟨a, 0, none⟩)]] 157)).alloc (.cells #[Value.func (.func 135) #[] #[.pointer (some ⟨c, 0, none⟩), .pointer (some ⟨d, 0, none⟩)], .func (.func 137) #[] #[], .func (.func 138) #[] #[.pointer (some ⟨d, 0, none⟩), .pointer (some ⟨c, 0, none⟩)]] 157)).alloc (.cells #[Value.func (.func 135) #[] #[.pointer (some ⟨f, 0, none⟩), .pointer (some ⟨g, 0, none⟩)], .func (.func 137) #[] #[], .func (.func 138) #[] #[.pointer (some ⟨g, 0, none⟩), .pointer (some ⟨f, 0, none⟩)]] 157)) f lowS) := ⟨(blk_alloc (blk_alloc (blk_alloc Bf.out _) _) _)⟩
      have Cg : Aside0 (BoxS (((w2.alloc (.cells #[Value.func (.func 135) #[] #[.pointer (some ⟨a, 0, none⟩), .pointer (some ⟨b, 0, none⟩)], .func (.func 137) #[] #[], .func (.func 138) #[] #[.pointer (some ⟨b, 0, none⟩), .pointer (some ⟨a, 0, none⟩)]] 157)).alloc (.cells #[Value.func (.func 135) #[] #[.pointer (some ⟨c, 0, none⟩), .pointer (some ⟨d, 0, none⟩)], .func (.func 137) #[] #[], .func (.func 138) #[] #[.pointer (some ⟨d, 0, none⟩), .pointer (some ⟨c, 0, none⟩)]] 157)).alloc (.cells #[Value.func (.func 135) #[] #[.pointer (some ⟨f, 0, none⟩), .pointer (some ⟨g, 0, none⟩)], .func (.func 137) #[] #[], .func (.func 138) #[] #[.pointer (some ⟨g, 0, none⟩), .pointer (some ⟨f, 0, none⟩)]] 157)) g highS) := ⟨(blk_alloc (blk_alloc (blk_alloc Bg.out _) _) _)⟩
      obtain ⟨W3, hW3⟩ : ∃ W, W = ((w2.alloc (.cells #[Value.func (.func 135) #[] #[.pointer (some ⟨a, 0, none⟩), .pointer (some ⟨b, 0, none⟩)], .func (.func 137) #[] #[], .func (.func 138) #[] #[.pointer (some ⟨b, 0, none⟩), .pointer (some ⟨a, 0, none⟩)]] 157)).alloc (.cells #[Value.func (.func 135) #[] #[.pointer (some ⟨c, 0, none⟩), .pointer (some ⟨d, 0, none⟩)], .func (.func 137) #[] #[], .func (.func 138) #[] #[.pointer (some ⟨d, 0, none⟩), .pointer (some ⟨c, 0, none⟩)]] 157)).alloc (.cells #[Value.func (.func 135) #[] #[.pointer (some ⟨f, 0, none⟩), .pointer (some ⟨g, 0, none⟩)], .func (.func 137) #[] #[], .func (.func 138) #[] #[.pointer (some ⟨g, 0, none⟩), .pointer (some ⟨f, 0, none⟩)]] 157) := ⟨_, rfl⟩
      go_wp2_with fail
      rw [← hW3] at pf B3 hq2 HP1 Ca Cb Cc Cd Cf Cg ⊢
      clear hW3
      have hcv := conv_two W3
      have hts := two_at s.size d1 d2 l1 l2 HD1.out HD2.out
      have HTS := Aside0.mk hts
      have h2a : allW tenS (twoS s.size) = true := two_all s.size (by omega)
      clear hts
      refine start_ (n := 14) (S := fun w' => w'.cell? ⟨w2.heap.size + 1, 0, none⟩ = some (Value.func (.func 135) #[] #[.pointer (some ⟨c, 0, none⟩), .pointer (some ⟨d, 0, none⟩)])) (ds := [12]) #[false, false, false, false, false, false, false, false, false, false, false, false, false, false] (by kernel_rfl) rfl rfl (pf) (fun hHeld => ?_)
      refine pure_ (i := 0) (N := some 48) (v := ?_) (a' := ?_) #[true, false, false, false, false, false, false, false, false, false, false, false, false, false] rfl rfl (by kernel_rfl) (fun _ _ _ h => h) (Or.inl ⟨by rfl, ?_⟩) ?_ ?_
      rotate_left
      · intro w'
        go_simp
        with_reducible rfl
      rotate_left
      · simp only [Act.put, List.setIfInBounds_toArray, List.set_cons_zero, List.set_cons_succ]
        rfl
      refine pure_ (i := 2) (N := some 50) (v := ?_) (a' := ?_) #[true, false, true, false, false, false, false, false, false, false, false, false, false, false] rfl rfl (by kernel_rfl) (fun _ _ _ h => h) (Or.inl ⟨by rfl, ?_⟩) ?_ ?_
      rotate_left
      · intro w'
        go_simp
        with_reducible rfl
      rotate_left
      · simp only [Act.put, List.setIfInBounds_toArray, List.set_cons_zero, List.set_cons_succ]
        rfl
      refine pure_ (i := 3) (N := some 51) (v := ?_) (a' := ?_) #[true, false, true, true, false, false, false, false, false, false, false, false, false, false] rfl rfl (by kernel_rfl) (fun _ _ _ h => h) (Or.inl ⟨by rfl, ?_⟩) ?_ ?_
      rotate_left
      · intro w'
        go_simp
        with_reducible rfl
      rotate_left
      · simp only [Act.put, List.setIfInBounds_toArray, List.set_cons_zero, List.set_cons_succ]
        rfl
      refine pure_ (i := 4) (N := some 52) (v := ?_) (a' := ?_) #[true, false, true, true, true, false, false, false, false, false, false, false, false, false] rfl rfl (by kernel_rfl) (fun _ _ _ h => h) (Or.inl ⟨by rfl, ?_⟩) ?_ ?_
      rotate_left
      · intro w'
        go_simp
        with_reducible rfl
      rotate_left
      · simp only [Act.put, List.setIfInBounds_toArray, List.set_cons_zero, List.set_cons_succ]
        rfl
      refine pure_ (i := 6) (N := some 54) (v := ?_) (a' := ?_) #[true, false, true, true, true, false, true, false, false, false, false, false, false, false] rfl rfl (by kernel_rfl) (fun _ _ _ h => h) (Or.inl ⟨by rfl, ?_⟩) ?_ ?_
      rotate_left
      · intro w'
        go_simp
        with_reducible rfl
      rotate_left
      · simp only [Act.put, List.setIfInBounds_toArray, List.set_cons_zero, List.set_cons_succ]
        rfl
      refine pure_ (i := 7) (N := some 55) (v := ?_) (a' := ?_) #[true, false, true, true, true, false, true, true, false, false, false, false, false, false] rfl rfl (by kernel_rfl) (fun _ _ _ h => h) (Or.inl ⟨by rfl, ?_⟩) ?_ ?_
      rotate_left
      · intro w'
        go_simp
        with_reducible rfl
      rotate_left
      · simp only [Act.put, List.setIfInBounds_toArray, List.set_cons_zero, List.set_cons_succ]
        rfl
      refine pure_ (i := 8) (N := some 56) (v := ?_) (a' := ?_) #[true, false, true, true, true, false, true, true, true, false, false, false, false, false] rfl rfl (by kernel_rfl) (fun _ _ _ h => h) (Or.inl ⟨by rfl, ?_⟩) ?_ ?_
      rotate_left
      · intro w'
        go_simp
        with_reducible rfl
      rotate_left
      · simp only [Act.put, List.setIfInBounds_toArray, List.set_cons_zero, List.set_cons_succ]
        rfl
      refine take_ (i := 1) (N := some 49) (v := ?_) (a' := ?_) #[true, true, true, true, true, false, true, true, true, false, false, false, false, false] rfl rfl (by kernel_rfl) (fun _ _ _ h => h) (Or.inl ⟨by rfl, ?_⟩) hHeld ?_ ?_
      rotate_left
      · intro w' s0
        go_simp
        with_reducible rfl
      rotate_left
      · simp only [Act.put, List.setIfInBounds_toArray, List.set_cons_zero, List.set_cons_succ]
        rfl
      refine take_ (i := 5) (N := some 53) (v := ?_) (a' := ?_) #[true, true, true, true, true, true, true, true, true, false, false, false, false, false] rfl rfl (by kernel_rfl) (fun _ _ _ h => h) (Or.inl ⟨by rfl, ?_⟩) hHeld ?_ ?_
      rotate_left
      · intro w' s0
        go_simp
        with_reducible rfl
      rotate_left
      · simp only [Act.put, List.setIfInBounds_toArray, List.set_cons_zero, List.set_cons_succ]
        rfl
      refine take_ (i := 9) (N := some 57) (v := ?_) (a' := ?_) #[true, true, true, true, true, true, true, true, true, true, false, false, false, false] rfl rfl (by kernel_rfl) (fun _ _ _ h => h) (Or.inl ⟨by rfl, ?_⟩) hHeld ?_ ?_
      rotate_left
      · intro w' s0
        go_simp
        with_reducible rfl
      rotate_left
      · simp only [Act.put, List.setIfInBounds_toArray, List.set_cons_zero, List.set_cons_succ]
        rfl
      refine one_ (i := 10) (N := some 58) #[true, true, true, true, true, true, true, true, true, true, true, false, false, false] rfl rfl (by kernel_rfl) (by decide) (fun K hK => ?_)
      refine value_ (w1 := ?_) (v := ?_) (by rfl) rfl ?_ ?_
      rotate_left 2
      · go_simp
        constructor
        · rfl
        · rfl
      refine hK.out _ _ ((show (World.drew _).cell? _ = _ from pw_cell_below (w := W3) (below_alloc (Below.refl _ _) _) pf)) (fun hHeld => ?_)
      clear hK K
      refine norm_ (a' := ?_) ?_ ?_
      rotate_left
      · show Act.put _ (some 58) _ = _
        simp only [Act.put, List.setIfInBounds_toArray, List.set_cons_zero, List.set_cons_succ]
        rfl
      refine one_ (i := 11) (N := some 59) #[true, true, true, true, true, true, true, true, true, true, true, true, false, false] rfl rfl (by kernel_rfl) (by decide) (fun K hK => ?_)
      refine value_ (w1 := ?_) (v := ?_) (by rfl) rfl ?_ ?_
      rotate_left 2
      · go_simp
        constructor
        · rfl
        · rfl
      refine hK.out _ _ ((show (World.drew _).cell? _ = _ from pw_cell_below (w := W3) (below_alloc (Below.refl _ _) _) pf)) (fun hHeld => ?_)
      clear hK K
      refine norm_ (a' := ?_) ?_ ?_
      rotate_left
      · show Act.put _ (some 59) _ = _
        simp only [Act.put, List.setIfInBounds_toArray, List.set_cons_zero, List.set_cons_succ]
        rfl
      refine last_ (i := 12) (N := some 60) #[true, true, true, true, true, true, true, true, true, true, true, true, true, false] rfl rfl (by kernel_rfl) (by decide) (fun K hK => ?_)
      refine goes_dyn (x := .tmp 49) Tryz.func135 (by kernel_rfl) rfl #[.string (strOfNums [((tenS[d1]'(by exact Nat.lt_of_lt_of_le l1 (by decide))).toNat : Int), ((tenS[d2]'(by exact Nat.lt_of_lt_of_le l2 (by decide))).toNat : Int)]), .pointer (some ⟨c, 0, none⟩), .pointer (some ⟨d, 0, none⟩)] (by rfl) rfl rfl (by rfl) (by simp only [List.map_toArray, List.map_cons, List.map_nil, List.append_toArray, List.nil_append, List.cons_append]; rfl) ?_
      rw [HTS.out]
      with_reducible refine (dig_1 (twoS s.size) c d _ h2a (by rw [t0]; omega) (box_drew (box_below Cc.out (below_alloc (Below.refl _ _) _))) (box_drew (box_below Cd.out (below_alloc (Below.refl _ _) _)))).mono ?_
      rintro e w4 ⟨rfl, hb4⟩
      have B4 := Aside0.mk ((below_drew (below_alloc B3.out _)).trans (hb4.mono (Nat.le_trans hq2 (by simp))))
      have HP4 := Aside0.mk (blk_below (blk_drew (blk_alloc HP1.out _)) hb4)
      have Da := Aside0.mk (box_below (box_drew (box_below Ca.out (below_alloc (Below.refl _ _) _))) hb4)
      have Db := Aside0.mk (box_below (box_drew (box_below Cb.out (below_alloc (Below.refl _ _) _))) hb4)
      have Dc := Aside0.mk (box_below (box_drew (box_below Cc.out (below_alloc (Below.refl _ _) _))) hb4)
      have Dd := Aside0.mk (box_below (box_drew (box_below Cd.out (below_alloc (Below.refl _ _) _))) hb4)
      have Df := Aside0.mk (box_below (box_drew (box_below Cf.out (below_alloc (Below.refl _ _) _))) hb4)
      have Dg := Aside0.mk (box_below (box_drew (box_below Cg.out (below_alloc (Below.refl _ _) _))) hb4)
      clear hb4
      refine ⟨_, rfl, ?_⟩
      refine hK.out _ _ ?_
      clear hK K
      refine norm_ (a' := ?_) ?_ ?_
      rotate_left
      · show Act.put _ (some 60) _ = _
        simp only [Act.put, List.setIfInBounds_toArray, List.set_cons_zero, List.set_cons_succ]
        rfl
      refine pure_ (i := 13) (N := some 12) (v := ?_) (a' := ?_) #[true, true, true, true, true, true, true, true, true, true, true, true, true, true] rfl rfl (by kernel_rfl) (fun _ _ _ h => h) (Or.inl ⟨by rfl, ?_⟩) ?_ ?_
      rotate_left
      · intro w'
        go_simp
        with_reducible rfl
      rotate_left
      · simp only [Act.put, List.setIfInBounds_toArray, List.set_cons_zero, List.set_cons_succ]
        rfl
      refine done_ (by kernel_rfl) ?_
      have hq4 : w.heap.size ≤ w4.heap.size := B4.out.size
      have hz4 : (digF 1 (twoS s.size)).size ≤ 1048576 := by have := digF_size 1 (twoS s.size); rw [t0] at this; omega
      have pf4 : w4.cell? ⟨w2.heap.size + 1, 0, none⟩ = some (Value.func (.func 135) #[] #[.pointer (some ⟨c, 0, none⟩), .pointer (some ⟨d, 0, none⟩)]) := by
        rw [blk_cell HP4.out 0]
        rfl
      have hl1 := ofB_all hof
      clear pf hHeld hcv i1 i2 iw1 iw2 t0
      go_wp2_with fail
      refine (dig_1 s c d _ hl1 hs Dc.out Dd.out).mono ?_
      rintro e w5 ⟨rfl, hb5⟩
      have B5 := Aside0.mk (B4.out.trans (hb5.mono hq4))
      have hz5 : (digF 1 s).size ≤ 1048576 := by have := digF_size 1 s; omega
      clear hb5 pf4
      go_wp2_with fail
      go_meet
      exact ⟨_, rfl, rfl, B5.out, by rw [ByteArray.size_append]; omega⟩
    · have hof : ofB s signS n = true := HR.out
      have hq := ofB_size hof
      have HQ := Aside0.mk hq
      clear hq
      go_wp2_with fail
      refine (let_1 s a b _ (ofB_all hof) hs (blk_alloc (blk_alloc (blk_alloc Ba.out _) _) _) (blk_alloc (blk_alloc (blk_alloc Bb.out _) _) _)).mono ?_
      rintro e w3 ⟨rfl, hb3⟩
      have HB3 := Aside0.mk ((below_alloc (below_alloc (below_alloc Y0.out _) _) _).trans (hb3.mono (Nat.le_trans Y0.out.size (by simp; omega))))
      have hz3 : (letF 1 s).size ≤ 1048576 := by have := letF_size 1 s; omega
      clear hb3
      go_wp2_with fail
      go_meet
      exact ⟨_, rfl, rfl, HB3.out, by omega⟩
    · have hof : ofB s lowS (2 * n) = true := HR.out
      have hq := ofB_size hof
      have HQ := Aside0.mk hq
      clear hq
      go_wp2_with fail
      refine (raw_1 s f g _ (ofB_all hof) hs (blk_alloc (blk_alloc (blk_alloc Bf.out _) _) _) (blk_alloc (blk_alloc (blk_alloc Bg.out _) _) _)).mono ?_
      rintro e w3 ⟨rfl, hb3⟩
      have HB3 := Aside0.mk ((below_alloc (below_alloc (below_alloc Y0.out _) _) _).trans (hb3.mono (Nat.le_trans Y0.out.size (by simp; omega))))
      have hz3 : (rawF 1 s).size ≤ 1048576 := by have := rawF_size 1 s; omega
      clear hb3
      go_wp2_with fail
      go_meet
      exact ⟨_, rfl, rfl, HB3.out, by omega⟩
    · have hR := HR.out
      have hq : ((decide (bt s 0 = 67 ∨ bt s 0 = 68) && decide (0 < s.size)) && ofB (s.extract 1 s.size) tenS n) = true := hR
      rw [Bool.and_eq_true, Bool.and_eq_true] at hq
      have h0 := of_decide_eq_true hq.1.2
      have hc := of_decide_eq_true hq.1.1
      have hof := hq.2
      clear hq hR
      have h1i : (1 : Int) ≤ (s.size : Int) := by omega
      have ze : (s.extract 0 1).size ≤ 1048575 := by simp; omega
      have z2 : (s.extract 1 s.size).size ≤ 1048575 := by simp; omega
      have hl0 := first_all h0 hc
      have hl1 := ofB_all hof
      have pf : (((w2.alloc (.cells #[Value.func (.func 135) #[] #[.pointer (some ⟨a, 0, none⟩), .pointer (some ⟨b, 0, none⟩)], .func (.func 137) #[] #[], .func (.func 138) #[] #[.pointer (some ⟨b, 0, none⟩), .pointer (some ⟨a, 0, none⟩)]] 157)).alloc (.cells #[Value.func (.func 135) #[] #[.pointer (some ⟨c, 0, none⟩), .pointer (some ⟨d, 0, none⟩)], .func (.func 137) #[] #[], .func (.func 138) #[] #[.pointer (some ⟨d, 0, none⟩), .pointer (some ⟨c, 0, none⟩)]] 157)).alloc (.cells #[Value.func (.func 135) #[] #[.pointer (some ⟨f, 0, none⟩), .pointer (some ⟨g, 0, none⟩)], .func (.func 137) #[] #[], .func (.func 138) #[] #[.pointer (some ⟨g, 0, none⟩), .pointer (some ⟨f, 0, none⟩)]] 157)).cell? ⟨w2.heap.size, 0, none⟩ = some (.func (.func 135) #[] #[.pointer (some ⟨a, 0, none⟩), .pointer (some ⟨b, 0, none⟩)]) := by
        rw [blk_cell (blk_alloc (blk_alloc (blk_new w2 _) _) _) 0]
        rfl
      have B3 : Aside0 (Below w.heap.size w (((w2.alloc (.cells #[Value.func (.func 135) #[] #[.pointer (some ⟨a, 0, none⟩), .pointer (some ⟨b, 0, none⟩)], .func (.func 137) #[] #[], .func (.func 138) #[] #[.pointer (some ⟨b, 0, none⟩), .pointer (some ⟨a, 0, none⟩)]] 157)).alloc (.cells #[Value.func (.func 135) #[] #[.pointer (some ⟨c, 0, none⟩), .pointer (some ⟨d, 0, none⟩)], .func (.func 137) #[] #[], .func (.func 138) #[] #[.pointer (some ⟨d, 0, none⟩), .pointer (some ⟨c, 0, none⟩)]] 157)).alloc (.cells #[Value.func (.func 135) #[] #[.pointer (some ⟨f, 0, none⟩), .pointer (some ⟨g, 0, none⟩)], .func (.func 137) #[] #[], .func (.func 138) #[] #[.pointer (some ⟨g, 0, none⟩), .pointer (some ⟨f, 0, none⟩)]] 157))) := ⟨(below_alloc (below_alloc (below_alloc Y0.out _) _) _)⟩
      have hq2 : w.heap.size ≤ (((w2.alloc (.cells #[Value.func (.func 135) #[] #[.pointer (some ⟨a, 0, none⟩), .pointer (some ⟨b, 0, none⟩)], .func (.func 137) #[] #[], .func (.func 138) #[] #[.pointer (some ⟨b, 0, none⟩), .pointer (some ⟨a, 0, none⟩)]] 157)).alloc (.cells #[Value.func (.func 135) #[] #[.pointer (some ⟨c, 0, none⟩), .pointer (some ⟨d, 0, none⟩)], .func (.func 137) #[] #[], .func (.func 138) #[] #[.pointer (some ⟨d, 0, none⟩), .pointer (some ⟨c, 0, none⟩)]] 157)).alloc (.cells #[Value.func (.func 135) #[] #[.pointer (some ⟨f, 0, none⟩), .pointer (some ⟨g, 0, none⟩)], .func (.func 137) #[] #[], .func (.func 138) #[] #[.pointer (some ⟨g, 0, none⟩), .pointer (some ⟨f, 0, none⟩)]] 157)).heap.size := Nat.le_trans Y0.out.size (by simp; omega)
      have HP1 := Aside0.mk (blk_alloc (heap_alloc2_new w2 (.cells #[Value.func (.func 135) #[] #[.pointer (some ⟨a, 0, none⟩), .pointer (some ⟨b, 0, none⟩)], .func (.func 137) #[] #[], .func (.func 138) #[] #[.pointer (some ⟨b, 0, none⟩), .pointer (some ⟨a, 0, none⟩)]] 157) (.cells #[Value.func (.func 135) #[] #[.pointer (some ⟨c, 0, none⟩), .pointer (some ⟨d, 0, none⟩)], .func (.func 137) #[] #[], .func (.func 138) #[] #[.pointer (some ⟨d, 0, none⟩), .pointer (some ⟨c, 0, none⟩)]] 157)) (.cells #[Value.func (.func 135) #[] #[.pointer (some ⟨f, 0, none⟩), .pointer (some ⟨g, 0, none⟩)], .func (.func 137) #[] #[], .func (.func 138) #[] #[.pointer (some ⟨g, 0, none⟩), .pointer (some ⟨f, 0, none⟩)]] 157))
      have Ca : Aside0 (BoxS (((w2.alloc (.cells #[Value.func (.func 135) #[] #[.pointer (some ⟨a, 0, none⟩), .pointer (some ⟨b, 0, none⟩)], .func (.func 137) #[] #[], .func (.func 138) #[] #[.pointer (some ⟨b, 0, none⟩), .pointer (some ⟨a, 0, none⟩)]] 157)).alloc (.cells #[Value.func (.func 135) #[] #[.pointer (some ⟨c, 0, none⟩), .pointer (some ⟨d, 0, none⟩)], .func (.func 137) #[] #[], .func (.func 138) #[] #[.pointer (some ⟨d, 0, none⟩), .pointer (some ⟨c, 0, none⟩)]] 157)).alloc (.cells #[Value.func (.func 135) #[] #[.pointer (some ⟨f, 0, none⟩), .pointer (some ⟨g, 0, none⟩)], .func (.func 137) #[] #[], .func (.func 138) #[] #[.pointer (some ⟨g, 0, none⟩), .pointer (some ⟨f, 0, none⟩)]] 157)) a signS) := ⟨(blk_alloc (blk_alloc (blk_alloc Ba.out _) _) _)⟩
      have Cb : Aside0 (BoxS (((w2.alloc (.cells #[Value.func (.func 135) #[] #[.pointer (some ⟨a, 0, none⟩), .pointer (some ⟨b, 0, none⟩)], .func (.func 137) #[] #[], .func (.func 138) #[] #[.pointer (some ⟨b, 0, none⟩), .pointer (some ⟨a, 0, none⟩)]] 157)).alloc (.cells #[Value.func (.func 135) #[] #[.pointer (some ⟨c, 0, none⟩), .pointer (some ⟨d, 0, none⟩)], .func (.func 137) #[] #[], .func (.func 138) #[] #[.pointer (some ⟨d, 0, none⟩), .pointer (some ⟨c, 0, none⟩)]] 157)).alloc (.cells #[Value.func (.func 135) #[] #[.pointer (some ⟨f, 0, none⟩), .pointer (some ⟨g, 0, none⟩)], .func (.func 137) #[] #[], .func (.func 138) #[] #[.pointer (some ⟨g, 0, none⟩), .pointer (some ⟨f, 0, none⟩)]] 157)) b signS) := ⟨(blk_alloc (blk_alloc (blk_alloc Bb.out _) _) _)⟩
      have Cc : Aside0 (BoxS (((w2.alloc (.cells #[Value.func (.func 135) #[] #[.pointer (some ⟨a, 0, none⟩), .pointer (some ⟨b, 0, none⟩)], .func (.func 137) #[] #[], .func (.func 138) #[] #[.pointer (some ⟨b, 0, none⟩), .pointer (some ⟨a, 0, none⟩)]] 157)).alloc (.cells #[Value.func (.func 135) #[] #[.pointer (some ⟨c, 0, none⟩), .pointer (some ⟨d, 0, none⟩)], .func (.func 137) #[] #[], .func (.func 138) #[] #[.pointer (some ⟨d, 0, none⟩), .pointer (some ⟨c, 0, none⟩)]] 157)).alloc (.cells #[Value.func (.func 135) #[] #[.pointer (some ⟨f, 0, none⟩), .pointer (some ⟨g, 0, none⟩)], .func (.func 137) #[] #[], .func (.func 138) #[] #[.pointer (some ⟨g, 0, none⟩), .pointer (some ⟨f, 0, none⟩)]] 157)) c tenS) := ⟨(blk_alloc (blk_alloc (blk_alloc Bc.out _) _) _)⟩
      have Cd : Aside0 (BoxS (((w2.alloc (.cells #[Value.func (.func 135) #[] #[.pointer (some ⟨a, 0, none⟩), .pointer (some ⟨b, 0, none⟩)], .func (.func 137) #[] #[], .func (.func 138) #[] #[.pointer (some ⟨b, 0, none⟩), .pointer (some ⟨a, 0, none⟩)]] 157)).alloc (.cells #[Value.func (.func 135) #[] #[.pointer (some ⟨c, 0, none⟩), .pointer (some ⟨d, 0, none⟩)], .func (.func 137) #[] #[], .func (.func 138) #[] #[.pointer (some ⟨d, 0, none⟩), .pointer (some ⟨c, 0, none⟩)]] 157)).alloc (.cells #[Value.func (.func 135) #[] #[.pointer (some ⟨f, 0, none⟩), .pointer (some ⟨g, 0, none⟩)], .func (.func 137) #[] #[], .func (.func 138) #[] #[.pointer (some ⟨g, 0, none⟩), .pointer (some ⟨f, 0, none⟩)]] 157)) d tenS) := ⟨(blk_alloc (blk_alloc (blk_alloc Bd.out _) _) _)⟩
      have Cf : Aside0 (BoxS (((w2.alloc (.cells #[Value.func (.func 135) #[] #[.pointer (some ⟨a, 0, none⟩), .pointer (some ⟨b, 0, none⟩)], .func (.func 137) #[] #[], .func (.func 138) #[] #[.pointer (some ⟨b, 0, none⟩), .pointer (some ⟨a, 0, none⟩)]] 157)).alloc (.cells #[Value.func (.func 135) #[] #[.pointer (some ⟨c, 0, none⟩), .pointer (some ⟨d, 0, none⟩)], .func (.func 137) #[] #[], .func (.func 138) #[] #[.pointer (some ⟨d, 0, none⟩), .pointer (some ⟨c, 0, none⟩)]] 157)).alloc (.cells #[Value.func (.func 135) #[] #[.pointer (some ⟨f, 0, none⟩), .pointer (some ⟨g, 0, none⟩)], .func (.func 137) #[] #[], .func (.func 138) #[] #[.pointer (some ⟨g, 0, none⟩), .pointer (some ⟨f, 0, none⟩)]] 157)) f lowS) := ⟨(blk_alloc (blk_alloc (blk_alloc Bf.out _) _) _)⟩
      have Cg : Aside0 (BoxS (((w2.alloc (.cells #[Value.func (.func 135) #[] #[.pointer (some ⟨a, 0, none⟩), .pointer (some ⟨b, 0, none⟩)], .func (.func 137) #[] #[], .func (.func 138) #[] #[.pointer (some ⟨b, 0, none⟩), .pointer (some ⟨a, 0, none⟩)]] 157)).alloc (.cells #[Value.func (.func 135) #[] #[.pointer (some ⟨c, 0, none⟩), .pointer (some ⟨d, 0, none⟩)], .func (.func 137) #[] #[], .func (.func 138) #[] #[.pointer (some ⟨d, 0, none⟩), .pointer (some ⟨c, 0, none⟩)]] 157)).alloc (.cells #[Value.func (.func 135) #[] #[.pointer (some ⟨f, 0, none⟩), .pointer (some ⟨g, 0, none⟩)], .func (.func 137) #[] #[], .func (.func 138) #[] #[.pointer (some ⟨g, 0, none⟩), .pointer (some ⟨f, 0, none⟩)]] 157)) g highS) := ⟨(blk_alloc (blk_alloc (blk_alloc Bg.out _) _) _)⟩
      obtain ⟨W3, hW3⟩ : ∃ W, W = ((w2.alloc (.cells #[Value.func (.func 135) #[] #[.pointer (some ⟨a, 0, none⟩), .pointer (some ⟨b, 0, none⟩)], .func (.func 137) #[] #[], .func (.func 138) #[] #[.pointer (some ⟨b, 0, none⟩), .pointer (some ⟨a, 0, none⟩)]] 157)).alloc (.cells #[Value.func (.func 135) #[] #[.pointer (some ⟨c, 0, none⟩), .pointer (some ⟨d, 0, none⟩)], .func (.func 137) #[] #[], .func (.func 138) #[] #[.pointer (some ⟨d, 0, none⟩), .pointer (some ⟨c, 0, none⟩)]] 157)).alloc (.cells #[Value.func (.func 135) #[] #[.pointer (some ⟨f, 0, none⟩), .pointer (some ⟨g, 0, none⟩)], .func (.func 137) #[] #[], .func (.func 138) #[] #[.pointer (some ⟨g, 0, none⟩), .pointer (some ⟨f, 0, none⟩)]] 157) := ⟨_, rfl⟩
      go_wp2_with fail
      rw [← hW3] at pf B3 hq2 HP1 Ca Cb Cc Cd Cf Cg ⊢
      clear hW3
      refine start_ (n := 9) (S := fun w' => w'.cell? ⟨w2.heap.size, 0, none⟩ = some (.func (.func 135) #[] #[.pointer (some ⟨a, 0, none⟩), .pointer (some ⟨b, 0, none⟩)])) (ds := [4]) #[false, false, false, false, false, false, false, false, false] (by kernel_rfl) rfl rfl (pf) (fun hHeld => ?_)
      refine pure_ (i := 0) (N := some 35) (v := ?_) (a' := ?_) #[true, false, false, false, false, false, false, false, false] rfl rfl (by kernel_rfl) (fun _ _ _ h => h) (Or.inl ⟨by rfl, ?_⟩) ?_ ?_
      rotate_left
      · intro w'
        go_simp
        with_reducible rfl
      rotate_left
      · simp only [Act.put, List.setIfInBounds_toArray, List.set_cons_zero, List.set_cons_succ]
        rfl
      refine pure_ (i := 2) (N := some 37) (v := ?_) (a' := ?_) #[true, false, true, false, false, false, false, false, false] rfl rfl (by kernel_rfl) (fun _ _ _ h => h) (Or.inl ⟨by rfl, ?_⟩) ?_ ?_
      rotate_left
      · intro w'
        go_simp
        with_reducible rfl
      rotate_left
      · simp only [Act.put, List.setIfInBounds_toArray, List.set_cons_zero, List.set_cons_succ]
        rfl
      refine pure_ (i := 3) (N := some 38) (v := ?_) (a' := ?_) #[true, false, true, true, false, false, false, false, false] rfl rfl (by kernel_rfl) (fun _ _ _ h => h) (Or.inl ⟨by rfl, ?_⟩) ?_ ?_
      rotate_left
      · intro w'
        go_simp
        with_reducible rfl
      rotate_left
      · simp only [Act.put, List.setIfInBounds_toArray, List.set_cons_zero, List.set_cons_succ]
        rfl
      refine pure_ (i := 5) (N := some 40) (v := ?_) (a' := ?_) #[true, false, true, true, false, true, false, false, false] rfl rfl (by kernel_rfl) (fun _ _ _ h => h) (Or.inl ⟨by rfl, ?_⟩) ?_ ?_
      rotate_left
      · intro w'
        go_simp
        with_reducible rfl
      rotate_left
      · simp only [Act.put, List.setIfInBounds_toArray, List.set_cons_zero, List.set_cons_succ]
        rfl
      refine pure_ (i := 6) (N := some 41) (v := ?_) (a' := ?_) #[true, false, true, true, false, true, true, false, false] rfl rfl (by kernel_rfl) (fun _ _ _ h => h) (Or.inl ⟨by rfl, ?_⟩) ?_ ?_
      rotate_left
      · intro w'
        go_simp
        with_reducible rfl
      rotate_left
      · simp only [Act.put, List.setIfInBounds_toArray, List.set_cons_zero, List.set_cons_succ]
        rfl
      refine take_ (i := 1) (N := some 36) (v := ?_) (a' := ?_) #[true, true, true, true, false, true, true, false, false] rfl rfl (by kernel_rfl) (fun _ _ _ h => h) (Or.inl ⟨by rfl, ?_⟩) hHeld ?_ ?_
      rotate_left
      · intro w' s0
        go_simp
        with_reducible rfl
      rotate_left
      · simp only [Act.put, List.setIfInBounds_toArray, List.set_cons_zero, List.set_cons_succ]
        rfl
      refine last_ (i := 4) (N := some 39) #[true, true, true, true, true, true, true, false, false] rfl rfl (by kernel_rfl) (by decide) (fun K hK => ?_)
      refine goes_dyn (x := .tmp 36) Tryz.func135 (by kernel_rfl) rfl #[.string (s.extract 0 1), .pointer (some ⟨a, 0, none⟩), .pointer (some ⟨b, 0, none⟩)] (by rfl) rfl rfl (by rfl) (by simp only [List.map_toArray, List.map_cons, List.map_nil, List.append_toArray, List.nil_append, List.cons_append]; rfl) ?_
      with_reducible refine (let_1 (s.extract 0 1) a b _ hl0 ze (box_drew Ca.out) (box_drew Cb.out)).mono ?_
      rintro e w4 ⟨rfl, hb4⟩
      have B4 := Aside0.mk ((below_drew B3.out).trans (hb4.mono hq2))
      have HP4 := Aside0.mk (blk_below (blk_drew HP1.out) hb4)
      have Da := Aside0.mk (box_below (box_drew Ca.out) hb4)
      have Db := Aside0.mk (box_below (box_drew Cb.out) hb4)
      have Dc := Aside0.mk (box_below (box_drew Cc.out) hb4)
      have Dd := Aside0.mk (box_below (box_drew Cd.out) hb4)
      have Df := Aside0.mk (box_below (box_drew Cf.out) hb4)
      have Dg := Aside0.mk (box_below (box_drew Cg.out) hb4)
      clear hb4
      refine ⟨_, rfl, ?_⟩
      refine hK.out _ _ ?_
      clear hK K
      refine norm_ (a' := ?_) ?_ ?_
      rotate_left
      · show Act.put _ (some 39) _ = _
        simp only [Act.put, List.setIfInBounds_toArray, List.set_cons_zero, List.set_cons_succ]
        rfl
      refine pure_ (i := 7) (N := some 12) (v := ?_) (a' := ?_) #[true, true, true, true, true, true, true, true, false] rfl rfl (by kernel_rfl) (fun _ _ _ h => h) (Or.inl ⟨by rfl, ?_⟩) ?_ ?_
      rotate_left
      · intro w'
        go_simp
        with_reducible rfl
      rotate_left
      · simp only [Act.put, List.setIfInBounds_toArray, List.set_cons_zero, List.set_cons_succ]
        rfl
      refine pure_ (i := 8) (N := some 2) (v := ?_) (a' := ?_) #[true, true, true, true, true, true, true, true, true] rfl rfl (by kernel_rfl) (fun _ _ _ h => h) (Or.inl ⟨by rfl, ?_⟩) ?_ ?_
      rotate_left
      · intro w'
        go_simp
        with_reducible rfl
      rotate_left
      · simp only [Act.put, List.setIfInBounds_toArray, List.set_cons_zero, List.set_cons_succ]
        rfl
      refine done_ (by kernel_rfl) ?_
      have hq4 : w.heap.size ≤ w4.heap.size := B4.out.size
      have hz4 : (letF 1 (s.extract 0 1)).size ≤ 1048576 := by rw [letF_size]; omega
      have HX : Aside0 ((s.extract 1 s.size).size ≤ 1048575) := ⟨z2⟩
      have pf4 : w4.cell? ⟨w2.heap.size + 1, 0, none⟩ = some (Value.func (.func 135) #[] #[.pointer (some ⟨c, 0, none⟩), .pointer (some ⟨d, 0, none⟩)]) := by
        rw [blk_cell HP4.out 0]
        rfl
      clear pf hHeld
      go_wp2_with fail
      refine (dig_1 (s.extract 1 s.size) c d _ hl1 z2 Dc.out Dd.out).mono ?_
      rintro e w5 ⟨rfl, hb5⟩
      have B5 := Aside0.mk (B4.out.trans (hb5.mono hq4))
      have hz5 : (digF 1 (s.extract 1 s.size)).size ≤ 1048576 := by have := digF_size 1 (s.extract 1 s.size); omega
      clear hb5 pf4
      go_wp2_with fail
      go_meet
      exact ⟨_, rfl, rfl, B5.out, by rw [ByteArray.size_append]; omega⟩
  case rest =>
    obtain ⟨out, rfl, ho, hB, hsz⟩ := hcut
    have HO := Aside0.mk ho
    have HB := Aside0.mk hB
    have HS := Aside0.mk hsz
    clear ho hB hsz e0 hz e9
    go_wp2_with (first
      | (refine print_append_row (w0 := w) w.heap.size rfl _ _ 22 5 .u8 1 rfl Tryz.underlying22 byteInfo (by decide) (.slice (some ⟨wc.heap.size, 0, none⟩) 0 0) [] bs A bs.length cb rfl rfl (own_lit (wc) w.heap.size 5 .u8 [] HB.out.size (by simp)) (Kd.reads_of_C (Kd.C_alloc (Kd.C_below HB0.out HB.out) _)) (below_alloc HB.out _) (by simp; have := HB.out.size; omega) (by simp; omega) ?_; intro v1 x1 ho1 hb1 hg1 hat1; have HO1 := Aside0.mk ho1; have HB1 := Aside0.mk hb1; clear ho1 hb1 hg1 hat1)
      | (refine print_append_str (w0 := w) w.heap.size rfl _ _ 22 9 5 rfl Tryz.underlying22 Tryz.underlying9 byteInfo v1 bs out rfl rfl HO1.out HB1.out HB1.out.size (by have := HS.out; omega) ?_; intro v2 x2 ho2 hb2 hg2; have HO2 := Aside0.mk ho2; have HB2 := Aside0.mk hb2; clear ho2 hb2 hg2))
    rw [HO.out] at HO2
    exact bodyPost_ret (v := .tuple #[v2, .int .i64 0]) (by simp [results, Tryz.results63, go_sem]) rfl ⟨v2, rfl, HO2.out, HB2.out⟩

set_option maxRecDepth 100000 in
set_option maxHeartbeats 4000000 in
theorem put_2 (k n : Int) (hk : FormOk k n 2) (s : ByteArray) (hr : rightB k n s = true) (A : Option Addr) (cb : Nat) (bs : List Int) (w : World) (hb0 : Kd.C (Kd.int .u8) w A bs.length bs) (hl : bs.length ≤ 1048576) (hs : s.size ≤ 1048575) :
    Calls Tryz.prog 63 #[.slice A bs.length cb, .agg #[.int .i64 k, .int .i64 n, .int .i64 2], .string s] w (PutPost w bs (putF k 2 s)) := by
  have HR := Aside0.mk hr
  have HK := Aside0.mk hk
  have HB0 := Aside0.mk hb0
  have hm : s.size ≤ maxLen := by unfold maxLen; omega
  have hw0 : wrongOf k n s = 0 := by unfold wrongOf; rw [hr]; rfl
  clear hr hb0
  go_enter Tryz.func63, Tryz.ntmps63
  go_wp2_with fail
  refine (check_any k n 2 hk s hm _).mono ?_
  rw [hw0]
  rintro e w1 ⟨rfl, hb1⟩
  have X0 := Aside0.mk ((below_alloc (Below.refl w.heap.size w) _).trans (hb1.mono (by simp)))
  have X1 := Aside0.mk (blk_below (blk_new w _) hb1)
  have e0 := blk_cell X1.out 0
  have e1 := blk_cell X1.out 1
  have e2 := blk_cell X1.out 2
  simp only [List.getElem?_toArray, List.getElem?_cons_zero, List.getElem?_cons_succ] at e0 e1 e2
  clear hb1 hw0
  go_wp2_with fail
  refine (codes_2 k n _).mono ?_
  rintro e w2 ⟨a, b, c, f, rfl, ha, hb, hB2⟩
  have Y0 := Aside0.mk (X0.out.trans (hB2.mono X0.out.size))
  have Y1 := Aside0.mk (blk_below X1.out hB2)
  have Ba := Aside0.mk ha
  have Bb := Aside0.mk hb
  clear hB2 e0 e1 e2 X0 X1 ha hb
  have e0 := blk_cell Y1.out 0
  simp only [List.getElem?_toArray, List.getElem?_cons_zero] at e0
  have hz : w.heap.size < w2.heap.size := blk_lt Y1.out
  have e9 : (((w2.alloc (.cells #[Value.func (.func 135) #[] #[.pointer (some ⟨a, 0, none⟩), .pointer (some ⟨b, 0, none⟩)], .func (.func 137) #[] #[], .func (.func 138) #[] #[.pointer (some ⟨b, 0, none⟩), .pointer (some ⟨a, 0, none⟩)]] 157)).alloc (.cells #[Value.func (.func 139) #[] #[], .func (.func 140) #[] #[], .func (.func 141) #[] #[.pointer (some ⟨c, 0, none⟩)]] 157)).alloc (.cells #[Value.func (.func 139) #[] #[], .func (.func 140) #[] #[], .func (.func 141) #[] #[.pointer (some ⟨f, 0, none⟩)]] 157)).cell? ⟨w.heap.size, 0, none⟩ = some (.int .i64 k) := by
    rw [blk_cell (blk_alloc (blk_alloc (blk_alloc Y1.out _) _) _) 0]
    rfl
  go_upto_block 0 with fail
  go_cut [12] (fun v12 wx => ∃ out, v12 = .string out ∧ out = putF k 2 s ∧ Below w.heap.size w wx ∧ out.size ≤ 4194304)
  case first =>
    obtain ⟨⟨k1, k2⟩, ⟨n1, n2⟩, _⟩ := hk
    have hk5 : k = 1 ∨ k = 2 ∨ k = 3 ∨ k = 4 ∨ k = 5 := by omega
    rcases hk5 with rfl | rfl | rfl | rfl | rfl
    · have hof : ofB s tenS n = true := HR.out
      have hq := ofB_size hof
      have HQ := Aside0.mk hq
      clear hq
      go_wp2_with fail
      refine (dig_2 s _ (ofB_all hof) hs).mono ?_
      rintro e w3 ⟨rfl, hb3⟩
      have HB3 := Aside0.mk ((below_alloc (below_alloc (below_alloc Y0.out _) _) _).trans (hb3.mono (Nat.le_trans Y0.out.size (by simp; omega))))
      have hz3 : (digF 2 s).size ≤ 1048576 := by have := digF_size 2 s; omega
      clear hb3
      go_wp2_with fail
      go_meet
      exact ⟨_, rfl, empty_append _, HB3.out, by rw [empty_append]; omega⟩
    · have hR := HR.out
      have hq : ((decide (0 < s.size) && decide ((s.size : Int) ≤ n)) && ofB s tenS s.size) = true := hR
      rw [Bool.and_eq_true, Bool.and_eq_true] at hq
      have h0 := of_decide_eq_true hq.1.1
      have h1 := of_decide_eq_true hq.1.2
      have hof := hq.2
      obtain ⟨d1, hd1⟩ : ∃ d1, d1 = s.size / 10 := ⟨_, rfl⟩
      obtain ⟨d2, hd2⟩ : ∃ d2, d2 = s.size % 10 := ⟨_, rfl⟩
      have i1 : (s.size : Int).tdiv 10 = (d1 : Int) := by rw [Int.tdiv_eq_ediv_of_nonneg (by omega)]; omega
      have i2 : (s.size : Int).tmod 10 = (d2 : Int) := by rw [Int.tmod_eq_emod_of_nonneg (by omega)]; omega
      have iw1 : IntKind.i64.wrap (d1 : Int) = (d1 : Int) := by rw [i64_w]; unfold wrap64; omega
      have iw2 : IntKind.i64.wrap (d2 : Int) = (d2 : Int) := by rw [i64_w]; unfold wrap64; omega
      have HD1 := Aside0.mk hd1
      have HD2 := Aside0.mk hd2
      have l1 : d1 < 10 := by omega
      have l2 : d2 < 10 := by omega
      have l1i : (d1 : Int) < 10 := by omega
      have l2i : (d2 : Int) < 10 := by omega
      clear hq hR hd1 hd2
      have t0 : (twoS s.size).size = 2 := rfl
      have pf : (((w2.alloc (.cells #[Value.func (.func 135) #[] #[.pointer (some ⟨a, 0, none⟩), .pointer (some ⟨b, 0, none⟩)], .func (.func 137) #[] #[], .func (.func 138) #[] #[.pointer (some ⟨b, 0, none⟩), .pointer (some ⟨a, 0, none⟩)]] 157)).alloc (.cells #[Value.func (.func 139) #[] #[], .func (.func 140) #[] #[], .func (.func 141) #[] #[.pointer (some ⟨c, 0, none⟩)]] 157)).alloc (.cells #[Value.func (.func 139) #[] #[], .func (.func 140) #[] #[], .func (.func 141) #[] #[.pointer (some ⟨f, 0, none⟩)]] 157)).cell? ⟨w2.heap.size + 1, 0, none⟩ = some (Value.func (.func 139) #[] #[]) := by
        rw [blk_cell (blk_alloc (heap_alloc2_new w2 (.cells #[Value.func (.func 135) #[] #[.pointer (some ⟨a, 0, none⟩), .pointer (some ⟨b, 0, none⟩)], .func (.func 137) #[] #[], .func (.func 138) #[] #[.pointer (some ⟨b, 0, none⟩), .pointer (some ⟨a, 0, none⟩)]] 157) (.cells #[Value.func (.func 139) #[] #[], .func (.func 140) #[] #[], .func (.func 141) #[] #[.pointer (some ⟨c, 0, none⟩)]] 157)) (.cells #[Value.func (.func 139) #[] #[], .func (.func 140) #[] #[], .func (.func 141) #[] #[.pointer (some ⟨f, 0, none⟩)]] 157)) 0]
        rfl
      have B3 : Aside0 (Below w.heap.size w (((w2.alloc (.cells #[Value.func (.func 135) #[] #[.pointer (some ⟨a, 0, none⟩), .pointer (some ⟨b, 0, none⟩)], .func (.func 137) #[] #[], .func (.func 138) #[] #[.pointer (some ⟨b, 0, none⟩), .pointer (some ⟨a, 0, none⟩)]] 157)).alloc (.cells #[Value.func (.func 139) #[] #[], .func (.func 140) #[] #[], .func (.func 141) #[] #[.pointer (some ⟨c, 0, none⟩)]] 157)).alloc (.cells #[Value.func (.func 139) #[] #[], .func (.func 140) #[] #[], .func (.func 141) #[] #[.pointer (some ⟨f, 0, none⟩)]] 157))) := ⟨(below_alloc (below_alloc (below_alloc Y0.out _) _) _)⟩
      have hq2 : w.heap.size ≤ (((w2.alloc (.cells #[Value.func (.func 135) #[] #[.pointer (some ⟨a, 0, none⟩), .pointer (some ⟨b, 0, none⟩)], .func (.func 137) #[] #[], .func (.func 138) #[] #[.pointer (some ⟨b, 0, none⟩), .pointer (some ⟨a, 0, none⟩)]] 157)).alloc (.cells #[Value.func (.func 139) #[] #[], .func (.func 140) #[] #[], .func (.func 141) #[] #[.pointer (some ⟨c, 0, none⟩)]] 157)).alloc (.cells #[Value.func (.func 139) #[] #[], .func (.func 140) #[] #[], .func (.func 141) #[] #[.pointer (some ⟨f, 0, none⟩)]] 157)).heap.size := Nat.le_trans Y0.out.size (by simp; omega)
      have HP1 := Aside0.mk (blk_alloc (heap_alloc2_new w2 (.cells #[Value.func (.func 135) #[] #[.pointer (some ⟨a, 0, none⟩), .pointer (some ⟨b, 0, none⟩)], .func (.func 137) #[] #[], .func (.func 138) #[] #[.pointer (some ⟨b, 0, none⟩), .pointer (some ⟨a, 0, none⟩)]] 157) (.cells #[Value.func (.func 139) #[] #[], .func (.func 140) #[] #[], .func (.func 141) #[] #[.pointer (some ⟨c, 0, none⟩)]] 157)) (.cells #[Value.func (.func 139) #[] #[], .func (.func 140) #[] #[], .func (.func 141) #[] #[.pointer (some ⟨f, 0, none⟩)]] 157))
      have Ca : Aside0 (BoxS (((w2.alloc (.cells #[Value.func (.func 135) #[] #[.pointer (some ⟨a, 0, none⟩), .pointer (some ⟨b, 0, none⟩)], .func (.func 137) #[] #[], .func (.func 138) #[] #[.pointer (some ⟨b, 0, none⟩), .pointer (some ⟨a, 0, none⟩)]] 157)).alloc (.cells #[Value.func (.func 139) #[] #[], .func (.func 140) #[] #[], .func (.func 141) #[] #[.pointer (some ⟨c, 0, none⟩)]] 157)).alloc (.cells #[Value.func (.func 139) #[] #[], .func (.func 140) #[] #[], .func (.func 141) #[] #[.pointer (some ⟨f, 0, none⟩)]] 157)) a signS) := ⟨(blk_alloc (blk_alloc (blk_alloc Ba.out _) _) _)⟩
      have Cb : Aside0 (BoxS (((w2.alloc (.cells #[Value.func (.func 135) #[] #[.pointer (some ⟨a, 0, none⟩), .pointer (some ⟨b, 0, none⟩)], .func (.func 137) #[] #[], .func (.func 138) #[] #[.pointer (some ⟨b, 0, none⟩), .pointer (some ⟨a, 0, none⟩)]] 157)).alloc (.cells #[Value.func (.func 139) #[] #[], .func (.func 140) #[] #[], .func (.func 141) #[] #[.pointer (some ⟨c, 0, none⟩)]] 157)).alloc (.cells #[Value.func (.func 139) #[] #[], .func (.func 140) #[] #[], .func (.func 141) #[] #[.pointer (some ⟨f, 0, none⟩)]] 157)) b signS) := ⟨(blk_alloc (blk_alloc (blk_alloc Bb.out _) _) _)⟩
      obtain ⟨W3, hW3⟩ : ∃ W, W = ((w2.alloc (.cells #[Value.func (.func 135) #[] #[.pointer (some ⟨a, 0, none⟩), .pointer (some ⟨b, 0, none⟩)], .func (.func 137) #[] #[], .func (.func 138) #[] #[.pointer (some ⟨b, 0, none⟩), .pointer (some ⟨a, 0, none⟩)]] 157)).alloc (.cells #[Value.func (.func 139) #[] #[], .func (.func 140) #[] #[], .func (.func 141) #[] #[.pointer (some ⟨c, 0, none⟩)]] 157)).alloc (.cells #[Value.func (.func 139) #[] #[], .func (.func 140) #[] #[], .func (.func 141) #[] #[.pointer (some ⟨f, 0, none⟩)]] 157) := ⟨_, rfl⟩
      go_wp2_with fail
      rw [← hW3] at pf B3 hq2 HP1 Ca Cb ⊢
      clear hW3
      have hcv := conv_two W3
      have hts := two_at s.size d1 d2 l1 l2 HD1.out HD2.out
      have HTS := Aside0.mk hts
      have h2a : allW tenS (twoS s.size) = true := two_all s.size (by omega)
      clear hts
      refine start_ (n := 14) (S := fun w' => w'.cell? ⟨w2.heap.size + 1, 0, none⟩ = some (Value.func (.func 139) #[] #[])) (ds := [12]) #[false, false, false, false, false, false, false, false, false, false, false, false, false, false] (by kernel_rfl) rfl rfl (pf) (fun hHeld => ?_)
      refine pure_ (i := 0) (N := some 48) (v := ?_) (a' := ?_) #[true, false, false, false, false, false, false, false, false, false, false, false, false, false] rfl rfl (by kernel_rfl) (fun _ _ _ h => h) (Or.inl ⟨by rfl, ?_⟩) ?_ ?_
      rotate_left
      · intro w'
        go_simp
        with_reducible rfl
      rotate_left
      · simp only [Act.put, List.setIfInBounds_toArray, List.set_cons_zero, List.set_cons_succ]
        rfl
      refine pure_ (i := 2) (N := some 50) (v := ?_) (a' := ?_) #[true, false, true, false, false, false, false, false, false, false, false, false, false, false] rfl rfl (by kernel_rfl) (fun _ _ _ h => h) (Or.inl ⟨by rfl, ?_⟩) ?_ ?_
      rotate_left
      · intro w'
        go_simp
        with_reducible rfl
      rotate_left
      · simp only [Act.put, List.setIfInBounds_toArray, List.set_cons_zero, List.set_cons_succ]
        rfl
      refine pure_ (i := 3) (N := some 51) (v := ?_) (a' := ?_) #[true, false, true, true, false, false, false, false, false, false, false, false, false, false] rfl rfl (by kernel_rfl) (fun _ _ _ h => h) (Or.inl ⟨by rfl, ?_⟩) ?_ ?_
      rotate_left
      · intro w'
        go_simp
        with_reducible rfl
      rotate_left
      · simp only [Act.put, List.setIfInBounds_toArray, List.set_cons_zero, List.set_cons_succ]
        rfl
      refine pure_ (i := 4) (N := some 52) (v := ?_) (a' := ?_) #[true, false, true, true, true, false, false, false, false, false, false, false, false, false] rfl rfl (by kernel_rfl) (fun _ _ _ h => h) (Or.inl ⟨by rfl, ?_⟩) ?_ ?_
      rotate_left
      · intro w'
        go_simp
        with_reducible rfl
      rotate_left
      · simp only [Act.put, List.setIfInBounds_toArray, List.set_cons_zero, List.set_cons_succ]
        rfl
      refine pure_ (i := 6) (N := some 54) (v := ?_) (a' := ?_) #[true, false, true, true, true, false, true, false, false, false, false, false, false, false] rfl rfl (by kernel_rfl) (fun _ _ _ h => h) (Or.inl ⟨by rfl, ?_⟩) ?_ ?_
      rotate_left
      · intro w'
        go_simp
        with_reducible rfl
      rotate_left
      · simp only [Act.put, List.setIfInBounds_toArray, List.set_cons_zero, List.set_cons_succ]
        rfl
      refine pure_ (i := 7) (N := some 55) (v := ?_) (a' := ?_) #[true, false, true, true, true, false, true, true, false, false, false, false, false, false] rfl rfl (by kernel_rfl) (fun _ _ _ h => h) (Or.inl ⟨by rfl, ?_⟩) ?_ ?_
      rotate_left
      · intro w'
        go_simp
        with_reducible rfl
      rotate_left
      · simp only [Act.put, List.setIfInBounds_toArray, List.set_cons_zero, List.set_cons_succ]
        rfl
      refine pure_ (i := 8) (N := some 56) (v := ?_) (a' := ?_) #[true, false, true, true, true, false, true, true, true, false, false, false, false, false] rfl rfl (by kernel_rfl) (fun _ _ _ h => h) (Or.inl ⟨by rfl, ?_⟩) ?_ ?_
      rotate_left
      · intro w'
        go_simp
        with_reducible rfl
      rotate_left
      · simp only [Act.put, List.setIfInBounds_toArray, List.set_cons_zero, List.set_cons_succ]
        rfl
      refine take_ (i := 1) (N := some 49) (v := ?_) (a' := ?_) #[true, true, true, true, true, false, true, true, true, false, false, false, false, false] rfl rfl (by kernel_rfl) (fun _ _ _ h => h) (Or.inl ⟨by rfl, ?_⟩) hHeld ?_ ?_
      rotate_left
      · intro w' s0
        go_simp
        with_reducible rfl
      rotate_left
      · simp only [Act.put, List.setIfInBounds_toArray, List.set_cons_zero, List.set_cons_succ]
        rfl
      refine take_ (i := 5) (N := some 53) (v := ?_) (a' := ?_) #[true, true, true, true, true, true, true, true, true, false, false, false, false, false] rfl rfl (by kernel_rfl) (fun _ _ _ h => h) (Or.inl ⟨by rfl, ?_⟩) hHeld ?_ ?_
      rotate_left
      · intro w' s0
        go_simp
        with_reducible rfl
      rotate_left
      · simp only [Act.put, List.setIfInBounds_toArray, List.set_cons_zero, List.set_cons_succ]
        rfl
      refine take_ (i := 9) (N := some 57) (v := ?_) (a' := ?_) #[true, true, true, true, true, true, true, true, true, true, false, false, false, false] rfl rfl (by kernel_rfl) (fun _ _ _ h => h) (Or.inl ⟨by rfl, ?_⟩) hHeld ?_ ?_
      rotate_left
      · intro w' s0
        go_simp
        with_reducible rfl
      rotate_left
      · simp only [Act.put, List.setIfInBounds_toArray, List.set_cons_zero, List.set_cons_succ]
        rfl
      refine one_ (i := 10) (N := some 58) #[true, true, true, true, true, true, true, true, true, true, true, false, false, false] rfl rfl (by kernel_rfl) (by decide) (fun K hK => ?_)
      refine value_ (w1 := ?_) (v := ?_) (by rfl) rfl ?_ ?_
      rotate_left 2
      · go_simp
        constructor
        · rfl
        · rfl
      refine hK.out _ _ ((show (World.drew _).cell? _ = _ from pw_cell_below (w := W3) (below_alloc (Below.refl _ _) _) pf)) (fun hHeld => ?_)
      clear hK K
      refine norm_ (a' := ?_) ?_ ?_
      rotate_left
      · show Act.put _ (some 58) _ = _
        simp only [Act.put, List.setIfInBounds_toArray, List.set_cons_zero, List.set_cons_succ]
        rfl
      refine one_ (i := 11) (N := some 59) #[true, true, true, true, true, true, true, true, true, true, true, true, false, false] rfl rfl (by kernel_rfl) (by decide) (fun K hK => ?_)
      refine value_ (w1 := ?_) (v := ?_) (by rfl) rfl ?_ ?_
      rotate_left 2
      · go_simp
        constructor
        · rfl
        · rfl
      refine hK.out _ _ ((show (World.drew _).cell? _ = _ from pw_cell_below (w := W3) (below_alloc (Below.refl _ _) _) pf)) (fun hHeld => ?_)
      clear hK K
      refine norm_ (a' := ?_) ?_ ?_
      rotate_left
      · show Act.put _ (some 59) _ = _
        simp only [Act.put, List.setIfInBounds_toArray, List.set_cons_zero, List.set_cons_succ]
        rfl
      refine last_ (i := 12) (N := some 60) #[true, true, true, true, true, true, true, true, true, true, true, true, true, false] rfl rfl (by kernel_rfl) (by decide) (fun K hK => ?_)
      refine goes_dyn (x := .tmp 49) Tryz.func139 (by kernel_rfl) rfl #[.string (strOfNums [((tenS[d1]'(by exact Nat.lt_of_lt_of_le l1 (by decide))).toNat : Int), ((tenS[d2]'(by exact Nat.lt_of_lt_of_le l2 (by decide))).toNat : Int)])] (by rfl) rfl rfl (by rfl) (by simp only [List.map_toArray, List.map_cons, List.map_nil, List.append_toArray, List.nil_append, List.append_nil]; rfl) ?_
      rw [HTS.out]
      with_reducible refine (dig_2 (twoS s.size) _ h2a (by rw [t0]; omega)).mono ?_
      rintro e w4 ⟨rfl, hb4⟩
      have B4 := Aside0.mk ((below_drew (below_alloc B3.out _)).trans (hb4.mono (Nat.le_trans hq2 (by simp))))
      have HP4 := Aside0.mk (blk_below (blk_drew (blk_alloc HP1.out _)) hb4)
      have Da := Aside0.mk (box_below (box_drew (box_below Ca.out (below_alloc (Below.refl _ _) _))) hb4)
      have Db := Aside0.mk (box_below (box_drew (box_below Cb.out (below_alloc (Below.refl _ _) _))) hb4)
      clear hb4
      refine ⟨_, rfl, ?_⟩
      refine hK.out _ _ ?_
      clear hK K
      refine norm_ (a' := ?_) ?_ ?_
      rotate_left
      · show Act.put _ (some 60) _ = _
        simp only [Act.put, List.setIfInBounds_toArray, List.set_cons_zero, List.set_cons_succ]
        rfl
      refine pure_ (i := 13) (N := some 12) (v := ?_) (a' := ?_) #[true, true, true, true, true, true, true, true, true, true, true, true, true, true] rfl rfl (by kernel_rfl) (fun _ _ _ h => h) (Or.inl ⟨by rfl, ?_⟩) ?_ ?_
      rotate_left
      · intro w'
        go_simp
        with_reducible rfl
      rotate_left
      · simp only [Act.put, List.setIfInBounds_toArray, List.set_cons_zero, List.set_cons_succ]
        rfl
      refine done_ (by kernel_rfl) ?_
      have hq4 : w.heap.size ≤ w4.heap.size := B4.out.size
      have hz4 : (digF 2 (twoS s.size)).size ≤ 1048576 := by have := digF_size 2 (twoS s.size); rw [t0] at this; omega
      have pf4 : w4.cell? ⟨w2.heap.size + 1, 0, none⟩ = some (Value.func (.func 139) #[] #[]) := by
        rw [blk_cell HP4.out 0]
        rfl
      have hl1 := ofB_all hof
      clear pf hHeld hcv i1 i2 iw1 iw2 t0
      go_wp2_with fail
      refine (dig_2 s _ hl1 hs).mono ?_
      rintro e w5 ⟨rfl, hb5⟩
      have B5 := Aside0.mk (B4.out.trans (hb5.mono hq4))
      have hz5 : (digF 2 s).size ≤ 1048576 := by have := digF_size 2 s; omega
      clear hb5 pf4
      go_wp2_with fail
      go_meet
      exact ⟨_, rfl, rfl, B5.out, by rw [ByteArray.size_append]; omega⟩
    · have hof : ofB s signS n = true := HR.out
      have hq := ofB_size hof
      have HQ := Aside0.mk hq
      clear hq
      go_wp2_with fail
      refine (let_2 s a b _ (ofB_all hof) hs (blk_alloc (blk_alloc (blk_alloc Ba.out _) _) _) (blk_alloc (blk_alloc (blk_alloc Bb.out _) _) _)).mono ?_
      rintro e w3 ⟨rfl, hb3⟩
      have HB3 := Aside0.mk ((below_alloc (below_alloc (below_alloc Y0.out _) _) _).trans (hb3.mono (Nat.le_trans Y0.out.size (by simp; omega))))
      have hz3 : (letF 2 s).size ≤ 1048576 := by have := letF_size 2 s; omega
      clear hb3
      go_wp2_with fail
      go_meet
      exact ⟨_, rfl, rfl, HB3.out, by omega⟩
    · have hof : ofB s lowS (2 * n) = true := HR.out
      have hq := ofB_size hof
      have HQ := Aside0.mk hq
      clear hq
      go_wp2_with fail
      refine (raw_2 s _ (ofB_all hof) hs).mono ?_
      rintro e w3 ⟨rfl, hb3⟩
      have HB3 := Aside0.mk ((below_alloc (below_alloc (below_alloc Y0.out _) _) _).trans (hb3.mono (Nat.le_trans Y0.out.size (by simp; omega))))
      have hz3 : (rawF 2 s).size ≤ 1048576 := by have := rawF_size 2 s; omega
      clear hb3
      go_wp2_with fail
      go_meet
      exact ⟨_, rfl, rfl, HB3.out, by omega⟩
    · have hR := HR.out
      have hq : ((decide (bt s 0 = 67 ∨ bt s 0 = 68) && decide (0 < s.size)) && ofB (s.extract 1 s.size) tenS n) = true := hR
      rw [Bool.and_eq_true, Bool.and_eq_true] at hq
      have h0 := of_decide_eq_true hq.1.2
      have hc := of_decide_eq_true hq.1.1
      have hof := hq.2
      clear hq hR
      have h1i : (1 : Int) ≤ (s.size : Int) := by omega
      have ze : (s.extract 0 1).size ≤ 1048575 := by simp; omega
      have z2 : (s.extract 1 s.size).size ≤ 1048575 := by simp; omega
      have hl0 := first_all h0 hc
      have hl1 := ofB_all hof
      have pf : (((w2.alloc (.cells #[Value.func (.func 135) #[] #[.pointer (some ⟨a, 0, none⟩), .pointer (some ⟨b, 0, none⟩)], .func (.func 137) #[] #[], .func (.func 138) #[] #[.pointer (some ⟨b, 0, none⟩), .pointer (some ⟨a, 0, none⟩)]] 157)).alloc (.cells #[Value.func (.func 139) #[] #[], .func (.func 140) #[] #[], .func (.func 141) #[] #[.pointer (some ⟨c, 0, none⟩)]] 157)).alloc (.cells #[Value.func (.func 139) #[] #[], .func (.func 140) #[] #[], .func (.func 141) #[] #[.pointer (some ⟨f, 0, none⟩)]] 157)).cell? ⟨w2.heap.size, 0, none⟩ = some (.func (.func 135) #[] #[.pointer (some ⟨a, 0, none⟩), .pointer (some ⟨b, 0, none⟩)]) := by
        rw [blk_cell (blk_alloc (blk_alloc (blk_new w2 _) _) _) 0]
        rfl
      have B3 : Aside0 (Below w.heap.size w (((w2.alloc (.cells #[Value.func (.func 135) #[] #[.pointer (some ⟨a, 0, none⟩), .pointer (some ⟨b, 0, none⟩)], .func (.func 137) #[] #[], .func (.func 138) #[] #[.pointer (some ⟨b, 0, none⟩), .pointer (some ⟨a, 0, none⟩)]] 157)).alloc (.cells #[Value.func (.func 139) #[] #[], .func (.func 140) #[] #[], .func (.func 141) #[] #[.pointer (some ⟨c, 0, none⟩)]] 157)).alloc (.cells #[Value.func (.func 139) #[] #[], .func (.func 140) #[] #[], .func (.func 141) #[] #[.pointer (some ⟨f, 0, none⟩)]] 157))) := ⟨(below_alloc (below_alloc (below_alloc Y0.out _) _) _)⟩
      have hq2 : w.heap.size ≤ (((w2.alloc (.cells #[Value.func (.func 135) #[] #[.pointer (some ⟨a, 0, none⟩), .pointer (some ⟨b, 0, none⟩)], .func (.func 137) #[] #[], .func (.func 138) #[] #[.pointer (some ⟨b, 0, none⟩), .pointer (some ⟨a, 0, none⟩)]] 157)).alloc (.cells #[Value.func (.func 139) #[] #[], .func (.func 140) #[] #[], .func (.func 141) #[] #[.pointer (some ⟨c, 0, none⟩)]] 157)).alloc (.cells #[Value.func (.func 139) #[] #[], .func (.func 140) #[] #[], .func (.func 141) #[] #[.pointer (some ⟨f, 0, none⟩)]] 157)).heap.size := Nat.le_trans Y0.out.size (by simp; omega)
      have HP1 := Aside0.mk (blk_alloc (heap_alloc2_new w2 (.cells #[Value.func (.func 135) #[] #[.pointer (some ⟨a, 0, none⟩), .pointer (some ⟨b, 0, none⟩)], .func (.func 137) #[] #[], .func (.func 138) #[] #[.pointer (some ⟨b, 0, none⟩), .pointer (some ⟨a, 0, none⟩)]] 157) (.cells #[Value.func (.func 139) #[] #[], .func (.func 140) #[] #[], .func (.func 141) #[] #[.pointer (some ⟨c, 0, none⟩)]] 157)) (.cells #[Value.func (.func 139) #[] #[], .func (.func 140) #[] #[], .func (.func 141) #[] #[.pointer (some ⟨f, 0, none⟩)]] 157))
      have Ca : Aside0 (BoxS (((w2.alloc (.cells #[Value.func (.func 135) #[] #[.pointer (some ⟨a, 0, none⟩), .pointer (some ⟨b, 0, none⟩)], .func (.func 137) #[] #[], .func (.func 138) #[] #[.pointer (some ⟨b, 0, none⟩), .pointer (some ⟨a, 0, none⟩)]] 157)).alloc (.cells #[Value.func (.func 139) #[] #[], .func (.func 140) #[] #[], .func (.func 141) #[] #[.pointer (some ⟨c, 0, none⟩)]] 157)).alloc (.cells #[Value.func (.func 139) #[] #[], .func (.func 140) #[] #[], .func (.func 141) #[] #[.pointer (some ⟨f, 0, none⟩)]] 157)) a signS) := ⟨(blk_alloc (blk_alloc (blk_alloc Ba.out _) _) _)⟩
      have Cb : Aside0 (BoxS (((w2.alloc (.cells #[Value.func (.func 135) #[] #[.pointer (some ⟨a, 0, none⟩), .pointer (some ⟨b, 0, none⟩)], .func (.func 137) #[] #[], .func (.func 138) #[] #[.pointer (some ⟨b, 0, none⟩), .pointer (some ⟨a, 0, none⟩)]] 157)).alloc (.cells #[Value.func (.func 139) #[] #[], .func (.func 140) #[] #[], .func (.func 141) #[] #[.pointer (some ⟨c, 0, none⟩)]] 157)).alloc (.cells #[Value.func (.func 139) #[] #[], .func (.func 140) #[] #[], .func (.func 141) #[] #[.pointer (some ⟨f, 0, none⟩)]] 157)) b signS) := ⟨(blk_alloc (blk_alloc (blk_alloc Bb.out _) _) _)⟩
      obtain ⟨W3, hW3⟩ : ∃ W, W = ((w2.alloc (.cells #[Value.func (.func 135) #[] #[.pointer (some ⟨a, 0, none⟩), .pointer (some ⟨b, 0, none⟩)], .func (.func 137) #[] #[], .func (.func 138) #[] #[.pointer (some ⟨b, 0, none⟩), .pointer (some ⟨a, 0, none⟩)]] 157)).alloc (.cells #[Value.func (.func 139) #[] #[], .func (.func 140) #[] #[], .func (.func 141) #[] #[.pointer (some ⟨c, 0, none⟩)]] 157)).alloc (.cells #[Value.func (.func 139) #[] #[], .func (.func 140) #[] #[], .func (.func 141) #[] #[.pointer (some ⟨f, 0, none⟩)]] 157) := ⟨_, rfl⟩
      go_wp2_with fail
      rw [← hW3] at pf B3 hq2 HP1 Ca Cb ⊢
      clear hW3
      refine start_ (n := 9) (S := fun w' => w'.cell? ⟨w2.heap.size, 0, none⟩ = some (.func (.func 135) #[] #[.pointer (some ⟨a, 0, none⟩), .pointer (some ⟨b, 0, none⟩)])) (ds := [4]) #[false, false, false, false, false, false, false, false, false] (by kernel_rfl) rfl rfl (pf) (fun hHeld => ?_)
      refine pure_ (i := 0) (N := some 35) (v := ?_) (a' := ?_) #[true, false, false, false, false, false, false, false, false] rfl rfl (by kernel_rfl) (fun _ _ _ h => h) (Or.inl ⟨by rfl, ?_⟩) ?_ ?_
      rotate_left
      · intro w'
        go_simp
        with_reducible rfl
      rotate_left
      · simp only [Act.put, List.setIfInBounds_toArray, List.set_cons_zero, List.set_cons_succ]
        rfl
      refine pure_ (i := 2) (N := some 37) (v := ?_) (a' := ?_) #[true, false, true, false, false, false, false, false, false] rfl rfl (by kernel_rfl) (fun _ _ _ h => h) (Or.inl ⟨by rfl, ?_⟩) ?_ ?_
      rotate_left
      · intro w'
        go_simp
        with_reducible rfl
      rotate_left
      · simp only [Act.put, List.setIfInBounds_toArray, List.set_cons_zero, List.set_cons_succ]
        rfl
      refine pure_ (i := 3) (N := some 38) (v := ?_) (a' := ?_) #[true, false, true, true, false, false, false, false, false] rfl rfl (by kernel_rfl) (fun _ _ _ h => h) (Or.inl ⟨by rfl, ?_⟩) ?_ ?_
      rotate_left
      · intro w'
        go_simp
        with_reducible rfl
      rotate_left
      · simp only [Act.put, List.setIfInBounds_toArray, List.set_cons_zero, List.set_cons_succ]
        rfl
      refine pure_ (i := 5) (N := some 40) (v := ?_) (a' := ?_) #[true, false, true, true, false, true, false, false, false] rfl rfl (by kernel_rfl) (fun _ _ _ h => h) (Or.inl ⟨by rfl, ?_⟩) ?_ ?_
      rotate_left
      · intro w'
        go_simp
        with_reducible rfl
      rotate_left
      · simp only [Act.put, List.setIfInBounds_toArray, List.set_cons_zero, List.set_cons_succ]
        rfl
      refine pure_ (i := 6) (N := some 41) (v := ?_) (a' := ?_) #[true, false, true, true, false, true, true, false, false] rfl rfl (by kernel_rfl) (fun _ _ _ h => h) (Or.inl ⟨by rfl, ?_⟩) ?_ ?_
      rotate_left
      · intro w'
        go_simp
        with_reducible rfl
      rotate_left
      · simp only [Act.put, List.setIfInBounds_toArray, List.set_cons_zero, List.set_cons_succ]
        rfl
      refine take_ (i := 1) (N := some 36) (v := ?_) (a' := ?_) #[true, true, true, true, false, true, true, false, false] rfl rfl (by kernel_rfl) (fun _ _ _ h => h) (Or.inl ⟨by rfl, ?_⟩) hHeld ?_ ?_
      rotate_left
      · intro w' s0
        go_simp
        with_reducible rfl
      rotate_left
      · simp only [Act.put, List.setIfInBounds_toArray, List.set_cons_zero, List.set_cons_succ]
        rfl
      refine last_ (i := 4) (N := some 39) #[true, true, true, true, true, true, true, false, false] rfl rfl (by kernel_rfl) (by decide) (fun K hK => ?_)
      refine goes_dyn (x := .tmp 36) Tryz.func135 (by kernel_rfl) rfl #[.string (s.extract 0 1), .pointer (some ⟨a, 0, none⟩), .pointer (some ⟨b, 0, none⟩)] (by rfl) rfl rfl (by rfl) (by simp only [List.map_toArray, List.map_cons, List.map_nil, List.append_toArray, List.nil_append, List.cons_append]; rfl) ?_
      with_reducible refine (let_2 (s.extract 0 1) a b _ hl0 ze (box_drew Ca.out) (box_drew Cb.out)).mono ?_
      rintro e w4 ⟨rfl, hb4⟩
      have B4 := Aside0.mk ((below_drew B3.out).trans (hb4.mono hq2))
      have HP4 := Aside0.mk (blk_below (blk_drew HP1.out) hb4)
      have Da := Aside0.mk (box_below (box_drew Ca.out) hb4)
      have Db := Aside0.mk (box_below (box_drew Cb.out) hb4)
      clear hb4
      refine ⟨_, rfl, ?_⟩
      refine hK.out _ _ ?_
      clear hK K
      refine norm_ (a' := ?_) ?_ ?_
      rotate_left
      · show Act.put _ (some 39) _ = _
        simp only [Act.put, List.setIfInBounds_toArray, List.set_cons_zero, List.set_cons_succ]
        rfl
      refine pure_ (i := 7) (N := some 12) (v := ?_) (a' := ?_) #[true, true, true, true, true, true, true, true, false] rfl rfl (by kernel_rfl) (fun _ _ _ h => h) (Or.inl ⟨by rfl, ?_⟩) ?_ ?_
      rotate_left
      · intro w'
        go_simp
        with_reducible rfl
      rotate_left
      · simp only [Act.put, List.setIfInBounds_toArray, List.set_cons_zero, List.set_cons_succ]
        rfl
      refine pure_ (i := 8) (N := some 2) (v := ?_) (a' := ?_) #[true, true, true, true, true, true, true, true, true] rfl rfl (by kernel_rfl) (fun _ _ _ h => h) (Or.inl ⟨by rfl, ?_⟩) ?_ ?_
      rotate_left
      · intro w'
        go_simp
        with_reducible rfl
      rotate_left
      · simp only [Act.put, List.setIfInBounds_toArray, List.set_cons_zero, List.set_cons_succ]
        rfl
      refine done_ (by kernel_rfl) ?_
      have hq4 : w.heap.size ≤ w4.heap.size := B4.out.size
      have hz4 : (letF 2 (s.extract 0 1)).size ≤ 1048576 := by rw [letF_size]; omega
      have HX : Aside0 ((s.extract 1 s.size).size ≤ 1048575) := ⟨z2⟩
      have pf4 : w4.cell? ⟨w2.heap.size + 1, 0, none⟩ = some (Value.func (.func 139) #[] #[]) := by
        rw [blk_cell HP4.out 0]
        rfl
      clear pf hHeld
      go_wp2_with fail
      refine (dig_2 (s.extract 1 s.size) _ hl1 z2).mono ?_
      rintro e w5 ⟨rfl, hb5⟩
      have B5 := Aside0.mk (B4.out.trans (hb5.mono hq4))
      have hz5 : (digF 2 (s.extract 1 s.size)).size ≤ 1048576 := by have := digF_size 2 (s.extract 1 s.size); omega
      clear hb5 pf4
      go_wp2_with fail
      go_meet
      exact ⟨_, rfl, rfl, B5.out, by rw [ByteArray.size_append]; omega⟩
  case rest =>
    obtain ⟨out, rfl, ho, hB, hsz⟩ := hcut
    have HO := Aside0.mk ho
    have HB := Aside0.mk hB
    have HS := Aside0.mk hsz
    clear ho hB hsz e0 hz e9
    go_wp2_with (first
      | (refine print_append_row (w0 := w) w.heap.size rfl _ _ 22 5 .u8 1 rfl Tryz.underlying22 byteInfo (by decide) (.slice (some ⟨wc.heap.size, 0, none⟩) 0 0) [] bs A bs.length cb rfl rfl (own_lit (wc) w.heap.size 5 .u8 [] HB.out.size (by simp)) (Kd.reads_of_C (Kd.C_alloc (Kd.C_below HB0.out HB.out) _)) (below_alloc HB.out _) (by simp; have := HB.out.size; omega) (by simp; omega) ?_; intro v1 x1 ho1 hb1 hg1 hat1; have HO1 := Aside0.mk ho1; have HB1 := Aside0.mk hb1; clear ho1 hb1 hg1 hat1)
      | (refine print_append_str (w0 := w) w.heap.size rfl _ _ 22 9 5 rfl Tryz.underlying22 Tryz.underlying9 byteInfo v1 bs out rfl rfl HO1.out HB1.out HB1.out.size (by have := HS.out; omega) ?_; intro v2 x2 ho2 hb2 hg2; have HO2 := Aside0.mk ho2; have HB2 := Aside0.mk hb2; clear ho2 hb2 hg2))
    rw [HO.out] at HO2
    exact bodyPost_ret (v := .tuple #[v2, .int .i64 0]) (by simp [results, Tryz.results63, go_sem]) rfl ⟨v2, rfl, HO2.out, HB2.out⟩

set_option maxRecDepth 100000 in
set_option maxHeartbeats 4000000 in
theorem put_3 (k n : Int) (hk : FormOk k n 3) (s : ByteArray) (hr : rightB k n s = true) (A : Option Addr) (cb : Nat) (bs : List Int) (w : World) (hb0 : Kd.C (Kd.int .u8) w A bs.length bs) (hl : bs.length ≤ 1048576) (hs : s.size ≤ 1048575) :
    Calls Tryz.prog 63 #[.slice A bs.length cb, .agg #[.int .i64 k, .int .i64 n, .int .i64 3], .string s] w (PutPost w bs (putF k 3 s)) := by
  have HR := Aside0.mk hr
  have HK := Aside0.mk hk
  have HB0 := Aside0.mk hb0
  have hm : s.size ≤ maxLen := by unfold maxLen; omega
  have hw0 : wrongOf k n s = 0 := by unfold wrongOf; rw [hr]; rfl
  clear hr hb0
  go_enter Tryz.func63, Tryz.ntmps63
  go_wp2_with fail
  refine (check_any k n 3 hk s hm _).mono ?_
  rw [hw0]
  rintro e w1 ⟨rfl, hb1⟩
  have X0 := Aside0.mk ((below_alloc (Below.refl w.heap.size w) _).trans (hb1.mono (by simp)))
  have X1 := Aside0.mk (blk_below (blk_new w _) hb1)
  have e0 := blk_cell X1.out 0
  have e1 := blk_cell X1.out 1
  have e2 := blk_cell X1.out 2
  simp only [List.getElem?_toArray, List.getElem?_cons_zero, List.getElem?_cons_succ] at e0 e1 e2
  clear hb1 hw0
  go_wp2_with fail
  refine (codes_3 k n _).mono ?_
  rintro e w2 ⟨a, b, c, d, f, rfl, ha, hb, hc, hd, hB2⟩
  have Y0 := Aside0.mk (X0.out.trans (hB2.mono X0.out.size))
  have Y1 := Aside0.mk (blk_below X1.out hB2)
  have Ba := Aside0.mk ha
  have Bb := Aside0.mk hb
  have Bc := Aside0.mk hc
  have Bd := Aside0.mk hd
  clear hB2 e0 e1 e2 X0 X1 ha hb hc hd
  have e0 := blk_cell Y1.out 0
  simp only [List.getElem?_toArray, List.getElem?_cons_zero] at e0
  have hz : w.heap.size < w2.heap.size := blk_lt Y1.out
  have e9 : (((w2.alloc (.cells #[Value.func (.func 135) #[] #[.pointer (some ⟨a, 0, none⟩), .pointer (some ⟨b, 0, none⟩)], .func (.func 137) #[] #[], .func (.func 138) #[] #[.pointer (some ⟨b, 0, none⟩), .pointer (some ⟨a, 0, none⟩)]] 157)).alloc (.cells #[Value.func (.func 135) #[] #[.pointer (some ⟨c, 0, none⟩), .pointer (some ⟨d, 0, none⟩)], .func (.func 137) #[] #[], .func (.func 138) #[] #[.pointer (some ⟨d, 0, none⟩), .pointer (some ⟨c, 0, none⟩)]] 157)).alloc (.cells #[Value.func (.func 139) #[] #[], .func (.func 140) #[] #[], .func (.func 141) #[] #[.pointer (some ⟨f, 0, none⟩)]] 157)).cell? ⟨w.heap.size, 0, none⟩ = some (.int .i64 k) := by
    rw [blk_cell (blk_alloc (blk_alloc (blk_alloc Y1.out _) _) _) 0]
    rfl
  go_upto_block 0 with fail
  go_cut [12] (fun v12 wx => ∃ out, v12 = .string out ∧ out = putF k 3 s ∧ Below w.heap.size w wx ∧ out.size ≤ 4194304)
  case first =>
    obtain ⟨⟨k1, k2⟩, ⟨n1, n2⟩, _⟩ := hk
    have hk5 : k = 1 ∨ k = 2 ∨ k = 3 ∨ k = 4 ∨ k = 5 := by omega
    rcases hk5 with rfl | rfl | rfl | rfl | rfl
    · have hof : ofB s tenS n = true := HR.out
      have hq := ofB_size hof
      have HQ := Aside0.mk hq
      clear hq
      go_wp2_with fail
      refine (dig_3 s c d _ (ofB_all hof) hs (blk_alloc (blk_alloc (blk_alloc Bc.out _) _) _) (blk_alloc (blk_alloc (blk_alloc Bd.out _) _) _)).mono ?_
      rintro e w3 ⟨rfl, hb3⟩
      have HB3 := Aside0.mk ((below_alloc (below_alloc (below_alloc Y0.out _) _) _).trans (hb3.mono (Nat.le_trans Y0.out.size (by simp; omega))))
      have hz3 : (digF 3 s).size ≤ 1048576 := by have := digF_size 3 s; omega
      clear hb3
      go_wp2_with fail
      go_meet
      exact ⟨_, rfl, empty_append _, HB3.out, by rw [empty_append]; omega⟩
    · have hR := HR.out
      have hq : ((decide (0 < s.size) && decide ((s.size : Int) ≤ n)) && ofB s tenS s.size) = true := hR
      rw [Bool.and_eq_true, Bool.and_eq_true] at hq
      have h0 := of_decide_eq_true hq.1.1
      have h1 := of_decide_eq_true hq.1.2
      have hof := hq.2
      obtain ⟨d1, hd1⟩ : ∃ d1, d1 = s.size / 10 := ⟨_, rfl⟩
      obtain ⟨d2, hd2⟩ : ∃ d2, d2 = s.size % 10 := ⟨_, rfl⟩
      have i1 : (s.size : Int).tdiv 10 = (d1 : Int) := by rw [Int.tdiv_eq_ediv_of_nonneg (by omega)]; omega
      have i2 : (s.size : Int).tmod 10 = (d2 : Int) := by rw [Int.tmod_eq_emod_of_nonneg (by omega)]; omega
      have iw1 : IntKind.i64.wrap (d1 : Int) = (d1 : Int) := by rw [i64_w]; unfold wrap64; omega
      have iw2 : IntKind.i64.wrap (d2 : Int) = (d2 : Int) := by rw [i64_w]; unfold wrap64; omega
      have HD1 := Aside0.mk hd1
      have HD2 := Aside0.mk hd2
      have l1 : d1 < 10 := by omega
      have l2 : d2 < 10 := by omega
      have l1i : (d1 : Int) < 10 := by omega
      have l2i : (d2 : Int) < 10 := by omega
      clear hq hR hd1 hd2
      have t0 : (twoS s.size).size = 2 := rfl
      have pf : (((w2.alloc (.cells #[Value.func (.func 135) #[] #[.pointer (some ⟨a, 0, none⟩), .pointer (some ⟨b, 0, none⟩)], .func (.func 137) #[] #[], .func (.func 138) #[] #[.pointer (some ⟨b, 0, none⟩), .pointer (some ⟨a, 0, none⟩)]] 157)).alloc (.cells #[Value.func (.func 135) #[] #[.pointer (some ⟨c, 0, none⟩), .pointer (some ⟨d, 0, none⟩)], .func (.func 137) #[] #[], .func (.func 138) #[] #[.pointer (some ⟨d, 0, none⟩), .pointer (some ⟨c, 0, none⟩)]] 157)).alloc (.cells #[Value.func (.func 139) #[] #[], .func (.func 140) #[] #[], .func (.func 141) #[] #[.pointer (some ⟨f, 0, none⟩)]] 157)).cell? ⟨w2.heap.size + 1, 0, none⟩ = some (Value.func (.func 135) #[] #[.pointer (some ⟨c, 0, none⟩), .pointer (some ⟨d, 0, none⟩)]) := by
        rw [blk_cell (blk_alloc (heap_alloc2_new w2 (.cells #[Value.func (.func 135) #[] #[.pointer (some ⟨a, 0, none⟩), .pointer (some ⟨b, 0, none⟩)], .func (.func 137) #[] #[], .func (.func 138) #[] #[.pointer (some ⟨b, 0, none⟩), .pointer (some ⟨a, 0, none⟩)]] 157) (.cells #[Value.func (.func 135) #[] #[.pointer (some ⟨c, 0, none⟩), .pointer (some ⟨d, 0, none⟩)], .func (.func 137) #[] #[], .func (.func 138) #[] #[.pointer (some ⟨d, 0, none⟩), .pointer (some ⟨c, 0, none⟩)]] 157)) (.cells #[Value.func (.func 139) #[] #[], .func (.func 140) #[] #[], .func (.func 141) #[] #[.pointer (some ⟨f, 0, none⟩)]] 157)) 0]
        rfl
      have B3 : Aside0 (Below w.heap.size w (((w2.alloc (.cells #[Value.func (.func 135) #[] #[.pointer (some ⟨a, 0, none⟩), .pointer (some ⟨b, 0, none⟩)], .func (.func 137) #[] #[], .func (.func 138) #[] #[.pointer (some ⟨b, 0, none⟩), .pointer (some ⟨a, 0, none⟩)]] 157)).alloc (.cells #[Value.func (.func 135) #[] #[.pointer (some ⟨c, 0, none⟩), .pointer (some ⟨d, 0, none⟩)], .func (.func 137) #[] #[], .func (.func 138) #[] #[.pointer (some ⟨d, 0, none⟩), .pointer (some ⟨c, 0, none⟩)]] 157)).alloc (.cells #[Value.func (.func 139) #[] #[], .func (.func 140) #[] #[], .func (.func 141) #[] #[.pointer (some ⟨f, 0, none⟩)]] 157))) := ⟨(below_alloc (below_alloc (below_alloc Y0.out _) _) _)⟩
      have hq2 : w.heap.size ≤ (((w2.alloc (.cells #[Value.func (.func 135) #[] #[.pointer (some ⟨a, 0, none⟩), .pointer (some ⟨b, 0, none⟩)], .func (.func 137) #[] #[], .func (.func 138) #[] #[.pointer (some ⟨b, 0, none⟩), .pointer (some ⟨a, 0, none⟩)]] 157)).alloc (.cells #[Value.func (.func 135) #[] #[.pointer (some ⟨c, 0, none⟩), .pointer (some ⟨d, 0, none⟩)], .func (.func 137) #[] #[], .func (.func 138) #[] #[.pointer (some ⟨d, 0, none⟩), .pointer (some ⟨c, 0, none⟩)]] 157)).alloc (.cells #[Value.func (.func 139) #[] #[], .func (.func 140) #[] #[], .func (.func 141) #[] #[.pointer (some ⟨f, 0, none⟩)]] 157)).heap.size := Nat.le_trans Y0.out.size (by simp; omega)
      have HP1 := Aside0.mk (blk_alloc (heap_alloc2_new w2 (.cells #[Value.func (.func 135) #[] #[.pointer (some ⟨a, 0, none⟩), .pointer (some ⟨b, 0, none⟩)], .func (.func 137) #[] #[], .func (.func 138) #[] #[.pointer (some ⟨b, 0, none⟩), .pointer (some ⟨a, 0, none⟩)]] 157) (.cells #[Value.func (.func 135) #[] #[.pointer (some ⟨c, 0, none⟩), .pointer (some ⟨d, 0, none⟩)], .func (.func 137) #[] #[], .func (.func 138) #[] #[.pointer (some ⟨d, 0, none⟩), .pointer (some ⟨c, 0, none⟩)]] 157)) (.cells #[Value.func (.func 139) #[] #[], .func (.func 140) #[] #[], .func (.func 141) #[] #[.pointer (some ⟨f, 0, none⟩)]] 157))
      have Ca : Aside0 (BoxS (((w2.alloc (.cells #[Value.func (.func 135) #[] #[.pointer (some ⟨a, 0, none⟩), .pointer (some ⟨b, 0, none⟩)], .func (.func 137) #[] #[], .func (.func 138) #[] #[.pointer (some ⟨b, 0, none⟩), .pointer (some ⟨a, 0, none⟩)]] 157)).alloc (.cells #[Value.func (.func 135) #[] #[.pointer (some ⟨c, 0, none⟩), .pointer (some ⟨d, 0, none⟩)], .func (.func 137) #[] #[], .func (.func 138) #[] #[.pointer (some ⟨d, 0, none⟩), .pointer (some ⟨c, 0, none⟩)]] 157)).alloc (.cells #[Value.func (.func 139) #[] #[], .func (.func 140) #[] #[], .func (.func 141) #[] #[.pointer (some ⟨f, 0, none⟩)]] 157)) a signS) := ⟨(blk_alloc (blk_alloc (blk_alloc Ba.out _) _) _)⟩
      have Cb : Aside0 (BoxS (((w2.alloc (.cells #[Value.func (.func 135) #[] #[.pointer (some ⟨a, 0, none⟩), .pointer (some ⟨b, 0, none⟩)], .func (.func 137) #[] #[], .func (.func 138) #[] #[.pointer (some ⟨b, 0, none⟩), .pointer (some ⟨a, 0, none⟩)]] 157)).alloc (.cells #[Value.func (.func 135) #[] #[.pointer (some ⟨c, 0, none⟩), .pointer (some ⟨d, 0, none⟩)], .func (.func 137) #[] #[], .func (.func 138) #[] #[.pointer (some ⟨d, 0, none⟩), .pointer (some ⟨c, 0, none⟩)]] 157)).alloc (.cells #[Value.func (.func 139) #[] #[], .func (.func 140) #[] #[], .func (.func 141) #[] #[.pointer (some ⟨f, 0, none⟩)]] 157)) b ebcS) := ⟨(blk_alloc (blk_alloc (blk_alloc Bb.out _) _) _)⟩
      have Cc : Aside0 (BoxS (((w2.alloc (.cells #[Value.func (.func 135) #[] #[.pointer (some ⟨a, 0, none⟩), .pointer (some ⟨b, 0, none⟩)], .func (.func 137) #[] #[], .func (.func 138) #[] #[.pointer (some ⟨b, 0, none⟩), .pointer (some ⟨a, 0, none⟩)]] 157)).alloc (.cells #[Value.func (.func 135) #[] #[.pointer (some ⟨c, 0, none⟩), .pointer (some ⟨d, 0, none⟩)], .func (.func 137) #[] #[], .func (.func 138) #[] #[.pointer (some ⟨d, 0, none⟩), .pointer (some ⟨c, 0, none⟩)]] 157)).alloc (.cells #[Value.func (.func 139) #[] #[], .func (.func 140) #[] #[], .func (.func 141) #[] #[.pointer (some ⟨f, 0, none⟩)]] 157)) c tenS) := ⟨(blk_alloc (blk_alloc (blk_alloc Bc.out _) _) _)⟩
      have Cd : Aside0 (BoxS (((w2.alloc (.cells #[Value.func (.func 135) #[] #[.pointer (some ⟨a, 0, none⟩), .pointer (some ⟨b, 0, none⟩)], .func (.func 137) #[] #[], .func (.func 138) #[] #[.pointer (some ⟨b, 0, none⟩), .pointer (some ⟨a, 0, none⟩)]] 157)).alloc (.cells #[Value.func (.func 135) #[] #[.pointer (some ⟨c, 0, none⟩), .pointer (some ⟨d, 0, none⟩)], .func (.func 137) #[] #[], .func (.func 138) #[] #[.pointer (some ⟨d, 0, none⟩), .pointer (some ⟨c, 0, none⟩)]] 157)).alloc (.cells #[Value.func (.func 139) #[] #[], .func (.func 140) #[] #[], .func (.func 141) #[] #[.pointer (some ⟨f, 0, none⟩)]] 157)) d ebtS) := ⟨(blk_alloc (blk_alloc (blk_alloc Bd.out _) _) _)⟩
      obtain ⟨W3, hW3⟩ : ∃ W, W = ((w2.alloc (.cells #[Value.func (.func 135) #[] #[.pointer (some ⟨a, 0, none⟩), .pointer (some ⟨b, 0, none⟩)], .func (.func 137) #[] #[], .func (.func 138) #[] #[.pointer (some ⟨b, 0, none⟩), .pointer (some ⟨a, 0, none⟩)]] 157)).alloc (.cells #[Value.func (.func 135) #[] #[.pointer (some ⟨c, 0, none⟩), .pointer (some ⟨d, 0, none⟩)], .func (.func 137) #[] #[], .func (.func 138) #[] #[.pointer (some ⟨d, 0, none⟩), .pointer (some ⟨c, 0, none⟩)]] 157)).alloc (.cells #[Value.func (.func 139) #[] #[], .func (.func 140) #[] #[], .func (.func 141) #[] #[.pointer (some ⟨f, 0, none⟩)]] 157) := ⟨_, rfl⟩
      go_wp2_with fail
      rw [← hW3] at pf B3 hq2 HP1 Ca Cb Cc Cd ⊢
      clear hW3
      have hcv := conv_two W3
      have hts := two_at s.size d1 d2 l1 l2 HD1.out HD2.out
      have HTS := Aside0.mk hts
      have h2a : allW tenS (twoS s.size) = true := two_all s.size (by omega)
      clear hts
      refine start_ (n := 14) (S := fun w' => w'.cell? ⟨w2.heap.size + 1, 0, none⟩ = some (Value.func (.func 135) #[] #[.pointer (some ⟨c, 0, none⟩), .pointer (some ⟨d, 0, none⟩)])) (ds := [12]) #[false, false, false, false, false, false, false, false, false, false, false, false, false, false] (by kernel_rfl) rfl rfl (pf) (fun hHeld => ?_)
      refine pure_ (i := 0) (N := some 48) (v := ?_) (a' := ?_) #[true, false, false, false, false, false, false, false, false, false, false, false, false, false] rfl rfl (by kernel_rfl) (fun _ _ _ h => h) (Or.inl ⟨by rfl, ?_⟩) ?_ ?_
      rotate_left
      · intro w'
        go_simp
        with_reducible rfl
      rotate_left
      · simp only [Act.put, List.setIfInBounds_toArray, List.set_cons_zero, List.set_cons_succ]
        rfl
      refine pure_ (i := 2) (N := some 50) (v := ?_) (a' := ?_) #[true, false, true, false, false, false, false, false, false, false, false, false, false, false] rfl rfl (by kernel_rfl) (fun _ _ _ h => h) (Or.inl ⟨by rfl, ?_⟩) ?_ ?_
      rotate_left
      · intro w'
        go_simp
        with_reducible rfl
      rotate_left
      · simp only [Act.put, List.setIfInBounds_toArray, List.set_cons_zero, List.set_cons_succ]
        rfl
      refine pure_ (i := 3) (N := some 51) (v := ?_) (a' := ?_) #[true, false, true, true, false, false, false, false, false, false, false, false, false, false] rfl rfl (by kernel_rfl) (fun _ _ _ h => h) (Or.inl ⟨by rfl, ?_⟩) ?_ ?_
      rotate_left
      · intro w'
        go_simp
        with_reducible rfl
      rotate_left
      · simp only [Act.put, List.setIfInBounds_toArray, List.set_cons_zero, List.set_cons_succ]
        rfl
      refine pure_ (i := 4) (N := some 52) (v := ?_) (a' := ?_) #[true, false, true, true, true, false, false, false, false, false, false, false, false, false] rfl rfl (by kernel_rfl) (fun _ _ _ h => h) (Or.inl ⟨by rfl, ?_⟩) ?_ ?_
      rotate_left
      · intro w'
        go_simp
        with_reducible rfl
      rotate_left
      · simp only [Act.put, List.setIfInBounds_toArray, List.set_cons_zero, List.set_cons_succ]
        rfl
      refine pure_ (i := 6) (N := some 54) (v := ?_) (a' := ?_) #[true, false, true, true, true, false, true, false, false, false, false, false, false, false] rfl rfl (by kernel_rfl) (fun _ _ _ h => h) (Or.inl ⟨by rfl, ?_⟩) ?_ ?_
      rotate_left
      · intro w'
        go_simp
        with_reducible rfl
      rotate_left
      · simp only [Act.put, List.setIfInBounds_toArray, List.set_cons_zero, List.set_cons_succ]
        rfl
      refine pure_ (i := 7) (N := some 55) (v := ?_) (a' := ?_) #[true, false, true, true, true, false, true, true, false, false, false, false, false, false] rfl rfl (by kernel_rfl) (fun _ _ _ h => h) (Or.inl ⟨by rfl, ?_⟩) ?_ ?_
      rotate_left
      · intro w'
        go_simp
        with_reducible rfl
      rotate_left
      · simp only [Act.put, List.setIfInBounds_toArray, List.set_cons_zero, List.set_cons_succ]
        rfl
      refine pure_ (i := 8) (N := some 56) (v := ?_) (a' := ?_) #[true, false, true, true, true, false, true, true, true, false, false, false, false, false] rfl rfl (by kernel_rfl) (fun _ _ _ h => h) (Or.inl ⟨by rfl, ?_⟩) ?_ ?_
      rotate_left
      · intro w'
        go_simp
        with_reducible rfl
      rotate_left
      · simp only [Act.put, List.setIfInBounds_toArray, List.set_cons_zero, List.set_cons_succ]
        rfl
      refine take_ (i := 1) (N := some 49) (v := ?_) (a' := ?_) #[true, true, true, true, true, false, true, true, true, false, false, false, false, false] rfl rfl (by kernel_rfl) (fun _ _ _ h => h) (Or.inl ⟨by rfl, ?_⟩) hHeld ?_ ?_
      rotate_left
      · intro w' s0
        go_simp
        with_reducible rfl
      rotate_left
      · simp only [Act.put, List.setIfInBounds_toArray, List.set_cons_zero, List.set_cons_succ]
        rfl
      refine take_ (i := 5) (N := some 53) (v := ?_) (a' := ?_) #[true, true, true, true, true, true, true, true, true, false, false, false, false, false] rfl rfl (by kernel_rfl) (fun _ _ _ h => h) (Or.inl ⟨by rfl, ?_⟩) hHeld ?_ ?_
      rotate_left
      · intro w' s0
        go_simp
        with_reducible rfl
      rotate_left
      · simp only [Act.put, List.setIfInBounds_toArray, List.set_cons_zero, List.set_cons_succ]
        rfl
      refine take_ (i := 9) (N := some 57) (v := ?_) (a' := ?_) #[true, true, true, true, true, true, true, true, true, true, false, false, false, false] rfl rfl (by kernel_rfl) (fun _ _ _ h => h) (Or.inl ⟨by rfl, ?_⟩) hHeld ?_ ?_
      rotate_left
      · intro w' s0
        go_simp
        with_reducible rfl
      rotate_left
      · simp only [Act.put, List.setIfInBounds_toArray, List.set_cons_zero, List.set_cons_succ]
        rfl
      refine one_ (i := 10) (N := some 58) #[true, true, true, true, true, true, true, true, true, true, true, false, false, false] rfl rfl (by kernel_rfl) (by decide) (fun K hK => ?_)
      refine value_ (w1 := ?_) (v := ?_) (by rfl) rfl ?_ ?_
      rotate_left 2
      · go_simp
        constructor
        · rfl
        · rfl
      refine hK.out _ _ ((show (World.drew _).cell? _ = _ from pw_cell_below (w := W3) (below_alloc (Below.refl _ _) _) pf)) (fun hHeld => ?_)
      clear hK K
      refine norm_ (a' := ?_) ?_ ?_
      rotate_left
      · show Act.put _ (some 58) _ = _
        simp only [Act.put, List.setIfInBounds_toArray, List.set_cons_zero, List.set_cons_succ]
        rfl
      refine one_ (i := 11) (N := some 59) #[true, true, true, true, true, true, true, true, true, true, true, true, false, false] rfl rfl (by kernel_rfl) (by decide) (fun K hK => ?_)
      refine value_ (w1 := ?_) (v := ?_) (by rfl) rfl ?_ ?_
      rotate_left 2
      · go_simp
        constructor
        · rfl
        · rfl
      refine hK.out _ _ ((show (World.drew _).cell? _ = _ from pw_cell_below (w := W3) (below_alloc (Below.refl _ _) _) pf)) (fun hHeld => ?_)
      clear hK K
      refine norm_ (a' := ?_) ?_ ?_
      rotate_left
      · show Act.put _ (some 59) _ = _
        simp only [Act.put, List.setIfInBounds_toArray, List.set_cons_zero, List.set_cons_succ]
        rfl
      refine last_ (i := 12) (N := some 60) #[true, true, true, true, true, true, true, true, true, true, true, true, true, false] rfl rfl (by kernel_rfl) (by decide) (fun K hK => ?_)
      refine goes_dyn (x := .tmp 49) Tryz.func135 (by kernel_rfl) rfl #[.string (strOfNums [((tenS[d1]'(by exact Nat.lt_of_lt_of_le l1 (by decide))).toNat : Int), ((tenS[d2]'(by exact Nat.lt_of_lt_of_le l2 (by decide))).toNat : Int)]), .pointer (some ⟨c, 0, none⟩), .pointer (some ⟨d, 0, none⟩)] (by rfl) rfl rfl (by rfl) (by simp only [List.map_toArray, List.map_cons, List.map_nil, List.append_toArray, List.nil_append, List.cons_append]; rfl) ?_
      rw [HTS.out]
      with_reducible refine (dig_3 (twoS s.size) c d _ h2a (by rw [t0]; omega) (box_drew (box_below Cc.out (below_alloc (Below.refl _ _) _))) (box_drew (box_below Cd.out (below_alloc (Below.refl _ _) _)))).mono ?_
      rintro e w4 ⟨rfl, hb4⟩
      have B4 := Aside0.mk ((below_drew (below_alloc B3.out _)).trans (hb4.mono (Nat.le_trans hq2 (by simp))))
      have HP4 := Aside0.mk (blk_below (blk_drew (blk_alloc HP1.out _)) hb4)
      have Da := Aside0.mk (box_below (box_drew (box_below Ca.out (below_alloc (Below.refl _ _) _))) hb4)
      have Db := Aside0.mk (box_below (box_drew (box_below Cb.out (below_alloc (Below.refl _ _) _))) hb4)
      have Dc := Aside0.mk (box_below (box_drew (box_below Cc.out (below_alloc (Below.refl _ _) _))) hb4)
      have Dd := Aside0.mk (box_below (box_drew (box_below Cd.out (below_alloc (Below.refl _ _) _))) hb4)
      clear hb4
      refine ⟨_, rfl, ?_⟩
      refine hK.out _ _ ?_
      clear hK K
      refine norm_ (a' := ?_) ?_ ?_
      rotate_left
      · show Act.put _ (some 60) _ = _
        simp only [Act.put, List.setIfInBounds_toArray, List.set_cons_zero, List.set_cons_succ]
        rfl
      refine pure_ (i := 13) (N := some 12) (v := ?_) (a' := ?_) #[true, true, true, true, true, true, true, true, true, true, true, true, true, true] rfl rfl (by kernel_rfl) (fun _ _ _ h => h) (Or.inl ⟨by rfl, ?_⟩) ?_ ?_
      rotate_left
      · intro w'
        go_simp
        with_reducible rfl
      rotate_left
      · simp only [Act.put, List.setIfInBounds_toArray, List.set_cons_zero, List.set_cons_succ]
        rfl
      refine done_ (by kernel_rfl) ?_
      have hq4 : w.heap.size ≤ w4.heap.size := B4.out.size
      have hz4 : (digF 3 (twoS s.size)).size ≤ 1048576 := by have := digF_size 3 (twoS s.size); rw [t0] at this; omega
      have pf4 : w4.cell? ⟨w2.heap.size + 1, 0, none⟩ = some (Value.func (.func 135) #[] #[.pointer (some ⟨c, 0, none⟩), .pointer (some ⟨d, 0, none⟩)]) := by
        rw [blk_cell HP4.out 0]
        rfl
      have hl1 := ofB_all hof
      clear pf hHeld hcv i1 i2 iw1 iw2 t0
      go_wp2_with fail
      refine (dig_3 s c d _ hl1 hs Dc.out Dd.out).mono ?_
      rintro e w5 ⟨rfl, hb5⟩
      have B5 := Aside0.mk (B4.out.trans (hb5.mono hq4))
      have hz5 : (digF 3 s).size ≤ 1048576 := by have := digF_size 3 s; omega
      clear hb5 pf4
      go_wp2_with fail
      go_meet
      exact ⟨_, rfl, rfl, B5.out, by rw [ByteArray.size_append]; omega⟩
    · have hof : ofB s signS n = true := HR.out
      have hq := ofB_size hof
      have HQ := Aside0.mk hq
      clear hq
      go_wp2_with fail
      refine (let_3 s a b _ (ofB_all hof) hs (blk_alloc (blk_alloc (blk_alloc Ba.out _) _) _) (blk_alloc (blk_alloc (blk_alloc Bb.out _) _) _)).mono ?_
      rintro e w3 ⟨rfl, hb3⟩
      have HB3 := Aside0.mk ((below_alloc (below_alloc (below_alloc Y0.out _) _) _).trans (hb3.mono (Nat.le_trans Y0.out.size (by simp; omega))))
      have hz3 : (letF 3 s).size ≤ 1048576 := by have := letF_size 3 s; omega
      clear hb3
      go_wp2_with fail
      go_meet
      exact ⟨_, rfl, rfl, HB3.out, by omega⟩
    · have hof : ofB s lowS (2 * n) = true := HR.out
      have hq := ofB_size hof
      have HQ := Aside0.mk hq
      clear hq
      go_wp2_with fail
      refine (raw_3 s _ (ofB_all hof) hs).mono ?_
      rintro e w3 ⟨rfl, hb3⟩
      have HB3 := Aside0.mk ((below_alloc (below_alloc (below_alloc Y0.out _) _) _).trans (hb3.mono (Nat.le_trans Y0.out.size (by simp; omega))))
      have hz3 : (rawF 3 s).size ≤ 1048576 := by have := rawF_size 3 s; omega
      clear hb3
      go_wp2_with fail
      go_meet
      exact ⟨_, rfl, rfl, HB3.out, by omega⟩
    · have hR := HR.out
      have hq : ((decide (bt s 0 = 67 ∨ bt s 0 = 68) && decide (0 < s.size)) && ofB (s.extract 1 s.size) tenS n) = true := hR
      rw [Bool.and_eq_true, Bool.and_eq_true] at hq
      have h0 := of_decide_eq_true hq.1.2
      have hc := of_decide_eq_true hq.1.1
      have hof := hq.2
      clear hq hR
      have h1i : (1 : Int) ≤ (s.size : Int) := by omega
      have ze : (s.extract 0 1).size ≤ 1048575 := by simp; omega
      have z2 : (s.extract 1 s.size).size ≤ 1048575 := by simp; omega
      have hl0 := first_all h0 hc
      have hl1 := ofB_all hof
      have pf : (((w2.alloc (.cells #[Value.func (.func 135) #[] #[.pointer (some ⟨a, 0, none⟩), .pointer (some ⟨b, 0, none⟩)], .func (.func 137) #[] #[], .func (.func 138) #[] #[.pointer (some ⟨b, 0, none⟩), .pointer (some ⟨a, 0, none⟩)]] 157)).alloc (.cells #[Value.func (.func 135) #[] #[.pointer (some ⟨c, 0, none⟩), .pointer (some ⟨d, 0, none⟩)], .func (.func 137) #[] #[], .func (.func 138) #[] #[.pointer (some ⟨d, 0, none⟩), .pointer (some ⟨c, 0, none⟩)]] 157)).alloc (.cells #[Value.func (.func 139) #[] #[], .func (.func 140) #[] #[], .func (.func 141) #[] #[.pointer (some ⟨f, 0, none⟩)]] 157)).cell? ⟨w2.heap.size, 0, none⟩ = some (.func (.func 135) #[] #[.pointer (some ⟨a, 0, none⟩), .pointer (some ⟨b, 0, none⟩)]) := by
        rw [blk_cell (blk_alloc (blk_alloc (blk_new w2 _) _) _) 0]
        rfl
      have B3 : Aside0 (Below w.heap.size w (((w2.alloc (.cells #[Value.func (.func 135) #[] #[.pointer (some ⟨a, 0, none⟩), .pointer (some ⟨b, 0, none⟩)], .func (.func 137) #[] #[], .func (.func 138) #[] #[.pointer (some ⟨b, 0, none⟩), .pointer (some ⟨a, 0, none⟩)]] 157)).alloc (.cells #[Value.func (.func 135) #[] #[.pointer (some ⟨c, 0, none⟩), .pointer (some ⟨d, 0, none⟩)], .func (.func 137) #[] #[], .func (.func 138) #[] #[.pointer (some ⟨d, 0, none⟩), .pointer (some ⟨c, 0, none⟩)]] 157)).alloc (.cells #[Value.func (.func 139) #[] #[], .func (.func 140) #[] #[], .func (.func 141) #[] #[.pointer (some ⟨f, 0, none⟩)]] 157))) := ⟨(below_alloc (below_alloc (below_alloc Y0.out _) _) _)⟩
      have hq2 : w.heap.size ≤ (((w2.alloc (.cells #[Value.func (.func 135) #[] #[.pointer (some ⟨a, 0, none⟩), .pointer (some ⟨b, 0, none⟩)], .func (.func 137) #[] #[], .func (.func 138) #[] #[.pointer (some ⟨b, 0, none⟩), .pointer (some ⟨a, 0, none⟩)]] 157)).alloc (.cells #[Value.func (.func 135) #[] #[.pointer (some ⟨c, 0, none⟩), .pointer (some ⟨d, 0, none⟩)], .func (.func 137) #[] #[], .func (.func 138) #[] #[.pointer (some ⟨d, 0, none⟩), .pointer (some ⟨c, 0, none⟩)]] 157)).alloc (.cells #[Value.func (.func 139) #[] #[], .func (.func 140) #[] #[], .func (.func 141) #[] #[.pointer (some ⟨f, 0, none⟩)]] 157)).heap.size := Nat.le_trans Y0.out.size (by simp; omega)
      have HP1 := Aside0.mk (blk_alloc (heap_alloc2_new w2 (.cells #[Value.func (.func 135) #[] #[.pointer (some ⟨a, 0, none⟩), .pointer (some ⟨b, 0, none⟩)], .func (.func 137) #[] #[], .func (.func 138) #[] #[.pointer (some ⟨b, 0, none⟩), .pointer (some ⟨a, 0, none⟩)]] 157) (.cells #[Value.func (.func 135) #[] #[.pointer (some ⟨c, 0, none⟩), .pointer (some ⟨d, 0, none⟩)], .func (.func 137) #[] #[], .func (.func 138) #[] #[.pointer (some ⟨d, 0, none⟩), .pointer (some ⟨c, 0, none⟩)]] 157)) (.cells #[Value.func (.func 139) #[] #[], .func (.func 140) #[] #[], .func (.func 141) #[] #[.pointer (some ⟨f, 0, none⟩)]] 157))
      have Ca : Aside0 (BoxS (((w2.alloc (.cells #[Value.func (.func 135) #[] #[.pointer (some ⟨a, 0, none⟩), .pointer (some ⟨b, 0, none⟩)], .func (.func 137) #[] #[], .func (.func 138) #[] #[.pointer (some ⟨b, 0, none⟩), .pointer (some ⟨a, 0, none⟩)]] 157)).alloc (.cells #[Value.func (.func 135) #[] #[.pointer (some ⟨c, 0, none⟩), .pointer (some ⟨d, 0, none⟩)], .func (.func 137) #[] #[], .func (.func 138) #[] #[.pointer (some ⟨d, 0, none⟩), .pointer (some ⟨c, 0, none⟩)]] 157)).alloc (.cells #[Value.func (.func 139) #[] #[], .func (.func 140) #[] #[], .func (.func 141) #[] #[.pointer (some ⟨f, 0, none⟩)]] 157)) a signS) := ⟨(blk_alloc (blk_alloc (blk_alloc Ba.out _) _) _)⟩
      have Cb : Aside0 (BoxS (((w2.alloc (.cells #[Value.func (.func 135) #[] #[.pointer (some ⟨a, 0, none⟩), .pointer (some ⟨b, 0, none⟩)], .func (.func 137) #[] #[], .func (.func 138) #[] #[.pointer (some ⟨b, 0, none⟩), .pointer (some ⟨a, 0, none⟩)]] 157)).alloc (.cells #[Value.func (.func 135) #[] #[.pointer (some ⟨c, 0, none⟩), .pointer (some ⟨d, 0, none⟩)], .func (.func 137) #[] #[], .func (.func 138) #[] #[.pointer (some ⟨d, 0, none⟩), .pointer (some ⟨c, 0, none⟩)]] 157)).alloc (.cells #[Value.func (.func 139) #[] #[], .func (.func 140) #[] #[], .func (.func 141) #[] #[.pointer (some ⟨f, 0, none⟩)]] 157)) b ebcS) := ⟨(blk_alloc (blk_alloc (blk_alloc Bb.out _) _) _)⟩
      have Cc : Aside0 (BoxS (((w2.alloc (.cells #[Value.func (.func 135) #[] #[.pointer (some ⟨a, 0, none⟩), .pointer (some ⟨b, 0, none⟩)], .func (.func 137) #[] #[], .func (.func 138) #[] #[.pointer (some ⟨b, 0, none⟩), .pointer (some ⟨a, 0, none⟩)]] 157)).alloc (.cells #[Value.func (.func 135) #[] #[.pointer (some ⟨c, 0, none⟩), .pointer (some ⟨d, 0, none⟩)], .func (.func 137) #[] #[], .func (.func 138) #[] #[.pointer (some ⟨d, 0, none⟩), .pointer (some ⟨c, 0, none⟩)]] 157)).alloc (.cells #[Value.func (.func 139) #[] #[], .func (.func 140) #[] #[], .func (.func 141) #[] #[.pointer (some ⟨f, 0, none⟩)]] 157)) c tenS) := ⟨(blk_alloc (blk_alloc (blk_alloc Bc.out _) _) _)⟩
      have Cd : Aside0 (BoxS (((w2.alloc (.cells #[Value.func (.func 135) #[] #[.pointer (some ⟨a, 0, none⟩), .pointer (some ⟨b, 0, none⟩)], .func (.func 137) #[] #[], .func (.func 138) #[] #[.pointer (some ⟨b, 0, none⟩), .pointer (some ⟨a, 0, none⟩)]] 157)).alloc (.cells #[Value.func (.func 135) #[] #[.pointer (some ⟨c, 0, none⟩), .pointer (some ⟨d, 0, none⟩)], .func (.func 137) #[] #[], .func (.func 138) #[] #[.pointer (some ⟨d, 0, none⟩), .pointer (some ⟨c, 0, none⟩)]] 157)).alloc (.cells #[Value.func (.func 139) #[] #[], .func (.func 140) #[] #[], .func (.func 141) #[] #[.pointer (some ⟨f, 0, none⟩)]] 157)) d ebtS) := ⟨(blk_alloc (blk_alloc (blk_alloc Bd.out _) _) _)⟩
      obtain ⟨W3, hW3⟩ : ∃ W, W = ((w2.alloc (.cells #[Value.func (.func 135) #[] #[.pointer (some ⟨a, 0, none⟩), .pointer (some ⟨b, 0, none⟩)], .func (.func 137) #[] #[], .func (.func 138) #[] #[.pointer (some ⟨b, 0, none⟩), .pointer (some ⟨a, 0, none⟩)]] 157)).alloc (.cells #[Value.func (.func 135) #[] #[.pointer (some ⟨c, 0, none⟩), .pointer (some ⟨d, 0, none⟩)], .func (.func 137) #[] #[], .func (.func 138) #[] #[.pointer (some ⟨d, 0, none⟩), .pointer (some ⟨c, 0, none⟩)]] 157)).alloc (.cells #[Value.func (.func 139) #[] #[], .func (.func 140) #[] #[], .func (.func 141) #[] #[.pointer (some ⟨f, 0, none⟩)]] 157) := ⟨_, rfl⟩
      go_wp2_with fail
      rw [← hW3] at pf B3 hq2 HP1 Ca Cb Cc Cd ⊢
      clear hW3
      refine start_ (n := 9) (S := fun w' => w'.cell? ⟨w2.heap.size, 0, none⟩ = some (.func (.func 135) #[] #[.pointer (some ⟨a, 0, none⟩), .pointer (some ⟨b, 0, none⟩)])) (ds := [4]) #[false, false, false, false, false, false, false, false, false] (by kernel_rfl) rfl rfl (pf) (fun hHeld => ?_)
      refine pure_ (i := 0) (N := some 35) (v := ?_) (a' := ?_) #[true, false, false, false, false, false, false, false, false] rfl rfl (by kernel_rfl) (fun _ _ _ h => h) (Or.inl ⟨by rfl, ?_⟩) ?_ ?_
      rotate_left
      · intro w'
        go_simp
        with_reducible rfl
      rotate_left
      · simp only [Act.put, List.setIfInBounds_toArray, List.set_cons_zero, List.set_cons_succ]
        rfl
      refine pure_ (i := 2) (N := some 37) (v := ?_) (a' := ?_) #[true, false, true, false, false, false, false, false, false] rfl rfl (by kernel_rfl) (fun _ _ _ h => h) (Or.inl ⟨by rfl, ?_⟩) ?_ ?_
      rotate_left
      · intro w'
        go_simp
        with_reducible rfl
      rotate_left
      · simp only [Act.put, List.setIfInBounds_toArray, List.set_cons_zero, List.set_cons_succ]
        rfl
      refine pure_ (i := 3) (N := some 38) (v := ?_) (a' := ?_) #[true, false, true, true, false, false, false, false, false] rfl rfl (by kernel_rfl) (fun _ _ _ h => h) (Or.inl ⟨by rfl, ?_⟩) ?_ ?_
      rotate_left
      · intro w'
        go_simp
        with_reducible rfl
      rotate_left
      · simp only [Act.put, List.setIfInBounds_toArray, List.set_cons_zero, List.set_cons_succ]
        rfl
      refine pure_ (i := 5) (N := some 40) (v := ?_) (a' := ?_) #[true, false, true, true, false, true, false, false, false] rfl rfl (by kernel_rfl) (fun _ _ _ h => h) (Or.inl ⟨by rfl, ?_⟩) ?_ ?_
      rotate_left
      · intro w'
        go_simp
        with_reducible rfl
      rotate_left
      · simp only [Act.put, List.setIfInBounds_toArray, List.set_cons_zero, List.set_cons_succ]
        rfl
      refine pure_ (i := 6) (N := some 41) (v := ?_) (a' := ?_) #[true, false, true, true, false, true, true, false, false] rfl rfl (by kernel_rfl) (fun _ _ _ h => h) (Or.inl ⟨by rfl, ?_⟩) ?_ ?_
      rotate_left
      · intro w'
        go_simp
        with_reducible rfl
      rotate_left
      · simp only [Act.put, List.setIfInBounds_toArray, List.set_cons_zero, List.set_cons_succ]
        rfl
      refine take_ (i := 1) (N := some 36) (v := ?_) (a' := ?_) #[true, true, true, true, false, true, true, false, false] rfl rfl (by kernel_rfl) (fun _ _ _ h => h) (Or.inl ⟨by rfl, ?_⟩) hHeld ?_ ?_
      rotate_left
      · intro w' s0
        go_simp
        with_reducible rfl
      rotate_left
      · simp only [Act.put, List.setIfInBounds_toArray, List.set_cons_zero, List.set_cons_succ]
        rfl
      refine last_ (i := 4) (N := some 39) #[true, true, true, true, true, true, true, false, false] rfl rfl (by kernel_rfl) (by decide) (fun K hK => ?_)
      refine goes_dyn (x := .tmp 36) Tryz.func135 (by kernel_rfl) rfl #[.string (s.extract 0 1), .pointer (some ⟨a, 0, none⟩), .pointer (some ⟨b, 0, none⟩)] (by rfl) rfl rfl (by rfl) (by simp only [List.map_toArray, List.map_cons, List.map_nil, List.append_toArray, List.nil_append, List.cons_append]; rfl) ?_
      with_reducible refine (let_3 (s.extract 0 1) a b _ hl0 ze (box_drew Ca.out) (box_drew Cb.out)).mono ?_
      rintro e w4 ⟨rfl, hb4⟩
      have B4 := Aside0.mk ((below_drew B3.out).trans (hb4.mono hq2))
      have HP4 := Aside0.mk (blk_below (blk_drew HP1.out) hb4)
      have Da := Aside0.mk (box_below (box_drew Ca.out) hb4)
      have Db := Aside0.mk (box_below (box_drew Cb.out) hb4)
      have Dc := Aside0.mk (box_below (box_drew Cc.out) hb4)
      have Dd := Aside0.mk (box_below (box_drew Cd.out) hb4)
      clear hb4
      refine ⟨_, rfl, ?_⟩
      refine hK.out _ _ ?_
      clear hK K
      refine norm_ (a' := ?_) ?_ ?_
      rotate_left
      · show Act.put _ (some 39) _ = _
        simp only [Act.put, List.setIfInBounds_toArray, List.set_cons_zero, List.set_cons_succ]
        rfl
      refine pure_ (i := 7) (N := some 12) (v := ?_) (a' := ?_) #[true, true, true, true, true, true, true, true, false] rfl rfl (by kernel_rfl) (fun _ _ _ h => h) (Or.inl ⟨by rfl, ?_⟩) ?_ ?_
      rotate_left
      · intro w'
        go_simp
        with_reducible rfl
      rotate_left
      · simp only [Act.put, List.setIfInBounds_toArray, List.set_cons_zero, List.set_cons_succ]
        rfl
      refine pure_ (i := 8) (N := some 2) (v := ?_) (a' := ?_) #[true, true, true, true, true, true, true, true, true] rfl rfl (by kernel_rfl) (fun _ _ _ h => h) (Or.inl ⟨by rfl, ?_⟩) ?_ ?_
      rotate_left
      · intro w'
        go_simp
        with_reducible rfl
      rotate_left
      · simp only [Act.put, List.setIfInBounds_toArray, List.set_cons_zero, List.set_cons_succ]
        rfl
      refine done_ (by kernel_rfl) ?_
      have hq4 : w.heap.size ≤ w4.heap.size := B4.out.size
      have hz4 : (letF 3 (s.extract 0 1)).size ≤ 1048576 := by rw [letF_size]; omega
      have HX : Aside0 ((s.extract 1 s.size).size ≤ 1048575) := ⟨z2⟩
      have pf4 : w4.cell? ⟨w2.heap.size + 1, 0, none⟩ = some (Value.func (.func 135) #[] #[.pointer (some ⟨c, 0, none⟩), .pointer (some ⟨d, 0, none⟩)]) := by
        rw [blk_cell HP4.out 0]
        rfl
      clear pf hHeld
      go_wp2_with fail
      refine (dig_3 (s.extract 1 s.size) c d _ hl1 z2 Dc.out Dd.out).mono ?_
      rintro e w5 ⟨rfl, hb5⟩
      have B5 := Aside0.mk (B4.out.trans (hb5.mono hq4))
      have hz5 : (digF 3 (s.extract 1 s.size)).size ≤ 1048576 := by have := digF_size 3 (s.extract 1 s.size); omega
      clear hb5 pf4
      go_wp2_with fail
      go_meet
      exact ⟨_, rfl, rfl, B5.out, by rw [ByteArray.size_append]; omega⟩
  case rest =>
    obtain ⟨out, rfl, ho, hB, hsz⟩ := hcut
    have HO := Aside0.mk ho
    have HB := Aside0.mk hB
    have HS := Aside0.mk hsz
    clear ho hB hsz e0 hz e9
    go_wp2_with (first
      | (refine print_append_row (w0 := w) w.heap.size rfl _ _ 22 5 .u8 1 rfl Tryz.underlying22 byteInfo (by decide) (.slice (some ⟨wc.heap.size, 0, none⟩) 0 0) [] bs A bs.length cb rfl rfl (own_lit (wc) w.heap.size 5 .u8 [] HB.out.size (by simp)) (Kd.reads_of_C (Kd.C_alloc (Kd.C_below HB0.out HB.out) _)) (below_alloc HB.out _) (by simp; have := HB.out.size; omega) (by simp; omega) ?_; intro v1 x1 ho1 hb1 hg1 hat1; have HO1 := Aside0.mk ho1; have HB1 := Aside0.mk hb1; clear ho1 hb1 hg1 hat1)
      | (refine print_append_str (w0 := w) w.heap.size rfl _ _ 22 9 5 rfl Tryz.underlying22 Tryz.underlying9 byteInfo v1 bs out rfl rfl HO1.out HB1.out HB1.out.size (by have := HS.out; omega) ?_; intro v2 x2 ho2 hb2 hg2; have HO2 := Aside0.mk ho2; have HB2 := Aside0.mk hb2; clear ho2 hb2 hg2))
    rw [HO.out] at HO2
    exact bodyPost_ret (v := .tuple #[v2, .int .i64 0]) (by simp [results, Tryz.results63, go_sem]) rfl ⟨v2, rfl, HO2.out, HB2.out⟩
end Go.Proofs.YtbnbplppgbmkpaaGreatDoor
