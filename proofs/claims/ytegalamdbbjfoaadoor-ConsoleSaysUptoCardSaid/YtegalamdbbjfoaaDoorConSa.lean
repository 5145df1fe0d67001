/- The law 'ConsoleSays', as the program runs it. -/
import Derived.Test.YtegalamdbbjfoaaDoorConX
import Derived.Test.YtegalamdbbjfoaaDoorConO
namespace Go.Proofs.YtegalamdbbjfoaaDoor
open Go.RowKit Go.Proofs.YtegalamdbbjfoaaDoorW.PrintWords

set_option maxRecDepth 100000 in
set_option maxHeartbeats 1000000 in
theorem says_any (word : ByteArray) (A : Option Addr) (c : Nat) (l : List Int) (w : World) (g : Int) (hg : w.cell? ⟨0, 0, none⟩ = some (.int .i64 g)) (ht : Tab10 w) (hw : word.size ≤ 1048576) (hr : Kd.C (Kd.int .i64) w A l.length l) (hl : l.length ≤ 1048576) (hi : Ints l) :
    Calls Tryd.prog 5 #[.string word, .slice A l.length c] w fun e w' => e = .returned (.bool true) ∧ Below w.heap.size w w' := by
  have HG := Aside0.mk hg
  have HT := Aside0.mk ht
  have HR := Aside0.mk hr
  have HI := Aside0.mk hi
  have hz := sayL_le l hi
  clear hg ht hr hi
  go_enter Tryd.func5, Tryd.ntmps5
  go_wp2_with fail
  refine (shown_any _ g HG.out HT.out).mono ?_
  rintro e w1 ⟨rfl, hb1⟩
  go_wp2_with fail
  refine (say_any word A c l w1 (Kd.C_below HR.out hb1) (by omega) HI.out (by omega) (HT.out.below hb1)).mono ?_
  rintro e w2 ⟨rfl, hb2⟩
  have hB2 := hb1.trans (hb2.mono hb1.size)
  go_wp2_with fail
  refine (ref_say word A c l w2 (Kd.C_below HR.out hB2) (by omega) HI.out (by omega)).mono ?_
  rintro e w3 ⟨rfl, hb3⟩
  have hB3 := hB2.trans (hb3.mono hB2.size)
  go_wp2_with fail
  exact bodyPost_ret (v := .bool true) (by simp [results, Tryd.results5, go_sem]) rfl ⟨rfl, hB3⟩
end Go.Proofs.YtegalamdbbjfoaaDoor
