/- The examples at the head of the statements, reckoned. -/
import Derived.Test.YtegalamdbbjfoaaDoorConV
namespace Go.Proofs.YtegalamdbbjfoaaDoor
theorem ev_route : parseOf ⟨#[114, 111, 117, 116, 101, 32, 52, 53, 32, 50, 32, 49]⟩ = (some (⟨#[114, 111, 117, 116, 101]⟩, 0, ⟨#[52, 53]⟩, [2, 1], ⟨#[]⟩), 210) := by
  have h : wordsOf ⟨#[114, 111, 117, 116, 101, 32, 52, 53, 32, 50, 32, 49]⟩ = [⟨#[114, 111, 117, 116, 101]⟩, ⟨#[52, 53]⟩, ⟨#[50]⟩, ⟨#[49]⟩] := by rfl
  unfold parseOf
  rw [if_neg (by decide), h]
  unfold cmdOf onl
  simp only [Lib.toList_data]
  rfl
theorem ev_block6 : parseOf ⟨#[98, 108, 111, 99, 107, 32, 54]⟩ = (none, 210) := by
  have h : wordsOf ⟨#[98, 108, 111, 99, 107, 32, 54]⟩ = [⟨#[98, 108, 111, 99, 107]⟩, ⟨#[54]⟩] := by rfl
  unfold parseOf
  rw [if_neg (by decide), h]
  unfold cmdOf
  simp only [Lib.toList_data]
  rfl
theorem ev_block1 : parseOf ⟨#[98, 108, 111, 99, 107, 32, 32, 49]⟩ = (none, 210) := by
  have h : wordsOf ⟨#[98, 108, 111, 99, 107, 32, 32, 49]⟩ = [⟨#[98, 108, 111, 99, 107]⟩, ⟨#[]⟩, ⟨#[49]⟩] := by rfl
  unfold parseOf
  rw [if_neg (by decide), h]
  unfold cmdOf
  simp only [Lib.toList_data]
  rfl
theorem sayL_one (d : Nat) (h : d < 10) : sayL [(d : Int)] = [32, UInt8.ofNat (48 + d)] := by
  unfold sayL
  simp only [List.flatMap_cons, List.flatMap_nil, List.append_nil]
  rw [Lib.itoa_nonneg, Lib.decDigits_one h]
theorem ev_saf : printOf (⟨#[115, 97, 102]⟩, 2, ⟨#[]⟩, [], ⟨#[]⟩) = (⟨#[115, 97, 102, 32, 50]⟩, 0) := by
  have hl : lineOf (⟨#[115, 97, 102]⟩, 2, ⟨#[]⟩, [], ⟨#[]⟩) = ⟨#[115, 97, 102, 32, 50]⟩ := by
    unfold lineOf
    simp only [Lib.toList_data]
    rw [if_pos (by decide), show (2 : Int) = ((2 : Nat) : Int) from rfl, sayL_one 2 (by decide)]
    rfl
  have hp : parseOf ⟨#[115, 97, 102, 32, 50]⟩ = (some (⟨#[115, 97, 102]⟩, 2, ⟨#[]⟩, [], ⟨#[]⟩), 210) := by
    have h : wordsOf ⟨#[115, 97, 102, 32, 50]⟩ = [⟨#[115, 97, 102]⟩, ⟨#[50]⟩] := by rfl
    unfold parseOf
    rw [if_neg (by decide), h]
    unfold cmdOf
    simp only [Lib.toList_data]
    rfl
  unfold printOf
  rw [hl, hp]
  unfold sameB
  simp only [Lib.toList_data]
  rfl
end Go.Proofs.YtegalamdbbjfoaaDoor
