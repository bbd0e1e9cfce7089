/- wainwrightlaw02.PatternShort answers true at every three numbers: a word is matched just where it has room for both ends. No condition. -/
import Derived.Test.YtabdjijlmiobhaaPx10
import Derived.Test.YtabdjijlmiobhaaPatMore
namespace Go.Proofs.Ytabdjijlmiobhaa.Pure
open Go.RowKit Go.Proofs.Ytabdjijlmiobhaa.P Go.Proofs.Ytabdjijlmiobhaa.G Go.Proofs.Ytabdjijlmiobhaa.P0 Go.Proofs.YtabdjijlmiobhaaW.PrintWords Go.Proofs.YtabdjijlmiobhaaW.PrintLast

/-- So many letters a. -/
def As (n : Nat) : ByteArray := ⟨(List.replicate n 97).toArray⟩
theorem As_size (n : Nat) : (As n).size = n := by
  show (List.replicate n (97 : UInt8)).toArray.size = n
  simp
theorem As_data (n : Nat) : (As n).data.toList = List.replicate n 97 := rfl
theorem As_cut (k i j : Nat) : (As k).extract i j = As (min j k - i) := by
  rw [Lib.extract_eq, As_data]
  unfold As
  congr 2
  rw [List.drop_replicate, List.take_replicate]
  congr 1
  omega
theorem As_cat (a b : Nat) : As a ++ As b = As (a + b) := by
  show (⟨(List.replicate a 97).toArray⟩ : ByteArray) ++ As b = _
  rw [cat_eq, As_data]
  unfold As
  congr 2
  simp
theorem thirty : (⟨#[97, 97, 97, 97, 97, 97, 97, 97, 97, 97, 97, 97, 97, 97, 97, 97, 97, 97, 97, 97, 97, 97, 97, 97, 97, 97, 97, 97, 97, 97]⟩ : ByteArray) = As 30 := rfl

theorem of_all : ∀ x : Fin 12, ∀ y : Fin 12, pattern_Of.f ((As x.val ++ (⟨#[37]⟩ : ByteArray)) ++ As y.val) = some (true, As x.val, As y.val) := by
  decide +kernel

theorem PatternShort : wainwrightlaw02_PatternShort.Pure := by
  intro a0 a1 a2 _ _ _
  obtain ⟨x, hx, x0, x1⟩ := place a0 12 (by decide) (by decide)
  obtain ⟨y, hy, y0, y1⟩ := place a1 12 (by decide) (by decide)
  obtain ⟨k, hk, k0, k1⟩ := place a2 30 (by decide) (by decide)
  obtain ⟨x, rfl⟩ := Int.eq_ofNat_of_zero_le x0
  obtain ⟨y, rfl⟩ := Int.eq_ofNat_of_zero_le y0
  obtain ⟨k, rfl⟩ := Int.eq_ofNat_of_zero_le k0
  have hof := of_all ⟨x, by omega⟩ ⟨y, by omega⟩
  have hm := match_is true (As x) (As y) (As k) (by rw [As_size]; omega) (by rw [As_size, As_size]; omega)
  simp only [if_true, As_size, As_cut] at hof hm
  have ex : As (min x 30 - 0) = As x := by congr 1; omega
  have ey : As (min y 30 - 0) = As y := by congr 1; omega
  have ek : As (min k 30 - 0) = As k := by congr 1; omega
  have sz : (As x ++ (⟨#[37]⟩ : ByteArray)).size = x + 1 := by rw [ByteArray.size_append, As_size]; rfl
  have w1 : wrap64 ((x : Int) + (y : Int)) = ((x + y : Nat) : Int) := by rw [w64 (by omega) (by omega)]; rfl
  have w2 : wrap64 (wrap64 ((k : Int) - (x : Int)) - (y : Int)) = (k : Int) - x - y := by
    rw [w64 (n := (k : Int) - (x : Int)) (by omega) (by omega), w64 (by omega) (by omega)]
  unfold wainwrightlaw02_PatternShort.f
  rw [hx, hy, hk]
  simp only [Option.bind_some, thirty, Int.toNat_natCast, As_cut, ex, ey, ek]
  rw [if_pos (by omega), if_pos (by omega), As_size, if_pos (by omega), if_pos (by omega), if_pos (by omega), sz, As_size, if_pos (by omega), hof]
  simp only [Option.bind_some]
  rw [if_pos (by omega), if_pos (by omega), hm, w1, w2]
  simp only [Option.bind_some]
  by_cases h : k < x + y
  · rw [if_pos h]
    simp only []
    rw [if_neg (by decide), if_pos (by omega), if_pos (by decide +kernel), awake_true]
    rfl
  · have e1 : As (min x k - 0) = As x := by congr 1; omega
    have e2 : As (min k k - (k - y)) = As y := by congr 1; omega
    have e3 : min (k - y) k - x = k - x - y := by omega
    rw [if_neg h, e1, e2, e3]
    simp only [and_self, if_true]
    have hp := put_some true (As x) (As y) (As (k - x - y)) (by simp only [As_size]; omega)
    simp only [if_true, As_cat] at hp
    rw [if_pos (by omega), As_size, if_pos (by omega), hp, Option.bind_some, if_pos (by rw [show x + (k - x - y) + y = k by omega]), awake_true]
    rfl
end Go.Proofs.Ytabdjijlmiobhaa.Pure
