/- Answers of functions that hang on no memory: run once, kept. -/
import Derived.Test.YtpoekljclapbfaaDoorEvPlace
namespace Go.Proofs.YtpoekljclapbfaaDoor.Fin
open Go.Proofs.YtpoekljclapbfaaDoor.Fast
set_option maxRecDepth 1000000
def rows7_0 : List (List AV × AV) := [([], (.bool true))]
theorem rows7_0_ok : alls (rowOk Tryd.prog 1000000 7) rows7_0 = true := by decide +kernel
def rows7 : List (List AV × AV) := [([], (.bool true))]
theorem rows7_ok : ∀ q ∈ rows7, ∃ n, rowOk Tryd.prog n 7 q = true := by
  intro q hq
  have hq : q ∈ rows7_0 := hq
  · exact ⟨1000000, alls_mem rows7_0_ok q hq⟩
def rows19_0 : List (List AV × AV) := [([(.int .i64 (.ofNat 0))], (.str 1 48)),
  ([(.int .i64 (.ofNat 1))], (.str 1 49)),
  ([(.int .i64 (.ofNat 2))], (.str 1 50)),
  ([(.int .i64 (.ofNat 3))], (.str 1 51)),
  ([(.int .i64 (.ofNat 4))], (.str 1 52)),
  ([(.int .i64 (.ofNat 5))], (.str 1 53)),
  ([(.int .i64 (.ofNat 6))], (.str 1 54)),
  ([(.int .i64 (.ofNat 7))], (.str 1 55))]
theorem rows19_0_ok : alls (rowOk Tryd.prog 1000000 19) rows19_0 = true := by decide +kernel
def rows19_1 : List (List AV × AV) := [([(.int .i64 (.ofNat 8))], (.str 1 56)),
  ([(.int .i64 (.ofNat 9))], (.str 1 57)),
  ([(.int .i64 (.ofNat 10))], (.str 2 12337)),
  ([(.int .i64 (.ofNat 11))], (.str 2 12593))]
theorem rows19_1_ok : alls (rowOk Tryd.prog 1000000 19) rows19_1 = true := by decide +kernel
def rows19 : List (List AV × AV) := [([(.int .i64 (.ofNat 0))], (.str 1 48)),
  ([(.int .i64 (.ofNat 1))], (.str 1 49)),
  ([(.int .i64 (.ofNat 2))], (.str 1 50)),
  ([(.int .i64 (.ofNat 3))], (.str 1 51)),
  ([(.int .i64 (.ofNat 4))], (.str 1 52)),
  ([(.int .i64 (.ofNat 5))], (.str 1 53)),
  ([(.int .i64 (.ofNat 6))], (.str 1 54)),
  ([(.int .i64 (.ofNat 7))], (.str 1 55)),
  ([(.int .i64 (.ofNat 8))], (.str 1 56)),
  ([(.int .i64 (.ofNat 9))], (.str 1 57)),
  ([(.int .i64 (.ofNat 10))], (.str 2 12337)),
  ([(.int .i64 (.ofNat 11))], (.str 2 12593))]
theorem rows19_ok : ∀ q ∈ rows19, ∃ n, rowOk Tryd.prog n 19 q = true := by
  intro q hq
  have hq : q ∈ rows19_0 ++ rows19_1 := hq
  simp only [List.mem_append] at hq
  rcases hq with h | h
  · exact ⟨1000000, alls_mem rows19_0_ok q h⟩
  · exact ⟨1000000, alls_mem rows19_1_ok q h⟩
def memo : Memo := [(7, rows7), (19, rows19)]
theorem memo_ok : MemoOk Tryd.prog memo := by
  intro f l h
  simp only [memo, List.mem_cons, List.not_mem_nil, or_false, Prod.mk.injEq] at h
  rcases h with ⟨rfl, rfl⟩ | ⟨rfl, rfl⟩
  · exact ⟨by decide +kernel, rows7_ok⟩
  · exact ⟨by decide +kernel, rows19_ok⟩
end Go.Proofs.YtpoekljclapbfaaDoor.Fin
