/- Answers of functions that hang on no memory: run once, kept. -/
import Derived.Test.YtlmabmpdbcgabaaEvPlace
namespace Go.Proofs.Ytlmabmpdbcgabaa.Fin
open Go.Proofs.Ytlmabmpdbcgabaa.Fast
set_option maxRecDepth 1000000
def rows8_0 : List (List AV × AV) := [([], (.bool true))]
theorem rows8_0_ok : alls (rowOk Try.prog 1000000 8) rows8_0 = true := by decide +kernel
def rows8 : List (List AV × AV) := [([], (.bool true))]
theorem rows8_ok : ∀ q ∈ rows8, ∃ n, rowOk Try.prog n 8 q = true := by
  intro q hq
  have hq : q ∈ rows8_0 := hq
  · exact ⟨1000000, alls_mem rows8_0_ok q hq⟩
def rows22_0 : List (List AV × AV) := [([(.int .i64 (.ofNat 0))], (.str 1 48)),
  ([(.int .i64 (.ofNat 1))], (.str 1 49)),
  ([(.int .i64 (.ofNat 2))], (.str 1 50)),
  ([(.int .i64 (.ofNat 3))], (.str 1 51)),
  ([(.int .i64 (.ofNat 4))], (.str 1 52)),
  ([(.int .i64 (.ofNat 5))], (.str 1 53)),
  ([(.int .i64 (.ofNat 6))], (.str 1 54)),
  ([(.int .i64 (.ofNat 7))], (.str 1 55))]
theorem rows22_0_ok : alls (rowOk Try.prog 1000000 22) rows22_0 = true := by decide +kernel
def rows22_1 : List (List AV × AV) := [([(.int .i64 (.ofNat 8))], (.str 1 56)),
  ([(.int .i64 (.ofNat 9))], (.str 1 57)),
  ([(.int .i64 (.ofNat 10))], (.str 2 12337)),
  ([(.int .i64 (.ofNat 11))], (.str 2 12593)),
  ([(.int .i64 (.ofNat 12))], (.str 2 12849)),
  ([(.int .i64 (.ofNat 13))], (.str 2 13105)),
  ([(.int .i64 (.ofNat 14))], (.str 2 13361)),
  ([(.int .i64 (.ofNat 15))], (.str 2 13617))]
theorem rows22_1_ok : alls (rowOk Try.prog 1000000 22) rows22_1 = true := by decide +kernel
def rows22_2 : List (List AV × AV) := [([(.int .i64 (.ofNat 16))], (.str 2 13873)),
  ([(.int .i64 (.ofNat 17))], (.str 2 14129)),
  ([(.int .i64 (.ofNat 18))], (.str 2 14385)),
  ([(.int .i64 (.ofNat 19))], (.str 2 14641)),
  ([(.int .i64 (.ofNat 20))], (.str 2 12338)),
  ([(.int .i64 (.ofNat 21))], (.str 2 12594)),
  ([(.int .i64 (.ofNat 22))], (.str 2 12850)),
  ([(.int .i64 (.ofNat 23))], (.str 2 13106))]
theorem rows22_2_ok : alls (rowOk Try.prog 1000000 22) rows22_2 = true := by decide +kernel
def rows22_3 : List (List AV × AV) := [([(.int .i64 (.ofNat 24))], (.str 2 13362)),
  ([(.int .i64 (.ofNat 25))], (.str 2 13618)),
  ([(.int .i64 (.ofNat 26))], (.str 2 13874)),
  ([(.int .i64 (.ofNat 27))], (.str 2 14130)),
  ([(.int .i64 (.ofNat 28))], (.str 2 14386)),
  ([(.int .i64 (.ofNat 29))], (.str 2 14642)),
  ([(.int .i64 (.ofNat 30))], (.str 2 12339))]
theorem rows22_3_ok : alls (rowOk Try.prog 1000000 22) rows22_3 = true := by decide +kernel
def rows22 : List (List AV × AV) := [([(.int .i64 (.ofNat 0))], (.str 1 48)),
  ([(.int .i64 (.ofNat 1))], (.str 1 49)),
  ([(.int .i64 (.ofNat 2))], (.str 1 50)),
  ([(.int .i64 (.ofNat 3))], (.str 1 51)),
  ([(.int .i64 (.ofNat 4))], (.str 1 52)),
  ([(.int .i64 (.ofNat 5))], (.str 1 53)),
  ([(.int .i64 (.ofNat 6))], (.str 1 54)),
  ([(.int .i64 (.ofNat 7))], (.str 1 55)),
  ([(.int .i64 (.ofNat 8))], (.str 1 56)),
  ([(.int .i64 (.ofNat 9))], (.str 1 57)),
  ([(.int .i64 (.ofNat 10))], (.str 2 12337)),
  ([(.int .i64 (.ofNat 11))], (.str 2 12593)),
  ([(.int .i64 (.ofNat 12))], (.str 2 12849)),
  ([(.int .i64 (.ofNat 13))], (.str 2 13105)),
  ([(.int .i64 (.ofNat 14))], (.str 2 13361)),
  ([(.int .i64 (.ofNat 15))], (.str 2 13617)),
  ([(.int .i64 (.ofNat 16))], (.str 2 13873)),
  ([(.int .i64 (.ofNat 17))], (.str 2 14129)),
  ([(.int .i64 (.ofNat 18))], (.str 2 14385)),
  ([(.int .i64 (.ofNat 19))], (.str 2 14641)),
  ([(.int .i64 (.ofNat 20))], (.str 2 12338)),
  ([(.int .i64 (.ofNat 21))], (.str 2 12594)),
  ([(.int .i64 (.ofNat 22))], (.str 2 12850)),
  ([(.int .i64 (.ofNat 23))], (.str 2 13106)),
  ([(.int .i64 (.ofNat 24))], (.str 2 13362)),
  ([(.int .i64 (.ofNat 25))], (.str 2 13618)),
  ([(.int .i64 (.ofNat 26))], (.str 2 13874)),
  ([(.int .i64 (.ofNat 27))], (.str 2 14130)),
  ([(.int .i64 (.ofNat 28))], (.str 2 14386)),
  ([(.int .i64 (.ofNat 29))], (.str 2 14642)),
  ([(.int .i64 (.ofNat 30))], (.str 2 12339))]
theorem rows22_ok : ∀ q ∈ rows22, ∃ n, rowOk Try.prog n 22 q = true := by
  intro q hq
  have hq : q ∈ rows22_0 ++ rows22_1 ++ rows22_2 ++ rows22_3 := hq
  simp only [List.mem_append] at hq
  rcases hq with ((h | h) | h) | h
  · exact ⟨1000000, alls_mem rows22_0_ok q h⟩
  · exact ⟨1000000, alls_mem rows22_1_ok q h⟩
  · exact ⟨1000000, alls_mem rows22_2_ok q h⟩
  · exact ⟨1000000, alls_mem rows22_3_ok q h⟩
def memo : Memo := [(8, rows8), (22, rows22)]
theorem memo_ok : MemoOk Try.prog memo := by
  intro f l h
  simp only [memo, List.mem_cons, List.not_mem_nil, or_false, Prod.mk.injEq] at h
  rcases h with ⟨rfl, rfl⟩ | ⟨rfl, rfl⟩
  · exact ⟨by decide +kernel, rows8_ok⟩
  · exact ⟨by decide +kernel, rows22_ok⟩
end Go.Proofs.Ytlmabmpdbcgabaa.Fin
