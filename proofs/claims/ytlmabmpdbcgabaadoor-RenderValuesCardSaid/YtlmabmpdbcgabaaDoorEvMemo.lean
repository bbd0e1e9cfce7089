/- Answers of functions that hang on no memory: run once, kept. -/
import Derived.Test.YtlmabmpdbcgabaaDoorEvPlace
namespace Go.Proofs.YtlmabmpdbcgabaaDoor.Fin
open Go.Proofs.YtlmabmpdbcgabaaDoor.Fast
set_option maxRecDepth 1000000
def rows9_0 : List (List AV × AV) := [([], (.bool true))]
theorem rows9_0_ok : alls (rowOk Tryd.prog 1000000 9) rows9_0 = true := by decide +kernel
def rows9 : List (List AV × AV) := [([], (.bool true))]
theorem rows9_ok : ∀ q ∈ rows9, ∃ n, rowOk Tryd.prog n 9 q = true := by
  intro q hq
  have hq : q ∈ rows9_0 := hq
  · exact ⟨1000000, alls_mem rows9_0_ok q hq⟩
def rows8_0 : List (List AV × AV) := [([(.str 6 111524889126244)], (.bool false)),
  ([(.str 5 439787744869)], (.bool false)),
  ([(.str 8 7308895133777555061)], (.bool false)),
  ([(.str 7 28539428140183145)], (.bool false)),
  ([(.str 8 7306093603886885165)], (.bool false)),
  ([(.str 4 1902470761)], (.bool false)),
  ([(.str 5 487033038441)], (.bool false)),
  ([(.str 5 439787742825)], (.bool false))]
theorem rows8_0_ok : alls (rowOk Tryd.prog 1000000 8) rows8_0 = true := by decide +kernel
def rows8_1 : List (List AV × AV) := [([(.str 6 112585662686825)], (.bool false)),
  ([(.str 4 1702063205)], (.bool false)),
  ([(.str 5 439854853733)], (.bool false)),
  ([(.str 7 33888522094404964)], (.bool true)),
  ([(.str 6 132381183077989)], (.bool true)),
  ([(.str 9 2220918183978923748981)], (.bool true)),
  ([(.str 8 8675450712691535465)], (.bool true)),
  ([(.str 9 2220915382449033079085)], (.bool true))]
theorem rows8_1_ok : alls (rowOk Tryd.prog 1000000 8) rows8_1 = true := by decide +kernel
def rows8_2 : List (List AV × AV) := [([(.str 5 517298546281)], (.bool true)),
  ([(.str 6 132428428371561)], (.bool true)),
  ([(.str 6 132381183075945)], (.bool true)),
  ([(.str 7 33889582867965545)], (.bool true)),
  ([(.str 5 517098138725)], (.bool true)),
  ([(.str 6 132381250186853)], (.bool true)),
  ([(.str 0 0)], (.bool false))]
theorem rows8_2_ok : alls (rowOk Tryd.prog 1000000 8) rows8_2 = true := by decide +kernel
def rows8 : List (List AV × AV) := [([(.str 6 111524889126244)], (.bool false)),
  ([(.str 5 439787744869)], (.bool false)),
  ([(.str 8 7308895133777555061)], (.bool false)),
  ([(.str 7 28539428140183145)], (.bool false)),
  ([(.str 8 7306093603886885165)], (.bool false)),
  ([(.str 4 1902470761)], (.bool false)),
  ([(.str 5 487033038441)], (.bool false)),
  ([(.str 5 439787742825)], (.bool false)),
  ([(.str 6 112585662686825)], (.bool false)),
  ([(.str 4 1702063205)], (.bool false)),
  ([(.str 5 439854853733)], (.bool false)),
  ([(.str 7 33888522094404964)], (.bool true)),
  ([(.str 6 132381183077989)], (.bool true)),
  ([(.str 9 2220918183978923748981)], (.bool true)),
  ([(.str 8 8675450712691535465)], (.bool true)),
  ([(.str 9 2220915382449033079085)], (.bool true)),
  ([(.str 5 517298546281)], (.bool true)),
  ([(.str 6 132428428371561)], (.bool true)),
  ([(.str 6 132381183075945)], (.bool true)),
  ([(.str 7 33889582867965545)], (.bool true)),
  ([(.str 5 517098138725)], (.bool true)),
  ([(.str 6 132381250186853)], (.bool true)),
  ([(.str 0 0)], (.bool false))]
theorem rows8_ok : ∀ q ∈ rows8, ∃ n, rowOk Tryd.prog n 8 q = true := by
  intro q hq
  have hq : q ∈ rows8_0 ++ rows8_1 ++ rows8_2 := hq
  simp only [List.mem_append] at hq
  rcases hq with (h | h) | h
  · exact ⟨1000000, alls_mem rows8_0_ok q h⟩
  · exact ⟨1000000, alls_mem rows8_1_ok q h⟩
  · exact ⟨1000000, alls_mem rows8_2_ok q h⟩
def memo : Memo := [(9, rows9), (8, rows8)]
theorem memo_ok : MemoOk Tryd.prog memo := by
  intro f l h
  simp only [memo, List.mem_cons, List.not_mem_nil, or_false, Prod.mk.injEq] at h
  rcases h with ⟨rfl, rfl⟩ | ⟨rfl, rfl⟩
  · exact ⟨by decide +kernel, rows9_ok⟩
  · exact ⟨by decide +kernel, rows8_ok⟩
end Go.Proofs.YtlmabmpdbcgabaaDoor.Fin
