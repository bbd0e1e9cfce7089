/- Answers of functions that hang on no memory: run once, kept. -/
import Derived.Test.YtkaegfgaemnemaaDoorEvPlace
namespace Go.Proofs.YtkaegfgaemnemaaDoor.Fin
open Go.Proofs.YtkaegfgaemnemaaDoor.Fast
set_option maxRecDepth 1000000
def rows11_0 : List (List AV × AV) := [([], (.bool true))]
theorem rows11_0_ok : alls (rowOk Tryd.prog 1000000 11) rows11_0 = true := by decide +kernel
def rows11 : List (List AV × AV) := [([], (.bool true))]
theorem rows11_ok : ∀ q ∈ rows11, ∃ n, rowOk Tryd.prog n 11 q = true := by
  intro q hq
  have hq : q ∈ rows11_0 := hq
  · exact ⟨1000000, alls_mem rows11_0_ok q hq⟩
def rows16_0 : List (List AV × AV) := [([], (.bool true))]
theorem rows16_0_ok : alls (rowOk Tryd.prog 1000000 16) rows16_0 = true := by decide +kernel
def rows16 : List (List AV × AV) := [([], (.bool true))]
theorem rows16_ok : ∀ q ∈ rows16, ∃ n, rowOk Tryd.prog n 16 q = true := by
  intro q hq
  have hq : q ∈ rows16_0 := hq
  · exact ⟨1000000, alls_mem rows16_0_ok q hq⟩
def rows12_0 : List (List AV × AV) := [([(.int .i64 (.ofNat 0))], (.str 1 48)),
  ([(.int .i64 (.ofNat 1))], (.str 1 49)),
  ([(.int .i64 (.ofNat 2))], (.str 1 50)),
  ([(.int .i64 (.ofNat 3))], (.str 1 51)),
  ([(.int .i64 (.ofNat 4))], (.str 1 52)),
  ([(.int .i64 (.ofNat 5))], (.str 1 53)),
  ([(.int .i64 (.ofNat 6))], (.str 1 54)),
  ([(.int .i64 (.ofNat 7))], (.str 1 55))]
theorem rows12_0_ok : alls (rowOk Tryd.prog 1000000 12) rows12_0 = true := by decide +kernel
def rows12 : List (List AV × AV) := [([(.int .i64 (.ofNat 0))], (.str 1 48)),
  ([(.int .i64 (.ofNat 1))], (.str 1 49)),
  ([(.int .i64 (.ofNat 2))], (.str 1 50)),
  ([(.int .i64 (.ofNat 3))], (.str 1 51)),
  ([(.int .i64 (.ofNat 4))], (.str 1 52)),
  ([(.int .i64 (.ofNat 5))], (.str 1 53)),
  ([(.int .i64 (.ofNat 6))], (.str 1 54)),
  ([(.int .i64 (.ofNat 7))], (.str 1 55))]
theorem rows12_ok : ∀ q ∈ rows12, ∃ n, rowOk Tryd.prog n 12 q = true := by
  intro q hq
  have hq : q ∈ rows12_0 := hq
  · exact ⟨1000000, alls_mem rows12_0_ok q hq⟩
def rows51_0 : List (List AV × AV) := [([(.str 5 482805445747)], (.tuple [.agg [(.int .i64 (.ofNat 1)), (.int .i64 (.ofNat 1)), (.bool false), (.bool true)], (.bool true)])),
  ([(.str 5 500152038771)], (.tuple [.agg [(.int .i64 (.ofNat 3)), (.int .i64 (.ofNat 3)), (.bool false), (.bool true)], (.bool true)])),
  ([(.str 2 26217)], (.tuple [.agg [(.int .i64 (.ofNat 2)), (.int .i64 (.ofNat 3)), (.bool true), (.bool false)], (.bool true)])),
  ([(.str 2 29295)], (.tuple [.agg [(.int .i64 (.ofNat 1)), (.int .i64 (.ofNat 0)), (.bool true), (.bool false)], (.bool true)])),
  ([(.str 4 1819042147)], (.tuple [.agg [(.int .i64 (.ofNat 1)), (.int .i64 (.ofNat 0)), (.bool false), (.bool false)], (.bool true)])),
  ([(.str 6 123615122321001)], (.tuple [.agg [(.int .i64 (.ofNat 2)), (.int .i64 (.ofNat 5)), (.bool true), (.bool false)], (.bool true)])),
  ([(.str 7 29382667542884198)], (.tuple [.agg [(.int .i64 (.ofNat 3)), (.int .i64 (.ofNat 3)), (.bool true), (.bool false)], (.bool true)])),
  ([(.str 4 1685221239)], (.tuple [.agg [(.int .i64 (.ofNat 2)), (.int .i64 (.ofNat 2)), (.bool false), (.bool true)], (.bool true)]))]
theorem rows51_0_ok : alls (rowOk Tryd.prog 1000000 51) rows51_0 = true := by decide +kernel
def rows51_1 : List (List AV × AV) := [([(.str 0 0)], (.tuple [.agg [(.int .i64 (.ofNat 0)), (.int .i64 (.ofNat 0)), (.bool false), (.bool false)], (.bool false)])),
  ([(.str 1 45)], (.tuple [.agg [(.int .i64 (.ofNat 0)), (.int .i64 (.ofNat 0)), (.bool false), (.bool false)], (.bool false)])),
  ([(.str 1 97)], (.tuple [.agg [(.int .i64 (.ofNat 0)), (.int .i64 (.ofNat 0)), (.bool false), (.bool false)], (.bool false)])),
  ([(.str 1 98)], (.tuple [.agg [(.int .i64 (.ofNat 0)), (.int .i64 (.ofNat 0)), (.bool false), (.bool false)], (.bool false)])),
  ([(.str 1 99)], (.tuple [.agg [(.int .i64 (.ofNat 0)), (.int .i64 (.ofNat 0)), (.bool false), (.bool false)], (.bool false)])),
  ([(.str 3 7498084)], (.tuple [.agg [(.int .i64 (.ofNat 1)), (.int .i64 (.ofNat 1)), (.bool false), (.bool true)], (.bool true)])),
  ([(.str 3 7303014)], (.tuple [.agg [(.int .i64 (.ofNat 0)), (.int .i64 (.ofNat 0)), (.bool false), (.bool false)], (.bool false)])),
  ([(.str 3 7368552)], (.tuple [.agg [(.int .i64 (.ofNat 0)), (.int .i64 (.ofNat 0)), (.bool false), (.bool false)], (.bool false)]))]
theorem rows51_1_ok : alls (rowOk Tryd.prog 1000000 51) rows51_1 = true := by decide +kernel
def rows51_2 : List (List AV × AV) := [([(.str 3 6449516)], (.tuple [.agg [(.int .i64 (.ofNat 0)), (.int .i64 (.ofNat 0)), (.bool false), (.bool false)], (.bool false)])),
  ([(.str 1 120)], (.tuple [.agg [(.int .i64 (.ofNat 0)), (.int .i64 (.ofNat 0)), (.bool false), (.bool false)], (.bool false)])),
  ([(.str 1 122)], (.tuple [.agg [(.int .i64 (.ofNat 0)), (.int .i64 (.ofNat 0)), (.bool false), (.bool false)], (.bool false)]))]
theorem rows51_2_ok : alls (rowOk Tryd.prog 1000000 51) rows51_2 = true := by decide +kernel
def rows51 : List (List AV × AV) := [([(.str 5 482805445747)], (.tuple [.agg [(.int .i64 (.ofNat 1)), (.int .i64 (.ofNat 1)), (.bool false), (.bool true)], (.bool true)])),
  ([(.str 5 500152038771)], (.tuple [.agg [(.int .i64 (.ofNat 3)), (.int .i64 (.ofNat 3)), (.bool false), (.bool true)], (.bool true)])),
  ([(.str 2 26217)], (.tuple [.agg [(.int .i64 (.ofNat 2)), (.int .i64 (.ofNat 3)), (.bool true), (.bool false)], (.bool true)])),
  ([(.str 2 29295)], (.tuple [.agg [(.int .i64 (.ofNat 1)), (.int .i64 (.ofNat 0)), (.bool true), (.bool false)], (.bool true)])),
  ([(.str 4 1819042147)], (.tuple [.agg [(.int .i64 (.ofNat 1)), (.int .i64 (.ofNat 0)), (.bool false), (.bool false)], (.bool true)])),
  ([(.str 6 123615122321001)], (.tuple [.agg [(.int .i64 (.ofNat 2)), (.int .i64 (.ofNat 5)), (.bool true), (.bool false)], (.bool true)])),
  ([(.str 7 29382667542884198)], (.tuple [.agg [(.int .i64 (.ofNat 3)), (.int .i64 (.ofNat 3)), (.bool true), (.bool false)], (.bool true)])),
  ([(.str 4 1685221239)], (.tuple [.agg [(.int .i64 (.ofNat 2)), (.int .i64 (.ofNat 2)), (.bool false), (.bool true)], (.bool true)])),
  ([(.str 0 0)], (.tuple [.agg [(.int .i64 (.ofNat 0)), (.int .i64 (.ofNat 0)), (.bool false), (.bool false)], (.bool false)])),
  ([(.str 1 45)], (.tuple [.agg [(.int .i64 (.ofNat 0)), (.int .i64 (.ofNat 0)), (.bool false), (.bool false)], (.bool false)])),
  ([(.str 1 97)], (.tuple [.agg [(.int .i64 (.ofNat 0)), (.int .i64 (.ofNat 0)), (.bool false), (.bool false)], (.bool false)])),
  ([(.str 1 98)], (.tuple [.agg [(.int .i64 (.ofNat 0)), (.int .i64 (.ofNat 0)), (.bool false), (.bool false)], (.bool false)])),
  ([(.str 1 99)], (.tuple [.agg [(.int .i64 (.ofNat 0)), (.int .i64 (.ofNat 0)), (.bool false), (.bool false)], (.bool false)])),
  ([(.str 3 7498084)], (.tuple [.agg [(.int .i64 (.ofNat 1)), (.int .i64 (.ofNat 1)), (.bool false), (.bool true)], (.bool true)])),
  ([(.str 3 7303014)], (.tuple [.agg [(.int .i64 (.ofNat 0)), (.int .i64 (.ofNat 0)), (.bool false), (.bool false)], (.bool false)])),
  ([(.str 3 7368552)], (.tuple [.agg [(.int .i64 (.ofNat 0)), (.int .i64 (.ofNat 0)), (.bool false), (.bool false)], (.bool false)])),
  ([(.str 3 6449516)], (.tuple [.agg [(.int .i64 (.ofNat 0)), (.int .i64 (.ofNat 0)), (.bool false), (.bool false)], (.bool false)])),
  ([(.str 1 120)], (.tuple [.agg [(.int .i64 (.ofNat 0)), (.int .i64 (.ofNat 0)), (.bool false), (.bool false)], (.bool false)])),
  ([(.str 1 122)], (.tuple [.agg [(.int .i64 (.ofNat 0)), (.int .i64 (.ofNat 0)), (.bool false), (.bool false)], (.bool false)]))]
theorem rows51_ok : ∀ q ∈ rows51, ∃ n, rowOk Tryd.prog n 51 q = true := by
  intro q hq
  have hq : q ∈ rows51_0 ++ rows51_1 ++ rows51_2 := hq
  simp only [List.mem_append] at hq
  rcases hq with (h | h) | h
  · exact ⟨1000000, alls_mem rows51_0_ok q h⟩
  · exact ⟨1000000, alls_mem rows51_1_ok q h⟩
  · exact ⟨1000000, alls_mem rows51_2_ok q h⟩
def rows59_0 : List (List AV × AV) := [([(.str 5 482805445747)], (.tuple [.agg [(.int .i64 (.ofNat 1)), (.int .i64 (.ofNat 1)), (.bool false), (.bool true)], (.bool true)])),
  ([(.str 5 500152038771)], (.tuple [.agg [(.int .i64 (.ofNat 3)), (.int .i64 (.ofNat 3)), (.bool false), (.bool true)], (.bool true)])),
  ([(.str 2 26217)], (.tuple [.agg [(.int .i64 (.ofNat 2)), (.int .i64 (.ofNat 3)), (.bool true), (.bool false)], (.bool true)])),
  ([(.str 2 29295)], (.tuple [.agg [(.int .i64 (.ofNat 1)), (.int .i64 (.ofNat 0)), (.bool true), (.bool false)], (.bool true)])),
  ([(.str 4 1819042147)], (.tuple [.agg [(.int .i64 (.ofNat 1)), (.int .i64 (.ofNat 0)), (.bool false), (.bool false)], (.bool true)])),
  ([(.str 6 123615122321001)], (.tuple [.agg [(.int .i64 (.ofNat 2)), (.int .i64 (.ofNat 5)), (.bool true), (.bool false)], (.bool true)])),
  ([(.str 7 29382667542884198)], (.tuple [.agg [(.int .i64 (.ofNat 3)), (.int .i64 (.ofNat 3)), (.bool true), (.bool false)], (.bool true)])),
  ([(.str 4 1685221239)], (.tuple [.agg [(.int .i64 (.ofNat 2)), (.int .i64 (.ofNat 2)), (.bool false), (.bool true)], (.bool true)]))]
theorem rows59_0_ok : alls (rowOk Tryd.prog 1000000 59) rows59_0 = true := by decide +kernel
def rows59_1 : List (List AV × AV) := [([(.str 0 0)], (.tuple [.agg [(.int .i64 (.ofNat 0)), (.int .i64 (.ofNat 0)), (.bool false), (.bool false)], (.bool false)])),
  ([(.str 1 45)], (.tuple [.agg [(.int .i64 (.ofNat 0)), (.int .i64 (.ofNat 0)), (.bool false), (.bool false)], (.bool false)])),
  ([(.str 1 97)], (.tuple [.agg [(.int .i64 (.ofNat 0)), (.int .i64 (.ofNat 0)), (.bool false), (.bool false)], (.bool false)])),
  ([(.str 1 98)], (.tuple [.agg [(.int .i64 (.ofNat 0)), (.int .i64 (.ofNat 0)), (.bool false), (.bool false)], (.bool false)])),
  ([(.str 1 99)], (.tuple [.agg [(.int .i64 (.ofNat 0)), (.int .i64 (.ofNat 0)), (.bool false), (.bool false)], (.bool false)])),
  ([(.str 3 7498084)], (.tuple [.agg [(.int .i64 (.ofNat 1)), (.int .i64 (.ofNat 1)), (.bool false), (.bool true)], (.bool true)])),
  ([(.str 3 7303014)], (.tuple [.agg [(.int .i64 (.ofNat 0)), (.int .i64 (.ofNat 0)), (.bool false), (.bool false)], (.bool false)])),
  ([(.str 3 7368552)], (.tuple [.agg [(.int .i64 (.ofNat 0)), (.int .i64 (.ofNat 0)), (.bool false), (.bool false)], (.bool false)]))]
theorem rows59_1_ok : alls (rowOk Tryd.prog 1000000 59) rows59_1 = true := by decide +kernel
def rows59_2 : List (List AV × AV) := [([(.str 3 6449516)], (.tuple [.agg [(.int .i64 (.ofNat 0)), (.int .i64 (.ofNat 0)), (.bool false), (.bool false)], (.bool false)])),
  ([(.str 1 120)], (.tuple [.agg [(.int .i64 (.ofNat 0)), (.int .i64 (.ofNat 0)), (.bool false), (.bool false)], (.bool false)])),
  ([(.str 1 122)], (.tuple [.agg [(.int .i64 (.ofNat 0)), (.int .i64 (.ofNat 0)), (.bool false), (.bool false)], (.bool false)]))]
theorem rows59_2_ok : alls (rowOk Tryd.prog 1000000 59) rows59_2 = true := by decide +kernel
def rows59 : List (List AV × AV) := [([(.str 5 482805445747)], (.tuple [.agg [(.int .i64 (.ofNat 1)), (.int .i64 (.ofNat 1)), (.bool false), (.bool true)], (.bool true)])),
  ([(.str 5 500152038771)], (.tuple [.agg [(.int .i64 (.ofNat 3)), (.int .i64 (.ofNat 3)), (.bool false), (.bool true)], (.bool true)])),
  ([(.str 2 26217)], (.tuple [.agg [(.int .i64 (.ofNat 2)), (.int .i64 (.ofNat 3)), (.bool true), (.bool false)], (.bool true)])),
  ([(.str 2 29295)], (.tuple [.agg [(.int .i64 (.ofNat 1)), (.int .i64 (.ofNat 0)), (.bool true), (.bool false)], (.bool true)])),
  ([(.str 4 1819042147)], (.tuple [.agg [(.int .i64 (.ofNat 1)), (.int .i64 (.ofNat 0)), (.bool false), (.bool false)], (.bool true)])),
  ([(.str 6 123615122321001)], (.tuple [.agg [(.int .i64 (.ofNat 2)), (.int .i64 (.ofNat 5)), (.bool true), (.bool false)], (.bool true)])),
  ([(.str 7 29382667542884198)], (.tuple [.agg [(.int .i64 (.ofNat 3)), (.int .i64 (.ofNat 3)), (.bool true), (.bool false)], (.bool true)])),
  ([(.str 4 1685221239)], (.tuple [.agg [(.int .i64 (.ofNat 2)), (.int .i64 (.ofNat 2)), (.bool false), (.bool true)], (.bool true)])),
  ([(.str 0 0)], (.tuple [.agg [(.int .i64 (.ofNat 0)), (.int .i64 (.ofNat 0)), (.bool false), (.bool false)], (.bool false)])),
  ([(.str 1 45)], (.tuple [.agg [(.int .i64 (.ofNat 0)), (.int .i64 (.ofNat 0)), (.bool false), (.bool false)], (.bool false)])),
  ([(.str 1 97)], (.tuple [.agg [(.int .i64 (.ofNat 0)), (.int .i64 (.ofNat 0)), (.bool false), (.bool false)], (.bool false)])),
  ([(.str 1 98)], (.tuple [.agg [(.int .i64 (.ofNat 0)), (.int .i64 (.ofNat 0)), (.bool false), (.bool false)], (.bool false)])),
  ([(.str 1 99)], (.tuple [.agg [(.int .i64 (.ofNat 0)), (.int .i64 (.ofNat 0)), (.bool false), (.bool false)], (.bool false)])),
  ([(.str 3 7498084)], (.tuple [.agg [(.int .i64 (.ofNat 1)), (.int .i64 (.ofNat 1)), (.bool false), (.bool true)], (.bool true)])),
  ([(.str 3 7303014)], (.tuple [.agg [(.int .i64 (.ofNat 0)), (.int .i64 (.ofNat 0)), (.bool false), (.bool false)], (.bool false)])),
  ([(.str 3 7368552)], (.tuple [.agg [(.int .i64 (.ofNat 0)), (.int .i64 (.ofNat 0)), (.bool false), (.bool false)], (.bool false)])),
  ([(.str 3 6449516)], (.tuple [.agg [(.int .i64 (.ofNat 0)), (.int .i64 (.ofNat 0)), (.bool false), (.bool false)], (.bool false)])),
  ([(.str 1 120)], (.tuple [.agg [(.int .i64 (.ofNat 0)), (.int .i64 (.ofNat 0)), (.bool false), (.bool false)], (.bool false)])),
  ([(.str 1 122)], (.tuple [.agg [(.int .i64 (.ofNat 0)), (.int .i64 (.ofNat 0)), (.bool false), (.bool false)], (.bool false)]))]
theorem rows59_ok : ∀ q ∈ rows59, ∃ n, rowOk Tryd.prog n 59 q = true := by
  intro q hq
  have hq : q ∈ rows59_0 ++ rows59_1 ++ rows59_2 := hq
  simp only [List.mem_append] at hq
  rcases hq with (h | h) | h
  · exact ⟨1000000, alls_mem rows59_0_ok q h⟩
  · exact ⟨1000000, alls_mem rows59_1_ok q h⟩
  · exact ⟨1000000, alls_mem rows59_2_ok q h⟩
def memo : Memo := [(11, rows11), (16, rows16), (12, rows12), (51, rows51), (59, rows59)]
theorem memo_ok : MemoOk Tryd.prog memo := by
  intro f l h
  simp only [memo, List.mem_cons, List.not_mem_nil, or_false, Prod.mk.injEq] at h
  rcases h with ⟨rfl, rfl⟩ | ⟨rfl, rfl⟩ | ⟨rfl, rfl⟩ | ⟨rfl, rfl⟩ | ⟨rfl, rfl⟩
  · exact ⟨by decide +kernel, rows11_ok⟩
  · exact ⟨by decide +kernel, rows16_ok⟩
  · exact ⟨by decide +kernel, rows12_ok⟩
  · exact ⟨by decide +kernel, rows51_ok⟩
  · exact ⟨by decide +kernel, rows59_ok⟩
end Go.Proofs.YtkaegfgaemnemaaDoor.Fin
