/- Answers of functions that hang on no memory: run once, kept. -/
import Derived.Test.YtlnjikneepgpaaaEvPlace
namespace Go.Proofs.Ytlnjikneepgpaaa.Fin
open Go.Proofs.Ytlnjikneepgpaaa.Fast
set_option maxRecDepth 1000000
def rows42_0 : List (List AV × AV) := [([(.str 5 482805445747)], (.tuple [.agg [(.int .i64 (.ofNat 1)), (.int .i64 (.ofNat 1)), (.bool false), (.bool true)], (.bool true)])),
  ([(.str 4 1953656691)], (.tuple [.agg [(.int .i64 (.ofNat 1)), (.int .i64 (.ofNat 1)), (.bool false), (.bool true)], (.bool true)])),
  ([(.str 5 495606460279)], (.tuple [.agg [(.int .i64 (.ofNat 1)), (.int .i64 (.ofNat 1)), (.bool false), (.bool true)], (.bool true)])),
  ([(.str 9 1852920348155730618726)], (.tuple [.agg [(.int .i64 (.ofNat 1)), (.int .i64 (.ofNat 1)), (.bool false), (.bool true)], (.bool true)])),
  ([(.str 8 7237970109983318380)], (.tuple [.agg [(.int .i64 (.ofNat 1)), (.int .i64 (.ofNat 1)), (.bool false), (.bool true)], (.bool true)])),
  ([(.str 3 7498084)], (.tuple [.agg [(.int .i64 (.ofNat 1)), (.int .i64 (.ofNat 1)), (.bool false), (.bool true)], (.bool true)])),
  ([(.str 6 125796982484846)], (.tuple [.agg [(.int .i64 (.ofNat 1)), (.int .i64 (.ofNat 1)), (.bool false), (.bool true)], (.bool true)])),
  ([(.str 6 132394084889971)], (.tuple [.agg [(.int .i64 (.ofNat 1)), (.int .i64 (.ofNat 1)), (.bool false), (.bool true)], (.bool true)])),
  ([(.str 8 7308604897068540258)], (.tuple [.agg [(.int .i64 (.ofNat 1)), (.int .i64 (.ofNat 1)), (.bool false), (.bool true)], (.bool true)]))]
theorem rows42_0_ok : alls (rowOk Try.prog 1000000 42) rows42_0 = true := by decide +kernel
def rows42_1 : List (List AV × AV) := [([(.str 7 29401359425167969)], (.tuple [.agg [(.int .i64 (.ofNat 1)), (.int .i64 (.ofNat 1)), (.bool false), (.bool true)], (.bool true)])),
  ([(.str 8 7237954630652291447)], (.tuple [.agg [(.int .i64 (.ofNat 1)), (.int .i64 (.ofNat 1)), (.bool false), (.bool true)], (.bool true)])),
  ([(.str 10 488440487847241790155110)], (.tuple [.agg [(.int .i64 (.ofNat 2)), (.int .i64 (.ofNat 2)), (.bool false), (.bool true)], (.bool true)])),
  ([(.str 6 125780070525286)], (.tuple [.agg [(.int .i64 (.ofNat 2)), (.int .i64 (.ofNat 2)), (.bool false), (.bool true)], (.bool true)])),
  ([(.str 10 549960792254595094833510)], (.tuple [.agg [(.int .i64 (.ofNat 2)), (.int .i64 (.ofNat 2)), (.bool false), (.bool true)], (.bool true)])),
  ([(.str 4 1685221239)], (.tuple [.agg [(.int .i64 (.ofNat 2)), (.int .i64 (.ofNat 2)), (.bool false), (.bool true)], (.bool true)])),
  ([(.str 9 2221204159321386280033)], (.tuple [.agg [(.int .i64 (.ofNat 2)), (.int .i64 (.ofNat 2)), (.bool false), (.bool true)], (.bool true)])),
  ([(.str 9 2221204158208939418721)], (.tuple [.agg [(.int .i64 (.ofNat 2)), (.int .i64 (.ofNat 2)), (.bool false), (.bool true)], (.bool true)])),
  ([(.str 4 1852403562)], (.tuple [.agg [(.int .i64 (.ofNat 2)), (.int .i64 (.ofNat 2)), (.bool false), (.bool true)], (.bool true)]))]
theorem rows42_1_ok : alls (rowOk Try.prog 1000000 42) rows42_1 = true := by decide +kernel
def rows42_2 : List (List AV × AV) := [([(.str 5 500152038771)], (.tuple [.agg [(.int .i64 (.ofNat 3)), (.int .i64 (.ofNat 3)), (.bool false), (.bool true)], (.bool true)])),
  ([(.str 8 8391158787309068656)], (.tuple [.agg [(.int .i64 (.ofNat 3)), (.int .i64 (.ofNat 3)), (.bool false), (.bool true)], (.bool true)])),
  ([(.str 8 8391166444983971703)], (.tuple [.agg [(.int .i64 (.ofNat 3)), (.int .i64 (.ofNat 3)), (.bool false), (.bool true)], (.bool true)])),
  ([(.str 2 26217)], (.tuple [.agg [(.int .i64 (.ofNat 2)), (.int .i64 (.ofNat 3)), (.bool true), (.bool false)], (.bool true)])),
  ([(.str 2 29295)], (.tuple [.agg [(.int .i64 (.ofNat 1)), (.int .i64 (.ofNat 0)), (.bool true), (.bool false)], (.bool true)])),
  ([(.str 3 6581857)], (.tuple [.agg [(.int .i64 (.ofNat 1)), (.int .i64 (.ofNat 0)), (.bool true), (.bool false)], (.bool true)])),
  ([(.str 6 123615122321001)], (.tuple [.agg [(.int .i64 (.ofNat 2)), (.int .i64 (.ofNat 5)), (.bool true), (.bool false)], (.bool true)])),
  ([(.str 7 29382667542884198)], (.tuple [.agg [(.int .i64 (.ofNat 3)), (.int .i64 (.ofNat 3)), (.bool true), (.bool false)], (.bool true)])),
  ([(.str 3 7628140)], (.tuple [.agg [(.int .i64 (.ofNat 3)), (.int .i64 (.ofNat 3)), (.bool true), (.bool false)], (.bool true)]))]
theorem rows42_2_ok : alls (rowOk Try.prog 1000000 42) rows42_2 = true := by decide +kernel
def rows42_3 : List (List AV × AV) := [([(.str 4 1819042147)], (.tuple [.agg [(.int .i64 (.ofNat 1)), (.int .i64 (.ofNat 0)), (.bool false), (.bool false)], (.bool true)])),
  ([(.str 4 1818326629)], (.tuple [.agg [(.int .i64 (.ofNat 1)), (.int .i64 (.ofNat 1)), (.bool false), (.bool false)], (.bool true)])),
  ([(.str 5 435761734006)], (.tuple [.agg [(.int .i64 (.ofNat 1)), (.int .i64 (.ofNat 1)), (.bool false), (.bool false)], (.bool true)])),
  ([(.str 6 121398985585263)], (.tuple [.agg [(.int .i64 (.ofNat 1)), (.int .i64 (.ofNat 1)), (.bool false), (.bool false)], (.bool true)])),
  ([(.str 6 125823053032550)], (.tuple [.agg [(.int .i64 (.ofNat 1)), (.int .i64 (.ofNat 1)), (.bool false), (.bool false)], (.bool true)])),
  ([(.str 5 491496043109)], (.tuple [.agg [(.int .i64 (.ofNat 1)), (.int .i64 (.ofNat 1)), (.bool false), (.bool false)], (.bool true)])),
  ([(.str 7 29113321704808823)], (.tuple [.agg [(.int .i64 (.ofNat 1)), (.int .i64 (.ofNat 1)), (.bool false), (.bool false)], (.bool true)])),
  ([(.str 4 1868983913)], (.tuple [.agg [(.int .i64 (.ofNat 1)), (.int .i64 (.ofNat 1)), (.bool false), (.bool false)], (.bool true)])),
  ([(.str 3 7368552)], (.tuple [.agg [(.int .i64 (.ofNat 0)), (.int .i64 (.ofNat 0)), (.bool false), (.bool false)], (.bool false)]))]
theorem rows42_3_ok : alls (rowOk Try.prog 1000000 42) rows42_3 = true := by decide +kernel
def rows42 : List (List AV × AV) := [([(.str 5 482805445747)], (.tuple [.agg [(.int .i64 (.ofNat 1)), (.int .i64 (.ofNat 1)), (.bool false), (.bool true)], (.bool true)])),
  ([(.str 4 1953656691)], (.tuple [.agg [(.int .i64 (.ofNat 1)), (.int .i64 (.ofNat 1)), (.bool false), (.bool true)], (.bool true)])),
  ([(.str 5 495606460279)], (.tuple [.agg [(.int .i64 (.ofNat 1)), (.int .i64 (.ofNat 1)), (.bool false), (.bool true)], (.bool true)])),
  ([(.str 9 1852920348155730618726)], (.tuple [.agg [(.int .i64 (.ofNat 1)), (.int .i64 (.ofNat 1)), (.bool false), (.bool true)], (.bool true)])),
  ([(.str 8 7237970109983318380)], (.tuple [.agg [(.int .i64 (.ofNat 1)), (.int .i64 (.ofNat 1)), (.bool false), (.bool true)], (.bool true)])),
  ([(.str 3 7498084)], (.tuple [.agg [(.int .i64 (.ofNat 1)), (.int .i64 (.ofNat 1)), (.bool false), (.bool true)], (.bool true)])),
  ([(.str 6 125796982484846)], (.tuple [.agg [(.int .i64 (.ofNat 1)), (.int .i64 (.ofNat 1)), (.bool false), (.bool true)], (.bool true)])),
  ([(.str 6 132394084889971)], (.tuple [.agg [(.int .i64 (.ofNat 1)), (.int .i64 (.ofNat 1)), (.bool false), (.bool true)], (.bool true)])),
  ([(.str 8 7308604897068540258)], (.tuple [.agg [(.int .i64 (.ofNat 1)), (.int .i64 (.ofNat 1)), (.bool false), (.bool true)], (.bool true)])),
  ([(.str 7 29401359425167969)], (.tuple [.agg [(.int .i64 (.ofNat 1)), (.int .i64 (.ofNat 1)), (.bool false), (.bool true)], (.bool true)])),
  ([(.str 8 7237954630652291447)], (.tuple [.agg [(.int .i64 (.ofNat 1)), (.int .i64 (.ofNat 1)), (.bool false), (.bool true)], (.bool true)])),
  ([(.str 10 488440487847241790155110)], (.tuple [.agg [(.int .i64 (.ofNat 2)), (.int .i64 (.ofNat 2)), (.bool false), (.bool true)], (.bool true)])),
  ([(.str 6 125780070525286)], (.tuple [.agg [(.int .i64 (.ofNat 2)), (.int .i64 (.ofNat 2)), (.bool false), (.bool true)], (.bool true)])),
  ([(.str 10 549960792254595094833510)], (.tuple [.agg [(.int .i64 (.ofNat 2)), (.int .i64 (.ofNat 2)), (.bool false), (.bool true)], (.bool true)])),
  ([(.str 4 1685221239)], (.tuple [.agg [(.int .i64 (.ofNat 2)), (.int .i64 (.ofNat 2)), (.bool false), (.bool true)], (.bool true)])),
  ([(.str 9 2221204159321386280033)], (.tuple [.agg [(.int .i64 (.ofNat 2)), (.int .i64 (.ofNat 2)), (.bool false), (.bool true)], (.bool true)])),
  ([(.str 9 2221204158208939418721)], (.tuple [.agg [(.int .i64 (.ofNat 2)), (.int .i64 (.ofNat 2)), (.bool false), (.bool true)], (.bool true)])),
  ([(.str 4 1852403562)], (.tuple [.agg [(.int .i64 (.ofNat 2)), (.int .i64 (.ofNat 2)), (.bool false), (.bool true)], (.bool true)])),
  ([(.str 5 500152038771)], (.tuple [.agg [(.int .i64 (.ofNat 3)), (.int .i64 (.ofNat 3)), (.bool false), (.bool true)], (.bool true)])),
  ([(.str 8 8391158787309068656)], (.tuple [.agg [(.int .i64 (.ofNat 3)), (.int .i64 (.ofNat 3)), (.bool false), (.bool true)], (.bool true)])),
  ([(.str 8 8391166444983971703)], (.tuple [.agg [(.int .i64 (.ofNat 3)), (.int .i64 (.ofNat 3)), (.bool false), (.bool true)], (.bool true)])),
  ([(.str 2 26217)], (.tuple [.agg [(.int .i64 (.ofNat 2)), (.int .i64 (.ofNat 3)), (.bool true), (.bool false)], (.bool true)])),
  ([(.str 2 29295)], (.tuple [.agg [(.int .i64 (.ofNat 1)), (.int .i64 (.ofNat 0)), (.bool true), (.bool false)], (.bool true)])),
  ([(.str 3 6581857)], (.tuple [.agg [(.int .i64 (.ofNat 1)), (.int .i64 (.ofNat 0)), (.bool true), (.bool false)], (.bool true)])),
  ([(.str 6 123615122321001)], (.tuple [.agg [(.int .i64 (.ofNat 2)), (.int .i64 (.ofNat 5)), (.bool true), (.bool false)], (.bool true)])),
  ([(.str 7 29382667542884198)], (.tuple [.agg [(.int .i64 (.ofNat 3)), (.int .i64 (.ofNat 3)), (.bool true), (.bool false)], (.bool true)])),
  ([(.str 3 7628140)], (.tuple [.agg [(.int .i64 (.ofNat 3)), (.int .i64 (.ofNat 3)), (.bool true), (.bool false)], (.bool true)])),
  ([(.str 4 1819042147)], (.tuple [.agg [(.int .i64 (.ofNat 1)), (.int .i64 (.ofNat 0)), (.bool false), (.bool false)], (.bool true)])),
  ([(.str 4 1818326629)], (.tuple [.agg [(.int .i64 (.ofNat 1)), (.int .i64 (.ofNat 1)), (.bool false), (.bool false)], (.bool true)])),
  ([(.str 5 435761734006)], (.tuple [.agg [(.int .i64 (.ofNat 1)), (.int .i64 (.ofNat 1)), (.bool false), (.bool false)], (.bool true)])),
  ([(.str 6 121398985585263)], (.tuple [.agg [(.int .i64 (.ofNat 1)), (.int .i64 (.ofNat 1)), (.bool false), (.bool false)], (.bool true)])),
  ([(.str 6 125823053032550)], (.tuple [.agg [(.int .i64 (.ofNat 1)), (.int .i64 (.ofNat 1)), (.bool false), (.bool false)], (.bool true)])),
  ([(.str 5 491496043109)], (.tuple [.agg [(.int .i64 (.ofNat 1)), (.int .i64 (.ofNat 1)), (.bool false), (.bool false)], (.bool true)])),
  ([(.str 7 29113321704808823)], (.tuple [.agg [(.int .i64 (.ofNat 1)), (.int .i64 (.ofNat 1)), (.bool false), (.bool false)], (.bool true)])),
  ([(.str 4 1868983913)], (.tuple [.agg [(.int .i64 (.ofNat 1)), (.int .i64 (.ofNat 1)), (.bool false), (.bool false)], (.bool true)])),
  ([(.str 3 7368552)], (.tuple [.agg [(.int .i64 (.ofNat 0)), (.int .i64 (.ofNat 0)), (.bool false), (.bool false)], (.bool false)]))]
theorem rows42_ok : ∀ q ∈ rows42, ∃ n, rowOk Try.prog n 42 q = true := by
  intro q hq
  have hq : q ∈ rows42_0 ++ rows42_1 ++ rows42_2 ++ rows42_3 := hq
  simp only [List.mem_append] at hq
  rcases hq with ((h | h) | h) | h
  · exact ⟨1000000, alls_mem rows42_0_ok q h⟩
  · exact ⟨1000000, alls_mem rows42_1_ok q h⟩
  · exact ⟨1000000, alls_mem rows42_2_ok q h⟩
  · exact ⟨1000000, alls_mem rows42_3_ok q h⟩
def memo : Memo := [(42, rows42)]
theorem memo_ok : MemoOk Try.prog memo := by
  intro f l h
  simp only [memo, List.mem_cons, List.not_mem_nil, or_false, Prod.mk.injEq] at h
  obtain ⟨rfl, rfl⟩ := h
  · exact ⟨by decide +kernel, rows42_ok⟩
end Go.Proofs.Ytlnjikneepgpaaa.Fin
