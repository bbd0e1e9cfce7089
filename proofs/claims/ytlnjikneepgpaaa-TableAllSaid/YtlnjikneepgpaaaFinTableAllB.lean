/- What a case of the law TableAll runs. -/
import Derived.Test.YtlnjikneepgpaaaTabEv
import Derived.Test.YtlnjikneepgpaaaEvMemo
import Derived.Test.YtlnjikneepgpaaaEvRow
import Derived.WalkKit
namespace Go.Proofs.Ytlnjikneepgpaaa.Fin
open Go.Proofs.Ytlnjikneepgpaaa.Fast Go.RowKit Go.Proofs.Ytlnjikneepgpaaa.G
set_option linter.unusedVariables false
set_option maxRecDepth 1000000

def fRows : List FRow := [⟨5, 482805445747, 1, 1, false, true, true⟩,
  ⟨4, 1953656691, 1, 1, false, true, true⟩,
  ⟨5, 495606460279, 1, 1, false, true, true⟩,
  ⟨9, 1852920348155730618726, 1, 1, false, true, true⟩,
  ⟨8, 7237970109983318380, 1, 1, false, true, true⟩,
  ⟨3, 7498084, 1, 1, false, true, true⟩,
  ⟨6, 125796982484846, 1, 1, false, true, true⟩,
  ⟨6, 132394084889971, 1, 1, false, true, true⟩,
  ⟨8, 7308604897068540258, 1, 1, false, true, true⟩,
  ⟨7, 29401359425167969, 1, 1, false, true, true⟩,
  ⟨8, 7237954630652291447, 1, 1, false, true, true⟩,
  ⟨10, 488440487847241790155110, 2, 2, false, true, true⟩,
  ⟨6, 125780070525286, 2, 2, false, true, true⟩,
  ⟨10, 549960792254595094833510, 2, 2, false, true, true⟩,
  ⟨4, 1685221239, 2, 2, false, true, true⟩,
  ⟨9, 2221204159321386280033, 2, 2, false, true, true⟩,
  ⟨9, 2221204158208939418721, 2, 2, false, true, true⟩,
  ⟨4, 1852403562, 2, 2, false, true, true⟩,
  ⟨5, 500152038771, 3, 3, false, true, true⟩,
  ⟨8, 8391158787309068656, 3, 3, false, true, true⟩,
  ⟨8, 8391166444983971703, 3, 3, false, true, true⟩,
  ⟨2, 26217, 2, 3, true, false, true⟩,
  ⟨2, 29295, 1, 0, true, false, true⟩,
  ⟨3, 6581857, 1, 0, true, false, true⟩,
  ⟨6, 123615122321001, 2, 5, true, false, true⟩,
  ⟨7, 29382667542884198, 3, 3, true, false, true⟩,
  ⟨3, 7628140, 3, 3, true, false, true⟩,
  ⟨4, 1819042147, 1, 0, false, false, true⟩,
  ⟨4, 1818326629, 1, 1, false, false, true⟩,
  ⟨5, 435761734006, 1, 1, false, false, true⟩,
  ⟨6, 121398985585263, 1, 1, false, false, true⟩,
  ⟨6, 125823053032550, 1, 1, false, false, true⟩,
  ⟨5, 491496043109, 1, 1, false, false, true⟩,
  ⟨7, 29113321704808823, 1, 1, false, false, true⟩,
  ⟨4, 1868983913, 1, 1, false, false, true⟩,
  ⟨3, 7368552, 0, 0, false, false, false⟩,
  ⟨0, 0, 0, 0, false, false, false⟩]
theorem fRows_ok : alls FRow.good fRows = true := by decide +kernel
def keysL : List (Nat × Nat) := tabKeys
def namesL : List AV := [.str 7 29401359425167969, .str 9 2221204158208939418721, .str 9 2221204159321386280033, .str 3 6581857, .str 8 7308604897068540258, .str 4 1819042147, .str 3 7498084, .str 5 491496043109, .str 4 1818326629, .str 6 125780070525286, .str 10 549960792254595094833510, .str 10 488440487847241790155110, .str 9 1852920348155730618726, .str 6 125823053032550, .str 7 29382667542884198, .str 2 26217, .str 4 1868983913, .str 6 123615122321001, .str 4 1852403562, .str 8 7237970109983318380, .str 3 7628140, .str 6 125796982484846, .str 2 29295, .str 6 121398985585263, .str 8 8391158787309068656, .str 4 1953656691, .str 5 482805445747, .str 5 500152038771, .str 6 132394084889971, .str 5 435761734006, .str 7 29113321704808823, .str 8 7237954630652291447, .str 4 1685221239, .str 8 8391166444983971703, .str 5 495606460279]
/-- the reference's Names: run once, kept -/
def nAns : RowAns := ⟨namesL, 38, 0, 0, 0, 35, 35, 1⟩
theorem nAns_ok : rowAns nAns (call Try.prog (fun _ => none) 1000000 40 [] Heap.emp) = true := by decide +kernel
theorem nAns_flat : alls (flatN 2) nAns.l = true := by decide +kernel
theorem namesL_ok : namesL = namesS.map fun s => .str s.length (bitsOf s) := by kernel_rfl
def keysV : List (Nat × Nat) := [(5, 482805445747), (4, 1953656691), (5, 495606460279), (9, 1852920348155730618726), (8, 7237970109983318380), (3, 7498084), (6, 125796982484846), (6, 132394084889971), (8, 7308604897068540258), (7, 29401359425167969), (8, 7237954630652291447), (10, 488440487847241790155110), (6, 125780070525286), (10, 549960792254595094833510), (4, 1685221239), (9, 2221204159321386280033), (9, 2221204158208939418721), (4, 1852403562), (5, 500152038771), (8, 8391158787309068656), (8, 8391166444983971703), (2, 26217), (2, 29295), (3, 6581857), (6, 123615122321001), (7, 29382667542884198), (3, 7628140), (4, 1819042147), (4, 1818326629), (5, 435761734006), (6, 121398985585263), (6, 125823053032550), (5, 491496043109), (7, 29113321704808823), (4, 1868983913), (0, 0)]
theorem keysV_ok : alls (fun q => amongA keysV q.1 q.2) tabKeys = true := by decide +kernel
def sCases : List AV := .notin keysV :: keysV.map fun q => .str q.1 q.2
theorem s_cases (s : ByteArray) (h : s.size ≤ 140737488351232) : ∃ a ∈ sCases, ∀ π σ, VR π σ a (.string s) := by
  by_cases hm : (s.data.toList.length, bitsOf s.data.toList) ∈ keysV
  · exact ⟨.str s.data.toList.length (bitsOf s.data.toList), List.mem_cons_of_mem _ (List.mem_map.2 ⟨_, hm, rfl⟩), fun π σ => .str s⟩
  · exact ⟨.notin keysV, List.mem_cons_self, fun π σ => .notin _ _ (fun q hq e => hm (by rw [← e.1, ← e.2]; exact hq)) (by omega)⟩
noncomputable def taGo (s : AV) (r : Nat) : Bool := isTrue (call Try.prog (memoK memo (rowK 40 nAns (tabK fRows tabKeys namesL (placeK 27 (tab1 35 r))))) 1000000 12 [s, .sym 0] Heap.emp)
end Go.Proofs.Ytlnjikneepgpaaa.Fin
