/- The law TableAll: each case of it, and with them its walk. -/
import Derived.Test.YtlnjikneepgpaaaFinTableAll0
import Derived.Test.YtlnjikneepgpaaaFinTableAll1
import Derived.Test.YtlnjikneepgpaaaFinTableAll2
import Derived.Test.YtlnjikneepgpaaaFinTableAll3
import Derived.Test.YtlnjikneepgpaaaFinTableAll4
import Derived.Test.YtlnjikneepgpaaaFinTableAll5
import Derived.Test.YtlnjikneepgpaaaFinTableAll6
import Derived.Test.YtlnjikneepgpaaaFinTableAll7
import Derived.Test.YtlnjikneepgpaaaFinTableAll8
import Derived.Test.YtlnjikneepgpaaaFinTableAll9
import Derived.Test.YtlnjikneepgpaaaFinTableAll10
import Derived.Test.YtlnjikneepgpaaaFinTableAll11
import Derived.Test.YtlnjikneepgpaaaFinTableAll12
namespace Go.Proofs.Ytlnjikneepgpaaa.Fin
open Go.Proofs.Ytlnjikneepgpaaa.Fast Go.RowKit Go.Proofs.Ytlnjikneepgpaaa.G
set_option linter.unusedVariables false
set_option maxRecDepth 1000000

theorem alls_cons {F : AV → Bool} {x : AV} {l : List AV} (h1 : F x = true) (h2 : alls F l = true) : alls F (x :: l) = true := by
  show band (F x) (alls F l) = true
  rw [h1, h2]
  rfl
theorem ta_all0 : alls (fun s => alls (taGo s) (List.range 35)) [.notin keysV, .str 5 482805445747, .str 4 1953656691, .str 5 495606460279, .str 9 1852920348155730618726, .str 8 7237970109983318380, .str 3 7498084, .str 6 125796982484846, .str 6 132394084889971, .str 8 7308604897068540258, .str 7 29401359425167969, .str 8 7237954630652291447, .str 10 488440487847241790155110, .str 6 125780070525286, .str 10 549960792254595094833510, .str 4 1685221239, .str 9 2221204159321386280033, .str 9 2221204158208939418721, .str 4 1852403562, .str 5 500152038771, .str 8 8391158787309068656, .str 8 8391166444983971703, .str 2 26217, .str 2 29295, .str 3 6581857, .str 6 123615122321001, .str 7 29382667542884198, .str 3 7628140, .str 4 1819042147, .str 4 1818326629, .str 5 435761734006, .str 6 121398985585263, .str 6 125823053032550, .str 5 491496043109, .str 7 29113321704808823, .str 4 1868983913, .str 0 0] = true := (alls_cons ta_0 (alls_cons ta_1 (alls_cons ta_2 (alls_cons ta_3 (alls_cons ta_4 (alls_cons ta_5 (alls_cons ta_6 (alls_cons ta_7 (alls_cons ta_8 (alls_cons ta_9 (alls_cons ta_10 (alls_cons ta_11 (alls_cons ta_12 (alls_cons ta_13 (alls_cons ta_14 (alls_cons ta_15 (alls_cons ta_16 (alls_cons ta_17 (alls_cons ta_18 (alls_cons ta_19 (alls_cons ta_20 (alls_cons ta_21 (alls_cons ta_22 (alls_cons ta_23 (alls_cons ta_24 (alls_cons ta_25 (alls_cons ta_26 (alls_cons ta_27 (alls_cons ta_28 (alls_cons ta_29 (alls_cons ta_30 (alls_cons ta_31 (alls_cons ta_32 (alls_cons ta_33 (alls_cons ta_34 (alls_cons ta_35 (alls_cons ta_36 rfl)))))))))))))))))))))))))))))))))))))
theorem ta_all (s : AV) (hs : s ∈ sCases) (r : Nat) (h : r < 35) : taGo s r = true := alls_mem (alls_mem ta_all0 s hs) r (List.mem_range.2 h)
theorem tableAll_walk (a0 : ByteArray) (a1 : Int) (w : World) (w0 : a0.size ≤ 140737488351232) (w1 : (Lit.int .i64 a1).wf = true) : Calls Try.prog 12 #[Value.string a0, Value.int .i64 a1] w fun e w' => e = .returned (.bool true) ∧ Below w.heap.size w w' := by
  obtain ⟨r, h, e⟩ := mod_cases a1 35 (by decide)
  obtain ⟨s, hs, hs2⟩ := s_cases a0 w0
  exact call_true (π := fun i => .int .i64 ((fun _ => a1) i)) (fun _ => rfl) (memoK_ok (fun _ => rfl) names_ok mixed memo_ok (rowK_ok (fun _ => rfl) names_ok mixed ⟨_, _, Try.func40, rfl⟩ nAns_ok nAns_flat (tabK_ok fRows_ok rfl namesL_ok (placeK_ok place_ok (fun _ => w1) (tab1_ok (by decide) (by decide) e))))) names_ok mixed (fun fn h => by rw [Try.func12] at h; obtain rfl := Option.some.inj h; rfl) (.cons _ _ _ _ (hs2 _ _) (.cons _ _ _ _ (.sym 0) .nil)) (ta_all s hs r h)
end Go.Proofs.Ytlnjikneepgpaaa.Fin
