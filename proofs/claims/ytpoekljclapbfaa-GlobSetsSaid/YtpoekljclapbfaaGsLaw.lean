/- wainwrightlaw03.GlobSets: the walk of the law, for every list of numbers, every text. -/
import Derived.Test.YtpoekljclapbfaaGsMtch
import Derived.Deep.CutBlock
import Derived.Deep.DeepCutAuto
import Derived.Test.YtpoekljclapbfaaPx8
import Derived.Test.YtpoekljclapbfaaPx9
namespace Go.Proofs.Ytpoekljclapbfaa.Gs
open Go.RowKit Go.Proofs.Ytpoekljclapbfaa.PR Go.Proofs.Ytpoekljclapbfaa.G Go.Proofs.Ytpoekljclapbfaa.P0 Go.Proofs.YtpoekljclapbfaaW.PrintWords Go.Proofs.YtpoekljclapbfaaW.PrintLast

set_option maxHeartbeats 4000000 in
set_option maxRecDepth 100000 in
theorem match_nil (s : ByteArray) (hs : s.size < 1099511) (w : World) :
    Calls Try.prog 19 #[.slice none 0 0, .string s] w fun e w' => e = .returned (.bool (mat [] s.data.toList)) ∧ Below w.heap.size w w' := by
  have hw1 : IntKind.i64.wrap ((s.size : Int) + 1) = ((s.size + 1 : Nat) : Int) := IntWalk.i64_in _ (by omega)
  go_enter Try.func19, Try.ntmps19
  have hsW := World.size_alloc w (.cells #[.slice none 0 0, .slice none 0 0] 60)
  have HSW := Lib.hid hsW
  clear hsW
  go_wp2_with (at_make; go_must (refine wpList_mk rfl _ rfl s.size rfl hs ?_); intro w1 hg1 hb1 hlt1; rw [HSW.out] at hg1 hb1 hlt1 ⊢; have HM0 := Lib.hid (MtR.start hb1 hg1); have c0 := cell_of_block (j := 0) ((hb1.block w.heap.size (by omega)).trans (heap_alloc_last w _)); have f0 := frozen_of_block (j := 0) ((hb1.block w.heap.size (by omega)).trans (heap_alloc_last w _)); have c1 := bool_cell hg1 0 (Nat.zero_le _); have f1 := frozen_of_block (j := 0) hg1; clear hg1 hb1 hlt1)
  clear c0 f0 c1 f1
  go_loopw [6] (fun v6 wx => ∃ (g2 : Nat), v6 = .int .i64 0 ∧ Hid (MtR w wx s.size g2 (fun k => tab [] s.data.toList 0 k))) (fun _ _ => 0)
  case atStart =>
    refine ⟨w.heap.size + 1, rfl, Lib.hid ?_⟩
    have e : bools s.size (fun k => decide (k = 0)) = bools s.size (fun k => tab [] s.data.toList 0 k) := bools_congr (fun k hk => (tab_none [] _ k hk).symm)
    exact ⟨HM0.out.hat, by rw [← e]; exact HM0.out.hg, HM0.out.lt, HM0.out.hb⟩
  case round =>
    obtain ⟨g2, rfl, HM⟩ := hrel
    have c0 := cell_of_block (j := 0) HM.out.hat
    have c1 := bool_cell HM.out.hg s.size (Nat.le_refl _)
    have hfin : tab [] s.data.toList 0 s.size = mat [] s.data.toList := by
      unfold tab
      rw [show s.size = s.data.toList.length from rfl, List.take_length]; rfl
    simp only [hfin] at c1
    clear hfin
    go_wp2
    go_ret
    exact ⟨rfl, HM.out.hb⟩

theorem match_row (ts : List Pc) (v : Value) (base : Nat) (s : ByteArray) (hs : s.size < 1099511) (hn : ts.length < 1099511) (w : World) (h : w.ownsRow base 45 258 v ts.length (rowsOf ts)) :
    Calls Try.prog 19 #[v, .string s] w fun e w' => e = .returned (.bool (mat ts s.data.toList)) ∧ Below w.heap.size w w' := by
  rcases h.2 with ⟨rfl, h0⟩ | ⟨g, cap, cur, rfl, _⟩
  · obtain rfl := List.length_eq_zero_iff.mp h0
    exact match_nil s hs w
  · exact match_calls g cap ts s hs hn w (Lib.hid (PRow.of_row h))
theorem pieces_len (p : List UInt8) : (piecesOf p).length ≤ p.length := by
  have : ∀ (n : Nat) (l : List UInt8), l.length < n → (pcs n l).length ≤ l.length := by
    intro n
    induction n with
    | zero => intro l h; omega
    | succ n ih =>
      intro l h
      cases l with
      | nil => simp [pcs]
      | cons c r =>
        have hr := ih r (by simp at h; omega)
        simp only [pcs]
        split
        · simp; exact hr
        · split
          · simp; exact hr
          · split
            · split
              · rename_i st r' hg
                have hl := glo_len hg
                have := ih r' (by rw [hl] at h; simp at h; omega)
                rw [hl]; simp; omega
              · simp; exact hr
            · have hl := oneB_len c r
              have := ih _ (by simp at h hl ⊢; omega : (oneB (c :: r)).2.length < n)
              simp at hl ⊢; omega
  exact this _ _ (Nat.lt_succ_self _)

set_option maxHeartbeats 4000000 in
set_option maxRecDepth 100000 in
theorem rmatch_calls (p s : ByteArray) (hp : p.size < 1099511) (hs : s.size < 1099511) (w : World) :
    Calls Try.prog 10 #[.string p, .string s] w fun e w' => e = .returned (.bool (matchB p.data.toList s.data.toList)) ∧ Below w.heap.size w w' := by
  obtain ⟨hd, hhd⟩ : ∃ b, b = hides p.data.toList s.data.toList := ⟨_, rfl⟩
  have HHD := Lib.hid hhd
  clear hhd
  have HPC := Lib.hid (fun w1 => pieces_calls p hp w1)
  have HN := Lib.hid (show (piecesOf p.data.toList).length < 1099511 from Nat.lt_of_le_of_lt (pieces_len _) hp)
  go_enter Try.func10, Try.ntmps10
  go_upto_region 1 with fail
  go_cut [38] (fun v38 wx => v38 = .bool hd ∧ wx = w)
  case first =>
    have ne : ∀ (c d : UInt8) (n : Int), (d.toNat : Int) = n → ¬ c = d → ((c.toNat : Int) == n) = false := fun c d n h1 h2 => beq_eq_false_iff_ne.mpr (neC d n h1 h2)
    have key : ∀ (x : ByteArray) (c : UInt8) (r : List UInt8), x.data.toList = c :: r → ∃ h : 0 < x.size, x[0]'h = c := fun x c r h => at_drop (i := 0) (by simpa using h)
    have key1 : ∀ (x : ByteArray) (c d : UInt8) (r : List UInt8), x.data.toList = c :: d :: r → ∃ h : 1 < x.size, x[1]'h = d := fun x c d r h => at_drop (i := 1) (by rw [h]; rfl)
    have HNE := Lib.hid ne
    clear ne
    cases hsl : s.data.toList with
    | nil =>
      have hz : s.size = 0 := by show s.data.toList.length = 0; rw [hsl]; rfl
      have g1 : ¬ ((s.size : Int) > 0) := by omega
      have hdf : hd = false := by rw [HHD.out, hsl]; simp [hides, begins]
      subst hdf
      clear key key1 hsl hz
      go_wp2
      go_meet
      exact ⟨rfl, rfl⟩
    | cons d s' =>
      obtain ⟨h0, hx⟩ := key s d s' hsl
      have g1 : ((s.size : Int) > 0) := by omega
      by_cases hd46 : d = 46
      · have e1 : (((s[0]'h0).toNat : Int) == 46) = true := by rw [hx, hd46]; rfl
        cases hpl : p.data.toList with
        | nil =>
          have hz : p.size = 0 := by show p.data.toList.length = 0; rw [hpl]; rfl
          have g2 : ¬ ((p.size : Int) > 0) := by omega
          have g3 : ¬ ((p.size : Int) > 1) := by omega
          have hdf : hd = true := by rw [HHD.out, hsl, hpl, hd46]; simp [hides, begins]
          subst hdf
          clear key key1 hsl hz hpl hx hd46
          go_wp2
          go_meet
          exact ⟨rfl, rfl⟩
        | cons c r =>
          obtain ⟨h1, hc⟩ := key p c r hpl
          have g2 : ((p.size : Int) > 0) := by omega
          by_cases hc46 : c = 46
          · have e2 : (((p[0]'h1).toNat : Int) == 46) = true := by rw [hc, hc46]; rfl
            have hdf : hd = false := by rw [HHD.out, hsl, hpl, hd46, hc46]; simp [hides, begins]
            subst hdf
            clear key key1 hsl hpl hx hd46 hc hc46
            go_wp2
            go_meet
            exact ⟨rfl, rfl⟩
          · have e2 : (((p[0]'h1).toNat : Int) == 46) = false := by rw [hc]; exact HNE.out c 46 46 rfl hc46
            cases r with
            | nil =>
              have hz : p.size = 1 := by show p.data.toList.length = 1; rw [hpl]; rfl
              have g3 : ¬ ((p.size : Int) > 1) := by omega
              have hdf : hd = true := by rw [HHD.out, hsl, hpl, hd46]; simp [hides, begins]; exact fun e => hc46 e.symm
              subst hdf
              clear key key1 hsl hpl hx hd46 hc hc46 hz
              go_wp2
              go_meet
              exact ⟨rfl, rfl⟩
            | cons x r =>
              obtain ⟨h2, hxx⟩ := key1 p c x r hpl
              have g3 : ((p.size : Int) > 1) := by omega
              by_cases hc92 : c = 92
              · have e3 : (((p[0]'h1).toNat : Int) == 92) = true := by rw [hc, hc92]; rfl
                by_cases hx46 : x = 46
                · have e4 : (((p[1]'h2).toNat : Int) == 46) = true := by rw [hxx, hx46]; rfl
                  have hdf : hd = false := by rw [HHD.out, hsl, hpl, hd46, hc92, hx46]; simp [hides, begins]
                  subst hdf
                  clear key key1 hsl hpl hx hd46 hc hc46 hc92 hx46 hxx
                  go_wp2
                  go_meet
                  exact ⟨rfl, rfl⟩
                · have e4 : (((p[1]'h2).toNat : Int) == 46) = false := by rw [hxx]; exact HNE.out x 46 46 rfl hx46
                  have hdf : hd = true := by rw [HHD.out, hsl, hpl, hd46, hc92]; simp [hides, begins]; exact fun e => hx46 e.symm
                  subst hdf
                  clear key key1 hsl hpl hx hd46 hc hc46 hc92 hx46 hxx
                  go_wp2
                  go_meet
                  exact ⟨rfl, rfl⟩
              · have e3 : (((p[0]'h1).toNat : Int) == 92) = false := by rw [hc]; exact HNE.out c 92 92 rfl hc92
                have hdf : hd = true := by rw [HHD.out, hsl, hpl, hd46]; simp [hides, begins]; exact ⟨fun e => hc46 e.symm, Or.inl (fun e => hc92 e.symm)⟩
                subst hdf
                clear key key1 hsl hpl hx hd46 hc hc46 hc92 hxx
                go_wp2
                go_meet
                exact ⟨rfl, rfl⟩
      · have e1 : (((s[0]'h0).toNat : Int) == 46) = false := by rw [hx]; exact HNE.out d 46 46 rfl hd46
        have hdf : hd = false := by rw [HHD.out, hsl]; simp [hides, begins]; exact fun e => absurd e.symm hd46
        subst hdf
        clear key key1 hsl hx hd46
        go_wp2
        go_meet
        exact ⟨rfl, rfl⟩
  case rest =>
    obtain ⟨rfl, rfl⟩ := hcut
    cases hd with
    | true =>
      go_wp2
      go_ret
      exact ⟨by unfold matchB; rw [← HHD.out]; rfl, Below.refl _ _⟩
    | false =>
      go_wp2_with (first
        | (go_at_call 20; refine (HPC.out _).mono ?_; rintro e w1 ⟨v, rfl, hown, hb1⟩; have HO := Lib.hid hown; have HB1 := Lib.hid hb1; clear hown hb1)
        | (go_at_call 19; refine (match_row _ _ _ s hs HN.out _ HO.out).mono ?_; rintro e w2 ⟨rfl, hb2⟩; have HB2 := Lib.hid (HB1.out.trans (hb2.mono HB1.out.size)); clear hb2))
      go_ret
      exact ⟨by unfold matchB; rw [← HHD.out]; rfl, HB2.out⟩
end Go.Proofs.Ytpoekljclapbfaa.Gs

namespace Go.Proofs.Ytpoekljclapbfaa.Gs
open Go.RowKit Go.Proofs.Ytpoekljclapbfaa.PR Go.Proofs.Ytpoekljclapbfaa.G Go.Proofs.Ytpoekljclapbfaa.P0 Go.Proofs.YtpoekljclapbfaaW.PrintWords Go.Proofs.YtpoekljclapbfaaW.PrintLast

theorem strOfNums_bytes (l : List UInt8) : strOfNums (l.map (fun c => (c.toNat : Int))) = ⟨l.toArray⟩ := by
  unfold strOfNums
  congr 2
  rw [List.map_map]
  conv => rhs; rw [← List.map_id l]
  exact List.map_congr_left (fun c _ => by simp)
theorem rplain_calls (p : ByteArray) (hp : p.size < 1099511) (w : World) :
    Calls Try.prog 14 #[.string p] w fun e w' => e = .returned (.string ⟨(plainL p.data.toList).toArray⟩) ∧ Below w.heap.size w w' := by
  have h := plain_l0 p (by omega) p.size 0 (p.size + 1) [] (by omega) (Nat.le_refl _) (Nat.le_refl _)
  rw [List.nil_append, List.drop_zero, strOfNums_bytes] at h
  exact wainwrightref03_Plain.calls (p.size + 1) p _ w h
theorem gplain_calls (p : ByteArray) (hp : p.size < 1099511) (w : World) :
    Calls Try.prog 13 #[.string p] w fun e w' => e = .returned (.string ⟨(plainL p.data.toList).toArray⟩) ∧ Below w.heap.size w w' :=
  glob_Plain.calls p _ w (by unfold glob_Plain.f; rw [if_pos (by omega)])
theorem kindR_zero (t : Pc) : decide (t.kind ≠ 0) = decide (t.kindR ≠ 0) := by cases t <;> rfl
theorem magic_kinds (p : List UInt8) : magicB p = (piecesOf p).any (fun t => decide (t.kindR ≠ 0)) := by
  unfold magicB
  congr 1
  funext t
  exact kindR_zero t

/-- The first ones are bytes. -/
def Bytes (ts : List Pc) (i : Nat) : Prop := (ts.take i).any (fun t => decide (t.kindR ≠ 0)) = false
theorem Bytes.zero (ts : List Pc) : Bytes ts 0 := rfl
theorem Bytes.succ {ts : List Pc} {i : Nat} {x : Pc} (h : Bytes ts i) (hx : ts[i]? = some x) (hk : x.kindR = 0) : Bytes ts (i + 1) := by
  unfold Bytes at *
  rw [take_snoc ts i x hx, List.any_append, h]
  simp [hk]
theorem Bytes.stop {ts : List Pc} {i : Nat} {x : Pc} (hx : ts[i]? = some x) (hk : x.kindR ≠ 0) : ts.any (fun t => decide (t.kindR ≠ 0)) = true := by
  rw [List.any_eq_true]
  exact ⟨x, List.mem_of_getElem? hx, by simp [hk]⟩
theorem Bytes.all {ts : List Pc} (h : Bytes ts ts.length) : ts.any (fun t => decide (t.kindR ≠ 0)) = false := by
  unfold Bytes at h
  rwa [List.take_length] at h
set_option maxHeartbeats 4000000 in
set_option maxRecDepth 100000 in
theorem rmagic_calls (p : ByteArray) (hp : p.size < 1099511) (w : World) :
    Calls Try.prog 12 #[.string p] w fun e w' => e = .returned (.bool (magicB p.data.toList)) ∧ Below w.heap.size w w' := by
  obtain ⟨q, hq⟩ : ∃ q, q = magicB p.data.toList := ⟨_, rfl⟩
  rw [← hq]
  rw [magic_kinds] at hq
  obtain ⟨ts, hts⟩ : ∃ ts, ts = piecesOf p.data.toList := ⟨_, rfl⟩
  have hlen : ts.length < 1099511 := by rw [hts]; exact Nat.lt_of_le_of_lt (pieces_len _) hp
  have HPC := Lib.hid (fun w1 => pieces_calls p hp w1)
  rw [← hts] at HPC hq
  have HQ := Lib.hid hq
  clear hts hq
  go_enter Try.func12, Try.ntmps12
  go_upto_block 0 with (go_at_call 20; refine (HPC.out _).mono ?_; rintro e w1 ⟨v, rfl, hown, hb1⟩; have HO := Lib.hid hown; have HB1 := Lib.hid hb1; clear hown hb1)
  obtain ⟨_, hv⟩ := HO.out
  rcases hv with ⟨rfl, h0⟩ | ⟨g, cap, cur, rfl, _⟩
  · obtain rfl := List.length_eq_zero_iff.mp h0
    go_wp2
    go_loopw [4] (fun v4 wx => v4 = .int .i64 0 ∧ wx = w1) (fun _ _ => 0)
    case atStart => exact ⟨rfl, rfl⟩
    case round =>
      obtain ⟨rfl, rfl⟩ := hrel
      go_wp2
      go_ret
      exact ⟨by rw [HQ.out]; rfl, HB1.out⟩
  · have HP := Lib.hid (PRow.of_row HO.out)
    obtain ⟨nL, hnL⟩ : ∃ nL, nL = ts.length := ⟨_, rfl⟩
    rw [← hnL]
    have HNL := Lib.hid (show nL = ts.length ∧ nL < 1099511 by omega)
    clear hnL hlen
    go_wp2
    go_loopw [4] (fun v4 wx => ∃ i : Nat, i ≤ nL ∧ v4 = .int .i64 i ∧ wx = w1 ∧ Hid (Bytes ts i)) (fun v _ => nL - (intOf v).toNat)
    case atStart => exact ⟨0, Nat.zero_le _, rfl, rfl, Lib.hid (Bytes.zero ts)⟩
    case round =>
      obtain ⟨i, hi, rfl, rfl, HT⟩ := hrel
      by_cases hi2 : i < nL
      · have k1 : ((i : Int) < (nL : Int)) := by omega
        have hi1 : i + 1 ≤ nL := hi2
        obtain ⟨x, hx⟩ : ∃ x, ts[i]? = some x := ⟨_, List.getElem?_eq_getElem (by have := HNL.out; omega)⟩
        have HX := Lib.hid hx
        have ck := HP.out.kind i x hx
        obtain ⟨kd, hkd⟩ : ∃ kd, kd = x.kindR := ⟨_, rfl⟩
        rw [← hkd] at ck
        have HKD := Lib.hid hkd
        clear hkd hx hi2
        by_cases hk : kd = 0
        · have hk0 : (kd == 0) = true := by rw [hk]; rfl
          have HK := Lib.hid hk
          clear hk
          have hwi : wrap64 ((i : Int) + 1) = ((i + 1 : Nat) : Int) := by unfold wrap64; have := HNL.out; omega
          go_wp2
          rw [hwi]
          exact ⟨⟨i + 1, hi1, rfl, by first | rfl | trivial, Lib.hid (HT.out.succ HX.out (by rw [← HKD.out]; exact HK.out))⟩, Nat.sub_lt_sub_left hi1 (Nat.lt_succ_self i)⟩
        · have hk0 : (kd == 0) = false := beq_eq_false_iff_ne.mpr hk
          have HK := Lib.hid hk
          clear hk
          go_wp2
          go_ret
          refine ⟨?_, HB1.out⟩
          have : q = true := by rw [HQ.out]; exact Bytes.stop HX.out (by rw [← HKD.out]; exact HK.out)
          rw [this]
          rfl
      · obtain rfl : i = nL := by omega
        clear hi2
        go_wp2
        go_ret
        refine ⟨?_, HB1.out⟩
        have : q = false := by rw [HQ.out]; exact Bytes.all (by rw [← HNL.out.1]; exact HT.out)
        rw [this]
        rfl
end Go.Proofs.Ytpoekljclapbfaa.Gs

namespace Go.Proofs.Ytpoekljclapbfaa.Pure
open Go.RowKit Go.Proofs.Ytpoekljclapbfaa.P Go.Proofs.Ytpoekljclapbfaa.G Go.Proofs.Ytpoekljclapbfaa.P0 Go.Proofs.YtpoekljclapbfaaW.PrintWords Go.Proofs.YtpoekljclapbfaaW.PrintLast

theorem place (a n : Int) (h0 : 0 < n) (h1 : n ≤ 4611686018427387904) : ∃ t, wainwrightlaw00_Place.f a n = some t ∧ 0 ≤ t ∧ t < n := by
  unfold wainwrightlaw00_Place.f
  rw [if_neg (by omega)]
  have hl := Int.tmod_lt_of_pos a h0
  have hg := Int.lt_tmod_of_pos a h0
  generalize Int.tmod a n = m at hl hg
  by_cases h : m < 0
  · rw [if_pos h]
    exact ⟨_, rfl, by unfold wrap64; omega, by unfold wrap64; omega⟩
  · rw [if_neg h]
    exact ⟨_, rfl, by omega, hl⟩

theorem place_self (t n : Int) (h0 : 0 ≤ t) (h1 : t < n) : wainwrightlaw00_Place.f t n = some t := by
  unfold wainwrightlaw00_Place.f
  rw [if_neg (by omega), Int.tmod_eq_of_lt h0 h1, if_neg (by omega)]

theorem awake_40 : wainwrightlaw03_awake.f 40 = some true := by
  decide +kernel
end Go.Proofs.Ytpoekljclapbfaa.Pure

namespace Go.Proofs.Ytpoekljclapbfaa.Gs
open Go.RowKit Go.Proofs.Ytpoekljclapbfaa.PR Go.Proofs.Ytpoekljclapbfaa.G Go.Proofs.Ytpoekljclapbfaa.P0 Go.Proofs.YtpoekljclapbfaaW.PrintWords Go.Proofs.YtpoekljclapbfaaW.PrintLast

theorem idx_ints {a1 : Option Addr} {len1 cap1 : Nat} {z1 : List Int} {w : World}
    (w1 : (a1 = none ∧ len1 = 0 ∧ cap1 = 0 ∧ z1 = []) ∨ ∃ x, a1 = some x ∧ len1 ≤ cap1 ∧ cap1 ≤ maxLen ∧ z1.length = cap1 ∧ (∀ i, i < z1.length → w.cell? (x.add i) = some (.int .i64 (z1.getD i 0))) ∧ ∀ n ∈ z1, (Lit.int .i64 n).wf = true)
    (k : Nat) (hk : k < len1) : ∃ b off, a1 = some ⟨b, off, none⟩ ∧ b < w.heap.size ∧ ∀ j, j < len1 → w.cell? ⟨b, off + j, none⟩ = some (.int .i64 (z1.getD j 0)) := by
  rcases w1 with ⟨_, h, _⟩ | ⟨x, hx, h1, h2, h3, h4, _⟩
  · omega
  · have hsp : x.spot = none := World.cell?_spot (h4 0 (by omega))
    obtain ⟨b, off, sp⟩ := x
    simp only at hsp
    subst hsp
    have hc : ∀ j, j < len1 → w.cell? ⟨b, off + j, none⟩ = some (.int .i64 (z1.getD j 0)) := fun j hj => by
      have e : (⟨b, off, none⟩ : Addr).add j = ⟨b, off + j, none⟩ := by
        unfold Addr.add; split
        · rename_i h0; rw [h0]; rfl
        · rfl
      rw [← e]; exact h4 j (by omega)
    refine ⟨b, off, hx, ?_, hc⟩
    have := hc 0 (by omega)
    unfold World.cell? at this
    cases hb : w.heap[b]? with
    | none => simp [hb] at this
    | some o => exact (Array.getElem?_eq_some_iff.1 hb).1
theorem place_16 (a : Int) (w : World) : Calls Try.prog 7 #[.int .i64 a, .int .i64 16] w fun e w' => ∃ q : Nat, q < 16 ∧ e = .returned (.int .i64 q) ∧ ∃ m, w' = w.drewN m := by
  obtain ⟨t, h1, h2, h3⟩ := Pure.place a 16 (by decide) (by decide)
  refine (Go.Proofs.Ytpoekljclapbfaa.P.wainwrightlaw00_Place.calls a 16 t w h1).mono ?_
  rintro e w' ⟨rfl, hd⟩
  exact ⟨t.toNat, by omega, by rw [Int.toNat_of_nonneg h2], hd.out⟩
theorem word_16 (q : Nat) (hq : q < 16) : ∃ x : ByteArray, x.size ≤ 6 ∧ ∀ w, (Instr.index 23 (.agg #[.string ⟨#[97]⟩, .string ⟨#[98]⟩, .string ⟨#[42]⟩, .string ⟨#[63]⟩, .string ⟨#[91, 97, 98, 93]⟩, .string ⟨#[91, 33, 97, 93]⟩, .string ⟨#[91, 94, 98, 45, 100, 93]⟩, .string ⟨#[91, 97, 45, 99, 93]⟩, .string ⟨#[91, 93, 97, 93]⟩, .string ⟨#[91, 97, 45, 93]⟩, .string ⟨#[92, 42]⟩, .string ⟨#[91, 92, 93, 93]⟩, .string ⟨#[91]⟩, .string ⟨#[91, 97]⟩, .string ⟨#[46]⟩, .string ⟨#[45]⟩]) (.int .i64 (q : Int))).run Try.prog w = .ok (.string x) w :=
  match q, hq with
  | 0, _ => ⟨⟨#[97]⟩, by decide, fun _ => by kernel_rfl⟩
  | 1, _ => ⟨⟨#[98]⟩, by decide, fun _ => by kernel_rfl⟩
  | 2, _ => ⟨⟨#[42]⟩, by decide, fun _ => by kernel_rfl⟩
  | 3, _ => ⟨⟨#[63]⟩, by decide, fun _ => by kernel_rfl⟩
  | 4, _ => ⟨⟨#[91, 97, 98, 93]⟩, by decide, fun _ => by kernel_rfl⟩
  | 5, _ => ⟨⟨#[91, 33, 97, 93]⟩, by decide, fun _ => by kernel_rfl⟩
  | 6, _ => ⟨⟨#[91, 94, 98, 45, 100, 93]⟩, by decide, fun _ => by kernel_rfl⟩
  | 7, _ => ⟨⟨#[91, 97, 45, 99, 93]⟩, by decide, fun _ => by kernel_rfl⟩
  | 8, _ => ⟨⟨#[91, 93, 97, 93]⟩, by decide, fun _ => by kernel_rfl⟩
  | 9, _ => ⟨⟨#[91, 97, 45, 93]⟩, by decide, fun _ => by kernel_rfl⟩
  | 10, _ => ⟨⟨#[92, 42]⟩, by decide, fun _ => by kernel_rfl⟩
  | 11, _ => ⟨⟨#[91, 92, 93, 93]⟩, by decide, fun _ => by kernel_rfl⟩
  | 12, _ => ⟨⟨#[91]⟩, by decide, fun _ => by kernel_rfl⟩
  | 13, _ => ⟨⟨#[91, 97]⟩, by decide, fun _ => by kernel_rfl⟩
  | 14, _ => ⟨⟨#[46]⟩, by decide, fun _ => by kernel_rfl⟩
  | 15, _ => ⟨⟨#[45]⟩, by decide, fun _ => by kernel_rfl⟩
  | q + 16, h => absurd h (by omega)
set_option maxHeartbeats 4000000 in
set_option maxRecDepth 100000 in
theorem globSets_any (a0 : Option Addr) (len0 cap0 : Nat) (z0 : List Int) (s : ByteArray) (w : World)
    (hidx : ∀ k, k < len0 → ∃ b off, a0 = some ⟨b, off, none⟩ ∧ b < w.heap.size ∧ ∀ j, j < len0 → w.cell? ⟨b, off + j, none⟩ = some (.int .i64 (z0.getD j 0))) :
    Calls Try.prog 3 #[.slice a0 len0 cap0, .string s] w fun e w' => e = .returned (.bool true) ∧ Below w.heap.size w w' := by
  have HIDX := Lib.hid hidx
  clear hidx
  have HAW := Lib.hid (fun w1 => Go.Proofs.Ytpoekljclapbfaa.P.wainwrightlaw03_awake.calls 40 true w1 Pure.awake_40)
  go_enter Try.func3, Try.ntmps3
  go_wp2
  go_loopw [5, 6] (fun v5 v6 wx => ∃ (k : Nat) (p : ByteArray), k ≤ 12 ∧ v6 = .int .i64 k ∧ v5 = .string p ∧ p.size ≤ 6 * k ∧ Hid (Below w.heap.size w wx)) (fun _ v _ => 12 - (intOf v).toNat)
  case atStart => exact ⟨0, _, Nat.zero_le _, rfl, rfl, Nat.le_refl _, Lib.hid (Below.refl _ _)⟩
  case round =>
    obtain ⟨k, p, hk, rfl, rfl, hp, HB⟩ := hrel
    by_cases hin : k < len0 ∧ k < 12
    · obtain ⟨b, off, rfl, hbz, hcell⟩ := HIDX.out k hin.1
      have hcx := (HB.out.cell (p := ⟨b, off + k, none⟩) (by exact hbz)).trans (hcell k hin.1)
      have hk1 := hin.1
      have hk2 := hin.2
      clear hcell hin
      go_wp2_with (go_at_call 7; refine (place_16 _ _).mono ?_; rintro e w4 ⟨q, hq, rfl, m, rfl⟩; obtain ⟨x, hx, hix⟩ := word_16 q hq; have hbig : ((9223372036854775807 : Nat) < p.size + x.size) = False := (by simp; omega))
      exact ⟨⟨k + 1, p ++ x, by omega, by go_num, rfl, by rw [ByteArray.size_append]; omega, Lib.hid (below_drewN HB.out m)⟩, by simp [intOf]; omega⟩
    · have hout : len0 ≤ k ∨ (k < len0 ∧ 12 ≤ k) := by omega
      clear hin
      have hp1 : p.size < 1099511 := by omega
      clear hp
      by_cases hs : (s.size : Int) > 100
      · rcases hout with h1 | ⟨h1, h2⟩
        all_goals
          go_wp2_with (go_at_call 8; refine (HAW.out _).mono ?_; rintro e w4 ⟨rfl, hb⟩; have HB4 := Lib.hid (HB.out.trans (hb.mono HB.out.size)); clear hb)
          go_ret
          exact ⟨rfl, HB4.out⟩
      · have hs1 : s.size < 1099511 := by omega
        obtain ⟨qm, hqm⟩ : ∃ q, q = matchB p.data.toList s.data.toList := ⟨_, rfl⟩
        obtain ⟨qg, hqg⟩ : ∃ q, q = magicB p.data.toList := ⟨_, rfl⟩
        obtain ⟨qp, hqp⟩ : ∃ q : ByteArray, q = ⟨(plainL p.data.toList).toArray⟩ := ⟨_, rfl⟩
        have C1 := Lib.hid (fun w1 => gmatch_calls p s (by omega) w1)
        have C2 := Lib.hid (fun w1 => rmatch_calls p s hp1 hs1 w1)
        have C3 := Lib.hid (fun w1 => gmagic_calls p (by omega) w1)
        have C4 := Lib.hid (fun w1 => rmagic_calls p hp1 w1)
        have C5 := Lib.hid (fun w1 => gplain_calls p hp1 w1)
        have C6 := Lib.hid (fun w1 => rplain_calls p hp1 w1)
        rw [← hqm] at C1 C2
        rw [← hqg] at C3 C4
        rw [← hqp] at C5 C6
        clear hqm hqg hqp
        rcases hout with h1 | ⟨h1, h2⟩
        all_goals
          go_wp2_with (first
            | (go_at_call 9; refine (C1.out _).mono ?_; rintro e w1 ⟨rfl, hb⟩; have B1 := Lib.hid (HB.out.trans (hb.mono HB.out.size)); clear hb)
            | (go_at_call 10; refine (C2.out _).mono ?_; rintro e w2 ⟨rfl, hb⟩; have B2 := Lib.hid (B1.out.trans (hb.mono B1.out.size)); clear hb)
            | (go_at_call 11; refine (C3.out _).mono ?_; rintro e w3 ⟨rfl, hb⟩; have B3 := Lib.hid (B2.out.trans (hb.mono B2.out.size)); clear hb)
            | (go_at_call 12; refine (C4.out _).mono ?_; rintro e w4 ⟨rfl, hb⟩; have B4 := Lib.hid (B3.out.trans (hb.mono B3.out.size)); clear hb)
            | (go_at_call 13; refine (C5.out _).mono ?_; rintro e w5 ⟨rfl, hb⟩; have B5 := Lib.hid (B4.out.trans (hb.mono B4.out.size)); clear hb)
            | (go_at_call 14; refine (C6.out _).mono ?_; rintro e w6 ⟨rfl, hb⟩; have B6 := Lib.hid (B5.out.trans (hb.mono B5.out.size)); clear hb)
            | (go_at_call 8; refine (HAW.out _).mono ?_; rintro e w7 ⟨rfl, hb⟩; have B7 := Lib.hid (B6.out.trans (hb.mono B6.out.size)); clear hb))
          go_ret
          exact ⟨rfl, B7.out⟩
theorem globSets_walk (a0 : Option Addr) (len0 cap0 : Nat) (z0 : List Int) (a1 : ByteArray) (w : World)
    (w0 : (a0 = none ∧ len0 = 0 ∧ cap0 = 0 ∧ z0 = []) ∨ ∃ x, a0 = some x ∧ len0 ≤ cap0 ∧ cap0 ≤ maxLen ∧ z0.length = cap0 ∧ (∀ i, i < z0.length → w.cell? (x.add i) = some (.int .i64 (z0.getD i 0))) ∧ ∀ n ∈ z0, (Lit.int .i64 n).wf = true)
    (_w1 : a1.size ≤ 140737488351232) :
    Calls Try.prog 3 #[.slice a0 len0 cap0, .string a1] w fun e w' => e = .returned (.bool true) ∧ Below w.heap.size w w' :=
  globSets_any a0 len0 cap0 z0 a1 w (fun k hk => idx_ints w0 k hk)
end Go.Proofs.Ytpoekljclapbfaa.Gs
