/- Plain facts: the document's table of functions answers as ours does, for every name; how many arguments fit. -/
import Derived.Test.YtlnjikneepgpaaaPx
import Derived.Lib.Strings
namespace Go.Proofs.Ytlnjikneepgpaaa.Pure
open Go.RowKit Go.Proofs.Ytlnjikneepgpaaa.P Go.Proofs.Ytlnjikneepgpaaa.G Go.Proofs.Ytlnjikneepgpaaa.P0 Go.Proofs.YtlnjikneepgpaaaW.PrintWords Go.Proofs.YtlnjikneepgpaaaW.PrintLast

theorem w64 {n : Int} (h0 : -9223372036854775808 ≤ n) (h1 : n ≤ 9223372036854775807) : wrap64 n = n := by unfold wrap64; omega
theorem list_eq {a b : ByteArray} : a.toList = b.toList ↔ a = b := by
  rw [Lib.toList_data, Lib.toList_data, Array.toList_inj, ByteArray.ext_iff]

def memb (x : ByteArray) (L : List ByteArray) : Bool := L.any (fun y => decide (y = x))
theorem memb_iff (x : ByteArray) (L : List ByteArray) : memb x L = true ↔ x ∈ L := by
  unfold memb
  simp
theorem memb_no {x : ByteArray} {L : List ByteArray} (h : x ∉ L) : memb x L = false := by
  cases hm : memb x L
  · rfl
  · exact absurd ((memb_iff x L).mp hm) h
def namesL : List ByteArray := tabL.map Prod.fst
theorem look_none {L : List (ByteArray × Inf)} {x : ByteArray} (h : x ∉ L.map Prod.fst) : lookT L x = none := by
  induction L with
  | nil => rfl
  | cons p L ih =>
    obtain ⟨y, i⟩ := p
    simp only [List.map_cons, List.mem_cons, not_or] at h
    simp only [lookT]
    rw [if_neg h.1]
    exact ih h.2
theorem look_mem {L : List (ByteArray × Inf)} {x : ByteArray} (h : x ∈ L.map Prod.fst) : (lookT L x).isSome = true := by
  induction L with
  | nil => simp at h
  | cons p L ih =>
    obtain ⟨y, i⟩ := p
    simp only [lookT]
    by_cases e : x = y
    · rw [if_pos e]; rfl
    · rw [if_neg e]
      simp only [List.map_cons, List.mem_cons] at h
      rcases h with h | h
      · exact absurd h e
      · exact ih h

theorem in_l0 (x : ByteArray) (L : List ByteArray) (hL : L.length ≤ 1000) : ∀ (d i : Nat), i + d = L.length → Ev (fun k => wainwrightref09_in.l0 k x L (i : Int)) (memb x (L.drop i)) := by
  intro d
  induction d with
  | zero =>
    intro i hi
    refine Ev.step (f := fun _ => some (memb x (L.drop i))) (fun k => ?_) (Ev.now _)
    simp only [wainwrightref09_in.l0]
    rw [if_neg (by omega), List.drop_eq_nil_of_le (by omega)]
    rfl
  | succ d ih =>
    intro i hi
    have hlt : i < L.length := by omega
    have hdr : L.drop i = L[i] :: L.drop (i + 1) := List.drop_eq_getElem_cons hlt
    have hrd : rdOf ByteArray.empty L (i : Int) = L[i] := by simp [rdOf, List.getD, hlt]
    by_cases he : L[i] = x
    · refine Ev.step (f := fun _ => some true) (fun k => ?_) (by rw [show memb x (L.drop i) = true by unfold memb; rw [hdr, List.any_cons, decide_eq_true he, Bool.true_or]]; exact Ev.now _)
      simp only [wainwrightref09_in.l0]
      rw [if_pos (by omega), if_pos (by omega), hrd, if_pos (list_eq.mpr he)]
    · have h2 : memb x (L.drop i) = memb x (L.drop (i + 1)) := by
        unfold memb; rw [hdr, List.any_cons, decide_eq_false he, Bool.false_or]
      rw [h2]
      refine Ev.step (f := fun k => wainwrightref09_in.l0 k x L ((i + 1 : Nat) : Int)) (fun k => ?_) (ih (i + 1) (by omega))
      simp only [wainwrightref09_in.l0]
      rw [if_pos (by omega), if_pos (by omega), hrd, if_neg (fun h => he (list_eq.mp h)), w64 (by omega) (by omega)]
      rfl

theorem in_is (x c : ByteArray) (L : List ByteArray) (hL : L.length ≤ 1000) (K : Nat) (hs : wainwrightref01_Split.f K c = some L) : Ev (fun k => wainwrightref09_in.f k x c) (memb x L) := by
  unfold wainwrightref09_in.f
  refine Ev.bind (Ev.of (fun k => wainwrightref01_Split.mono c k) hs) ?_
  have := in_l0 x L hL L.length 0 (by omega)
  simpa using this
def wOne : List ByteArray := [⟨#[115, 116, 114, 105, 112]⟩, ⟨#[115, 111, 114, 116]⟩, ⟨#[119, 111, 114, 100, 115]⟩, ⟨#[102, 105, 114, 115, 116, 119, 111, 114, 100]⟩, ⟨#[108, 97, 115, 116, 119, 111, 114, 100]⟩, ⟨#[100, 105, 114]⟩, ⟨#[110, 111, 116, 100, 105, 114]⟩, ⟨#[115, 117, 102, 102, 105, 120]⟩, ⟨#[98, 97, 115, 101, 110, 97, 109, 101]⟩, ⟨#[97, 98, 115, 112, 97, 116, 104]⟩, ⟨#[119, 105, 108, 100, 99, 97, 114, 100]⟩]
def wTwo : List ByteArray := [⟨#[102, 105, 110, 100, 115, 116, 114, 105, 110, 103]⟩, ⟨#[102, 105, 108, 116, 101, 114]⟩, ⟨#[102, 105, 108, 116, 101, 114, 45, 111, 117, 116]⟩, ⟨#[119, 111, 114, 100]⟩, ⟨#[97, 100, 100, 115, 117, 102, 102, 105, 120]⟩, ⟨#[97, 100, 100, 112, 114, 101, 102, 105, 120]⟩, ⟨#[106, 111, 105, 110]⟩]
def wThree : List ByteArray := [⟨#[115, 117, 98, 115, 116]⟩, ⟨#[112, 97, 116, 115, 117, 98, 115, 116]⟩, ⟨#[119, 111, 114, 100, 108, 105, 115, 116]⟩]
def wAny : List ByteArray := [⟨#[111, 114]⟩, ⟨#[97, 110, 100]⟩]
def wLazy : List ByteArray := [⟨#[102, 111, 114, 101, 97, 99, 104]⟩, ⟨#[108, 101, 116]⟩]
def wRest : List ByteArray := [⟨#[101, 118, 97, 108]⟩, ⟨#[118, 97, 108, 117, 101]⟩, ⟨#[111, 114, 105, 103, 105, 110]⟩, ⟨#[102, 108, 97, 118, 111, 114]⟩, ⟨#[101, 114, 114, 111, 114]⟩, ⟨#[119, 97, 114, 110, 105, 110, 103]⟩, ⟨#[105, 110, 102, 111]⟩]
theorem hsub_wOne (x : ByteArray) (h : x ∈ wOne) : x ∈ namesL := (memb_iff x namesL).mp ((show ∀ x ∈ wOne, memb x namesL = true by decide +kernel) x h)
theorem hsub_wTwo (x : ByteArray) (h : x ∈ wTwo) : x ∈ namesL := (memb_iff x namesL).mp ((show ∀ x ∈ wTwo, memb x namesL = true by decide +kernel) x h)
theorem hsub_wThree (x : ByteArray) (h : x ∈ wThree) : x ∈ namesL := (memb_iff x namesL).mp ((show ∀ x ∈ wThree, memb x namesL = true by decide +kernel) x h)
theorem hsub_wAny (x : ByteArray) (h : x ∈ wAny) : x ∈ namesL := (memb_iff x namesL).mp ((show ∀ x ∈ wAny, memb x namesL = true by decide +kernel) x h)
theorem hsub_wLazy (x : ByteArray) (h : x ∈ wLazy) : x ∈ namesL := (memb_iff x namesL).mp ((show ∀ x ∈ wLazy, memb x namesL = true by decide +kernel) x h)
theorem hsub_wRest (x : ByteArray) (h : x ∈ wRest) : x ∈ namesL := (memb_iff x namesL).mp ((show ∀ x ∈ wRest, memb x namesL = true by decide +kernel) x h)
def swOne : ByteArray := ⟨#[115, 116, 114, 105, 112, 32, 115, 111, 114, 116, 32, 119, 111, 114, 100, 115, 32, 102, 105, 114, 115, 116, 119, 111, 114, 100, 32, 108, 97, 115, 116, 119, 111, 114, 100, 32, 100, 105, 114, 32, 110, 111, 116, 100, 105, 114, 32, 115, 117, 102, 102, 105, 120, 32, 98, 97, 115, 101, 110, 97, 109, 101, 32, 97, 98, 115, 112, 97, 116, 104, 32, 119, 105, 108, 100, 99, 97, 114, 100]⟩
theorem no_wOne (x : ByteArray) (hx : x ∉ namesL) : Ev (fun k => wainwrightref09_in.f k x swOne) false := by
  have h := in_is x swOne wOne (by decide) 200 (by decide +kernel)
  rw [memb_no (fun hm => hx (hsub_wOne x hm))] at h
  exact h
def swTwo : ByteArray := ⟨#[102, 105, 110, 100, 115, 116, 114, 105, 110, 103, 32, 102, 105, 108, 116, 101, 114, 32, 102, 105, 108, 116, 101, 114, 45, 111, 117, 116, 32, 119, 111, 114, 100, 32, 97, 100, 100, 115, 117, 102, 102, 105, 120, 32, 97, 100, 100, 112, 114, 101, 102, 105, 120, 32, 106, 111, 105, 110]⟩
theorem no_wTwo (x : ByteArray) (hx : x ∉ namesL) : Ev (fun k => wainwrightref09_in.f k x swTwo) false := by
  have h := in_is x swTwo wTwo (by decide) 200 (by decide +kernel)
  rw [memb_no (fun hm => hx (hsub_wTwo x hm))] at h
  exact h
def swThree : ByteArray := ⟨#[115, 117, 98, 115, 116, 32, 112, 97, 116, 115, 117, 98, 115, 116, 32, 119, 111, 114, 100, 108, 105, 115, 116]⟩
theorem no_wThree (x : ByteArray) (hx : x ∉ namesL) : Ev (fun k => wainwrightref09_in.f k x swThree) false := by
  have h := in_is x swThree wThree (by decide) 200 (by decide +kernel)
  rw [memb_no (fun hm => hx (hsub_wThree x hm))] at h
  exact h
def swAny : ByteArray := ⟨#[111, 114, 32, 97, 110, 100]⟩
theorem no_wAny (x : ByteArray) (hx : x ∉ namesL) : Ev (fun k => wainwrightref09_in.f k x swAny) false := by
  have h := in_is x swAny wAny (by decide) 200 (by decide +kernel)
  rw [memb_no (fun hm => hx (hsub_wAny x hm))] at h
  exact h
def swLazy : ByteArray := ⟨#[102, 111, 114, 101, 97, 99, 104, 32, 108, 101, 116]⟩
theorem no_wLazy (x : ByteArray) (hx : x ∉ namesL) : Ev (fun k => wainwrightref09_in.f k x swLazy) false := by
  have h := in_is x swLazy wLazy (by decide) 200 (by decide +kernel)
  rw [memb_no (fun hm => hx (hsub_wLazy x hm))] at h
  exact h
def swRest : ByteArray := ⟨#[101, 118, 97, 108, 32, 118, 97, 108, 117, 101, 32, 111, 114, 105, 103, 105, 110, 32, 102, 108, 97, 118, 111, 114, 32, 101, 114, 114, 111, 114, 32, 119, 97, 114, 110, 105, 110, 103, 32, 105, 110, 102, 111]⟩
theorem no_wRest (x : ByteArray) (hx : x ∉ namesL) : Ev (fun k => wainwrightref09_in.f k x swRest) false := by
  have h := in_is x swRest wRest (by decide) 200 (by decide +kernel)
  rw [memb_no (fun hm => hx (hsub_wRest x hm))] at h
  exact h

set_option maxRecDepth 100000 in
theorem find_no (x : ByteArray) (hx : x ∉ namesL) : Ev (fun k => wainwrightref09_Find.f k x) (0, 0, false, false, false) := by
  unfold wainwrightref09_Find.f
  by_cases h0 : x.toList = []
  · simp only [if_pos h0]
    exact Ev.now _
  simp only [if_neg h0]
  refine Ev.bind (no_wOne x hx) ?_
  simp only [Bool.false_eq_true, if_false]
  refine Ev.bind (no_wTwo x hx) ?_
  simp only [Bool.false_eq_true, if_false]
  refine Ev.bind (no_wThree x hx) ?_
  simp only [Bool.false_eq_true, if_false]
  simp only [show ¬ x.toList = ([105, 102] : List UInt8) from fun h => hx (by rw [show x = ⟨#[105, 102]⟩ from list_eq.mp (h.trans (by decide +kernel))]; exact (memb_iff _ _).mp (by decide +kernel)), if_false]
  refine Ev.bind (no_wAny x hx) ?_
  simp only [Bool.false_eq_true, if_false]
  simp only [show ¬ x.toList = ([105, 110, 116, 99, 109, 112] : List UInt8) from fun h => hx (by rw [show x = ⟨#[105, 110, 116, 99, 109, 112]⟩ from list_eq.mp (h.trans (by decide +kernel))]; exact (memb_iff _ _).mp (by decide +kernel)), if_false]
  refine Ev.bind (no_wLazy x hx) ?_
  simp only [Bool.false_eq_true, if_false]
  simp only [show ¬ x.toList = ([99, 97, 108, 108] : List UInt8) from fun h => hx (by rw [show x = ⟨#[99, 97, 108, 108]⟩ from list_eq.mp (h.trans (by decide +kernel))]; exact (memb_iff _ _).mp (by decide +kernel)), if_false]
  refine Ev.bind (no_wRest x hx) ?_
  simp only [Bool.false_eq_true, if_false]
  exact Ev.now _
set_option maxRecDepth 100000 in
theorem find_yes : ∀ x ∈ namesL, wainwrightref09_Find.f 300 x = some ((infOf x).mn, (infOf x).mx, (infOf x).lz, (infOf x).pu, true) := by decide +kernel
theorem find_is (x : ByteArray) : Ev (fun k => wainwrightref09_Find.f k x) ((infOf x).mn, (infOf x).mx, (infOf x).lz, (infOf x).pu, (lookT tabL x).isSome) := by
  by_cases hx : x ∈ namesL
  · rw [look_mem hx]
    exact Ev.of (fun k => wainwrightref09_Find.mono x k) (find_yes x hx)
  · have h := find_no x hx
    unfold infOf
    rw [look_none hx]
    exact h

/-- May a function have so many arguments? -/
def fitsS (s : ByteArray) (lz : Bool) (n : Int) : Bool :=
  (lookT tabL s).isSome && ((infOf s).lz == lz) && decide ((infOf s).mn ≤ n) && (decide ((infOf s).mx = 0) || decide (n ≤ (infOf s).mx))
theorem fits_is (s : ByteArray) (lz : Bool) (n : Int) (hz : s.size ≤ 9223372036854775807) : sound_fits.f s lz n = some (fitsS s lz n) := by
  unfold sound_fits.f table_Find.f
  rw [if_pos hz]
  simp only [Option.bind_some]
  unfold fitsS
  cases h1 : (lookT tabL s).isSome
  · rfl
  · rw [if_pos rfl]
    cases h2 : ((infOf s).lz == lz)
    · simp
    · rw [if_pos rfl]
      by_cases h3 : n ≥ (infOf s).mn
      · rw [if_pos h3]
        by_cases h4 : (infOf s).mx = 0
        · rw [if_pos h4]; simp [h4]; exact h3
        · rw [if_neg h4]; simp [h4, show (infOf s).mn ≤ n from h3]
      · rw [if_neg h3]; simp [show ¬ (infOf s).mn ≤ n from h3]
theorem ref_fits (s : ByteArray) (lz : Bool) (n : Int) : Ev (fun k => wainwrightref13_fits.f k s n lz) (fitsS s lz n) := by
  unfold wainwrightref13_fits.f
  refine Ev.bind (find_is s) ?_
  simp only
  refine Ev.congr (f := fun _ => some (fitsS s lz n)) (fun k => ?_) (Ev.now _)
  unfold fitsS
  cases h1 : (lookT tabL s).isSome
  · rfl
  · rw [if_pos rfl]
    cases h2 : ((infOf s).lz == lz)
    · simp
    · rw [if_pos rfl]
      by_cases h3 : n ≥ (infOf s).mn
      · rw [if_pos h3]
        by_cases h4 : (infOf s).mx = 0
        · rw [if_pos h4]; simp [h4]; exact h3
        · rw [if_neg h4]; simp [h4, show (infOf s).mn ≤ n from h3]
      · rw [if_neg h3]; simp [show ¬ (infOf s).mn ≤ n from h3]
end Go.Proofs.Ytlnjikneepgpaaa.Pure
