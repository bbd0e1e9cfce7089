/- wainwrightlaw17.StoreFrames: the walk. -/
import Derived.Test.YtjmaficiinhjpaaDoorStoLaw0
namespace Go.Proofs.YtjmaficiinhjpaaDoor.G
open Go.RowKit Go.Maps Go.WideMaps Go.Sort
attribute [local irreducible] dig

def nx : ByteArray := ⟨#[120]⟩
def n7 : ByteArray := ⟨#[55]⟩
def gnd : ByteArray := ⟨#[103, 114, 111, 117, 110, 100]⟩
def gx : Vr := ⟨nx, gnd, 0, 0⟩
def g7 : Vr := ⟨n7, gnd, 0, 0⟩
/-- What both names say. -/
structure LayF (G : List Vr) (X : List (List Vr × Bool)) (x sv : ByteArray) : Prop where
  hx : ∃ nm fl og, getX G X nx = (⟨nm, x, fl, og⟩, true)
  h7 : ∃ nm fl og, getX G X n7 = (⟨nm, sv, fl, og⟩, decide (sv ≠ ⟨#[]⟩))
theorem getX_snoc {G : List Vr} {X : List (List Vr × Bool)} {f : List Vr} {c : Bool} {x : ByteArray} : getX G (X ++ [(f, c)]) x = match lookL f x with
    | some v => (v, true)
    | none => if c = true ∧ digitsB x = true then (zeroV, false) else getX G X x := by
  unfold getX
  rw [downX_snoc]
  cases lookL f x with
  | some v => rfl
  | none =>
    simp only
    by_cases h : c = true ∧ digitsB x = true
    · rw [if_pos h, if_pos h]; rfl
    · rw [if_neg h, if_neg h]
theorem dx : digitsB nx = false := by decide
theorem d7 : digitsB n7 = true := by decide
def fx (v : ByteArray) : Vr := ⟨nx, v, 0, 0⟩
def f7 (v : ByteArray) : Vr := ⟨n7, v, 0, 0⟩
theorem nx7 : ¬ n7 = nx := by decide
theorem n7x : ¬ nx = n7 := by decide
theorem lay_00 {G : List Vr} {X : List (List Vr × Bool)} {x sv : ByteArray} (h : LayF G X x sv) : LayF G (X ++ [([], false)]) x sv :=
  ⟨by rw [getX_snoc]; simpa [lookL] using h.hx, by rw [getX_snoc]; simpa [lookL] using h.h7⟩
theorem lay_01 {G : List Vr} {X : List (List Vr × Bool)} {x sv : ByteArray} (h : LayF G X x sv) : LayF G (X ++ [([], true)]) x ⟨#[]⟩ :=
  ⟨by rw [getX_snoc]; simpa [lookL, dx] using h.hx, by rw [getX_snoc]; simp [lookL, d7, zeroV]⟩
theorem lay_10 {G : List Vr} {X : List (List Vr × Bool)} {x sv : ByteArray} (h : LayF G X x sv) (v : ByteArray) : LayF G (X ++ [([fx v], false)]) v sv :=
  ⟨by rw [getX_snoc]; simp [lookL, fx], by rw [getX_snoc]; simpa [lookL, fx, n7x] using h.h7⟩
theorem lay_11 {G : List Vr} {X : List (List Vr × Bool)} {x sv : ByteArray} (_h : LayF G X x sv) (v : ByteArray) : LayF G (X ++ [([fx v], true)]) v ⟨#[]⟩ :=
  ⟨by rw [getX_snoc]; simp [lookL, fx], by rw [getX_snoc]; simp [lookL, fx, n7x, d7, zeroV]⟩
theorem lay_2 {G : List Vr} {X : List (List Vr × Bool)} {x sv : ByteArray} (h : LayF G X x sv) (v : ByteArray) (hv : v ≠ ⟨#[]⟩) (c : Bool) : LayF G (X ++ [([f7 v], c)]) x v :=
  ⟨by rw [getX_snoc]; simpa [lookL, f7, nx7, dx] using h.hx, by rw [getX_snoc]; simp [lookL, f7, hv]⟩
theorem lay_3 {G : List Vr} {X : List (List Vr × Bool)} {x sv : ByteArray} (_h : LayF G X x sv) (v : ByteArray) (hv : v ≠ ⟨#[]⟩) (c : Bool) : LayF G (X ++ [([fx v, f7 v], c)]) v v :=
  ⟨by rw [getX_snoc]; simp [lookL, f7, fx, nx7], by rw [getX_snoc]; simp [lookL, f7, hv]⟩
theorem src_varsL {w : World} {A : Option Addr} {l : List Vr} (h : Src w A l.length 4 (varsV l)) : VarsAt w A l := by
  intro hp
  obtain ⟨b, off, rfl, hb, hc⟩ := h.2 hp
  refine ⟨b, off, rfl, hb, fun j v hj => ?_⟩
  have h4 := varsV_at l j v hj
  have e : ∀ c, off + j * 4 + c = off + (j * 4 + c) := fun c => by omega
  exact ⟨by have := hc _ _ ((h4 0 (by omega)).trans rfl); exact this, by have := hc _ _ ((h4 1 (by omega)).trans rfl); rw [e]; exact this, by have := hc _ _ ((h4 2 (by omega)).trans rfl); rw [e]; exact this, by have := hc _ _ ((h4 3 (by omega)).trans rfl); rw [e]; exact this⟩
theorem src_blockL {w : World} {b : Nat} {v : Vr} {t : TypeId} (h : w.heap[b]? = some (.cells v.cells.toArray t (0, 0))) : Src w (some ⟨b, 0, none⟩) 1 4 v.cells :=
  ⟨rfl, fun _ => ⟨b, 0, rfl, lt_heap h, fun j u hu => by rw [Nat.zero_add, cell_of_block h]; simpa using hu⟩⟩
theorem slice_ofL {w : World} {base n sz : Nat} {e : TypeId} {v : Value} {xs : List Value} (h : w.ownsRow base e sz v n xs) : ∃ a c, v = .slice a n c := by
  rcases h.2 with ⟨rfl, rfl⟩ | ⟨g, cap, cur, rfl, _⟩
  · exact ⟨_, _, rfl⟩
  · exact ⟨_, _, rfl⟩
theorem fold_g : RisesV (foldG [gx, g7]) ∧ ∀ y, lookL (foldG [gx, g7]) y = lookL [gx, g7] y := foldG_is _
theorem lay_start : LayF (foldG [gx, g7]) [] gnd gnd := by
  refine ⟨⟨nx, 0, 0, ?_⟩, ⟨n7, 0, 0, ?_⟩⟩
  · unfold getX; rw [fold_g.2]; rfl
  · unfold getX; rw [fold_g.2]; rfl
theorem get_g1 : getX (foldG [gx, g7]) [] nx = (gx, true) := by
  unfold getX; rw [fold_g.2]; rfl
theorem get_g2 : getX (foldG [gx, g7]) [] n7 = (g7, true) := by
  unfold getX; rw [fold_g.2]; rfl
theorem names_g : Names [gx, g7] := by
  intro v hv
  simp only [List.mem_cons, List.not_mem_nil, or_false] at hv
  rcases hv with rfl | rfl <;> (show 1 ≤ maxLen; unfold maxLen; omega)
theorem new_g (w : World) : Calls Tryd.prog 7 #[.slice (some ⟨w.heap.size, 0, none⟩) 2 2] (w.alloc (.cells #[.string ⟨#[120]⟩, .string ⟨#[103, 114, 111, 117, 110, 100]⟩, .int .i64 0, .int .i64 0, .string ⟨#[55]⟩, .string ⟨#[103, 114, 111, 117, 110, 100]⟩, .int .i64 0, .int .i64 0] 27))
    fun e w' => ∃ sb, e = .returned (.pointer (some ⟨sb, 0, none⟩)) ∧ Sk (w.heap.size + 1) w' sb 2 (foldG [gx, g7]) [] 0 [] ∧ Below w.heap.size w w' := by
  refine (New_sk [gx, g7] _ 2 _ (lit_vars (heap_alloc_new w _) rfl) (by simp) names_g).mono ?_
  rintro e w' ⟨sb, rfl, hS, hB⟩
  refine ⟨sb, rfl, by simpa using hS, ((Below.refl _ w).alloc (Nat.le_refl _) _).trans (hB.mono (by simp))⟩
theorem dig_ne (k : Nat) : dig k ≠ ⟨#[]⟩ := fun e => by have := (dig_size k).2; rw [e] at this; exact absurd this (by decide)
theorem toList_ne {s : ByteArray} (h : s ≠ ⟨#[]⟩) : ¬ s.toList = [] := fun hh => h (eq_toList (hh.trans (Lib.toList_data ⟨#[]⟩).symm))
theorem names_small {l : List Vr} (h : ∀ v ∈ l, v.name = nx ∨ v.name = n7) : Names l := fun v hv => by
  rcases h v hv with h | h <;> (rw [h]; show 1 ≤ maxLen; unfold maxLen; omega)
theorem Sk.sbz {base : Nat} {w : World} {sb n : Nat} {G : List Vr} {X : List (List Vr × Bool)} {t : Int} {K : List (Nat × Obj)} (h : Sk base w sb n G X t K) : sb < w.heap.size := by
  obtain ⟨gm, fv, F, hS, hF, hK⟩ := h
  exact hS.hsz
theorem below_app {w w4 : World} {o : Obj} (hg : (w.alloc o).grownBy w4 (Value.ownBlock (.slice none 0 0))) : Below w.heap.size w w4 :=
  ((Below.refl _ w).alloc (Nat.le_refl _) o).grown hg (by simp) (fun j hj => absurd hj (by simp [Value.ownBlock]))
theorem below_app2 {w w4 w5 : World} {o o2 : Obj} {e : TypeId} {sz n : Nat} {v : Value} {xs : List Value} (hr : w4.ownsRow w.heap.size e sz v n xs) (hg : (w.alloc o).grownBy w4 (Value.ownBlock (.slice none 0 0))) (hg2 : (w4.alloc o2).grownBy w5 v.ownBlock) : Below w.heap.size w w5 :=
  ((below_app hg).alloc (below_app hg).size o2).grown hg2 (by have := (below_app hg).size; simp; omega) (fun j hj => (hr.lt j hj).1)
/-- A row made of late. -/
theorem row_vars {w : World} {s sb : Nat} {A : Option Addr} {c : Nat} {l : List Vr} (h : w.ownsRow s 27 4 (.slice A l.length c) l.length (varsV l)) (hs : sb < s) : VarsAt w A l ∧ ∀ b off, A = some ⟨b, off, none⟩ → b ≠ sb := by
  refine ⟨src_varsL (Src.of_row h), fun b off e => ?_⟩
  subst e
  rcases h.2 with ⟨h0, _⟩ | ⟨g, cap, cur, he, hg, _⟩
  · cases h0
  · injection he with h1 _ _
    injection h1 with h1
    injection h1 with h1 _ _
    omega
theorem push_row {base : Nat} {w w4 : World} {sb n : Nat} {G : List Vr} {X : List (List Vr × Bool)} {t : Int} {K : List (Nat × Obj)} (h : Sk base w sb n G X t K) (hX : X.length < 1000) (hb : Below w.heap.size w w4) (l : List Vr) {A : Option Addr} {c m : Nat} (hm : m = l.length) (hl : l.length ≤ 1000)
    (hr : w4.ownsRow w.heap.size 27 4 (.slice A m c) m (varsV l)) (hn : Names l) (call : Bool) :
    Calls Tryd.prog 10 #[.pointer (some ⟨sb, 0, none⟩), .slice A m c, .bool call] w4 fun e w' => e = .returned (.tuple #[]) ∧ Sk base w' sb n G (X ++ [(l, call)]) (wrap64 (t + 1)) K ∧ Below base w w' := by
  subst hm
  have hz := h.sbz
  have hz0 := h.size
  refine (Push_sk (h.later hb) hX l A c call (row_vars hr hz).1 (row_vars hr hz).2 (by omega) hn).mono ?_
  rintro e w' ⟨rfl, hS, hB⟩
  exact ⟨rfl, hS, (hb.mono hz0).trans hB⟩
theorem row_1 {w : World} {s : Nat} {A : Option Addr} {c : Nat} {v : Vr} (h : w.ownsRow s 27 4 (.slice A (0 + 1) c) (0 + 1) ([] ++ v.cells)) : w.ownsRow s 27 4 (.slice A 1 c) 1 (varsV [v]) := by
  simpa [varsV] using h
theorem row_2 {w : World} {s : Nat} {A : Option Addr} {c : Nat} {v u : Vr} (h : w.ownsRow s 27 4 (.slice A (0 + 1 + 1) c) (0 + 1 + 1) ([] ++ v.cells ++ u.cells)) : w.ownsRow s 27 4 (.slice A 2 c) 2 (varsV [v, u]) := by
  simpa [varsV] using h
theorem names_f (v : ByteArray) : Names [fx v] ∧ Names [f7 v] ∧ Names [fx v, f7 v] :=
  ⟨names_small (by simp [fx]), names_small (by simp [f7]), names_small (by simp [fx, f7])⟩

set_option maxHeartbeats 16000000 in
set_option maxRecDepth 100000 in
theorem frames_any (a0 : Option Addr) (len0 cap0 : Nat) (z0 : List Int) (a1 : Option Addr) (len1 cap1 : Nat) (z1 : List Bool) (w : World)
    (hidx : ∀ k, k < len0 → ∃ b off, a0 = some ⟨b, off, none⟩ ∧ b < w.heap.size ∧ ∀ j, j < len0 → w.cell? ⟨b, off + j, none⟩ = some (.int .i64 (z0.getD j 0)))
    (hbdx : ∀ k, k < len1 → ∃ b off, a1 = some ⟨b, off, none⟩ ∧ b < w.heap.size ∧ ∀ j, j < len1 → w.cell? ⟨b, off + j, none⟩ = some (.bool (z1.getD j false))) :
    Calls Tryd.prog 3 #[.slice a0 len0 cap0, .slice a1 len1 cap1] w fun e w' => e = .returned (.bool true) ∧ Below w.heap.size w w' := by
  obtain ⟨i0, hi, hz0, hz1, hz2⟩ := info_parts info_var
  have HIDX := Lib.hid hidx
  have HBDX := Lib.hid hbdx
  have HLS := Lib.hid lay_start
  clear hidx hbdx
  go_enter Tryd.func3, Tryd.ntmps3
  go_wp2_with (go_at_call 7; refine (new_g w).mono ?_; rintro e w1 ⟨sb, rfl, hS, hB⟩; have HS := Lib.hid hS; have HB := Lib.hid hB; clear hS hB)
  go_loopw [6, 7, 8, 9] (fun v6 v7 v8 v9 wr => ∃ (k : Nat) (x sv : ByteArray) (X : List (List Vr × Bool)), k ≤ 40 ∧ v6 = .string x ∧ v7 = .string sv ∧ v8 = .int .i64 k ∧ v9 = .int .i64 k ∧ Hid (X.length = k) ∧ Hid (LayF (foldG [gx, g7]) X x sv) ∧ Hid (Sk (w.heap.size + 1) wr sb 2 (foldG [gx, g7]) X (k : Int) []) ∧ Hid (Below w.heap.size w wr)) (fun _ _ _ i _ => 40 - (intOf i).toNat)
  case atStart => exact ⟨0, gnd, gnd, [], by omega, rfl, rfl, rfl, rfl, Lib.hid rfl, HLS, HS, HB⟩
  case round =>
    obtain ⟨k, x, sv, X, hk, rfl, rfl, rfl, rfl, HX, HL, HS, HB⟩ := hrel
    by_cases hin : k < len0 ∧ k < 40
    · obtain ⟨b, off, rfl, hbz, hcell⟩ := HIDX.out k hin.1
      have hcx := (HB.out.cell (p := ⟨b, off + k, none⟩) (by exact hbz)).trans (hcell k hin.1)
      have hk1 := hin.1
      have hk2 := hin.2
      clear hcell hin
      have HT : Hid (wrap64 ((k : Int) + 1) = ((k + 1 : Nat) : Int)) := Lib.hid (by unfold wrap64; omega)
      have HLX : Hid (X.length < 1000) := Lib.hid (by have := HX.out; omega)
      have HDN := Lib.hid (dig_ne k)
      have ht := toList_ne (dig_ne k)
      have hte : (dig k).toList.isEmpty = false := by rw [Bool.eq_false_iff]; intro hh; exact ht (List.isEmpty_iff.mp hh)
      have hcl : (∃ bz : Bool, k < len1 ∧ ∃ b1 o1, a1 = some ⟨b1, o1, none⟩ ∧ wr.cell? ⟨b1, o1 + k, none⟩ = some (.bool bz)) ∨ len1 ≤ k := by
        by_cases h1 : k < len1
        · obtain ⟨b1, o1, rfl, hz, hc⟩ := HBDX.out k h1
          exact Or.inl ⟨_, h1, b1, o1, rfl, (HB.out.cell (p := ⟨b1, o1 + k, none⟩) (by exact hz)).trans (hc k h1)⟩
        · exact Or.inr (by omega)
      have hsv : sv = ⟨#[]⟩ ∨ sv ≠ ⟨#[]⟩ := Decidable.em _
      rcases hcl with ⟨bz, h1, b1, o1, rfl, hbc⟩ | h1
      · cases bz with
        | true =>
          go_wp2_with (go_at_call 8; refine (place_any _ 4 (by decide) (by decide) _).mono ?_; rintro e w2 ⟨q, hq, rfl, rfl⟩)
          have hq4 : q = 0 ∨ q = 1 ∨ q = 2 ∨ q = 3 := by omega
          clear hq
          rcases hq4 with rfl | rfl | rfl | rfl
          · have HN := Lib.hid (lay_01 HL.out)
            obtain ⟨nmx, flx, ogx, hgx⟩ := HN.out.hx
            obtain ⟨nm7, fl7, og7, hg7⟩ := HN.out.h7
            have HGX := Lib.hid hgx
            have HG7 : Hid (getX (foldG [gx, g7]) (X ++ [([], true)]) n7 = (⟨nm7, ⟨#[]⟩, fl7, og7⟩, false)) := Lib.hid (by rw [hg7]; simp [])
            clear hgx hg7
            have T1 : Hid True := Lib.hid trivial
            have T2 : Hid True := Lib.hid trivial
            have T3 : Hid True := Lib.hid trivial
            have T4 : Hid True := Lib.hid trivial
            go_wp2_with (first
              | (go_at_call 9; refine (dig_calls k (by omega) _).mono ?_; rintro e w3 ⟨rfl, hb⟩; have HS := Lib.hid (HS.out.later hb); have HB := Lib.hid (HB.out.trans (hb.mono HB.out.size)); clear hb)
              | (go_at_call 10; refine (Push_sk HS.out HLX.out [] none 0 true (fun h => absurd h (by simp)) (fun _ _ h => by cases h) (by simp) (fun v hv => absurd hv (by simp))).mono ?_; rintro e w6 ⟨rfl, hS, hB⟩; have HS := Lib.hid hS; have HB := Lib.hid (HB.out.trans (hB.mono (by omega))); clear hS hB)
              | (go_at_call 11; clear T3; refine (Get_sk HS.out nx (by show 1 ≤ maxLen; unfold maxLen; omega) HGX.out).mono ?_; rintro e w7 ⟨rfl, hS, hB⟩; have HS := Lib.hid (hS.keep (boxO ⟨nmx, x, flx, ogx⟩)); have HB := Lib.hid ((HB.out.trans (hB.mono HB.out.size)).alloc (HB.out.trans (hB.mono HB.out.size)).size (boxO ⟨nmx, x, flx, ogx⟩)); clear hS hB)
              | (go_at_call 11; clear T4; refine (Get_sk HS.out n7 (by show 1 ≤ maxLen; unfold maxLen; omega) HG7.out).mono ?_; rintro e w8 ⟨rfl, hS, hB⟩; obtain ⟨_, x2, _, _⟩ := hS.box (b := w7.heap.size) (v := ⟨nmx, x, flx, ogx⟩) (by simp); have z7 := lt_heap (hS.at (b := w7.heap.size) (o := boxO ⟨nmx, x, flx, ogx⟩) (by simp)); have HS := Lib.hid (hS.keep (boxO ⟨nm7, ⟨#[]⟩, fl7, og7⟩)); have HB := Lib.hid ((HB.out.trans (hB.mono HB.out.size)).alloc (HB.out.trans (hB.mono HB.out.size)).size (boxO ⟨nm7, ⟨#[]⟩, fl7, og7⟩)); clear hS hB))
            go_roundw
            case rel => exact ⟨k + 1, x, ⟨#[]⟩, X ++ [([], true)], by omega, rfl, rfl, by go_num, by go_num, Lib.hid (by rw [List.length_append, HX.out]; rfl), HN, Lib.hid (by have h := HS.out.drop (K' := []) (by simp); rw [HT.out] at h; exact h), HB⟩
            case measure => simp [intOf]; omega
          · have HN := Lib.hid (lay_11 HL.out (dig k))
            obtain ⟨nmx, flx, ogx, hgx⟩ := HN.out.hx
            obtain ⟨nm7, fl7, og7, hg7⟩ := HN.out.h7
            have HGX := Lib.hid hgx
            have HG7 : Hid (getX (foldG [gx, g7]) (X ++ [([fx (dig k)], true)]) n7 = (⟨nm7, ⟨#[]⟩, fl7, og7⟩, false)) := Lib.hid (by rw [hg7]; simp [])
            clear hgx hg7
            have T1 : Hid True := Lib.hid trivial
            have T2 : Hid True := Lib.hid trivial
            have T3 : Hid True := Lib.hid trivial
            have T4 : Hid True := Lib.hid trivial
            go_wp2_with (first
              | (go_at_call 9; refine (dig_calls k (by omega) _).mono ?_; rintro e w3 ⟨rfl, hb⟩; have HS := Lib.hid (HS.out.later hb); have HB := Lib.hid (HB.out.trans (hb.mono HB.out.size)); clear hb)
              | (at_builtin; clear T1; refine wpList_append_any _ rfl _ _ 28 rfl w3.heap.size 27 i0 _ 4 48 Tryd.underlying28 hi hz0 hz1 hz2 rfl (by decide) (.slice none 0 0) 0 [] rfl (World.ownsRow_nil _ _ _ _) _ 1 1 (fx (dig k)).cells rfl (src_blockL (heap_alloc_new w3 _)) (Vr.cells_one _) (by unfold maxLen; omega) (by omega) (by simp) ?_; intro v4 w4 hown hgr hat; obtain ⟨a4, c4, rfl⟩ := slice_ofL hown; have R4 := Lib.hid hown; have G4 := Lib.hid hgr; clear hown hgr hat)
              | (go_at_call 10; refine (push_row HS.out HLX.out (below_app G4.out) [fx (dig k)] rfl (by simp) (row_1 R4.out) (names_f _).1 true).mono ?_; rintro e w6 ⟨rfl, hS, hB⟩; have HS := Lib.hid hS; have HB := Lib.hid (HB.out.trans (hB.mono (by omega))); clear hS hB)
              | (go_at_call 11; clear T3; refine (Get_sk HS.out nx (by show 1 ≤ maxLen; unfold maxLen; omega) HGX.out).mono ?_; rintro e w7 ⟨rfl, hS, hB⟩; have HS := Lib.hid (hS.keep (boxO ⟨nmx, dig k, flx, ogx⟩)); have HB := Lib.hid ((HB.out.trans (hB.mono HB.out.size)).alloc (HB.out.trans (hB.mono HB.out.size)).size (boxO ⟨nmx, dig k, flx, ogx⟩)); clear hS hB)
              | (go_at_call 11; clear T4; refine (Get_sk HS.out n7 (by show 1 ≤ maxLen; unfold maxLen; omega) HG7.out).mono ?_; rintro e w8 ⟨rfl, hS, hB⟩; obtain ⟨_, x2, _, _⟩ := hS.box (b := w7.heap.size) (v := ⟨nmx, dig k, flx, ogx⟩) (by simp); have z7 := lt_heap (hS.at (b := w7.heap.size) (o := boxO ⟨nmx, dig k, flx, ogx⟩) (by simp)); have HS := Lib.hid (hS.keep (boxO ⟨nm7, ⟨#[]⟩, fl7, og7⟩)); have HB := Lib.hid ((HB.out.trans (hB.mono HB.out.size)).alloc (HB.out.trans (hB.mono HB.out.size)).size (boxO ⟨nm7, ⟨#[]⟩, fl7, og7⟩)); clear hS hB))
            go_roundw
            case rel => exact ⟨k + 1, dig k, ⟨#[]⟩, X ++ [([fx (dig k)], true)], by omega, rfl, rfl, by go_num, by go_num, Lib.hid (by rw [List.length_append, HX.out]; rfl), HN, Lib.hid (by have h := HS.out.drop (K' := []) (by simp); rw [HT.out] at h; exact h), HB⟩
            case measure => simp [intOf]; omega
          · have HN := Lib.hid (lay_2 HL.out (dig k) HDN.out true)
            obtain ⟨nmx, flx, ogx, hgx⟩ := HN.out.hx
            obtain ⟨nm7, fl7, og7, hg7⟩ := HN.out.h7
            have HGX := Lib.hid hgx
            have HG7 : Hid (getX (foldG [gx, g7]) (X ++ [([f7 (dig k)], true)]) n7 = (⟨nm7, dig k, fl7, og7⟩, true)) := Lib.hid (by rw [hg7]; simp [HDN.out])
            clear hgx hg7
            have T1 : Hid True := Lib.hid trivial
            have T2 : Hid True := Lib.hid trivial
            have T3 : Hid True := Lib.hid trivial
            have T4 : Hid True := Lib.hid trivial
            go_wp2_with (first
              | (go_at_call 9; refine (dig_calls k (by omega) _).mono ?_; rintro e w3 ⟨rfl, hb⟩; have HS := Lib.hid (HS.out.later hb); have HB := Lib.hid (HB.out.trans (hb.mono HB.out.size)); clear hb)
              | (at_builtin; clear T1; refine wpList_append_any _ rfl _ _ 28 rfl w3.heap.size 27 i0 _ 4 48 Tryd.underlying28 hi hz0 hz1 hz2 rfl (by decide) (.slice none 0 0) 0 [] rfl (World.ownsRow_nil _ _ _ _) _ 1 1 (f7 (dig k)).cells rfl (src_blockL (heap_alloc_new w3 _)) (Vr.cells_one _) (by unfold maxLen; omega) (by omega) (by simp) ?_; intro v4 w4 hown hgr hat; obtain ⟨a4, c4, rfl⟩ := slice_ofL hown; have R4 := Lib.hid hown; have G4 := Lib.hid hgr; clear hown hgr hat)
              | (go_at_call 10; refine (push_row HS.out HLX.out (below_app G4.out) [f7 (dig k)] rfl (by simp) (row_1 R4.out) (names_f _).2.1 true).mono ?_; rintro e w6 ⟨rfl, hS, hB⟩; have HS := Lib.hid hS; have HB := Lib.hid (HB.out.trans (hB.mono (by omega))); clear hS hB)
              | (go_at_call 11; clear T3; refine (Get_sk HS.out nx (by show 1 ≤ maxLen; unfold maxLen; omega) HGX.out).mono ?_; rintro e w7 ⟨rfl, hS, hB⟩; have HS := Lib.hid (hS.keep (boxO ⟨nmx, x, flx, ogx⟩)); have HB := Lib.hid ((HB.out.trans (hB.mono HB.out.size)).alloc (HB.out.trans (hB.mono HB.out.size)).size (boxO ⟨nmx, x, flx, ogx⟩)); clear hS hB)
              | (go_at_call 11; clear T4; refine (Get_sk HS.out n7 (by show 1 ≤ maxLen; unfold maxLen; omega) HG7.out).mono ?_; rintro e w8 ⟨rfl, hS, hB⟩; obtain ⟨_, x2, _, _⟩ := hS.box (b := w7.heap.size) (v := ⟨nmx, x, flx, ogx⟩) (by simp); have z7 := lt_heap (hS.at (b := w7.heap.size) (o := boxO ⟨nmx, x, flx, ogx⟩) (by simp)); have HS := Lib.hid (hS.keep (boxO ⟨nm7, dig k, fl7, og7⟩)); have HB := Lib.hid ((HB.out.trans (hB.mono HB.out.size)).alloc (HB.out.trans (hB.mono HB.out.size)).size (boxO ⟨nm7, dig k, fl7, og7⟩)); clear hS hB))
            go_roundw
            case rel => exact ⟨k + 1, x, dig k, X ++ [([f7 (dig k)], true)], by omega, rfl, rfl, by go_num, by go_num, Lib.hid (by rw [List.length_append, HX.out]; rfl), HN, Lib.hid (by have h := HS.out.drop (K' := []) (by simp); rw [HT.out] at h; exact h), HB⟩
            case measure => simp [intOf]; omega
          · have HN := Lib.hid (lay_3 HL.out (dig k) HDN.out true)
            obtain ⟨nmx, flx, ogx, hgx⟩ := HN.out.hx
            obtain ⟨nm7, fl7, og7, hg7⟩ := HN.out.h7
            have HGX := Lib.hid hgx
            have HG7 : Hid (getX (foldG [gx, g7]) (X ++ [([fx (dig k), f7 (dig k)], true)]) n7 = (⟨nm7, dig k, fl7, og7⟩, true)) := Lib.hid (by rw [hg7]; simp [HDN.out])
            clear hgx hg7
            have T1 : Hid True := Lib.hid trivial
            have T2 : Hid True := Lib.hid trivial
            have T3 : Hid True := Lib.hid trivial
            have T4 : Hid True := Lib.hid trivial
            go_wp2_with (first
              | (go_at_call 9; refine (dig_calls k (by omega) _).mono ?_; rintro e w3 ⟨rfl, hb⟩; have HS := Lib.hid (HS.out.later hb); have HB := Lib.hid (HB.out.trans (hb.mono HB.out.size)); clear hb)
              | (at_builtin; clear T1; refine wpList_append_any _ rfl _ _ 28 rfl w3.heap.size 27 i0 _ 4 48 Tryd.underlying28 hi hz0 hz1 hz2 rfl (by decide) (.slice none 0 0) 0 [] rfl (World.ownsRow_nil _ _ _ _) _ 1 1 (fx (dig k)).cells rfl (src_blockL (heap_alloc_new w3 _)) (Vr.cells_one _) (by unfold maxLen; omega) (by omega) (by simp) ?_; intro v4 w4 hown hgr hat; obtain ⟨a4, c4, rfl⟩ := slice_ofL hown; have R4 := Lib.hid hown; have G4 := Lib.hid hgr; clear hown hgr hat)
              | (at_builtin; clear T2; refine wpList_append_any _ rfl _ _ 28 rfl w3.heap.size 27 i0 _ 4 48 Tryd.underlying28 hi hz0 hz1 hz2 rfl (by decide) _ _ _ rfl (R4.out.alloc _) _ 1 1 (f7 (dig k)).cells rfl (src_blockL (heap_alloc_new w4 _)) (Vr.cells_one _) (by unfold maxLen; omega) (by omega) (by have := G4.out.size; simp at this ⊢; omega) ?_; intro v5 w5 hown hgr hat; obtain ⟨a5, c5, rfl⟩ := slice_ofL hown; have R5 := Lib.hid hown; have G5 := Lib.hid hgr; clear hown hgr hat)
              | (go_at_call 10; refine (push_row HS.out HLX.out (below_app2 R4.out G4.out G5.out) [fx (dig k), f7 (dig k)] rfl (by simp) (row_2 R5.out) (names_f _).2.2 true).mono ?_; rintro e w6 ⟨rfl, hS, hB⟩; have HS := Lib.hid hS; have HB := Lib.hid (HB.out.trans (hB.mono (by omega))); clear hS hB)
              | (go_at_call 11; clear T3; refine (Get_sk HS.out nx (by show 1 ≤ maxLen; unfold maxLen; omega) HGX.out).mono ?_; rintro e w7 ⟨rfl, hS, hB⟩; have HS := Lib.hid (hS.keep (boxO ⟨nmx, dig k, flx, ogx⟩)); have HB := Lib.hid ((HB.out.trans (hB.mono HB.out.size)).alloc (HB.out.trans (hB.mono HB.out.size)).size (boxO ⟨nmx, dig k, flx, ogx⟩)); clear hS hB)
              | (go_at_call 11; clear T4; refine (Get_sk HS.out n7 (by show 1 ≤ maxLen; unfold maxLen; omega) HG7.out).mono ?_; rintro e w8 ⟨rfl, hS, hB⟩; obtain ⟨_, x2, _, _⟩ := hS.box (b := w7.heap.size) (v := ⟨nmx, dig k, flx, ogx⟩) (by simp); have z7 := lt_heap (hS.at (b := w7.heap.size) (o := boxO ⟨nmx, dig k, flx, ogx⟩) (by simp)); have HS := Lib.hid (hS.keep (boxO ⟨nm7, dig k, fl7, og7⟩)); have HB := Lib.hid ((HB.out.trans (hB.mono HB.out.size)).alloc (HB.out.trans (hB.mono HB.out.size)).size (boxO ⟨nm7, dig k, fl7, og7⟩)); clear hS hB))
            go_roundw
            case rel => exact ⟨k + 1, dig k, dig k, X ++ [([fx (dig k), f7 (dig k)], true)], by omega, rfl, rfl, by go_num, by go_num, Lib.hid (by rw [List.length_append, HX.out]; rfl), HN, Lib.hid (by have h := HS.out.drop (K' := []) (by simp); rw [HT.out] at h; exact h), HB⟩
            case measure => simp [intOf]; omega
        | false =>
          go_wp2_with (go_at_call 8; refine (place_any _ 4 (by decide) (by decide) _).mono ?_; rintro e w2 ⟨q, hq, rfl, rfl⟩)
          have hq4 : q = 0 ∨ q = 1 ∨ q = 2 ∨ q = 3 := by omega
          clear hq
          rcases hq4 with rfl | rfl | rfl | rfl
          · rcases hsv with rfl | hsv
            · have HN := Lib.hid (lay_00 HL.out)
              obtain ⟨nmx, flx, ogx, hgx⟩ := HN.out.hx
              obtain ⟨nm7, fl7, og7, hg7⟩ := HN.out.h7
              have HGX := Lib.hid hgx
              have HG7 : Hid (getX (foldG [gx, g7]) (X ++ [([], false)]) n7 = (⟨nm7, ⟨#[]⟩, fl7, og7⟩, false)) := Lib.hid (by rw [hg7]; simp [])
              clear hgx hg7
              have T1 : Hid True := Lib.hid trivial
              have T2 : Hid True := Lib.hid trivial
              have T3 : Hid True := Lib.hid trivial
              have T4 : Hid True := Lib.hid trivial
              go_wp2_with (first
                | (go_at_call 9; refine (dig_calls k (by omega) _).mono ?_; rintro e w3 ⟨rfl, hb⟩; have HS := Lib.hid (HS.out.later hb); have HB := Lib.hid (HB.out.trans (hb.mono HB.out.size)); clear hb)
                | (go_at_call 10; refine (Push_sk HS.out HLX.out [] none 0 false (fun h => absurd h (by simp)) (fun _ _ h => by cases h) (by simp) (fun v hv => absurd hv (by simp))).mono ?_; rintro e w6 ⟨rfl, hS, hB⟩; have HS := Lib.hid hS; have HB := Lib.hid (HB.out.trans (hB.mono (by omega))); clear hS hB)
                | (go_at_call 11; clear T3; refine (Get_sk HS.out nx (by show 1 ≤ maxLen; unfold maxLen; omega) HGX.out).mono ?_; rintro e w7 ⟨rfl, hS, hB⟩; have HS := Lib.hid (hS.keep (boxO ⟨nmx, x, flx, ogx⟩)); have HB := Lib.hid ((HB.out.trans (hB.mono HB.out.size)).alloc (HB.out.trans (hB.mono HB.out.size)).size (boxO ⟨nmx, x, flx, ogx⟩)); clear hS hB)
                | (go_at_call 11; clear T4; refine (Get_sk HS.out n7 (by show 1 ≤ maxLen; unfold maxLen; omega) HG7.out).mono ?_; rintro e w8 ⟨rfl, hS, hB⟩; obtain ⟨_, x2, _, _⟩ := hS.box (b := w7.heap.size) (v := ⟨nmx, x, flx, ogx⟩) (by simp); have z7 := lt_heap (hS.at (b := w7.heap.size) (o := boxO ⟨nmx, x, flx, ogx⟩) (by simp)); have HS := Lib.hid (hS.keep (boxO ⟨nm7, ⟨#[]⟩, fl7, og7⟩)); have HB := Lib.hid ((HB.out.trans (hB.mono HB.out.size)).alloc (HB.out.trans (hB.mono HB.out.size)).size (boxO ⟨nm7, ⟨#[]⟩, fl7, og7⟩)); clear hS hB))
              go_roundw
              case rel => exact ⟨k + 1, x, ⟨#[]⟩, X ++ [([], false)], by omega, rfl, rfl, by go_num, by go_num, Lib.hid (by rw [List.length_append, HX.out]; rfl), HN, Lib.hid (by have h := HS.out.drop (K' := []) (by simp); rw [HT.out] at h; exact h), HB⟩
              case measure => simp [intOf]; omega
            · have hs1 := toList_ne hsv
              have hs2 : sv.toList.isEmpty = false := by rw [Bool.eq_false_iff]; intro hh; exact hs1 (List.isEmpty_iff.mp hh)
              have HN := Lib.hid (lay_00 HL.out)
              obtain ⟨nmx, flx, ogx, hgx⟩ := HN.out.hx
              obtain ⟨nm7, fl7, og7, hg7⟩ := HN.out.h7
              have HGX := Lib.hid hgx
              have HG7 : Hid (getX (foldG [gx, g7]) (X ++ [([], false)]) n7 = (⟨nm7, sv, fl7, og7⟩, true)) := Lib.hid (by rw [hg7]; simp [hsv])
              clear hgx hg7
              have T1 : Hid True := Lib.hid trivial
              have T2 : Hid True := Lib.hid trivial
              have T3 : Hid True := Lib.hid trivial
              have T4 : Hid True := Lib.hid trivial
              go_wp2_with (first
                | (go_at_call 9; refine (dig_calls k (by omega) _).mono ?_; rintro e w3 ⟨rfl, hb⟩; have HS := Lib.hid (HS.out.later hb); have HB := Lib.hid (HB.out.trans (hb.mono HB.out.size)); clear hb)
                | (go_at_call 10; refine (Push_sk HS.out HLX.out [] none 0 false (fun h => absurd h (by simp)) (fun _ _ h => by cases h) (by simp) (fun v hv => absurd hv (by simp))).mono ?_; rintro e w6 ⟨rfl, hS, hB⟩; have HS := Lib.hid hS; have HB := Lib.hid (HB.out.trans (hB.mono (by omega))); clear hS hB)
                | (go_at_call 11; clear T3; refine (Get_sk HS.out nx (by show 1 ≤ maxLen; unfold maxLen; omega) HGX.out).mono ?_; rintro e w7 ⟨rfl, hS, hB⟩; have HS := Lib.hid (hS.keep (boxO ⟨nmx, x, flx, ogx⟩)); have HB := Lib.hid ((HB.out.trans (hB.mono HB.out.size)).alloc (HB.out.trans (hB.mono HB.out.size)).size (boxO ⟨nmx, x, flx, ogx⟩)); clear hS hB)
                | (go_at_call 11; clear T4; refine (Get_sk HS.out n7 (by show 1 ≤ maxLen; unfold maxLen; omega) HG7.out).mono ?_; rintro e w8 ⟨rfl, hS, hB⟩; obtain ⟨_, x2, _, _⟩ := hS.box (b := w7.heap.size) (v := ⟨nmx, x, flx, ogx⟩) (by simp); have z7 := lt_heap (hS.at (b := w7.heap.size) (o := boxO ⟨nmx, x, flx, ogx⟩) (by simp)); have HS := Lib.hid (hS.keep (boxO ⟨nm7, sv, fl7, og7⟩)); have HB := Lib.hid ((HB.out.trans (hB.mono HB.out.size)).alloc (HB.out.trans (hB.mono HB.out.size)).size (boxO ⟨nm7, sv, fl7, og7⟩)); clear hS hB))
              go_roundw
              case rel => exact ⟨k + 1, x, sv, X ++ [([], false)], by omega, rfl, rfl, by go_num, by go_num, Lib.hid (by rw [List.length_append, HX.out]; rfl), HN, Lib.hid (by have h := HS.out.drop (K' := []) (by simp); rw [HT.out] at h; exact h), HB⟩
              case measure => simp [intOf]; omega
          · rcases hsv with rfl | hsv
            · have HN := Lib.hid (lay_10 HL.out (dig k))
              obtain ⟨nmx, flx, ogx, hgx⟩ := HN.out.hx
              obtain ⟨nm7, fl7, og7, hg7⟩ := HN.out.h7
              have HGX := Lib.hid hgx
              have HG7 : Hid (getX (foldG [gx, g7]) (X ++ [([fx (dig k)], false)]) n7 = (⟨nm7, ⟨#[]⟩, fl7, og7⟩, false)) := Lib.hid (by rw [hg7]; simp [])
              clear hgx hg7
              have T1 : Hid True := Lib.hid trivial
              have T2 : Hid True := Lib.hid trivial
              have T3 : Hid True := Lib.hid trivial
              have T4 : Hid True := Lib.hid trivial
              go_wp2_with (first
                | (go_at_call 9; refine (dig_calls k (by omega) _).mono ?_; rintro e w3 ⟨rfl, hb⟩; have HS := Lib.hid (HS.out.later hb); have HB := Lib.hid (HB.out.trans (hb.mono HB.out.size)); clear hb)
                | (at_builtin; clear T1; refine wpList_append_any _ rfl _ _ 28 rfl w3.heap.size 27 i0 _ 4 48 Tryd.underlying28 hi hz0 hz1 hz2 rfl (by decide) (.slice none 0 0) 0 [] rfl (World.ownsRow_nil _ _ _ _) _ 1 1 (fx (dig k)).cells rfl (src_blockL (heap_alloc_new w3 _)) (Vr.cells_one _) (by unfold maxLen; omega) (by omega) (by simp) ?_; intro v4 w4 hown hgr hat; obtain ⟨a4, c4, rfl⟩ := slice_ofL hown; have R4 := Lib.hid hown; have G4 := Lib.hid hgr; clear hown hgr hat)
                | (go_at_call 10; refine (push_row HS.out HLX.out (below_app G4.out) [fx (dig k)] rfl (by simp) (row_1 R4.out) (names_f _).1 false).mono ?_; rintro e w6 ⟨rfl, hS, hB⟩; have HS := Lib.hid hS; have HB := Lib.hid (HB.out.trans (hB.mono (by omega))); clear hS hB)
                | (go_at_call 11; clear T3; refine (Get_sk HS.out nx (by show 1 ≤ maxLen; unfold maxLen; omega) HGX.out).mono ?_; rintro e w7 ⟨rfl, hS, hB⟩; have HS := Lib.hid (hS.keep (boxO ⟨nmx, dig k, flx, ogx⟩)); have HB := Lib.hid ((HB.out.trans (hB.mono HB.out.size)).alloc (HB.out.trans (hB.mono HB.out.size)).size (boxO ⟨nmx, dig k, flx, ogx⟩)); clear hS hB)
                | (go_at_call 11; clear T4; refine (Get_sk HS.out n7 (by show 1 ≤ maxLen; unfold maxLen; omega) HG7.out).mono ?_; rintro e w8 ⟨rfl, hS, hB⟩; obtain ⟨_, x2, _, _⟩ := hS.box (b := w7.heap.size) (v := ⟨nmx, dig k, flx, ogx⟩) (by simp); have z7 := lt_heap (hS.at (b := w7.heap.size) (o := boxO ⟨nmx, dig k, flx, ogx⟩) (by simp)); have HS := Lib.hid (hS.keep (boxO ⟨nm7, ⟨#[]⟩, fl7, og7⟩)); have HB := Lib.hid ((HB.out.trans (hB.mono HB.out.size)).alloc (HB.out.trans (hB.mono HB.out.size)).size (boxO ⟨nm7, ⟨#[]⟩, fl7, og7⟩)); clear hS hB))
              go_roundw
              case rel => exact ⟨k + 1, dig k, ⟨#[]⟩, X ++ [([fx (dig k)], false)], by omega, rfl, rfl, by go_num, by go_num, Lib.hid (by rw [List.length_append, HX.out]; rfl), HN, Lib.hid (by have h := HS.out.drop (K' := []) (by simp); rw [HT.out] at h; exact h), HB⟩
              case measure => simp [intOf]; omega
            · have hs1 := toList_ne hsv
              have hs2 : sv.toList.isEmpty = false := by rw [Bool.eq_false_iff]; intro hh; exact hs1 (List.isEmpty_iff.mp hh)
              have HN := Lib.hid (lay_10 HL.out (dig k))
              obtain ⟨nmx, flx, ogx, hgx⟩ := HN.out.hx
              obtain ⟨nm7, fl7, og7, hg7⟩ := HN.out.h7
              have HGX := Lib.hid hgx
              have HG7 : Hid (getX (foldG [gx, g7]) (X ++ [([fx (dig k)], false)]) n7 = (⟨nm7, sv, fl7, og7⟩, true)) := Lib.hid (by rw [hg7]; simp [hsv])
              clear hgx hg7
              have T1 : Hid True := Lib.hid trivial
              have T2 : Hid True := Lib.hid trivial
              have T3 : Hid True := Lib.hid trivial
              have T4 : Hid True := Lib.hid trivial
              go_wp2_with (first
                | (go_at_call 9; refine (dig_calls k (by omega) _).mono ?_; rintro e w3 ⟨rfl, hb⟩; have HS := Lib.hid (HS.out.later hb); have HB := Lib.hid (HB.out.trans (hb.mono HB.out.size)); clear hb)
                | (at_builtin; clear T1; refine wpList_append_any _ rfl _ _ 28 rfl w3.heap.size 27 i0 _ 4 48 Tryd.underlying28 hi hz0 hz1 hz2 rfl (by decide) (.slice none 0 0) 0 [] rfl (World.ownsRow_nil _ _ _ _) _ 1 1 (fx (dig k)).cells rfl (src_blockL (heap_alloc_new w3 _)) (Vr.cells_one _) (by unfold maxLen; omega) (by omega) (by simp) ?_; intro v4 w4 hown hgr hat; obtain ⟨a4, c4, rfl⟩ := slice_ofL hown; have R4 := Lib.hid hown; have G4 := Lib.hid hgr; clear hown hgr hat)
                | (go_at_call 10; refine (push_row HS.out HLX.out (below_app G4.out) [fx (dig k)] rfl (by simp) (row_1 R4.out) (names_f _).1 false).mono ?_; rintro e w6 ⟨rfl, hS, hB⟩; have HS := Lib.hid hS; have HB := Lib.hid (HB.out.trans (hB.mono (by omega))); clear hS hB)
                | (go_at_call 11; clear T3; refine (Get_sk HS.out nx (by show 1 ≤ maxLen; unfold maxLen; omega) HGX.out).mono ?_; rintro e w7 ⟨rfl, hS, hB⟩; have HS := Lib.hid (hS.keep (boxO ⟨nmx, dig k, flx, ogx⟩)); have HB := Lib.hid ((HB.out.trans (hB.mono HB.out.size)).alloc (HB.out.trans (hB.mono HB.out.size)).size (boxO ⟨nmx, dig k, flx, ogx⟩)); clear hS hB)
                | (go_at_call 11; clear T4; refine (Get_sk HS.out n7 (by show 1 ≤ maxLen; unfold maxLen; omega) HG7.out).mono ?_; rintro e w8 ⟨rfl, hS, hB⟩; obtain ⟨_, x2, _, _⟩ := hS.box (b := w7.heap.size) (v := ⟨nmx, dig k, flx, ogx⟩) (by simp); have z7 := lt_heap (hS.at (b := w7.heap.size) (o := boxO ⟨nmx, dig k, flx, ogx⟩) (by simp)); have HS := Lib.hid (hS.keep (boxO ⟨nm7, sv, fl7, og7⟩)); have HB := Lib.hid ((HB.out.trans (hB.mono HB.out.size)).alloc (HB.out.trans (hB.mono HB.out.size)).size (boxO ⟨nm7, sv, fl7, og7⟩)); clear hS hB))
              go_roundw
              case rel => exact ⟨k + 1, dig k, sv, X ++ [([fx (dig k)], false)], by omega, rfl, rfl, by go_num, by go_num, Lib.hid (by rw [List.length_append, HX.out]; rfl), HN, Lib.hid (by have h := HS.out.drop (K' := []) (by simp); rw [HT.out] at h; exact h), HB⟩
              case measure => simp [intOf]; omega
          · have HN := Lib.hid (lay_2 HL.out (dig k) HDN.out false)
            obtain ⟨nmx, flx, ogx, hgx⟩ := HN.out.hx
            obtain ⟨nm7, fl7, og7, hg7⟩ := HN.out.h7
            have HGX := Lib.hid hgx
            have HG7 : Hid (getX (foldG [gx, g7]) (X ++ [([f7 (dig k)], false)]) n7 = (⟨nm7, dig k, fl7, og7⟩, true)) := Lib.hid (by rw [hg7]; simp [HDN.out])
            clear hgx hg7
            have T1 : Hid True := Lib.hid trivial
            have T2 : Hid True := Lib.hid trivial
            have T3 : Hid True := Lib.hid trivial
            have T4 : Hid True := Lib.hid trivial
            go_wp2_with (first
              | (go_at_call 9; refine (dig_calls k (by omega) _).mono ?_; rintro e w3 ⟨rfl, hb⟩; have HS := Lib.hid (HS.out.later hb); have HB := Lib.hid (HB.out.trans (hb.mono HB.out.size)); clear hb)
              | (at_builtin; clear T1; refine wpList_append_any _ rfl _ _ 28 rfl w3.heap.size 27 i0 _ 4 48 Tryd.underlying28 hi hz0 hz1 hz2 rfl (by decide) (.slice none 0 0) 0 [] rfl (World.ownsRow_nil _ _ _ _) _ 1 1 (f7 (dig k)).cells rfl (src_blockL (heap_alloc_new w3 _)) (Vr.cells_one _) (by unfold maxLen; omega) (by omega) (by simp) ?_; intro v4 w4 hown hgr hat; obtain ⟨a4, c4, rfl⟩ := slice_ofL hown; have R4 := Lib.hid hown; have G4 := Lib.hid hgr; clear hown hgr hat)
              | (go_at_call 10; refine (push_row HS.out HLX.out (below_app G4.out) [f7 (dig k)] rfl (by simp) (row_1 R4.out) (names_f _).2.1 false).mono ?_; rintro e w6 ⟨rfl, hS, hB⟩; have HS := Lib.hid hS; have HB := Lib.hid (HB.out.trans (hB.mono (by omega))); clear hS hB)
              | (go_at_call 11; clear T3; refine (Get_sk HS.out nx (by show 1 ≤ maxLen; unfold maxLen; omega) HGX.out).mono ?_; rintro e w7 ⟨rfl, hS, hB⟩; have HS := Lib.hid (hS.keep (boxO ⟨nmx, x, flx, ogx⟩)); have HB := Lib.hid ((HB.out.trans (hB.mono HB.out.size)).alloc (HB.out.trans (hB.mono HB.out.size)).size (boxO ⟨nmx, x, flx, ogx⟩)); clear hS hB)
              | (go_at_call 11; clear T4; refine (Get_sk HS.out n7 (by show 1 ≤ maxLen; unfold maxLen; omega) HG7.out).mono ?_; rintro e w8 ⟨rfl, hS, hB⟩; obtain ⟨_, x2, _, _⟩ := hS.box (b := w7.heap.size) (v := ⟨nmx, x, flx, ogx⟩) (by simp); have z7 := lt_heap (hS.at (b := w7.heap.size) (o := boxO ⟨nmx, x, flx, ogx⟩) (by simp)); have HS := Lib.hid (hS.keep (boxO ⟨nm7, dig k, fl7, og7⟩)); have HB := Lib.hid ((HB.out.trans (hB.mono HB.out.size)).alloc (HB.out.trans (hB.mono HB.out.size)).size (boxO ⟨nm7, dig k, fl7, og7⟩)); clear hS hB))
            go_roundw
            case rel => exact ⟨k + 1, x, dig k, X ++ [([f7 (dig k)], false)], by omega, rfl, rfl, by go_num, by go_num, Lib.hid (by rw [List.length_append, HX.out]; rfl), HN, Lib.hid (by have h := HS.out.drop (K' := []) (by simp); rw [HT.out] at h; exact h), HB⟩
            case measure => simp [intOf]; omega
          · have HN := Lib.hid (lay_3 HL.out (dig k) HDN.out false)
            obtain ⟨nmx, flx, ogx, hgx⟩ := HN.out.hx
            obtain ⟨nm7, fl7, og7, hg7⟩ := HN.out.h7
            have HGX := Lib.hid hgx
            have HG7 : Hid (getX (foldG [gx, g7]) (X ++ [([fx (dig k), f7 (dig k)], false)]) n7 = (⟨nm7, dig k, fl7, og7⟩, true)) := Lib.hid (by rw [hg7]; simp [HDN.out])
            clear hgx hg7
            have T1 : Hid True := Lib.hid trivial
            have T2 : Hid True := Lib.hid trivial
            have T3 : Hid True := Lib.hid trivial
            have T4 : Hid True := Lib.hid trivial
            go_wp2_with (first
              | (go_at_call 9; refine (dig_calls k (by omega) _).mono ?_; rintro e w3 ⟨rfl, hb⟩; have HS := Lib.hid (HS.out.later hb); have HB := Lib.hid (HB.out.trans (hb.mono HB.out.size)); clear hb)
              | (at_builtin; clear T1; refine wpList_append_any _ rfl _ _ 28 rfl w3.heap.size 27 i0 _ 4 48 Tryd.underlying28 hi hz0 hz1 hz2 rfl (by decide) (.slice none 0 0) 0 [] rfl (World.ownsRow_nil _ _ _ _) _ 1 1 (fx (dig k)).cells rfl (src_blockL (heap_alloc_new w3 _)) (Vr.cells_one _) (by unfold maxLen; omega) (by omega) (by simp) ?_; intro v4 w4 hown hgr hat; obtain ⟨a4, c4, rfl⟩ := slice_ofL hown; have R4 := Lib.hid hown; have G4 := Lib.hid hgr; clear hown hgr hat)
              | (at_builtin; clear T2; refine wpList_append_any _ rfl _ _ 28 rfl w3.heap.size 27 i0 _ 4 48 Tryd.underlying28 hi hz0 hz1 hz2 rfl (by decide) _ _ _ rfl (R4.out.alloc _) _ 1 1 (f7 (dig k)).cells rfl (src_blockL (heap_alloc_new w4 _)) (Vr.cells_one _) (by unfold maxLen; omega) (by omega) (by have := G4.out.size; simp at this ⊢; omega) ?_; intro v5 w5 hown hgr hat; obtain ⟨a5, c5, rfl⟩ := slice_ofL hown; have R5 := Lib.hid hown; have G5 := Lib.hid hgr; clear hown hgr hat)
              | (go_at_call 10; refine (push_row HS.out HLX.out (below_app2 R4.out G4.out G5.out) [fx (dig k), f7 (dig k)] rfl (by simp) (row_2 R5.out) (names_f _).2.2 false).mono ?_; rintro e w6 ⟨rfl, hS, hB⟩; have HS := Lib.hid hS; have HB := Lib.hid (HB.out.trans (hB.mono (by omega))); clear hS hB)
              | (go_at_call 11; clear T3; refine (Get_sk HS.out nx (by show 1 ≤ maxLen; unfold maxLen; omega) HGX.out).mono ?_; rintro e w7 ⟨rfl, hS, hB⟩; have HS := Lib.hid (hS.keep (boxO ⟨nmx, dig k, flx, ogx⟩)); have HB := Lib.hid ((HB.out.trans (hB.mono HB.out.size)).alloc (HB.out.trans (hB.mono HB.out.size)).size (boxO ⟨nmx, dig k, flx, ogx⟩)); clear hS hB)
              | (go_at_call 11; clear T4; refine (Get_sk HS.out n7 (by show 1 ≤ maxLen; unfold maxLen; omega) HG7.out).mono ?_; rintro e w8 ⟨rfl, hS, hB⟩; obtain ⟨_, x2, _, _⟩ := hS.box (b := w7.heap.size) (v := ⟨nmx, dig k, flx, ogx⟩) (by simp); have z7 := lt_heap (hS.at (b := w7.heap.size) (o := boxO ⟨nmx, dig k, flx, ogx⟩) (by simp)); have HS := Lib.hid (hS.keep (boxO ⟨nm7, dig k, fl7, og7⟩)); have HB := Lib.hid ((HB.out.trans (hB.mono HB.out.size)).alloc (HB.out.trans (hB.mono HB.out.size)).size (boxO ⟨nm7, dig k, fl7, og7⟩)); clear hS hB))
            go_roundw
            case rel => exact ⟨k + 1, dig k, dig k, X ++ [([fx (dig k), f7 (dig k)], false)], by omega, rfl, rfl, by go_num, by go_num, Lib.hid (by rw [List.length_append, HX.out]; rfl), HN, Lib.hid (by have h := HS.out.drop (K' := []) (by simp); rw [HT.out] at h; exact h), HB⟩
            case measure => simp [intOf]; omega
      · go_wp2_with (go_at_call 8; refine (place_any _ 4 (by decide) (by decide) _).mono ?_; rintro e w2 ⟨q, hq, rfl, rfl⟩)
        have hq4 : q = 0 ∨ q = 1 ∨ q = 2 ∨ q = 3 := by omega
        clear hq
        rcases hq4 with rfl | rfl | rfl | rfl
        · rcases hsv with rfl | hsv
          · have HN := Lib.hid (lay_00 HL.out)
            obtain ⟨nmx, flx, ogx, hgx⟩ := HN.out.hx
            obtain ⟨nm7, fl7, og7, hg7⟩ := HN.out.h7
            have HGX := Lib.hid hgx
            have HG7 : Hid (getX (foldG [gx, g7]) (X ++ [([], false)]) n7 = (⟨nm7, ⟨#[]⟩, fl7, og7⟩, false)) := Lib.hid (by rw [hg7]; simp [])
            clear hgx hg7
            have T1 : Hid True := Lib.hid trivial
            have T2 : Hid True := Lib.hid trivial
            have T3 : Hid True := Lib.hid trivial
            have T4 : Hid True := Lib.hid trivial
            go_wp2_with (first
              | (go_at_call 9; refine (dig_calls k (by omega) _).mono ?_; rintro e w3 ⟨rfl, hb⟩; have HS := Lib.hid (HS.out.later hb); have HB := Lib.hid (HB.out.trans (hb.mono HB.out.size)); clear hb)
              | (go_at_call 10; refine (Push_sk HS.out HLX.out [] none 0 false (fun h => absurd h (by simp)) (fun _ _ h => by cases h) (by simp) (fun v hv => absurd hv (by simp))).mono ?_; rintro e w6 ⟨rfl, hS, hB⟩; have HS := Lib.hid hS; have HB := Lib.hid (HB.out.trans (hB.mono (by omega))); clear hS hB)
              | (go_at_call 11; clear T3; refine (Get_sk HS.out nx (by show 1 ≤ maxLen; unfold maxLen; omega) HGX.out).mono ?_; rintro e w7 ⟨rfl, hS, hB⟩; have HS := Lib.hid (hS.keep (boxO ⟨nmx, x, flx, ogx⟩)); have HB := Lib.hid ((HB.out.trans (hB.mono HB.out.size)).alloc (HB.out.trans (hB.mono HB.out.size)).size (boxO ⟨nmx, x, flx, ogx⟩)); clear hS hB)
              | (go_at_call 11; clear T4; refine (Get_sk HS.out n7 (by show 1 ≤ maxLen; unfold maxLen; omega) HG7.out).mono ?_; rintro e w8 ⟨rfl, hS, hB⟩; obtain ⟨_, x2, _, _⟩ := hS.box (b := w7.heap.size) (v := ⟨nmx, x, flx, ogx⟩) (by simp); have z7 := lt_heap (hS.at (b := w7.heap.size) (o := boxO ⟨nmx, x, flx, ogx⟩) (by simp)); have HS := Lib.hid (hS.keep (boxO ⟨nm7, ⟨#[]⟩, fl7, og7⟩)); have HB := Lib.hid ((HB.out.trans (hB.mono HB.out.size)).alloc (HB.out.trans (hB.mono HB.out.size)).size (boxO ⟨nm7, ⟨#[]⟩, fl7, og7⟩)); clear hS hB))
            go_roundw
            case rel => exact ⟨k + 1, x, ⟨#[]⟩, X ++ [([], false)], by omega, rfl, rfl, by go_num, by go_num, Lib.hid (by rw [List.length_append, HX.out]; rfl), HN, Lib.hid (by have h := HS.out.drop (K' := []) (by simp); rw [HT.out] at h; exact h), HB⟩
            case measure => simp [intOf]; omega
          · have hs1 := toList_ne hsv
            have hs2 : sv.toList.isEmpty = false := by rw [Bool.eq_false_iff]; intro hh; exact hs1 (List.isEmpty_iff.mp hh)
            have HN := Lib.hid (lay_00 HL.out)
            obtain ⟨nmx, flx, ogx, hgx⟩ := HN.out.hx
            obtain ⟨nm7, fl7, og7, hg7⟩ := HN.out.h7
            have HGX := Lib.hid hgx
            have HG7 : Hid (getX (foldG [gx, g7]) (X ++ [([], false)]) n7 = (⟨nm7, sv, fl7, og7⟩, true)) := Lib.hid (by rw [hg7]; simp [hsv])
            clear hgx hg7
            have T1 : Hid True := Lib.hid trivial
            have T2 : Hid True := Lib.hid trivial
            have T3 : Hid True := Lib.hid trivial
            have T4 : Hid True := Lib.hid trivial
            go_wp2_with (first
              | (go_at_call 9; refine (dig_calls k (by omega) _).mono ?_; rintro e w3 ⟨rfl, hb⟩; have HS := Lib.hid (HS.out.later hb); have HB := Lib.hid (HB.out.trans (hb.mono HB.out.size)); clear hb)
              | (go_at_call 10; refine (Push_sk HS.out HLX.out [] none 0 false (fun h => absurd h (by simp)) (fun _ _ h => by cases h) (by simp) (fun v hv => absurd hv (by simp))).mono ?_; rintro e w6 ⟨rfl, hS, hB⟩; have HS := Lib.hid hS; have HB := Lib.hid (HB.out.trans (hB.mono (by omega))); clear hS hB)
              | (go_at_call 11; clear T3; refine (Get_sk HS.out nx (by show 1 ≤ maxLen; unfold maxLen; omega) HGX.out).mono ?_; rintro e w7 ⟨rfl, hS, hB⟩; have HS := Lib.hid (hS.keep (boxO ⟨nmx, x, flx, ogx⟩)); have HB := Lib.hid ((HB.out.trans (hB.mono HB.out.size)).alloc (HB.out.trans (hB.mono HB.out.size)).size (boxO ⟨nmx, x, flx, ogx⟩)); clear hS hB)
              | (go_at_call 11; clear T4; refine (Get_sk HS.out n7 (by show 1 ≤ maxLen; unfold maxLen; omega) HG7.out).mono ?_; rintro e w8 ⟨rfl, hS, hB⟩; obtain ⟨_, x2, _, _⟩ := hS.box (b := w7.heap.size) (v := ⟨nmx, x, flx, ogx⟩) (by simp); have z7 := lt_heap (hS.at (b := w7.heap.size) (o := boxO ⟨nmx, x, flx, ogx⟩) (by simp)); have HS := Lib.hid (hS.keep (boxO ⟨nm7, sv, fl7, og7⟩)); have HB := Lib.hid ((HB.out.trans (hB.mono HB.out.size)).alloc (HB.out.trans (hB.mono HB.out.size)).size (boxO ⟨nm7, sv, fl7, og7⟩)); clear hS hB))
            go_roundw
            case rel => exact ⟨k + 1, x, sv, X ++ [([], false)], by omega, rfl, rfl, by go_num, by go_num, Lib.hid (by rw [List.length_append, HX.out]; rfl), HN, Lib.hid (by have h := HS.out.drop (K' := []) (by simp); rw [HT.out] at h; exact h), HB⟩
            case measure => simp [intOf]; omega
        · rcases hsv with rfl | hsv
          · have HN := Lib.hid (lay_10 HL.out (dig k))
            obtain ⟨nmx, flx, ogx, hgx⟩ := HN.out.hx
            obtain ⟨nm7, fl7, og7, hg7⟩ := HN.out.h7
            have HGX := Lib.hid hgx
            have HG7 : Hid (getX (foldG [gx, g7]) (X ++ [([fx (dig k)], false)]) n7 = (⟨nm7, ⟨#[]⟩, fl7, og7⟩, false)) := Lib.hid (by rw [hg7]; simp [])
            clear hgx hg7
            have T1 : Hid True := Lib.hid trivial
            have T2 : Hid True := Lib.hid trivial
            have T3 : Hid True := Lib.hid trivial
            have T4 : Hid True := Lib.hid trivial
            go_wp2_with (first
              | (go_at_call 9; refine (dig_calls k (by omega) _).mono ?_; rintro e w3 ⟨rfl, hb⟩; have HS := Lib.hid (HS.out.later hb); have HB := Lib.hid (HB.out.trans (hb.mono HB.out.size)); clear hb)
              | (at_builtin; clear T1; refine wpList_append_any _ rfl _ _ 28 rfl w3.heap.size 27 i0 _ 4 48 Tryd.underlying28 hi hz0 hz1 hz2 rfl (by decide) (.slice none 0 0) 0 [] rfl (World.ownsRow_nil _ _ _ _) _ 1 1 (fx (dig k)).cells rfl (src_blockL (heap_alloc_new w3 _)) (Vr.cells_one _) (by unfold maxLen; omega) (by omega) (by simp) ?_; intro v4 w4 hown hgr hat; obtain ⟨a4, c4, rfl⟩ := slice_ofL hown; have R4 := Lib.hid hown; have G4 := Lib.hid hgr; clear hown hgr hat)
              | (go_at_call 10; refine (push_row HS.out HLX.out (below_app G4.out) [fx (dig k)] rfl (by simp) (row_1 R4.out) (names_f _).1 false).mono ?_; rintro e w6 ⟨rfl, hS, hB⟩; have HS := Lib.hid hS; have HB := Lib.hid (HB.out.trans (hB.mono (by omega))); clear hS hB)
              | (go_at_call 11; clear T3; refine (Get_sk HS.out nx (by show 1 ≤ maxLen; unfold maxLen; omega) HGX.out).mono ?_; rintro e w7 ⟨rfl, hS, hB⟩; have HS := Lib.hid (hS.keep (boxO ⟨nmx, dig k, flx, ogx⟩)); have HB := Lib.hid ((HB.out.trans (hB.mono HB.out.size)).alloc (HB.out.trans (hB.mono HB.out.size)).size (boxO ⟨nmx, dig k, flx, ogx⟩)); clear hS hB)
              | (go_at_call 11; clear T4; refine (Get_sk HS.out n7 (by show 1 ≤ maxLen; unfold maxLen; omega) HG7.out).mono ?_; rintro e w8 ⟨rfl, hS, hB⟩; obtain ⟨_, x2, _, _⟩ := hS.box (b := w7.heap.size) (v := ⟨nmx, dig k, flx, ogx⟩) (by simp); have z7 := lt_heap (hS.at (b := w7.heap.size) (o := boxO ⟨nmx, dig k, flx, ogx⟩) (by simp)); have HS := Lib.hid (hS.keep (boxO ⟨nm7, ⟨#[]⟩, fl7, og7⟩)); have HB := Lib.hid ((HB.out.trans (hB.mono HB.out.size)).alloc (HB.out.trans (hB.mono HB.out.size)).size (boxO ⟨nm7, ⟨#[]⟩, fl7, og7⟩)); clear hS hB))
            go_roundw
            case rel => exact ⟨k + 1, dig k, ⟨#[]⟩, X ++ [([fx (dig k)], false)], by omega, rfl, rfl, by go_num, by go_num, Lib.hid (by rw [List.length_append, HX.out]; rfl), HN, Lib.hid (by have h := HS.out.drop (K' := []) (by simp); rw [HT.out] at h; exact h), HB⟩
            case measure => simp [intOf]; omega
          · have hs1 := toList_ne hsv
            have hs2 : sv.toList.isEmpty = false := by rw [Bool.eq_false_iff]; intro hh; exact hs1 (List.isEmpty_iff.mp hh)
            have HN := Lib.hid (lay_10 HL.out (dig k))
            obtain ⟨nmx, flx, ogx, hgx⟩ := HN.out.hx
            obtain ⟨nm7, fl7, og7, hg7⟩ := HN.out.h7
            have HGX := Lib.hid hgx
            have HG7 : Hid (getX (foldG [gx, g7]) (X ++ [([fx (dig k)], false)]) n7 = (⟨nm7, sv, fl7, og7⟩, true)) := Lib.hid (by rw [hg7]; simp [hsv])
            clear hgx hg7
            have T1 : Hid True := Lib.hid trivial
            have T2 : Hid True := Lib.hid trivial
            have T3 : Hid True := Lib.hid trivial
            have T4 : Hid True := Lib.hid trivial
            go_wp2_with (first
              | (go_at_call 9; refine (dig_calls k (by omega) _).mono ?_; rintro e w3 ⟨rfl, hb⟩; have HS := Lib.hid (HS.out.later hb); have HB := Lib.hid (HB.out.trans (hb.mono HB.out.size)); clear hb)
              | (at_builtin; clear T1; refine wpList_append_any _ rfl _ _ 28 rfl w3.heap.size 27 i0 _ 4 48 Tryd.underlying28 hi hz0 hz1 hz2 rfl (by decide) (.slice none 0 0) 0 [] rfl (World.ownsRow_nil _ _ _ _) _ 1 1 (fx (dig k)).cells rfl (src_blockL (heap_alloc_new w3 _)) (Vr.cells_one _) (by unfold maxLen; omega) (by omega) (by simp) ?_; intro v4 w4 hown hgr hat; obtain ⟨a4, c4, rfl⟩ := slice_ofL hown; have R4 := Lib.hid hown; have G4 := Lib.hid hgr; clear hown hgr hat)
              | (go_at_call 10; refine (push_row HS.out HLX.out (below_app G4.out) [fx (dig k)] rfl (by simp) (row_1 R4.out) (names_f _).1 false).mono ?_; rintro e w6 ⟨rfl, hS, hB⟩; have HS := Lib.hid hS; have HB := Lib.hid (HB.out.trans (hB.mono (by omega))); clear hS hB)
              | (go_at_call 11; clear T3; refine (Get_sk HS.out nx (by show 1 ≤ maxLen; unfold maxLen; omega) HGX.out).mono ?_; rintro e w7 ⟨rfl, hS, hB⟩; have HS := Lib.hid (hS.keep (boxO ⟨nmx, dig k, flx, ogx⟩)); have HB := Lib.hid ((HB.out.trans (hB.mono HB.out.size)).alloc (HB.out.trans (hB.mono HB.out.size)).size (boxO ⟨nmx, dig k, flx, ogx⟩)); clear hS hB)
              | (go_at_call 11; clear T4; refine (Get_sk HS.out n7 (by show 1 ≤ maxLen; unfold maxLen; omega) HG7.out).mono ?_; rintro e w8 ⟨rfl, hS, hB⟩; obtain ⟨_, x2, _, _⟩ := hS.box (b := w7.heap.size) (v := ⟨nmx, dig k, flx, ogx⟩) (by simp); have z7 := lt_heap (hS.at (b := w7.heap.size) (o := boxO ⟨nmx, dig k, flx, ogx⟩) (by simp)); have HS := Lib.hid (hS.keep (boxO ⟨nm7, sv, fl7, og7⟩)); have HB := Lib.hid ((HB.out.trans (hB.mono HB.out.size)).alloc (HB.out.trans (hB.mono HB.out.size)).size (boxO ⟨nm7, sv, fl7, og7⟩)); clear hS hB))
            go_roundw
            case rel => exact ⟨k + 1, dig k, sv, X ++ [([fx (dig k)], false)], by omega, rfl, rfl, by go_num, by go_num, Lib.hid (by rw [List.length_append, HX.out]; rfl), HN, Lib.hid (by have h := HS.out.drop (K' := []) (by simp); rw [HT.out] at h; exact h), HB⟩
            case measure => simp [intOf]; omega
        · have HN := Lib.hid (lay_2 HL.out (dig k) HDN.out false)
          obtain ⟨nmx, flx, ogx, hgx⟩ := HN.out.hx
          obtain ⟨nm7, fl7, og7, hg7⟩ := HN.out.h7
          have HGX := Lib.hid hgx
          have HG7 : Hid (getX (foldG [gx, g7]) (X ++ [([f7 (dig k)], false)]) n7 = (⟨nm7, dig k, fl7, og7⟩, true)) := Lib.hid (by rw [hg7]; simp [HDN.out])
          clear hgx hg7
          have T1 : Hid True := Lib.hid trivial
          have T2 : Hid True := Lib.hid trivial
          have T3 : Hid True := Lib.hid trivial
          have T4 : Hid True := Lib.hid trivial
          go_wp2_with (first
            | (go_at_call 9; refine (dig_calls k (by omega) _).mono ?_; rintro e w3 ⟨rfl, hb⟩; have HS := Lib.hid (HS.out.later hb); have HB := Lib.hid (HB.out.trans (hb.mono HB.out.size)); clear hb)
            | (at_builtin; clear T1; refine wpList_append_any _ rfl _ _ 28 rfl w3.heap.size 27 i0 _ 4 48 Tryd.underlying28 hi hz0 hz1 hz2 rfl (by decide) (.slice none 0 0) 0 [] rfl (World.ownsRow_nil _ _ _ _) _ 1 1 (f7 (dig k)).cells rfl (src_blockL (heap_alloc_new w3 _)) (Vr.cells_one _) (by unfold maxLen; omega) (by omega) (by simp) ?_; intro v4 w4 hown hgr hat; obtain ⟨a4, c4, rfl⟩ := slice_ofL hown; have R4 := Lib.hid hown; have G4 := Lib.hid hgr; clear hown hgr hat)
            | (go_at_call 10; refine (push_row HS.out HLX.out (below_app G4.out) [f7 (dig k)] rfl (by simp) (row_1 R4.out) (names_f _).2.1 false).mono ?_; rintro e w6 ⟨rfl, hS, hB⟩; have HS := Lib.hid hS; have HB := Lib.hid (HB.out.trans (hB.mono (by omega))); clear hS hB)
            | (go_at_call 11; clear T3; refine (Get_sk HS.out nx (by show 1 ≤ maxLen; unfold maxLen; omega) HGX.out).mono ?_; rintro e w7 ⟨rfl, hS, hB⟩; have HS := Lib.hid (hS.keep (boxO ⟨nmx, x, flx, ogx⟩)); have HB := Lib.hid ((HB.out.trans (hB.mono HB.out.size)).alloc (HB.out.trans (hB.mono HB.out.size)).size (boxO ⟨nmx, x, flx, ogx⟩)); clear hS hB)
            | (go_at_call 11; clear T4; refine (Get_sk HS.out n7 (by show 1 ≤ maxLen; unfold maxLen; omega) HG7.out).mono ?_; rintro e w8 ⟨rfl, hS, hB⟩; obtain ⟨_, x2, _, _⟩ := hS.box (b := w7.heap.size) (v := ⟨nmx, x, flx, ogx⟩) (by simp); have z7 := lt_heap (hS.at (b := w7.heap.size) (o := boxO ⟨nmx, x, flx, ogx⟩) (by simp)); have HS := Lib.hid (hS.keep (boxO ⟨nm7, dig k, fl7, og7⟩)); have HB := Lib.hid ((HB.out.trans (hB.mono HB.out.size)).alloc (HB.out.trans (hB.mono HB.out.size)).size (boxO ⟨nm7, dig k, fl7, og7⟩)); clear hS hB))
          go_roundw
          case rel => exact ⟨k + 1, x, dig k, X ++ [([f7 (dig k)], false)], by omega, rfl, rfl, by go_num, by go_num, Lib.hid (by rw [List.length_append, HX.out]; rfl), HN, Lib.hid (by have h := HS.out.drop (K' := []) (by simp); rw [HT.out] at h; exact h), HB⟩
          case measure => simp [intOf]; omega
        · have HN := Lib.hid (lay_3 HL.out (dig k) HDN.out false)
          obtain ⟨nmx, flx, ogx, hgx⟩ := HN.out.hx
          obtain ⟨nm7, fl7, og7, hg7⟩ := HN.out.h7
          have HGX := Lib.hid hgx
          have HG7 : Hid (getX (foldG [gx, g7]) (X ++ [([fx (dig k), f7 (dig k)], false)]) n7 = (⟨nm7, dig k, fl7, og7⟩, true)) := Lib.hid (by rw [hg7]; simp [HDN.out])
          clear hgx hg7
          have T1 : Hid True := Lib.hid trivial
          have T2 : Hid True := Lib.hid trivial
          have T3 : Hid True := Lib.hid trivial
          have T4 : Hid True := Lib.hid trivial
          go_wp2_with (first
            | (go_at_call 9; refine (dig_calls k (by omega) _).mono ?_; rintro e w3 ⟨rfl, hb⟩; have HS := Lib.hid (HS.out.later hb); have HB := Lib.hid (HB.out.trans (hb.mono HB.out.size)); clear hb)
            | (at_builtin; clear T1; refine wpList_append_any _ rfl _ _ 28 rfl w3.heap.size 27 i0 _ 4 48 Tryd.underlying28 hi hz0 hz1 hz2 rfl (by decide) (.slice none 0 0) 0 [] rfl (World.ownsRow_nil _ _ _ _) _ 1 1 (fx (dig k)).cells rfl (src_blockL (heap_alloc_new w3 _)) (Vr.cells_one _) (by unfold maxLen; omega) (by omega) (by simp) ?_; intro v4 w4 hown hgr hat; obtain ⟨a4, c4, rfl⟩ := slice_ofL hown; have R4 := Lib.hid hown; have G4 := Lib.hid hgr; clear hown hgr hat)
            | (at_builtin; clear T2; refine wpList_append_any _ rfl _ _ 28 rfl w3.heap.size 27 i0 _ 4 48 Tryd.underlying28 hi hz0 hz1 hz2 rfl (by decide) _ _ _ rfl (R4.out.alloc _) _ 1 1 (f7 (dig k)).cells rfl (src_blockL (heap_alloc_new w4 _)) (Vr.cells_one _) (by unfold maxLen; omega) (by omega) (by have := G4.out.size; simp at this ⊢; omega) ?_; intro v5 w5 hown hgr hat; obtain ⟨a5, c5, rfl⟩ := slice_ofL hown; have R5 := Lib.hid hown; have G5 := Lib.hid hgr; clear hown hgr hat)
            | (go_at_call 10; refine (push_row HS.out HLX.out (below_app2 R4.out G4.out G5.out) [fx (dig k), f7 (dig k)] rfl (by simp) (row_2 R5.out) (names_f _).2.2 false).mono ?_; rintro e w6 ⟨rfl, hS, hB⟩; have HS := Lib.hid hS; have HB := Lib.hid (HB.out.trans (hB.mono (by omega))); clear hS hB)
            | (go_at_call 11; clear T3; refine (Get_sk HS.out nx (by show 1 ≤ maxLen; unfold maxLen; omega) HGX.out).mono ?_; rintro e w7 ⟨rfl, hS, hB⟩; have HS := Lib.hid (hS.keep (boxO ⟨nmx, dig k, flx, ogx⟩)); have HB := Lib.hid ((HB.out.trans (hB.mono HB.out.size)).alloc (HB.out.trans (hB.mono HB.out.size)).size (boxO ⟨nmx, dig k, flx, ogx⟩)); clear hS hB)
            | (go_at_call 11; clear T4; refine (Get_sk HS.out n7 (by show 1 ≤ maxLen; unfold maxLen; omega) HG7.out).mono ?_; rintro e w8 ⟨rfl, hS, hB⟩; obtain ⟨_, x2, _, _⟩ := hS.box (b := w7.heap.size) (v := ⟨nmx, dig k, flx, ogx⟩) (by simp); have z7 := lt_heap (hS.at (b := w7.heap.size) (o := boxO ⟨nmx, dig k, flx, ogx⟩) (by simp)); have HS := Lib.hid (hS.keep (boxO ⟨nm7, dig k, fl7, og7⟩)); have HB := Lib.hid ((HB.out.trans (hB.mono HB.out.size)).alloc (HB.out.trans (hB.mono HB.out.size)).size (boxO ⟨nm7, dig k, fl7, og7⟩)); clear hS hB))
          go_roundw
          case rel => exact ⟨k + 1, dig k, dig k, X ++ [([fx (dig k), f7 (dig k)], false)], by omega, rfl, rfl, by go_num, by go_num, Lib.hid (by rw [List.length_append, HX.out]; rfl), HN, Lib.hid (by have h := HS.out.drop (K' := []) (by simp); rw [HT.out] at h; exact h), HB⟩
          case measure => simp [intOf]; omega
    · have hout : len0 ≤ k ∨ (k < len0 ∧ 40 ≤ k) := by omega
      have HT : Hid (∀ j, j < k → wrap64 (((k + j : Nat) : Int) + 1) = ((k + (j + 1) : Nat) : Int)) := Lib.hid (fun j hj => by unfold wrap64; omega)
      have HS0 : Hid (Sk (w.heap.size + 1) wr sb 2 (foldG [gx, g7]) (X.take (k - 0)) ((k + 0 : Nat) : Int) []) := Lib.hid (by have h := HS.out; rw [Nat.sub_zero, List.take_of_length_le (by rw [HX.out]; omega)]; exact h)
      have HA1 := Lib.hid get_g1
      have HA2 := Lib.hid get_g2
      have n1 : gx.val = ⟨#[103, 114, 111, 117, 110, 100]⟩ := rfl
      have n2 : g7.val = ⟨#[103, 114, 111, 117, 110, 100]⟩ := rfl
      rcases hout with h1 | ⟨h1, h2⟩
      all_goals
        go_wp2
        go_loopw [18] (fun i wq => ∃ j : Nat, j ≤ k ∧ i = .int .i64 j ∧ Hid (Sk (w.heap.size + 1) wq sb 2 (foldG [gx, g7]) (X.take (k - j)) ((k + j : Nat) : Int) []) ∧ Hid (Below w.heap.size w wq)) (fun i _ => k - (intOf i).toNat)
        case atStart => exact ⟨0, Nat.zero_le _, rfl, HS0, HB⟩
        case round =>
          obtain ⟨j, hj, rfl, HSj, HBj⟩ := hrel
          by_cases hjk : j < k
          · have HD : Hid ((X.take (k - j)).dropLast = X.take (k - (j + 1))) := Lib.hid (by rw [List.dropLast_eq_take, List.take_take, List.length_take]; congr 1; have := HX.out; omega)
            go_wp2_with (go_at_call 12; refine (Pop_sk HSj.out).mono ?_; rintro e w5 ⟨rfl, hS, hB⟩; rw [HD.out, HT.out j hjk] at hS; have HS5 := Lib.hid hS; have HB5 := Lib.hid (HBj.out.trans (hB.mono (by omega))); clear hS hB)
            go_roundw
            case rel => exact ⟨j + 1, by omega, by go_num, HS5, HB5⟩
            case measure => simp [intOf]; omega
          · obtain rfl : j = k := by omega
            have hSe := HSj.out
            rw [Nat.sub_self, List.take_zero] at hSe
            have HSe := Lib.hid hSe
            have T3 : Hid True := Lib.hid trivial
            have T4 : Hid True := Lib.hid trivial
            have hw2 : wrap64 (2 * (j : Int)) = ((j + j : Nat) : Int) := by unfold wrap64; omega
            have HW2 := Lib.hid hw2
            clear hSe hw2
            go_wp2_with (first
              | (go_at_call 11; clear T3; refine (Get_sk HSe.out nx (by show 1 ≤ maxLen; unfold maxLen; omega) HA1.out).mono ?_; rintro e w7 ⟨rfl, hS, hB⟩; have HS7 := Lib.hid (hS.keep (boxO gx)); have HB7 := Lib.hid ((HBj.out.trans (hB.mono HBj.out.size)).alloc (HBj.out.trans (hB.mono HBj.out.size)).size (boxO gx)); clear hS hB)
              | (go_at_call 11; clear T4; refine (Get_sk HS7.out n7 (by show 1 ≤ maxLen; unfold maxLen; omega) HA2.out).mono ?_; rintro e w8 ⟨rfl, hS, hB⟩; obtain ⟨_, x2, _, _⟩ := hS.box (b := w7.heap.size) (v := gx) (by simp); have z7 := lt_heap (hS.at (b := w7.heap.size) (o := boxO gx) (by simp)); have HS8 := Lib.hid (hS.keep (boxO g7)); have HB8 := Lib.hid ((HB7.out.trans (hB.mono HB7.out.size)).alloc (HB7.out.trans (hB.mono HB7.out.size)).size (boxO g7)); clear hS hB)
              | (go_at_call 13; refine (Turns_sk HS8.out).mono ?_; rintro e w9 ⟨rfl, rfl⟩)
              | (go_at_call 14; refine (awake_calls _).mono ?_; rintro e w9 ⟨rfl, hB⟩; have HB9 := Lib.hid (HB8.out.trans (hB.mono HB8.out.size)); clear hB))
            go_ret
            exact ⟨rfl, HB9.out⟩
end Go.Proofs.YtjmaficiinhjpaaDoor.G
