/- the reference's store: Drop, Set. -/
import Derived.Test.YtjmaficiinhjpaaDoorStoRef3
namespace Go.Proofs.YtjmaficiinhjpaaDoor.G
open Go.RowKit Go.Maps Go.WideMaps Go.Sort

theorem RMoved.before {base : Nat} {w w1 w' : World} {rb : Nat} {B : Nat → Prop} {G : List Vr} {X : List Rf} {turns : Int} (h : RMoved base w1 w' rb B G X turns) (a : Apart (fun k => k = rb) w w1) : RMoved base w w' rb B G X turns := by
  obtain ⟨B', h1, h2, h3⟩ := h
  exact ⟨B', h1, fun k hk => (h2 k hk).imp id (fun e => Nat.le_trans a.size e), a.andThen h3 (fun _ _ h => h)⟩
theorem ground_close {base : Nat} {w w4 : World} {rb : Nat} {B : Nat → Prop} {G G' : List Vr} {X : List Rf} {turns : Int} {gA fA cA : Option Addr} {gc fc cc n : Nat} {v : Value} (h : RefV base w rb B G X turns gA fA cA gc fc cc) (hb : Below w.heap.size w w4)
    (hrow : w4.ownsRow w.heap.size 27 4 v n (varsV G')) (hl : G'.length ≤ 1000) : RMoved base w (w4.setCell ⟨rb, 0, none⟩ v) rb B G' X turns := by
  have hn : n = G'.length := by have := hrow.1; rw [varsV_len] at this; omega
  subst hn
  have hrz := h.hrz
  have h1 := h.later hb
  have hsz := hb.size
  obtain ⟨A, c, rfl, hc⟩ : ∃ A c, v = .slice A G'.length c ∧ G'.length ≤ c ∧ c ≤ maxLen := by
    rcases hrow.2 with ⟨rfl, h0⟩ | ⟨g, cap, cur, rfl, _, _, h1, h2, _⟩
    · exact ⟨none, 0, by rw [h0], by omega, by unfold maxLen; omega⟩
    · exact ⟨_, _, rfl, h1, h2⟩
  refine ⟨fun k => B k ∨ (w.heap.size ≤ k ∧ k < w4.heap.size), ⟨_, _, _, _, _, _, h1.ground (G' := G') (fun k hk => Or.inl hk) ?_ (fun k hk => ?_) ⟨Src.of_row hrow, fun hp a e => ?_⟩ hc hl⟩, fun k hk => hk.imp id (fun e => e.1), ?_⟩
  · rintro (hk | hk)
    · exact h.hB hk
    · omega
  · rcases hk with hk | hk
    · exact h1.hBz k hk
    · exact ⟨by have := h.hrb; omega, hk.2⟩
  · subst e
    obtain ⟨b, off, he, hbz, _⟩ := (Src.of_row hrow).2 hp
    obtain rfl := Option.some.inj he
    rcases hrow.2 with ⟨h0, _⟩ | ⟨g, cap, cur, he, hg, _⟩
    · cases h0
    · injection he with h1 _ _
      injection h1 with h1
      injection h1 with h1 _ _
      exact Or.inr ⟨by rw [h1]; exact hg, hbz⟩
  · exact ((apart_below hb).mono (fun _ _ h => h.elim)).andThen (apart_put _) (fun _ _ h => h)

theorem slice_of {w : World} {base n sz : Nat} {e : TypeId} {v : Value} {xs : List Value} (h : w.ownsRow base e sz v n xs) : ∃ a c, v = .slice a n c := by
  rcases h.2 with ⟨rfl, rfl⟩ | ⟨g, cap, cur, rfl, _⟩
  · exact ⟨_, _, rfl⟩
  · exact ⟨_, _, rfl⟩
/-! ### Drop -/
theorem dropG_none : ∀ {l : List Vr} {x : ByteArray}, atR l x = none → dropG l x = l
  | [], _, _ => rfl
  | u :: l, x, h => by
    rw [atR] at h
    cases e : atR l x with
    | some k => rw [e] at h; cases h
    | none =>
      rw [e] at h
      by_cases hu : u.name = x
      · simp [hu] at h
      · unfold dropG
        rw [List.filter_cons_of_pos (by simp [hu])]
        have := dropG_none e
        unfold dropG at this
        rw [this]
theorem dropG_keep {l : List Vr} {x : ByteArray} (h : ∀ v ∈ l, v.name ≠ x) : dropG l x = l := by
  unfold dropG
  exact List.filter_eq_self.mpr (fun v hv => by simp [h v hv])
theorem dropG_some : ∀ {l : List Vr} {x : ByteArray} {k : Nat}, RisesV l → atR l x = some k → dropG l x = l.take k ++ l.drop (k + 1)
  | [], _, _, _, h => by cases h
  | u :: l, x, k, hr, h => by
    have hr' := List.pairwise_cons.mp hr
    rw [atR] at h
    cases e : atR l x with
    | some j =>
      rw [e] at h
      obtain rfl := Option.some.inj h
      obtain ⟨v, hv, hl⟩ := (atR_look l x).1 j e
      have hn : v.name = x := (look_mem hl).2
      have hu : u.name ≠ x := fun hh => ltN_irrefl x (by have := hr'.1 v (List.mem_of_getElem? hv); rw [hn, hh] at this; exact this)
      unfold dropG
      rw [List.filter_cons_of_pos (by simp [hu])]
      have := dropG_some hr'.2 e
      unfold dropG at this
      rw [this]; rfl
    | none =>
      rw [e] at h
      by_cases hu : u.name = x
      · simp only [if_pos hu] at h
        obtain rfl := Option.some.inj h
        unfold dropG
        rw [List.filter_cons_of_neg (by simp [hu])]
        have := dropG_none e
        unfold dropG at this
        rw [this]; rfl
      · simp [hu] at h
theorem varsV_append (a b : List Vr) : varsV (a ++ b) = varsV a ++ varsV b := by simp [varsV]
theorem varsV_take (l : List Vr) (k : Nat) (hk : k ≤ l.length) : varsV (l.take k) = (varsV l).take (k * 4) := by
  conv => rhs; rw [← List.take_append_drop k l, varsV_append]
  rw [List.take_left' (by rw [varsV_len, List.length_take]; omega)]
theorem varsV_drop (l : List Vr) (k : Nat) (hk : k ≤ l.length) : varsV (l.drop k) = (varsV l).drop (k * 4) := by
  conv => rhs; rw [← List.take_append_drop k l, varsV_append]
  rw [List.drop_left' (by rw [varsV_len, List.length_take]; omega)]
theorem varsV_one (l : List Vr) : ∀ u ∈ varsV l, u.oneCell' = true := by
  intro u hu
  obtain ⟨v, _, h⟩ := List.mem_flatMap.mp hu
  exact Vr.cells_one v u h
/-- What is left of a cut behind a place. -/
theorem src_tail {w : World} {gb goff : Nat} {G : List Vr} (h : Src w (some ⟨gb, goff, none⟩) G.length 4 (varsV G)) {k : Nat} (hk : k ≤ G.length) : Src w (some ⟨gb, goff + k * 4, none⟩) (G.length - k) 4 (varsV (G.drop k)) := by
  rw [varsV_drop _ _ hk]
  exact h.drop hk
theorem src_zero {w : World} {A : Option Addr} {G : List Vr} {k n : Nat} (h : n = 0) (hk : G.length ≤ k) : Src w A n 4 (varsV (G.drop k)) := by
  subst h
  rw [List.drop_eq_nil_of_le hk]
  exact Src.nil _ _ _

set_option maxHeartbeats 8000000 in
set_option maxRecDepth 100000 in
theorem RDrop.calls {base : Nat} {w : World} {rb : Nat} {B : Nat → Prop} {G : List Vr} {X : List Rf} {turns : Int} {gA fA cA : Option Addr} {gc fc cc : Nat} (h : RefV base w rb B G X turns gA fA cA gc fc cc) (hG : RisesV G) (x : ByteArray) :
    Calls Tryd.prog 27 #[.pointer (some ⟨rb, 0, none⟩), .string x] w fun e w' => e = .returned (.tuple #[]) ∧ RMoved base w w' rb B (dropG G x) X (wrap64 (turns + 1)) := by
  obtain ⟨i0, hi, hz0, hz1, hz2⟩ := info_parts info_var
  have c3 := h.c3
  have f3 := h.f3
  have hleng := h.leng
  have a1 := Lib.hid (apart_put (w := w) (rb := rb) (j := 3) (.int .i64 (wrap64 (turns + 1))))
  have h2 := h.counted (wrap64 (turns + 1))
  obtain ⟨w2, hw2⟩ : ∃ w2, w2 = w.setCell ⟨rb, 3, none⟩ (.int .i64 (wrap64 (turns + 1))) := ⟨_, rfl⟩
  have cc0 := h2.c0
  rw [← hw2] at a1 h2
  have H := Lib.hid h2
  have c0 := h2.c0
  have f0 := h2.f0
  have hgc1 := h2.hgc.1
  have hgc2 := h2.hgc.2
  have hrz := h2.hrz
  unfold maxLen at hgc2
  have HS := Lib.hid h2.rg.1
  have hat := atR_look G x
  have HRG := Lib.hid hG
  clear h h2 hG
  cases e : atR G x with
  | none =>
    have he := atI_none e
    have HD := Lib.hid (dropG_none e)
    clear hat e
    go_enter Tryd.func27, Tryd.ntmps27
    go_wp2_with (go_at_call 37; refine (at_calls G gA gc x _ (src_vars (by rw [← hw2]; exact HS.out)) (by omega)).mono ?_; rintro e w' ⟨rfl, rfl⟩)
    go_end0
    refine ⟨rfl, ?_⟩
    rw [HD.out, ← hw2]
    exact RMoved.before ⟨B, ⟨_, _, _, _, _, _, H.out⟩, fun k hk => Or.inl hk, Apart.refl _ _⟩ a1.out
  | some k =>
    obtain ⟨v, hv, hl⟩ := hat.1 k e
    have he := atI_some e
    have HD := Lib.hid (dropG_some HRG.out e)
    have hk := (List.getElem?_eq_some_iff.mp hv).1
    obtain ⟨gb, goff, rfl, hgz, _⟩ := HS.out.2 (by omega)
    have HT1 := Lib.hid (HS.out.take (k := k) (by omega))
    rw [← varsV_take _ _ (by omega)] at HT1
    have HT2 := Lib.hid (src_tail HS.out (k := k + 1) (by omega))
    have hm : (G.take k).length = k := by rw [List.length_take]; omega
    have HM := Lib.hid hm
    have hdl : (dropG G x).length ≤ 1000 := Nat.le_trans (List.length_filter_le _ _) hleng
    have HDL := Lib.hid hdl
    clear hat e hv hl hm hdl
    have j0 : (0 : Int) ≤ (k : Int) := Int.natCast_nonneg _
    have j1 : ¬ ((k : Int) < 0) := by omega
    have j2 : ¬ ((gc : Int) < (k : Int)) := by omega
    have j4 : ¬ ((G.length : Int) < (k : Int) + 1) := by omega
    have j5 : ¬ ((k : Int) + 1 < 0) := by omega
    have j6 : IntKind.i64.wrap ((k : Int) + 1) = (k : Int) + 1 := IntWalk.i64_in _ (by omega)
    have j7 : ((k : Int) + 1).toNat = k + 1 := by omega
    have j8 : (0 : Int) ≤ (k : Int) + 1 := by omega
    have j9 : (k : Int) + 1 ≤ (G.length : Int) := by omega
    have j10 : (k : Int) ≤ (gc : Int) := by omega
    by_cases hcap : gc = k + 1
    · subst hcap
      have q2 : ¬ ((k : Int) + 1 < (k : Int)) := by omega
      have q3 : (k : Int) ≤ (k : Int) + 1 := by omega
      have q4 : ¬ ((k : Int) + 1 < (k : Int) + 1) := by omega
      have q5 : (G.length : Int) ≤ (k : Int) + 1 := by omega
      clear j2 j10 hgc2
      go_enter Tryd.func27, Tryd.ntmps27
      go_wp2_with (go_at_call 37; refine (at_calls G (some ⟨gb, goff, none⟩) _ x _ (src_vars (by rw [← hw2]; exact HS.out)) (by omega)).mono ?_; rintro e w' ⟨rfl, rfl⟩)
      rw [← hw2]
      clear hw2 c3 f3 cc0
      go_region_law (first
        | (refine step_append_any _ (by rfl) _ _ _ (by rfl) w2.heap.size 27 i0 _ 4 48 Tryd.underlying28 hi hz0 hz1 hz2 rfl (by omega) (.slice none 0 0) 0 [] (by rfl) (World.ownsRow_nil _ _ _ _) _ _ _ (varsV (G.take k)) (by rfl) (HT1.out.later (Below.drew (Below.refl _ w2))) (varsV_one _) (by unfold maxLen; omega) (by omega) (Nat.le_refl _) ?_; intro v1 w3 hown1 hgr1 hat1; have B1 := Lib.hid ((Below.drew (Below.refl w2.heap.size w2)).grown hgr1 (Nat.le_refl _) (fun j hj => by cases hj)); have d0 := (B1.out.cell (p := ⟨rb, 0, none⟩) (by exact hrz)).trans c0; have g0 := (B1.out.frozen (p := ⟨rb, 0, none⟩) (by exact hrz)).trans f0; have S1 := B1.out.size; have R1 := Lib.hid hown1; clear hown1 hgr1 hat1)
        | (refine step_append_any _ (by rfl) _ _ _ (by rfl) w2.heap.size 27 i0 _ 4 48 Tryd.underlying28 hi hz0 hz1 hz2 rfl (by omega) v1 _ _ (by rfl) R1.out _ _ _ (varsV (G.drop (k + 1))) (by rfl) (src_zero (by omega) (by omega)) (varsV_one _) (by unfold maxLen; omega) (by omega) (by omega) ?_; intro v2 w4 hown2 hgr2 hat2; obtain ⟨aa, ac, rfl⟩ := slice_of hown2; have B2 := Lib.hid (B1.out.grown hgr2 S1 (fun j hj => (R1.out.lt j hj).1)); have e0 := (B2.out.cell (p := ⟨rb, 0, none⟩) (by exact hrz)).trans c0; have h0 := (B2.out.frozen (p := ⟨rb, 0, none⟩) (by exact hrz)).trans f0; have R2 := Lib.hid hown2; clear hown2 hgr2 hat2))
      all_goals
        go_wp2
        go_end0
        refine ⟨rfl, ?_⟩
        have hr := R2.out
        rw [List.nil_append, ← varsV_append, ← HD.out] at hr
        have hz := (ground_close H.out B2.out hr HDL.out).before a1.out
        simpa only [Nat.zero_add, Nat.add_zero] using hz
    · go_enter Tryd.func27, Tryd.ntmps27
      go_wp2_with (go_at_call 37; refine (at_calls G (some ⟨gb, goff, none⟩) _ x _ (src_vars (by rw [← hw2]; exact HS.out)) (by omega)).mono ?_; rintro e w' ⟨rfl, rfl⟩)
      rw [← hw2]
      clear hw2 c3 f3 cc0
      go_region_law (first
        | (refine step_append_any _ (by rfl) _ _ _ (by rfl) w2.heap.size 27 i0 _ 4 48 Tryd.underlying28 hi hz0 hz1 hz2 rfl (by omega) (.slice none 0 0) 0 [] (by rfl) (World.ownsRow_nil _ _ _ _) _ _ _ (varsV (G.take k)) (by rfl) (HT1.out.later (Below.drew (Below.refl _ w2))) (varsV_one _) (by unfold maxLen; omega) (by omega) (Nat.le_refl _) ?_; intro v1 w3 hown1 hgr1 hat1; have B1 := Lib.hid ((Below.drew (Below.refl w2.heap.size w2)).grown hgr1 (Nat.le_refl _) (fun j hj => by cases hj)); have d0 := (B1.out.cell (p := ⟨rb, 0, none⟩) (by exact hrz)).trans c0; have g0 := (B1.out.frozen (p := ⟨rb, 0, none⟩) (by exact hrz)).trans f0; have S1 := B1.out.size; have R1 := Lib.hid hown1; clear hown1 hgr1 hat1)
        | (refine step_append_any _ (by rfl) _ _ _ (by rfl) w2.heap.size 27 i0 _ 4 48 Tryd.underlying28 hi hz0 hz1 hz2 rfl (by omega) v1 _ _ (by rfl) R1.out _ _ _ (varsV (G.drop (k + 1))) (by rfl) (HT2.out.later B1.out) (varsV_one _) (by unfold maxLen; omega) (by omega) (by omega) ?_; intro v2 w4 hown2 hgr2 hat2; obtain ⟨aa, ac, rfl⟩ := slice_of hown2; have B2 := Lib.hid (B1.out.grown hgr2 S1 (fun j hj => (R1.out.lt j hj).1)); have e0 := (B2.out.cell (p := ⟨rb, 0, none⟩) (by exact hrz)).trans c0; have h0 := (B2.out.frozen (p := ⟨rb, 0, none⟩) (by exact hrz)).trans f0; have R2 := Lib.hid hown2; clear hown2 hgr2 hat2))
      all_goals
        go_wp2
        go_end0
        refine ⟨rfl, ?_⟩
        have hr := R2.out
        rw [List.nil_append, ← varsV_append, ← HD.out] at hr
        have hz := (ground_close H.out B2.out hr HDL.out).before a1.out
        simpa only [Nat.zero_add, Nat.add_zero] using hz
end Go.Proofs.YtjmaficiinhjpaaDoor.G
