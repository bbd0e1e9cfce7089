/- memo: both caches side by side, call by call (step). -/
import Derived.Test.YtabdjijlmiobhaaMemoRef
import Derived.Deep.QuietTactic
import Derived.BigQuiet
namespace Go.Proofs.Ytabdjijlmiobhaa.G
open Go.RowKit Go.Maps Go.Sort

theorem put_same {M : Int} {E : List Ent} {e : Ent} (h0 : 0 ≤ M) (hE : (E.length : Int) ≤ M) : putR M E e = putE M E e := by
  unfold putR putE
  by_cases hM : M = 0
  · subst hM
    have : E = [] := List.length_eq_zero_iff.mp (by omega)
    subst this
    rfl
  · rw [if_neg hM]
theorem put_len {M : Int} {E : List Ent} {e : Ent} (hE : (E.length : Int) ≤ M) : ((putE M E e).length : Int) ≤ M := by
  have hw : (without E e.name).length ≤ E.length := List.length_filter_le _ _
  unfold putE
  by_cases hM : M = 0
  · rw [if_pos hM]; exact hE
  · rw [if_neg hM]
    split
    · simp only [List.length_tail, List.length_append, List.length_singleton]; omega
    · omega
theorem find_none {E : List Ent} {x : ByteArray} (h : x ∉ names E) : findE E x = none := by
  refine List.find?_eq_none.mpr (fun e he => ?_)
  simp only [decide_eq_true_eq]
  intro hn
  exact h (hn ▸ List.mem_map_of_mem he)
theorem fitR_none : ∀ {E : List Ent} {x : ByteArray} (turn room : Int), x ∉ names E → fitR E x turn room = none
  | [], _, _, _, _ => rfl
  | e :: E, x, turn, room, h => by
    have h1 : e.name ≠ x := fun hh => h (by simp [names, hh])
    rw [fitR, if_neg (fun hh => h1 hh.1)]
    exact fitR_none turn room (fun hh => h (List.mem_cons_of_mem _ hh))
theorem fit_same : ∀ {E : List Ent} (x : ByteArray) (turn room : Int), (names E).Nodup → fitR E x turn room = fitE E x turn room
  | [], _, _, _, _ => rfl
  | e :: E, x, turn, room, h => by
    have h2 := List.nodup_cons.mp h
    by_cases hx : e.name = x
    · have hf : fitE (e :: E) x turn room = if e.turn = turn ∧ e.deep ≤ room then some e.val else none := by
        unfold fitE findE; rw [List.find?_cons_of_pos (by simp [hx])]
      rw [hf, fitR]
      by_cases hc : e.turn = turn ∧ e.deep ≤ room
      · rw [if_pos ⟨hx, hc⟩, if_pos hc]
      · rw [if_neg (fun hh => hc hh.2), if_neg hc]
        exact fitR_none turn room (hx ▸ h2.1)
    · have hf : fitE (e :: E) x turn room = fitE E x turn room := by
        unfold fitE findE; rw [List.find?_cons_of_neg (by simp [hx])]
      rw [hf, fitR, if_neg (fun hh => hx hh.1)]
      exact fit_same x turn room h2.2

/-- A block of none of both. -/
def Kept1 (w : World) (cb bm rb : Nat) (v rv : Value) (b : Nat) (o : Obj) : Prop := w.heap[b]? = some o ∧ ¬ Foot cb bm v b ∧ ¬ RFoot rb rv b
theorem lt_heap {w : World} {b : Nat} {o : Obj} (h : w.heap[b]? = some o) : b < w.heap.size := (Array.getElem?_eq_some_iff.mp h).1

/-- Both caches: what each holds; their blocks are others. -/
def Both (bo : Option (Nat × Obj)) (base : Nat) (w0 w : World) (cb rb n : Nat) (M h h' : Int) (E E' : List Ent) (bm : Nat) : Prop :=
  ∃ v rv, CacheV base w cb n M h E v bm ∧ RefV base w rb M h' E' rv ∧ (∀ k, Foot cb bm v k → ¬ RFoot rb rv k) ∧ Below base w0 w ∧ ∀ b o, bo = some (b, o) → Kept1 w cb bm rb v rv b o

theorem Both.later {bo : Option (Nat × Obj)} {base : Nat} {w0 w w' : World} {cb rb n : Nat} {M h h' : Int} {E E' : List Ent} {bm : Nat} (hB : Both bo base w0 w cb rb n M h h' E E' bm) (hb : Below w.heap.size w w') : Both bo base w0 w' cb rb n M h h' E E' bm := by
  obtain ⟨v, rv, hC, hR, hd, h0, hk⟩ := hB
  exact ⟨v, rv, hC.later hb, hR.later hb, hd, h0.trans (hb.mono hC.hz), fun b o e => ⟨(hb.block b (lt_heap (hk b o e).1)).trans (hk b o e).1, (hk b o e).2⟩⟩
theorem Both.moved {bo : Option (Nat × Obj)} {base : Nat} {w0 w w' : World} {cb rb n n' : Nat} {M h h1 h' : Int} {E E1 E' : List Ent} {bm : Nat} {v v1 rv : Value} (hC : CacheV base w cb n M h E v bm) (hR : RefV base w rb M h' E' rv) (hd : ∀ k, Foot cb bm v k → ¬ RFoot rb rv k) (h0 : Below base w0 w) (hk1 : ∀ b o, bo = some (b, o) → Kept1 w cb bm rb v rv b o)
    (hM : Moved base w w' cb n' M h1 E1 v bm v1) : Both bo base w0 w' cb rb n' M h1 h' E1 E' bm := by
  refine ⟨v1, rv, hM.cache, hR.kept hM.apart hd, fun k hk => ?_, h0.trans (hM.below hC), fun b o e => ?_⟩
  rotate_left
  · obtain ⟨h1, h2, h3⟩ := hk1 b o e
    have hl := lt_heap h1
    refine ⟨(hM.apart.block b hl h2).trans h1, fun hf => ?_, h3⟩
    rcases hf with hf | hf | hf
    · exact h2 (Or.inl hf)
    · exact h2 (Or.inr (Or.inl hf))
    · rcases hM.own b hf with hh | hh
      · exact h2 (Or.inr (Or.inr hh))
      · omega
  rcases hk with hk | hk | hk
  · exact hd k (Or.inl hk)
  · exact hd k (Or.inr (Or.inl hk))
  · rcases hM.own k hk with hh | hh
    · exact hd k (Or.inr (Or.inr hh))
    · intro hr
      have := (hR.footz k hr).2
      omega
theorem Both.rmoved {bo : Option (Nat × Obj)} {base : Nat} {w0 w w' : World} {cb rb n : Nat} {M h h1 h' : Int} {E E1 E' : List Ent} {bm : Nat} {v rv rv1 : Value} (hC : CacheV base w cb n M h E v bm) (hR : RefV base w rb M h' E' rv) (hd : ∀ k, Foot cb bm v k → ¬ RFoot rb rv k) (h0 : Below base w0 w) (hk1 : ∀ b o, bo = some (b, o) → Kept1 w cb bm rb v rv b o)
    (hR1 : RefV base w' rb M h1 E1 rv1) (ho : ∀ k, rv1.ownBlock = some k → rv.ownBlock = some k ∨ w.heap.size ≤ k) (hA : Apart (fun k => k = rb) w w') : Both bo base w0 w' cb rb n M h h1 E E1 bm := by
  refine ⟨v, rv1, hC.kept hA (fun k hk hf => hd k hf (Or.inl hk)), hR1, fun k hk hr => ?_, h0.trans (hA.below hC.hz (fun k hk => by rw [hk]; exact hR.hrb)), fun b o e => ?_⟩
  rotate_left
  · obtain ⟨h1, h2, h3⟩ := hk1 b o e
    have hl := lt_heap h1
    refine ⟨(hA.block b hl (fun hh => h3 (Or.inl hh))).trans h1, h2, fun hf => ?_⟩
    rcases hf with hf | hf
    · exact h3 (Or.inl hf)
    · rcases ho b hf with hh | hh
      · exact h3 (Or.inr hh)
      · omega
  rcases hr with hr | hr
  · exact hd k hk (Or.inl hr)
  · rcases ho k hr with hh | hh
    · exact hd k hk (Or.inr hh)
    · have := (hC.footz k hk).2
      omega

theorem cput_both {bo : Option (Nat × Obj)} {base : Nat} {w0 w : World} {cb rb n : Nat} {M h h' : Int} {E E' : List Ent} {bm : Nat} (hB : Both bo base w0 w cb rb n M h h' E E' bm) (x : ByteArray) (turn deep : Int) (s : ByteArray) (hx : x.size ≤ maxLen) (hn : n < maxLen) (hE : (E.length : Int) ≤ M) (hM : M ≤ 1000) :
    Calls Try.prog 18 #[.pointer (some ⟨cb, 0, none⟩), .string x, .int .i64 turn, .int .i64 deep, .string s] w fun y w' => y = .returned (.tuple #[]) ∧ Both bo base w0 w' cb rb (n + 1) M h h' (putE M E ⟨x, turn, deep, s⟩) E' bm := by
  obtain ⟨v, rv, hC, hR, hd, h0, hk⟩ := hB
  refine (Put.calls hC ⟨x, turn, deep, s⟩ hx hn hE hM).mono ?_
  rintro y w' ⟨rfl, v1, hM1⟩
  exact ⟨rfl, Both.moved hC hR hd h0 hk hM1⟩
theorem cget_both {bo : Option (Nat × Obj)} {base : Nat} {w0 w : World} {cb rb n : Nat} {M h h' : Int} {E E' : List Ent} {bm : Nat} (hB : Both bo base w0 w cb rb n M h h' E E' bm) (x : ByteArray) (turn room : Int) (hx : x.size ≤ maxLen) :
    Calls Try.prog 19 #[.pointer (some ⟨cb, 0, none⟩), .string x, .int .i64 turn, .int .i64 room] w fun y w' => y = .returned (.tuple #[.string ((fitE E x turn room).getD ⟨#[]⟩), .bool (fitE E x turn room).isSome]) ∧
      Both bo base w0 w' cb rb n M (if (fitE E x turn room).isSome then wrap64 (h + 1) else h) h' E E' bm := by
  obtain ⟨v, rv, hC, hR, hd, h0, hk⟩ := hB
  refine (Get.calls hC x turn room hx).mono ?_
  rintro y w' ⟨rfl, hM1⟩
  exact ⟨rfl, Both.moved hC hR hd h0 hk hM1⟩
theorem rput_both {bo : Option (Nat × Obj)} {base : Nat} {w0 w : World} {cb rb n : Nat} {M h h' : Int} {E E' : List Ent} {bm : Nat} (hB : Both bo base w0 w cb rb n M h h' E E' bm) (x : ByteArray) (turn deep : Int) (s : ByteArray) (hE : E'.length ≤ 1000) :
    Calls Try.prog 32 #[.pointer (some ⟨rb, 0, none⟩), .string x, .int .i64 turn, .int .i64 deep, .string s] w fun y w' => y = .returned (.tuple #[]) ∧ Both bo base w0 w' cb rb n M h h' E (putR M E' ⟨x, turn, deep, s⟩) bm := by
  obtain ⟨v, rv, hC, hR, hd, h0, hk⟩ := hB
  refine (rput hR hE ⟨x, turn, deep, s⟩).mono ?_
  rintro y w' ⟨rfl, rv1, hR1, ho, hA⟩
  exact ⟨rfl, Both.rmoved hC hR hd h0 hk hR1 (fun k hk => Or.inr (ho k hk)) hA⟩
theorem rget_both {bo : Option (Nat × Obj)} {base : Nat} {w0 w : World} {cb rb n : Nat} {M h h' : Int} {E E' : List Ent} {bm : Nat} (hB : Both bo base w0 w cb rb n M h h' E E' bm) (x : ByteArray) (turn room : Int) :
    Calls Try.prog 33 #[.pointer (some ⟨rb, 0, none⟩), .string x, .int .i64 turn, .int .i64 room] w fun y w' => y = .returned (.tuple #[.string ((fitR E' x turn room).getD ⟨#[]⟩), .bool (fitR E' x turn room).isSome]) ∧
      Both bo base w0 w' cb rb n M h (if (fitR E' x turn room).isSome then wrap64 (h' + 1) else h') E E' bm := by
  obtain ⟨v, rv, hC, hR, hd, h0, hk⟩ := hB
  refine (rget hR x turn room).mono ?_
  rintro y w' hG
  obtain ⟨hR1, hA⟩ := hG.moved hR
  exact ⟨hG.1, Both.rmoved hC hR hd h0 hk hR1 (fun k hk => Or.inl hk) hA⟩
theorem Both.len {bo : Option (Nat × Obj)} {base : Nat} {w0 w : World} {cb rb n : Nat} {M h h' : Int} {E E' : List Ent} {bm : Nat} (hB : Both bo base w0 w cb rb n M h h' E E' bm) :
    Calls Try.prog 20 #[.pointer (some ⟨cb, 0, none⟩)] w fun e w' => e = .returned (.int .i64 E.length) ∧ w' = w := by
  obtain ⟨v, rv, hC, hR, hd, h0, hk⟩ := hB
  exact Len.calls hC
theorem Both.hits {bo : Option (Nat × Obj)} {base : Nat} {w0 w : World} {cb rb n : Nat} {M h h' : Int} {E E' : List Ent} {bm : Nat} (hB : Both bo base w0 w cb rb n M h h' E E' bm) :
    Calls Try.prog 21 #[.pointer (some ⟨cb, 0, none⟩)] w fun e w' => e = .returned (.int .i64 h) ∧ w' = w := by
  obtain ⟨v, rv, hC, hR, hd, h0, hk⟩ := hB
  exact Hits.calls hC
theorem Both.cells {bo : Option (Nat × Obj)} {base : Nat} {w0 w : World} {cb rb n : Nat} {M h h' : Int} {E E' : List Ent} {bm : Nat} (hB : Both bo base w0 w cb rb n M h h' E E' bm) :
    (∃ a c, w.cell? ⟨rb, 1, none⟩ = some (.slice a E'.length c)) ∧ w.cell? ⟨rb, 2, none⟩ = some (.int .i64 h') := by
  obtain ⟨v, rv, hC, hR, hd, h0, hk⟩ := hB
  refine ⟨?_, hR.c2⟩
  have h1 := hR.c1
  rcases hR.rd with ⟨rfl, rfl⟩ | ⟨g, off, cap, rfl, _⟩
  · exact ⟨_, _, h1⟩
  · exact ⟨_, _, h1⟩
theorem Both.nodup {bo : Option (Nat × Obj)} {base : Nat} {w0 w : World} {cb rb n : Nat} {M h h' : Int} {E E' : List Ent} {bm : Nat} (hB : Both bo base w0 w cb rb n M h h' E E' bm) : (names E).Nodup := by
  obtain ⟨v, rv, hC, hR, hd, h0, hk⟩ := hB
  exact hC.nodup
theorem Both.zero {bo : Option (Nat × Obj)} {base : Nat} {w0 w : World} {cb rb n : Nat} {M h h' : Int} {E E' : List Ent} {bm : Nat} (hB : Both bo base w0 w cb rb n M h h' E E' bm) : Below base w0 w ∧ base ≤ w.heap.size := by
  obtain ⟨v, rv, hC, hR, hd, h0, hk⟩ := hB
  exact ⟨h0, hC.hz⟩

theorem Both.boxed {base : Nat} {w0 w : World} {cb rb n : Nat} {M h h' : Int} {E E' : List Ent} {bm : Nat} (hB : Both none base w0 w cb rb n M h h' E E' bm) (o : Obj) : Both (some (w.heap.size, o)) base w0 (w.alloc o) cb rb n M h h' E E' bm := by
  have hB2 := hB.later ((Below.refl _ _).alloc (Nat.le_refl _) o)
  obtain ⟨v, rv, hC, hR, hd, h0, hk⟩ := hB
  refine ⟨v, rv, hC.alloc o, hR.later ((Below.refl _ _).alloc (Nat.le_refl _) o), hd, h0.alloc hC.hz o, fun b o' e => ?_⟩
  simp only [Option.some.injEq, Prod.mk.injEq] at e
  obtain ⟨rfl, rfl⟩ := e
  exact ⟨heap_alloc_new _ _, fun hh => Nat.lt_irrefl _ (hC.footz _ hh).2, fun hh => Nat.lt_irrefl _ (hR.footz _ hh).2⟩
theorem Both.bare {bo : Option (Nat × Obj)} {base : Nat} {w0 w : World} {cb rb n : Nat} {M h h' : Int} {E E' : List Ent} {bm : Nat} (hB : Both bo base w0 w cb rb n M h h' E E' bm) : Both none base w0 w cb rb n M h h' E E' bm := by
  obtain ⟨v, rv, hC, hR, hd, h0, hk⟩ := hB
  exact ⟨v, rv, hC, hR, hd, h0, fun b o e => absurd e (by simp)⟩
theorem Both.box {b : Nat} {o : Obj} {base : Nat} {w0 w : World} {cb rb n : Nat} {M h h' : Int} {E E' : List Ent} {bm : Nat} (hB : Both (some (b, o)) base w0 w cb rb n M h h' E E' bm) : w.heap[b]? = some o := by
  obtain ⟨v, rv, hC, hR, hd, h0, hk⟩ := hB
  exact (hk b o rfl).1
theorem Both.fields {b : Nat} {k x s t d : Value} {ty : TypeId} {base : Nat} {w0 w : World} {cb rb n : Nat} {M h h' : Int} {E E' : List Ent} {bm : Nat} (hB : Both (some (b, .cells #[k, x, s, t, d] ty)) base w0 w cb rb n M h h' E E' bm) :
    w.cell? ⟨b, 1, none⟩ = some x ∧ w.cell? ⟨b, 2, none⟩ = some s ∧ w.cell? ⟨b, 3, none⟩ = some t ∧ w.cell? ⟨b, 4, none⟩ = some d := by
  have hb := hB.box
  exact ⟨by rw [cell_of_block hb]; rfl, by rw [cell_of_block hb]; rfl, by rw [cell_of_block hb]; rfl, by rw [cell_of_block hb]; rfl⟩

theorem Both.drewN {bo : Option (Nat × Obj)} {base : Nat} {w0 w : World} {cb rb n : Nat} {M h h' : Int} {E E' : List Ent} {bm : Nat} (hB : Both bo base w0 w cb rb n M h h' E E' bm) (q : Nat) : Both bo base w0 (w.drewN q) cb rb n M h h' E E' bm :=
  hB.later ⟨rfl, rfl, rfl, Nat.le_refl _, fun _ _ => rfl⟩

/-- Behind a step. -/
def Stepped (base : Nat) (w0 w' : World) (cb rb n : Nat) (M : Int) (bm : Nat) (y : Ending) : Prop :=
  y = .returned (.bool true) ∧ ∃ (h : Int) (E : List Ent), (E.length : Int) ≤ M ∧ Both none base w0 w' cb rb (n + 1) M h h E E bm

theorem Both.up {bo : Option (Nat × Obj)} {base : Nat} {w0 w : World} {cb rb n : Nat} {M h h' : Int} {E E' : List Ent} {bm : Nat} (hB : Both bo base w0 w cb rb n M h h' E E' bm) : Both bo base w0 w cb rb (n + 1) M h h' E E' bm := by
  obtain ⟨v, rv, hC, hR, hd, h0, hk⟩ := hB
  exact ⟨v, rv, hC.mono (Nat.le_succ n), hR, hd, h0, hk⟩

set_option maxHeartbeats 4000000 in
set_option maxRecDepth 100000 in
theorem step_both {base : Nat} {w0 w : World} {cb rb n : Nat} {M h : Int} {E : List Ent} {bm : Nat} (hB : Both none base w0 w cb rb n M h h E E bm) (kind : Int) (x s : ByteArray) (turn deep : Int) (hx : x.size ≤ maxLen) (hn : n < maxLen) (hE : (E.length : Int) ≤ M) (hM : M ≤ 1000) :
    Calls Try.prog 15 #[.pointer (some ⟨cb, 0, none⟩), .pointer (some ⟨rb, 0, none⟩), .agg #[.int .i64 kind, .string x, .string s, .int .i64 turn, .int .i64 deep]] w fun y w' => Stepped base w0 w' cb rb n M bm y := by
  have HB := Lib.hid (hB.boxed (.cells #[.int .i64 kind, .string x, .string s, .int .i64 turn, .int .i64 deep] 28))
  have h0 : 0 ≤ M := by omega
  have HS := Lib.hid (put_same (M := M) (E := E) (e := ⟨x, turn, deep, s⟩) h0 hE)
  have HL := Lib.hid (put_len (M := M) (E := E) (e := ⟨x, turn, deep, s⟩) hE)
  have HF := Lib.hid (fit_same x turn deep hB.nodup)
  clear hB
  go_enter Try.func15, Try.ntmps15
  go_wp2_with (first
    | (go_at_call 16; refine (place_any kind 5 (by decide) (by decide) _).mono ?_; rintro e w1 ⟨q, hq, hq1, rfl, hb1⟩; have H1 := Lib.hid (HB.out.later hb1); clear hq hb1; obtain ⟨a1, a2, a3, a4⟩ := H1.out.fields)
    | (go_at_call 18; clear a1 a2 a3 a4; refine (cput_both H1.out x turn deep s hx hn hE hM).mono ?_; rintro e w2 ⟨rfl, hB2⟩; have H2 := Lib.hid hB2; clear hB2; obtain ⟨a1, a2, a3, a4⟩ := H2.out.fields)
    | (go_at_call 32; clear a1 a2 a3 a4; refine (rput_both H2.out x turn deep s (by omega)).mono ?_; rintro e w3 ⟨rfl, hB2⟩; have H3 := Lib.hid hB2; clear hB2; rw [HS.out] at H3; obtain ⟨⟨sa, sc, d1⟩, d2⟩ := H3.out.cells)
    | (go_at_call 19; clear a1 a2 a3 a4; refine (cget_both H1.out x turn deep hx).mono ?_; rintro e w2 ⟨rfl, hB2⟩; have H2 := Lib.hid hB2; clear hB2; obtain ⟨a1, a2, a3, a4⟩ := H2.out.fields)
    | (go_at_call 33; clear a1 a2 a3 a4; refine (rget_both H2.out x turn deep).mono ?_; rw [HF.out]; rintro e w3 ⟨rfl, hB2⟩; have H3 := Lib.hid hB2; clear hB2; obtain ⟨⟨sa, sc, d1⟩, d2⟩ := H3.out.cells))
  · generalize putE M E ⟨x, turn, deep, s⟩ = L at H3 d1 HL
    go_quiet ((first | (go_at_call 20; exact Calls.quiet_of_same (H3.out.drewN _).len) | (go_at_call 21; exact Calls.quiet_of_same (H3.out.drewN _).hits)))
    go_wp2
    go_ret
    exact ⟨rfl, h, L, HL.out, H3.out.bare.later ⟨rfl, rfl, rfl, Nat.le_refl _, fun _ _ => rfl⟩⟩
  · generalize (if (fitE E x turn deep).isSome = true then wrap64 (h + 1) else h) = h2 at H3 d2
    go_quiet ((first | (go_at_call 20; exact Calls.quiet_of_same (H3.out.drewN _).len) | (go_at_call 21; exact Calls.quiet_of_same (H3.out.drewN _).hits)))
    go_wp2
    go_ret
    exact ⟨rfl, h2, E, hE, H3.out.bare.up.later ⟨rfl, rfl, rfl, Nat.le_refl _, fun _ _ => rfl⟩⟩
end Go.Proofs.Ytabdjijlmiobhaa.G
