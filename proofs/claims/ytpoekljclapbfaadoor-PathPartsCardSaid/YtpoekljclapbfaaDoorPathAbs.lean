/- path.Abs: what it answers for every text, and the walk of its code. -/
import Derived.Test.YtpoekljclapbfaaDoorProg
import Derived.Test.YtpoekljclapbfaaDoorShelf
import Derived.Below
import Derived.Lib.Hide
import Derived.WalkKit
import Derived.ArgAppend
namespace Go.Proofs.YtpoekljclapbfaaDoor.G
open Go.RowKit
set_option linter.unusedVariables false

def slashB : ByteArray := ⟨#[47]⟩
def dotB : ByteArray := ⟨#[46]⟩
def upB : ByteArray := ⟨#[46, 46]⟩
/-- what stands between the slashes -/
def partsB (s : ByteArray) : List ByteArray := Lib.splitB slashB 0 (Lib.countB s slashB) s
def stepB (pl : List ByteArray) (x : ByteArray) : List ByteArray := if x = ⟨#[]⟩ ∨ x = dotB then pl else if x = upB then pl.take (pl.length - 1) else pl ++ [x]
def pileB (l : List ByteArray) : List ByteArray := l.foldl stepB []
def joinB (pl : List ByteArray) : ByteArray := ⟨(Lib.join (pl.map (·.data.toList)) slashB.data.toList).toArray⟩
def absB (s : ByteArray) : ByteArray := if s = ⟨#[]⟩ then ⟨#[]⟩ else slashB ++ joinB (pileB (partsB s))

theorem cell_of_blk {w : World} {b j : Nat} {C : Array Value} {t : TypeId} {fr : Nat × Nat} (h : w.heap[b]? = some (.cells C t fr)) : w.cell? ⟨b, j, none⟩ = C[j]? := by
  simp [World.cell?, h]

/-- a pile of texts of the call's own: grown by appends, or cut -/
def Pile (w : World) (B : Nat) (v : Value) (l : List ByteArray) : Prop :=
  w.ownsRow B 9 1 v l.length (l.map Value.string) ∨ ∃ g cur, v = .slice (some ⟨g, 0, none⟩) l.length l.length ∧ B ≤ g ∧ w.heap[g]? = some (.cells cur 9 (0, 0)) ∧ l.length ≤ cur.size ∧ l.length ≤ maxLen ∧ cur.toList.take l.length = l.map Value.string
/-- its view -/
theorem Pile.look {w : World} {B : Nat} {v : Value} {l : List ByteArray} (h : Pile w B v l) :
    (v = .slice none 0 0 ∧ l = []) ∨ ∃ g cap cur, v = .slice (some ⟨g, 0, none⟩) l.length cap ∧ B ≤ g ∧ w.heap[g]? = some (.cells cur 9 (0, 0)) ∧ l.length ≤ cap ∧ cap ≤ cur.size ∧ cap ≤ maxLen ∧ cur.toList.take l.length = l.map Value.string := by
  rcases h with ⟨_, h⟩ | ⟨g, cur, h1, h2, h3, h4, h5, h6⟩
  · rcases h with ⟨h1, h2⟩ | ⟨g, cap, cur, h1, h2, h3, h4, h5, h6, h7⟩
    · exact .inl ⟨h1, List.length_eq_zero_iff.1 h2⟩
    · exact .inr ⟨g, cap, cur, h1, h2, h3, h4, by omega, h5, by simpa using h7⟩
  · exact .inr ⟨g, _, cur, h1, h2, h3, Nat.le_refl _, h4, h5, h6⟩
theorem Pile.cut {w : World} {B : Nat} {g cap : Nat} {cur : Array Value} {l : List ByteArray} (n : Nat) (hn : n ≤ l.length) (h2 : B ≤ g) (h3 : w.heap[g]? = some (.cells cur 9 (0, 0))) (h4 : l.length ≤ cap) (h5 : cap ≤ cur.size) (h6 : cap ≤ maxLen)
    (h7 : cur.toList.take l.length = l.map Value.string) : Pile w B (.slice (some ⟨g, 0, none⟩) n n) (l.take n) := by
  have e : (l.take n).length = n := by rw [List.length_take]; omega
  refine .inr ⟨g, cur, by rw [e], h2, h3, by omega, by omega, ?_⟩
  rw [e, List.map_take, ← h7, List.take_take, Nat.min_eq_left hn]
theorem Pile.kept {w w' : World} {B : Nat} {v : Value} {l : List ByteArray} (h : Pile w B v l) (hk : ∀ k, k < w.heap.size → w'.heap[k]? = w.heap[k]?) : Pile w' B v l := by
  have hlt : ∀ {g : Nat} {o : Obj}, w.heap[g]? = some o → w'.heap[g]? = some o := fun {g o} h => (hk g (Array.getElem?_eq_some_iff.1 h).1).trans h
  rcases h with ⟨h0, h⟩ | ⟨g, cur, h1, h2, h3, h⟩
  · rcases h with h | ⟨g, cap, cur, h1, h2, h3, h⟩
    · exact .inl ⟨h0, .inl h⟩
    · exact .inl ⟨h0, .inr ⟨g, cap, cur, h1, h2, hlt h3, h⟩⟩
  · exact .inr ⟨g, cur, h1, h2, hlt h3, h⟩

theorem str_info : (Tryd.prog.info? 9).map (fun i => (i.zero, i.size, i.bytes)) = some (some (.string ⟨#[]⟩), 1, 16) := by kernel_rfl
theorem take_pred {α : Type} (l : List α) (n : Nat) (h : n = l.length - 1) : l.take n = l.take (l.length - 1) := by rw [h]
theorem one_new (w : World) (C : List Value) (t : TypeId) : ∀ (j : Nat) (u : Value), C[j]? = some u → (w.alloc (.cells C.toArray t)).cell? ((⟨w.heap.size, 0, none⟩ : Addr).add j) = some u := by
  intro j u hu
  have e : (⟨w.heap.size, 0, none⟩ : Addr).add j = ⟨w.heap.size, j, none⟩ := by
    unfold Addr.add
    split
    · rename_i h0; rw [h0]
    · simp
  rw [e, cell_of_blk (heap_alloc_new w _)]
  simpa using hu

def intOf : Value → Int
  | .int _ n => n
  | _ => 0
theorem mem_stepB {pl : List ByteArray} {x y : ByteArray} (h : y ∈ stepB pl x) : y ∈ pl ∨ y = x := by
  unfold stepB at h
  split at h
  · exact .inl h
  · split at h
    · exact .inl (List.mem_of_mem_take h)
    · simpa using h
theorem len_stepB (pl : List ByteArray) (x : ByteArray) : (stepB pl x).length ≤ pl.length + 1 := by
  unfold stepB
  split
  · omega
  · split
    · rw [List.length_take]; omega
    · simp
theorem pile_bounds (M : Nat) : ∀ (l : List ByteArray) (pl : List ByteArray), (∀ x ∈ l, x.size ≤ M) → (∀ x ∈ pl, x.size ≤ M) → (∀ x ∈ l.foldl stepB pl, x.size ≤ M) ∧ (l.foldl stepB pl).length ≤ pl.length + l.length
  | [], pl, _, h => ⟨h, by simp⟩
  | y :: l, pl, h1, h2 => by
    have := pile_bounds M l (stepB pl y) (fun x hx => h1 x (List.mem_cons_of_mem _ hx)) (fun x hx => (mem_stepB hx).elim (h2 x) (fun e => e ▸ h1 y (List.mem_cons_self ..)))
    refine ⟨this.1, Nat.le_trans this.2 ?_⟩
    have := len_stepB pl y
    simp
    omega
theorem split_sizes (M : Nat) : ∀ (k : Nat) (s : ByteArray), s.size ≤ M → ∀ x ∈ Lib.splitB slashB 0 k s, x.size ≤ M
  | 0, s, h, x, hx => by rw [Lib.splitB_zero] at hx; simp at hx; exact hx ▸ h
  | k + 1, s, h, x, hx => by
    unfold Lib.splitB at hx
    split at hx
    · simp at hx; exact hx ▸ h
    · rcases List.mem_cons.1 hx with rfl | hx
      · simp [ByteArray.size_extract]; omega
      · exact split_sizes M k _ (by simp [ByteArray.size_extract]; omega) x hx
theorem join_len (M : Nat) : ∀ (l : List ByteArray), (∀ x ∈ l, x.size ≤ M) → (Lib.joinTail slashB.data.toList (l.map (·.data.toList))).length ≤ l.length * (M + 1)
  | [], _ => by simp [Lib.joinTail]
  | y :: l, h => by
    have h1 := join_len M l (fun x hx => h x (List.mem_cons_of_mem _ hx))
    have h2 : y.data.toList.length ≤ M := by have := h y (List.mem_cons_self ..); rw [Array.length_toList]; exact this
    simp only [Lib.joinTail, List.map_cons, List.flatten_cons, List.length_append, List.length_cons] at h1 ⊢
    have e : slashB.data.toList.length = 1 := rfl
    rw [Nat.succ_mul]
    omega
theorem joinB_len (M : Nat) (l : List ByteArray) (h : ∀ x ∈ l, x.size ≤ M) : (Lib.join (l.map (·.data.toList)) slashB.data.toList).length ≤ l.length * (M + 1) := by
  cases l with
  | nil => simp [Lib.join_nil]
  | cons y l =>
    rw [List.map_cons, Lib.join_cons, List.length_append, List.length_cons, Nat.succ_mul]
    have h1 := join_len M l (fun x hx => h x (List.mem_cons_of_mem _ hx))
    have h2 : y.data.toList.length ≤ M := by have := h y (List.mem_cons_self ..); rw [Array.length_toList]; exact this
    omega
theorem pileB_snoc (P : List ByteArray) (i : Nat) (x : ByteArray) (h : P[i]? = some x) : pileB (P.take (i + 1)) = stepB (pileB (P.take i)) x := by
  rw [List.take_add_one, h]
  simp [pileB]
theorem isEmpty_eq (s : ByteArray) : s.toList.isEmpty = decide (s = ⟨#[]⟩) := by
  rw [ByteArray.toList_eq]
  rcases s with ⟨⟨l⟩⟩
  cases l <;> simp

theorem own_lower {w : World} {B B' : Nat} {t : TypeId} {v : Value} {n : Nat} {xs : List Value} (h : w.ownsRow B' t 1 v n xs) (hB : B ≤ B') : w.ownsRow B t 1 v n xs :=
  ⟨h.1, h.2.imp id fun ⟨g, cap, cur, h1, h2, h3⟩ => ⟨g, cap, cur, h1, Nat.le_trans hB h2, h3⟩⟩
theorem toList_is {x : ByteArray} {l : List UInt8} {b : Bool} (h : (x.toList == l) = b) : decide (x = ⟨l.toArray⟩) = b := by
  rw [← h, ByteArray.toList_eq]
  rcases x with ⟨⟨k⟩⟩
  by_cases e : k = l
  · subst e; simp
  · rw [decide_eq_false (by simpa using e)]
    simpa using e
theorem toList_empty {x : ByteArray} {b : Bool} (h : x.toList.isEmpty = b) : decide (x = ⟨#[]⟩) = b := by rw [← h, isEmpty_eq]
theorem step_skip {pl : List ByteArray} {x : ByteArray} (h : x = ⟨#[]⟩ ∨ x = dotB) : stepB pl x = pl := by rw [stepB, if_pos h]
theorem step_up {pl : List ByteArray} {x : ByteArray} (h : x = upB) : stepB pl x = pl.take (pl.length - 1) := by subst h; rw [stepB, if_neg (by decide), if_pos rfl]
theorem step_push {pl : List ByteArray} {x : ByteArray} (h1 : ¬ x = ⟨#[]⟩) (h2 : ¬ x = dotB) (h3 : ¬ x = upB) : stepB pl x = pl ++ [x] := by rw [stepB, if_neg (by rintro (h | h) <;> contradiction), if_neg h3]
set_option maxHeartbeats 4000000 in
set_option maxRecDepth 100000 in
theorem path_Abs (s : ByteArray) (hs : s.size ≤ 1000000) (w : World) (hm : ∃ m, w.cell? ⟨0, 0, none⟩ = some (.int .i64 m)) :
    Calls Tryd.prog 16 #[.string s] w fun e w' => e = .returned (.string (absB s)) ∧ Below w.heap.size w w' := by
  obtain ⟨i0, hi, hz0, hz1, hz2⟩ := info_parts str_info
  obtain ⟨m, hm⟩ := hm
  have HM := Lib.hid hm
  clear hm
  obtain ⟨n, hn⟩ : ∃ n, Lib.countB s slashB = n := ⟨_, rfl⟩
  have hn0 : n ≤ 1000000 := by have := Lib.countB_le slashB (by decide) s.size s (Nat.le_refl _); omega
  have hpl : (partsB s).length = n + 1 := by unfold partsB; rw [Lib.splitB_all slashB (by decide) 0 _ s rfl, hn]
  have hpm : ∀ x ∈ partsB s, x.size ≤ 1000000 := split_sizes 1000000 _ s hs
  have HPE : Hid (absB s = if s = ⟨#[]⟩ then ⟨#[]⟩ else slashB ++ joinB (pileB (partsB s))) := Lib.hid rfl
  have HSP := Lib.hid (show ∀ w : World, w.alloc (.cells ((Lib.splitB slashB 0 (Lib.countB s slashB) s).map Value.string).toArray 9) = w.alloc (.cells ((partsB s).map Value.string).toArray 9) from fun _ => rfl)
  obtain ⟨P, hP⟩ : ∃ P, partsB s = P := ⟨_, rfl⟩
  rw [hP] at hpl hpm HPE HSP
  have HPM := Lib.hid hpm
  have HPL := Lib.hid hpl
  have HN := Lib.hid hn
  clear hpm hP hn hpl
  go_enter Tryd.func16, Tryd.ntmps16
  go_wp2_with (go_at_call 23; refine (Tryd.strings_Split s slashB m w (by omega) HM.out (by decide)).mono ?_; rintro e w1 ⟨he, hw1⟩; rw [HSP.out] at hw1; rw [HN.out] at he; subst he; have HW := Lib.hid hw1; clear hw1)
  · rename_i hemp
    rw [isEmpty_eq, decide_eq_true_eq] at hemp
    subst hemp
    go_ret
    rw [HPE.out, if_pos rfl]
    exact ⟨rfl, Below.refl _ _⟩
  have HEMP := Lib.hid (show ¬ s = ⟨#[]⟩ from by have hemp := ‹s.toList.isEmpty = false›; rw [isEmpty_eq] at hemp; simpa using hemp)
  have HW0 := Lib.hid (show w1.heap[w.heap.size]? = some (.cells (P.map Value.string).toArray 9 (0, 0)) from by rw [HW.out]; exact heap_alloc_new _ _)
  have HWS := Lib.hid (show w1.heap.size = w.heap.size + 1 from by rw [HW.out]; simp)
  have HWB := Lib.hid (show Below w.heap.size w w1 from by rw [HW.out]; exact (Below.refl _ _).alloc (Nat.le_refl _) _)
  clear HW
  go_loopw [3, 12] (fun v3 v12 wr => ∃ i : Nat, i ≤ n + 1 ∧ v12 = .int .i64 i ∧ Hid (Pile wr (w.heap.size + 1) v3 (pileB (P.take i))) ∧ Hid (Below (w.heap.size + 1) w1 wr)) (fun _ i _ => n + 1 - (intOf i).toNat)
  case atStart => exact ⟨0, Nat.zero_le _, rfl, Lib.hid (.inl (World.ownsRow_nil _ _ _ _)), Lib.hid (HWS.out ▸ Below.refl _ _)⟩
  case round =>
    obtain ⟨i, hin, rfl, HPI, HB⟩ := hrel
    by_cases hlt : i < n + 1
    · obtain ⟨x, hx⟩ : ∃ x, P[i]? = some x := ⟨P[i]'(by rw [HPL.out]; exact hlt), List.getElem?_eq_getElem _⟩
      have HX := Lib.hid hx
      have hc : wr.cell? ⟨w.heap.size, i, none⟩ = some (.string x) := by
        rw [cell_of_blk ((HB.out.block _ (Nat.lt_succ_self _)).trans HW0.out)]
        simp [hx]
      clear hx
      have hle : (pileB (P.take i)).length ≤ i := by
        have h1 := (pile_bounds 1000000 (P.take i) [] (fun x hx => HPM.out x (List.mem_of_mem_take hx)) (by simp)).2
        have h2 : (P.take i).length ≤ i := by rw [List.length_take]; omega
        simp only [List.length_nil, Nat.zero_add] at h1
        exact Nat.le_trans h1 h2
      obtain ⟨pl, hpl⟩ : ∃ pl, pileB (P.take i) = pl := ⟨_, rfl⟩
      have HPN := Lib.hid (pileB_snoc P i x HX.out)
      rw [hpl] at HPN HPI hle
      clear hpl
      rcases HPI.out with hown | ⟨g, cur, rfl, hg1, hg2, hg3, hg4, hg5⟩
      · have HO := Lib.hid hown
        rcases HPI.out.look with ⟨rfl, rfl⟩ | ⟨g, cap, cur, rfl, hg1, hg2, hg3, hg4, hg5, hg6⟩
        · clear hown
          go_wp2_with (at_builtin; refine wpList_append_own _ rfl _ _ 26 rfl (w.heap.size + 1) 9 i0 (.string ⟨#[]⟩) 1 16 Tryd.underlying26 hi hz0 hz1 hz2 rfl (by decide) _ _ _ rfl (HO.out.alloc _) ⟨wr.heap.size, 0, none⟩ 1 1 [.string x] rfl rfl (one_new _ _ _) (by simp [Value.oneCell']) (by unfold maxLen; omega) (by omega) (by have := HB.out.size; have := HWS.out; simp; omega) ?_; intro v' w4 hown' hgr hnil; have HO' := Lib.hid hown'; have HB' := Lib.hid ((HB.out.alloc (by have := HB.out.size; have := HWS.out; omega) _).grown hgr (by have := HB.out.size; have := HWS.out; simp; omega) (fun j hj => (HO.out.lt j hj).1)); clear hown' hgr hnil)
          all_goals first
            | (exfalso
               have h1 := ‹x.toList.isEmpty = true›
               have h2 := ‹x.toList.isEmpty = false›
               rw [h1] at h2
               cases h2
               done)
            | (have h1 := of_decide_eq_true (toList_empty ‹x.toList.isEmpty = true›)
               refine ⟨⟨i + 1, by omega, by go_num, ?_, HB⟩, by simp [intOf]; omega⟩
               rw [HPN.out, step_skip (Or.inl h1)]
               exact HPI
               done)
            | (have h1 := of_decide_eq_true (toList_is ‹(x.toList == [46]) = true›)
               refine ⟨⟨i + 1, by omega, by go_num, ?_, HB⟩, by simp [intOf]; omega⟩
               rw [HPN.out, step_skip (Or.inr h1)]
               exact HPI
               done)
            | (have h1 := of_decide_eq_true (toList_is ‹(x.toList == [46, 46]) = true›)
               refine ⟨⟨i + 1, by omega, by go_num, ?_, HB⟩, by simp [intOf]; omega⟩
               rw [HPN.out, step_up h1]
               exact HPI
               done)
            | (have h1 := of_decide_eq_false (toList_empty ‹x.toList.isEmpty = false›)
               have h2 := of_decide_eq_false (toList_is ‹(x.toList == [46]) = false›)
               have h3 := of_decide_eq_false (toList_is ‹(x.toList == [46, 46]) = false›)
               refine ⟨⟨i + 1, by omega, by go_num, ?_, HB'⟩, by simp [intOf]; omega⟩
               rw [HPN.out, step_push h1 h2 h3]
               exact Lib.hid (.inl (by simpa using HO'.out))
               done)
            | trace_state
        · clear hown
          have HL := Lib.hid (show ∀ k, k ≤ pl.length → Pile wr (w.heap.size + 1) (.slice (some ⟨g, 0, none⟩) k k) (pl.take k) from fun k hk => Pile.cut k hk hg1 hg2 hg3 hg4 hg5 hg6)
          clear hg6 hg2
          go_wp2_with (at_builtin; refine wpList_append_own _ rfl _ _ 26 rfl (w.heap.size + 1) 9 i0 (.string ⟨#[]⟩) 1 16 Tryd.underlying26 hi hz0 hz1 hz2 rfl (by decide) _ _ _ rfl (HO.out.alloc _) ⟨wr.heap.size, 0, none⟩ 1 1 [.string x] rfl rfl (one_new _ _ _) (by simp [Value.oneCell']) (by unfold maxLen; omega) (by omega) (by have := HB.out.size; have := HWS.out; simp; omega) ?_; intro v' w4 hown' hgr hnil; have HO' := Lib.hid hown'; have HB' := Lib.hid ((HB.out.alloc (by have := HB.out.size; have := HWS.out; omega) _).grown hgr (by have := HB.out.size; have := HWS.out; simp; omega) (fun j hj => (HO.out.lt j hj).1)); clear hown' hgr hnil)
          all_goals first
            | (exfalso
               have h1 := ‹x.toList.isEmpty = true›
               have h2 := ‹x.toList.isEmpty = false›
               rw [h1] at h2
               cases h2
               done)
            | (have h1 := of_decide_eq_true (toList_empty ‹x.toList.isEmpty = true›)
               refine ⟨⟨i + 1, by omega, by go_num, ?_, HB⟩, by simp [intOf]; omega⟩
               rw [HPN.out, step_skip (Or.inl h1)]
               exact HPI
               done)
            | (have h1 := of_decide_eq_true (toList_is ‹(x.toList == [46]) = true›)
               refine ⟨⟨i + 1, by omega, by go_num, ?_, HB⟩, by simp [intOf]; omega⟩
               rw [HPN.out, step_skip (Or.inr h1)]
               exact HPI
               done)
            | (have h1 := of_decide_eq_true (toList_is ‹(x.toList == [46, 46]) = true›)
               refine ⟨⟨i + 1, by omega, by go_num, ?_, HB⟩, by simp [intOf]; omega⟩
               rw [HPN.out, step_up h1]
               rw [show pl.length - 1 = (max ((pl.length : Int) - 1) 0).toNat by omega]
               exact Lib.hid (HL.out _ (by omega))
               done)
            | (have h1 := of_decide_eq_false (toList_empty ‹x.toList.isEmpty = false›)
               have h2 := of_decide_eq_false (toList_is ‹(x.toList == [46]) = false›)
               have h3 := of_decide_eq_false (toList_is ‹(x.toList == [46, 46]) = false›)
               refine ⟨⟨i + 1, by omega, by go_num, ?_, HB'⟩, by simp [intOf]; omega⟩
               rw [HPN.out, step_push h1 h2 h3]
               exact Lib.hid (.inl (by simpa using HO'.out))
               done)
            | trace_state
      · have HL := Lib.hid (show ∀ k, k ≤ pl.length → Pile wr (w.heap.size + 1) (.slice (some ⟨g, 0, none⟩) k k) (pl.take k) from fun k hk => Pile.cut k hk hg1 hg2 (Nat.le_refl _) hg3 hg4 hg5)
        have HCU := Lib.hid (show ∀ (c : Array Value) j u, (pl.map Value.string)[j]? = some u → (wr.alloc (.cells c 9)).cell? ⟨g, 0 + j, none⟩ = some u from fun c j u hu => by
          rw [cell_of_blk ((Below.heap_alloc _ _ _ (Array.getElem?_eq_some_iff.1 hg2).1).trans hg2), ← Array.getElem?_toList]
          rw [← hg5, List.getElem?_take] at hu
          rw [Nat.zero_add]
          split at hu
          · exact hu
          · cases hu)
        clear hg5 hg2
        go_wp2_with (at_builtin; refine wpList_append_arg _ rfl _ _ 26 rfl 9 i0 (.string ⟨#[]⟩) 1 16 Tryd.underlying26 hi hz0 hz1 hz2 rfl (by decide) g 0 pl.length pl.length (pl.map Value.string) rfl (by simp) (HCU.out _) ⟨wr.heap.size, 0, none⟩ 1 1 [.string x] rfl rfl (one_new _ _ _) (by simp [Value.oneCell']) (fun h => absurd h (by omega)) (by unfold maxLen; omega) (by omega) (fun h => absurd h (by omega)) ?_; intro _ v' w4 hown' hgr; have HO' := Lib.hid (own_lower (B := w.heap.size + 1) hown' (by have := HB.out.size; have := HWS.out; simp; omega)); have HB' := Lib.hid ((HB.out.alloc (by have := HB.out.size; have := HWS.out; omega) _).grown hgr (by have := HB.out.size; have := HWS.out; simp; omega) (fun j hj => by cases hj)); clear hown' hgr)
        all_goals first
          | (exfalso
             have h1 := ‹x.toList.isEmpty = true›
             have h2 := ‹x.toList.isEmpty = false›
             rw [h1] at h2
             cases h2
             done)
          | (have h1 := of_decide_eq_true (toList_empty ‹x.toList.isEmpty = true›)
             refine ⟨⟨i + 1, by omega, by go_num, ?_, HB⟩, by simp [intOf]; omega⟩
             rw [HPN.out, step_skip (Or.inl h1)]
             exact HPI
             done)
          | (have h1 := of_decide_eq_true (toList_is ‹(x.toList == [46]) = true›)
             refine ⟨⟨i + 1, by omega, by go_num, ?_, HB⟩, by simp [intOf]; omega⟩
             rw [HPN.out, step_skip (Or.inr h1)]
             exact HPI
             done)
          | (have h1 := of_decide_eq_true (toList_is ‹(x.toList == [46, 46]) = true›)
             refine ⟨⟨i + 1, by omega, by go_num, ?_, HB⟩, by simp [intOf]; omega⟩
             rw [HPN.out, step_up h1]
             rw [show pl.length - 1 = (max ((pl.length : Int) - 1) 0).toNat by omega]
             exact Lib.hid (HL.out _ (by omega))
             done)
          | (have h1 := of_decide_eq_false (toList_empty ‹x.toList.isEmpty = false›)
             have h2 := of_decide_eq_false (toList_is ‹(x.toList == [46]) = false›)
             have h3 := of_decide_eq_false (toList_is ‹(x.toList == [46, 46]) = false›)
             refine ⟨⟨i + 1, by omega, by go_num, ?_, HB'⟩, by simp [intOf]; omega⟩
             rw [HPN.out, step_push h1 h2 h3]
             exact Lib.hid (.inl (by simpa using HO'.out))
             done)
          | trace_state
    · obtain rfl : i = n + 1 := by omega
      have HPE2 := Lib.hid (show absB s = slashB ++ joinB (pileB (P.take (n + 1))) from by rw [HPE.out, if_neg HEMP.out, List.take_of_length_le (by rw [HPL.out]; exact Nat.le_refl _)])
      have hle : (pileB (P.take (n + 1))).length ≤ 1000001 := by
        have h1 := (pile_bounds 1000000 (P.take (n + 1)) [] (fun x hx => HPM.out x (List.mem_of_mem_take hx)) (by simp)).2
        have h2 : (P.take (n + 1)).length ≤ n + 1 := by rw [List.length_take]; omega
        simp only [List.length_nil, Nat.zero_add] at h1
        exact Nat.le_trans h1 (by omega)
      have hsz : ∀ x ∈ pileB (P.take (n + 1)), x.size ≤ 1000000 := (pile_bounds 1000000 (P.take (n + 1)) [] (fun x hx => HPM.out x (List.mem_of_mem_take hx)) (by simp)).1
      obtain ⟨pl, hpl⟩ : ∃ pl, pileB (P.take (n + 1)) = pl := ⟨_, rfl⟩
      rw [hpl] at HPE2 HPI hle hsz
      have HSZ := Lib.hid hsz
      clear hpl hsz
      have hjl : (Lib.join (pl.map (·.data.toList)) slashB.data.toList).length ≤ 140737488355328 := Nat.le_trans (joinB_len 1000000 pl HSZ.out) (Nat.le_trans (Nat.mul_le_mul_right 1000001 hle) (by decide))
      have HJL := Lib.hid hjl
      clear hjl
      rcases HPI.out.look with ⟨rfl, rfl⟩ | ⟨g, cap, cur, rfl, hg1, hg2, hg3, hg4, hg5, hg6⟩
      · go_wp2_with (go_at_call 24; refine (Tryd.strings_Join_none _ _ slashB _).mono ?_; rintro e w2 ⟨rfl, rfl⟩)
        go_ret
        refine ⟨?_, HWB.out.trans (HB.out.mono (Nat.le_succ _))⟩
        rw [HPE2.out]
        rfl
      · have HCE := Lib.hid (show ∀ (j : Nat) x, pl[j]? = some x → wr.cell? ⟨g, 0 + j, none⟩ = some (.string x) from fun j x hx => by
          rw [cell_of_blk hg2, ← Array.getElem?_toList, Nat.zero_add]
          have hj : j < pl.length := (List.getElem?_eq_some_iff.1 hx).1
          rw [← List.getElem?_take_of_lt hj, hg6, List.getElem?_map, hx]
          rfl)
        have HGL := Lib.hid (Array.getElem?_eq_some_iff.1 hg2).1
        clear hg6 hg2
        go_wp2_with (go_at_call 24; refine (Tryd.strings_Join g 0 cap pl slashB _ HCE.out HGL.out (by omega) hg3 HJL.out).mono ?_; rintro e w2 ⟨rfl, hb2⟩; have HB2 := Lib.hid hb2; clear hb2)
        · exfalso
          have h1 := ‹9223372036854775807 < 1 + _›
          have := HJL.out
          omega
        go_ret
        refine ⟨?_, (HWB.out.trans (HB.out.mono (Nat.le_succ _))).trans (HB2.out.mono ?_)⟩
        · rw [HPE2.out]
          rfl
        · have := HB.out.size
          have := HWS.out
          omega
end Go.Proofs.YtpoekljclapbfaaDoor.G
