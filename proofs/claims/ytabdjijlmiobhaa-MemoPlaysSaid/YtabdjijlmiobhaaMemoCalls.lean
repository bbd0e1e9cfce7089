/- memo: the walks of New, Get, Put, Len, Hits. -/
import Derived.Test.YtabdjijlmiobhaaMemoPut
import Derived.Deep.QuietTactic
import Derived.BigQuiet
namespace Go.Proofs.Ytabdjijlmiobhaa.G
open Go.RowKit Go.Maps Go.Sort

/-- The cache's answers, by its entries. -/
def findE (E : List Ent) (x : ByteArray) : Option Ent := E.find? (fun e => decide (e.name = x))
def fitE (E : List Ent) (x : ByteArray) (turn room : Int) : Option ByteArray :=
  match findE E x with
  | some e => if e.turn = turn ∧ e.deep ≤ room then some e.val else none
  | none => none
def putE (M : Int) (E : List Ent) (e : Ent) : List Ent :=
  if M = 0 then E else (if ((without E e.name ++ [e]).length : Int) > M then (without E e.name ++ [e]).tail else without E e.name ++ [e])

theorem frozen_of_block {w : World} {b j : Nat} {C : Array Value} {t : TypeId} (h : w.heap[b]? = some (.cells C t (0, 0))) : w.frozen? ⟨b, j, none⟩ = false := by
  simp [World.frozen?, h]
theorem Len.calls {base : Nat} {w : World} {cb n : Nat} {M h : Int} {E : List Ent} {v : Value} {bm : Nat} (hC : CacheV base w cb n M h E v bm) :
    Calls Try.prog 20 #[.pointer (some ⟨cb, 0, none⟩)] w fun e w' => e = .returned (.int .i64 E.length) ∧ w' = w := by
  have c2 := hC.c2
  obtain ⟨a, k, rfl⟩ := slice_of hC.row
  clear hC
  go_enter Try.func20, Try.ntmps20
  go_wp2
  go_ret
  exact ⟨rfl, rfl⟩

theorem Hits.calls {base : Nat} {w : World} {cb n : Nat} {M h : Int} {E : List Ent} {v : Value} {bm : Nat} (hC : CacheV base w cb n M h E v bm) :
    Calls Try.prog 21 #[.pointer (some ⟨cb, 0, none⟩)] w fun e w' => e = .returned (.int .i64 h) ∧ w' = w := by
  have c1 := hC.c1
  clear hC
  go_enter Try.func21, Try.ntmps21
  go_wp2
  go_ret
  exact ⟨rfl, rfl⟩

set_option maxHeartbeats 4000000 in
set_option maxRecDepth 100000 in
theorem New.calls (m : Int) (w : World) :
    Calls Try.prog 12 #[.int .i64 m] w fun e w' => e = .returned (.pointer (some ⟨w.heap.size + 1, 0, none⟩)) ∧ CacheV w.heap.size w' (w.heap.size + 1) 0 (max 0 (min m 1000)) 0 [] (.slice none 0 0) w.heap.size ∧ Below w.heap.size w w' := by
  have hmm := @run_makeMap Try.prog
  go_enter Try.func12, Try.ntmps12
  go_wp2
  go_ret
  have hb : ((w.alloc (Obj.map #[] 0)).alloc (Obj.cells #[Value.int .i64 (max 0 (min m 1000)), Value.int .i64 0, Value.slice none 0 0, Value.map (some w.heap.size)] 60)).heap[w.heap.size + 1]? = some (Obj.cells #[Value.int .i64 (max 0 (min m 1000)), Value.int .i64 0, Value.slice none 0 0, Value.map (some w.heap.size)] 60) := by
    have := heap_alloc_new (w.alloc (Obj.map #[] 0)) (Obj.cells #[Value.int .i64 (max 0 (min m 1000)), Value.int .i64 0, Value.slice none 0 0, Value.map (some w.heap.size)] 60)
    simpa using this
  refine ⟨rfl, ⟨?_, ?_, ?_, ?_, ?_, ?_, World.ownsRow_nil _ _ _ _, ?_, by omega, Nat.le_refl _, by omega, by simp [Value.ownBlock], by simp [Value.ownBlock], List.nodup_nil, by simp, by simp; omega, by simp, by simp⟩, ?_⟩
  · rw [cell_of_block hb]; rfl
  · rw [cell_of_block hb]; rfl
  · rw [cell_of_block hb]; rfl
  · rw [cell_of_block hb]; rfl
  · exact frozen_of_block hb
  · exact frozen_of_block hb
  · refine ⟨.map [], (World.ownsMap_made w Try.prog 9 valR).alloc _, fun x z => rfl, fun x => rfl⟩
  · exact ((Below.refl _ _).alloc (Nat.le_refl _) _).alloc (by simp) _

/-! ### Get -/
theorem look_find (E : List Ent) (x : ByteArray) : look E x = (findE E x).map Ent.datum := rfl

set_option maxHeartbeats 8000000 in
set_option maxRecDepth 100000 in
theorem Get_hit {base : Nat} {w : World} {cb n : Nat} {M h : Int} {E : List Ent} {v : Value} {bm : Nat} (hC : CacheV base w cb n M h E v bm) (x : ByteArray) (turn room : Int) (hx : x.size ≤ maxLen) (e : Ent) (he : findE E x = some e) :
    Calls Try.prog 19 #[.pointer (some ⟨cb, 0, none⟩), .string x, .int .i64 turn, .int .i64 room] w fun y w' =>
      (e.turn = turn ∧ e.deep ≤ room → y = .returned (.tuple #[.string e.val, .bool true]) ∧ ∃ o, w' = (w.setCell ⟨cb, 1, none⟩ (.int .i64 (wrap64 (h + 1)))).alloc o) ∧
      (¬ (e.turn = turn ∧ e.deep ≤ room) → y = .returned (.tuple #[.string ⟨#[]⟩, .bool false]) ∧ ∃ o, w' = w.alloc o) := by
  have hkey := key_mk x hx
  obtain ⟨D, hown, hat, hhas⟩ := hC.mp
  have hat := hat x (Ent.datum ⟨x, 0, 0, ⟨#[]⟩⟩)
  have hhas := hhas x
  rw [look_find, he] at hat hhas
  have HAT := Lib.hid hat
  have HOWN := Lib.hid hown
  have hhas : Maps.has D (keyL x) = true := hhas
  have c1 := hC.c1
  have c3 := hC.c3
  have f1 := hC.f1
  have hcz := hC.hcz
  clear hat hown hC
  go_enter Try.func19, Try.ntmps19
  go_wp2_with (first
    | (at_lookup; refine wpList_lookup_own_ok _ rfl _ _ 55 rfl 9 66 str_law Try.underlying55 valR (val_zero _) (Ent.datum ⟨x, 0, 0, ⟨#[]⟩⟩) [] rfl bm n D rfl HOWN.out _ _ rfl hkey ?_; intro u ps hu; rw [HAT.out] at hu; obtain rfl : u = .agg #[.int .i64 e.turn, .int .i64 e.deep, .string e.val] := valR_inv hu; clear hu; rw [hhas])
    | go_in)
  all_goals (go_ret2; first
    | exact ⟨fun hh => absurd hh.1 (by assumption), fun _ => ⟨rfl, _, rfl⟩⟩
    | exact ⟨fun hh => absurd hh.2 (by omega), fun _ => ⟨rfl, _, rfl⟩⟩
    | exact ⟨fun _ => ⟨rfl, _, rfl⟩, fun hh => absurd ⟨by assumption, by omega⟩ hh⟩)

set_option maxHeartbeats 8000000 in
set_option maxRecDepth 100000 in
theorem Get_miss {base : Nat} {w : World} {cb n : Nat} {M h : Int} {E : List Ent} {v : Value} {bm : Nat} (hC : CacheV base w cb n M h E v bm) (x : ByteArray) (turn room : Int) (hx : x.size ≤ maxLen) (he : findE E x = none) :
    Calls Try.prog 19 #[.pointer (some ⟨cb, 0, none⟩), .string x, .int .i64 turn, .int .i64 room] w fun y w' =>
      y = .returned (.tuple #[.string ⟨#[]⟩, .bool false]) ∧ ∃ o, w' = w.alloc o := by
  have hkey := key_mk x hx
  obtain ⟨D, hown, hat, hhas⟩ := hC.mp
  have hat := hat x (Ent.datum ⟨x, 0, 0, ⟨#[]⟩⟩)
  have hhas := hhas x
  rw [look_find, he] at hat hhas
  have HAT := Lib.hid hat
  have HOWN := Lib.hid hown
  have hhas : Maps.has D (keyL x) = false := hhas
  have c3 := hC.c3
  have hcz := hC.hcz
  clear hat hown hC
  go_enter Try.func19, Try.ntmps19
  go_wp2_with (first
    | (at_lookup; refine wpList_lookup_own_ok _ rfl _ _ 55 rfl 9 66 str_law Try.underlying55 valR (val_zero _) (Ent.datum ⟨x, 0, 0, ⟨#[]⟩⟩) [] rfl bm n D rfl HOWN.out _ _ rfl hkey ?_; intro u ps hu; rw [HAT.out] at hu; obtain rfl : u = .agg #[.int .i64 0, .int .i64 0, .string ⟨#[]⟩] := valR_inv (e := ⟨x, 0, 0, ⟨#[]⟩⟩) hu; clear hu; rw [hhas])
    | go_in)
  all_goals (go_ret2; exact ⟨rfl, _, rfl⟩)

/-- A hit is counted. -/
theorem CacheV.counted {base : Nat} {w : World} {cb n : Nat} {M h : Int} {E : List Ent} {v : Value} {bm : Nat} (hC : CacheV base w cb n M h E v bm) (h' : Int) : CacheV base (w.setCell ⟨cb, 1, none⟩ (.int .i64 h')) cb n M h' E v bm := by
  have hst := grownBy_store (w := w) (p := ⟨cb, 1, none⟩) (.int .i64 h')
  refine ⟨?_, ?_, ?_, ?_, ?_, ?_, hC.row.kept hst (Or.inr hC.ne2), hC.mp.kept (Below.heap_setCell _ _ _ _ (by exact hC.ne1)), hC.hcb, hC.hbm, hC.ne1, hC.ne2, hC.ne3, hC.nodup, hC.len, by simpa using hC.hz, by simpa using hC.hcz, hC.szs⟩
  · rw [World.cell?_setCell_other w ⟨cb, 1, none⟩ _ _ (by simp)]; exact hC.c0
  · exact World.cell?_setCell_same w ⟨cb, 1, none⟩ _ hC.c1
  · rw [World.cell?_setCell_other w ⟨cb, 1, none⟩ _ _ (by simp)]; exact hC.c2
  · rw [World.cell?_setCell_other w ⟨cb, 1, none⟩ _ _ (by simp)]; exact hC.c3
  · rw [World.frozen?_setCell]; exact hC.f1
  · rw [World.frozen?_setCell]; exact hC.f2

theorem Get.calls {base : Nat} {w : World} {cb n : Nat} {M h : Int} {E : List Ent} {v : Value} {bm : Nat} (hC : CacheV base w cb n M h E v bm) (x : ByteArray) (turn room : Int) (hx : x.size ≤ maxLen) :
    Calls Try.prog 19 #[.pointer (some ⟨cb, 0, none⟩), .string x, .int .i64 turn, .int .i64 room] w fun y w' =>
      y = .returned (.tuple #[.string ((fitE E x turn room).getD ⟨#[]⟩), .bool (fitE E x turn room).isSome]) ∧ Moved base w w' cb n M (if (fitE E x turn room).isSome then wrap64 (h + 1) else h) E v bm v := by
  have hno : ∀ o, Moved base w (w.alloc o) cb n M h E v bm v := fun o => ⟨hC.alloc o, fun k hk => Or.inl hk, Apart.alloc _ _ _⟩
  cases he : findE E x with
  | none =>
    have hf : fitE E x turn room = none := by unfold fitE; rw [he]
    rw [hf]
    refine (Get_miss hC x turn room hx he).mono ?_
    rintro y w' ⟨rfl, o, rfl⟩
    exact ⟨rfl, hno o⟩
  | some e =>
    by_cases hc : e.turn = turn ∧ e.deep ≤ room
    · have hf : fitE E x turn room = some e.val := by unfold fitE; rw [he]; exact if_pos hc
      rw [hf]
      refine (Get_hit hC x turn room hx e he).mono ?_
      rintro y w' ⟨h1, _⟩
      obtain ⟨rfl, o, rfl⟩ := h1 hc
      refine ⟨rfl, (hC.counted (wrap64 (h + 1))).alloc o, fun k hk => Or.inl hk, ?_⟩
      have s1 : Apart (Foot cb bm v) w (w.setCell ⟨cb, 1, none⟩ (.int .i64 (wrap64 (h + 1)))) := (Apart.of_grown (grownBy_store _)).mono (fun k _ e => Or.inl (Option.some.inj e).symm)
      exact s1.andThen (Apart.alloc (Foot cb bm v) _ o) (fun _ _ h => h)
    · have hf : fitE E x turn room = none := by unfold fitE; rw [he]; exact if_neg hc
      rw [hf]
      refine (Get_hit hC x turn room hx e he).mono ?_
      rintro y w' ⟨_, h1⟩
      obtain ⟨rfl, o, rfl⟩ := h1 hc
      exact ⟨rfl, hno o⟩

/-! ### Put -/
theorem CacheV.mono {base : Nat} {w : World} {cb n n' : Nat} {M h : Int} {E : List Ent} {v : Value} {bm : Nat} (hC : CacheV base w cb n M h E v bm) (hn : n ≤ n') : CacheV base w cb n' M h E v bm := by
  obtain ⟨D, hown, hh⟩ := hC.mp
  exact { hC with mp := ⟨D, hown.mono hn, hh⟩ }

theorem slice_some {base : Nat} {w : World} {v : Value} {n : Nat} {xs : List Value} (h : w.ownsRow base 9 1 v n xs) (hn : 0 < n) : ∃ g c, v = .slice (some ⟨g, 0, none⟩) n c := by
  rcases h.2 with ⟨_, h0⟩ | ⟨g, cap, cur, rfl, _⟩
  · omega
  · exact ⟨_, _, rfl⟩
theorem names_head (f : Ent) (fs : List Ent) : (cellsOf (names (f :: fs)))[0]? = some (.string f.name) := rfl
theorem Moved.drewN {base : Nat} {w w' : World} {cb n : Nat} {M h : Int} {E : List Ent} {v : Value} {bm : Nat} {v' : Value} (hM : Moved base w w' cb n M h E v bm v') (q : Nat) : Moved base w (w'.drewN q) cb n M h E v bm v' := by
  have ha : Apart (fun _ => False) w' (w'.drewN q) := ⟨rfl, rfl, rfl, Nat.le_refl _, fun _ _ _ => rfl⟩
  exact ⟨hM.cache.kept ha (fun _ h => h.elim), hM.own, hM.apart.andThen ha (fun _ _ h => h.elim)⟩

theorem Moved.drew {base : Nat} {w w' : World} {cb n : Nat} {M h : Int} {E : List Ent} {v : Value} {bm : Nat} {v' : Value} (hM : Moved base w w' cb n M h E v bm v') : Moved base w w'.drew cb n M h E v bm v' := by
  have ha : Apart (fun _ => False) w' w'.drew := ⟨rfl, rfl, rfl, Nat.le_refl _, fun _ _ _ => rfl⟩
  exact ⟨hM.cache.kept ha (fun _ h => h.elim), hM.own, hM.apart.andThen ha (fun _ _ h => h.elim)⟩
theorem Moved.trans {base : Nat} {w w1 w2 : World} {cb n n' : Nat} {M h h' : Int} {E E' : List Ent} {v v1 v2 : Value} {bm : Nat} (hM : Moved base w w1 cb n M h E v bm v1) (hK : Moved base w1 w2 cb n' M h' E' v1 bm v2) : Moved base w w2 cb n' M h' E' v bm v2 := by
  refine ⟨hK.cache, fun k hk => ?_, hM.apart.andThen hK.apart (fun k hk hf => ?_)⟩
  · rcases hK.own k hk with hh | hh
    · exact hM.own k hh
    · exact Or.inr (Nat.le_trans hM.apart.size hh)
  · rcases hf with hf | hf | hf
    · exact Or.inl hf
    · exact Or.inr (Or.inl hf)
    · rcases hM.own k hf with hh | hh
      · exact Or.inr (Or.inr hh)
      · omega
theorem without_head {f : Ent} {fs : List Ent} (h : (names (f :: fs)).Nodup) : without (f :: fs) f.name = fs := by
  have h1 : f.name ∉ names fs := (List.nodup_cons.mp h).1
  have : without (f :: fs) f.name = without fs f.name := List.filter_cons_of_neg (by simp)
  rw [this, without_self h1]

set_option maxHeartbeats 8000000 in
set_option maxRecDepth 100000 in
theorem Put.calls {base : Nat} {w : World} {cb n : Nat} {M h : Int} {E : List Ent} {v : Value} {bm : Nat} (hC : CacheV base w cb n M h E v bm) (e : Ent) (hx : e.name.size ≤ maxLen) (hn : n < maxLen) (hE : (E.length : Int) ≤ M) (hM : M ≤ 1000) :
    Calls Try.prog 18 #[.pointer (some ⟨cb, 0, none⟩), .string e.name, .int .i64 e.turn, .int .i64 e.deep, .string e.val] w fun y w' => y = .returned (.tuple #[]) ∧ ∃ v', Moved base w w' cb (n + 1) M h (putE M E e) v bm v' := by
  by_cases h0 : M = 0
  · have hp : putE M E e = E := if_pos h0
    rw [hp]
    have c0 := hC.c0
    have HC := Lib.hid hC
    rw [h0] at c0
    clear hC
    go_enter Try.func18, Try.ntmps18
    go_wp2
    (try simp only [Exit.inBlock, Exit.then])
    refine bodyPost_ret (results_none rfl _ _ _) rfl ?_
    exact ⟨rfl, v, HC.out.mono (Nat.le_succ n), fun k hk => Or.inl hk, Apart.refl _ _⟩
  · obtain ⟨f0, fs, hF⟩ : ∃ f0 fs, without E e.name ++ [e] = f0 :: fs := by
      cases hw : without E e.name with
      | nil => exact ⟨e, [], rfl⟩
      | cons a l => exact ⟨a, l ++ [e], rfl⟩
    have hp : putE M E e = if M < (fs.length : Int) + 1 then fs else f0 :: fs := by
      unfold putE
      rw [if_neg h0, hF]
      rfl
    rw [hp]
    have hP := put.calls hC e hx hn (by omega)
    rw [hF] at hP
    have HP := Lib.hid hP
    have c0 := hC.c0
    have HC := Lib.hid hC
    clear hC hE hP hF hp
    go_enter Try.func18, Try.ntmps18
    go_wp2_with (go_at_call 34; refine HP.out.mono ?_; rintro e1 w1 ⟨rfl, v1, hM1⟩; obtain ⟨g, k1, rfl⟩ := slice_some hM1.cache.row (by simp); have g0 := hM1.cache.row.cellAt 0 (by simp); rw [names_head] at g0; have HM := Lib.hid hM1; clear hM1; have d0 := HM.out.cache.c0; have d2 := HM.out.cache.c2)
    go_quiet (fail)
    have d0 : (w1.drewN nq).cell? ⟨cb, 0, none⟩ = _ := d0
    have d2 : (w1.drewN nq).cell? ⟨cb, 2, none⟩ = _ := d2
    have g0 : (w1.drewN nq).cell? ⟨g, 0, none⟩ = _ := g0
    have HM2 := Lib.hid (HM.out.drewN nq)
    clear HM
    generalize w1.drewN nq = w2 at d0 d2 g0 HM2 ⊢
    go_wp2
    · have HM3 := Lib.hid HM2.out.drew
      have HD := Lib.hid (drop.calls HM3.out.cache f0.name (HM3.out.cache.szs f0 (by simp)))
      go_still_tail 10, (by kernel_rfl)
      change wpList _ _ _ _ _ w2.drew
      go_wp2_with (go_at_call 35; refine HD.out.mono ?_; rintro e3 w3 ⟨rfl, v3, hM4⟩; have HM4 := Lib.hid hM4; clear hM4)
      go_end0
      refine ⟨rfl, v3, ?_⟩
      have hm4 := HM4.out
      rw [without_head HM3.out.cache.nodup] at hm4
      exact HM3.out.trans hm4
    · go_end0
      exact ⟨rfl, _, HM2.out⟩
end Go.Proofs.Ytabdjijlmiobhaa.G
