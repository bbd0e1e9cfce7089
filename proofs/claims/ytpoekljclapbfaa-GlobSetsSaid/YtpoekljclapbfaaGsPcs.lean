/- wainwrightref03.Pieces. -/
import Derived.Test.YtpoekljclapbfaaGsSetR
import Derived.Deep.AppendLies
import Derived.Great.BuildSlice
namespace Go.Proofs.Ytpoekljclapbfaa.Gs
open Go.RowKit Go.Proofs.Ytpoekljclapbfaa.PR Go.Proofs.Ytpoekljclapbfaa.G Go.Proofs.Ytpoekljclapbfaa.P0 Go.Proofs.YtpoekljclapbfaaW.PrintWords Go.Proofs.YtpoekljclapbfaaW.PrintLast

/-- A piece's cells. -/
def Pc.row : Pc → Array Value
  | .lit c => tRow 0 (c.toNat : Int) (fun _ => false)
  | .any => tRow 1 0 (fun _ => false)
  | .set t => tRow 2 0 (fun n => inF t (UInt8.ofNat n))
  | .star => tRow 3 0 (fun _ => false)
theorem row_size (t : Pc) : t.row.size = 258 := by cases t <;> exact tRow_size _ _ _
theorem row_one (t : Pc) : t.row.all (·.oneCell') = true := by cases t <;> exact tRow_one _ _ _
def rowsOf (ts : List Pc) : List Value := ts.flatMap (fun t => t.row.toList)
theorem row_below {w w' : World} {base : Nat} {e : TypeId} {size : Nat} {v : Value} {n : Nat} {xs : List Value} (h : w.ownsRow base e size v n xs) (hb : Below w.heap.size w w') : w'.ownsRow base e size v n xs := by
  refine ⟨h.1, ?_⟩
  rcases h.2 with h2 | ⟨g, cap, cur, h1, h2, hg, h3⟩
  · exact .inl h2
  · exact .inr ⟨g, cap, cur, h1, h2, (hb.block g (Array.getElem?_eq_some_iff.1 hg).1).trans hg, h3⟩

theorem t_i : ∃ i z, Try.prog.info? 45 = some i ∧ i.size = 258 ∧ i.bytes = 272 ∧ i.zero = some z ∧ z.cells.size = 258 := by
  have h2 : (Try.prog.info? 45).map (fun i => i.bytes) = some 272 := by kernel_rfl
  have h := t_info
  cases hq : Try.prog.info? 45 with
  | none => rw [hq] at h; cases h
  | some i =>
    rw [hq] at h h2
    have h := Option.some.inj h
    have h3 := Option.some.inj h2
    exact ⟨i, _, rfl, (Prod.mk.inj h).2, h3, (Prod.mk.inj h).1, tRow_size _ _ _⟩
theorem wp_slice1 {o : Oper} {a : Act} {w : World} {K : Act → World → Prop} {Q : Exit → Act → World → Prop} (x : Operand) (ho : o.op = .buildSlice 41 1 #[(0, x)]) (cs : Array Value) (hx : a.eval x = .agg cs) (hs : cs.size = 258)
    (h : K (a.put o.dst (.slice (some ⟨w.heap.size, 0, none⟩) 1 1)) (w.alloc (.cells cs 45))) : o.wp Try.prog a w K Q := by
  obtain ⟨i, z, hi, hsz, _, hz, hzs⟩ := t_i
  refine wp_buildSlice 41 45 1 #[(0, x)] ho cs i z Try.underlying41 hi hz (by rw [hsz]; decide) (by rw [hsz]; decide) ?_ h
  have hp : (Array.map (fun (q : Nat × Operand) => (q.1, a.eval q.2)) #[(0, x)]).toList = ([Value.agg cs].zipIdx 0).map fun x => (x.2, x.1) := by simp [hx]
  show Instr.fill _ _ (Array.map (fun (q : Nat × Operand) => (q.1, a.eval q.2)) #[(0, x)]).toList = _
  rw [hp, hsz]
  rw [Great.fill_whole (s := 258) (by decide) [Value.agg cs] _ (by intro v hv; rw [List.mem_singleton.mp hv]; exact hs) (by simp)]
  simp [Value.cells]

theorem row_drewN {w : World} {base : Nat} {e : TypeId} {size : Nat} {v : Value} {n : Nat} {xs : List Value} (h : w.ownsRow base e size v n xs) (m : Nat) : (w.drewN m).ownsRow base e size v n xs := h
theorem below_drewN {n : Nat} {w w' : World} (h : Below n w w') (m : Nat) : Below n w (w'.drewN m) := h.trans ⟨rfl, rfl, rfl, Nat.le_refl _, fun _ _ => rfl⟩
theorem store_new (w : World) (z0 R : Array Value) (h0 : z0 = tRow 0 0 (fun _ => false)) (hs : R.size = 258) (h1 : R.all (·.oneCell') = true) :
    (storeCells ⟨w.heap.size, 0, none⟩ R.toList).run Try.prog (w.alloc (.cells z0 45)) = .ok () (w.alloc (.cells R 45)) :=
  run_storeCells_new (P := Try.prog) w 45 z0 R (by rw [hs]; exact t_zero.2) (by rw [h0, hs, tRow_size]) h1
theorem rowsOf_snoc (ts : List Pc) (t : Pc) : rowsOf (ts ++ [t]) = rowsOf ts ++ t.row.toList := by simp [rowsOf]
/-- One piece more, appended. -/
theorem wpList_app1 {ops : Array Oper} {rest : List Oper} {o : Oper} {a : Act} {w : World} {Q : Exit → Act → World → Prop} (hgd : o.guard = none) (s x : Operand)
    (ho : o.op = .call { callee := .builtin .append, args := #[s, x], argTypes := #[41, 41] }) (base : Nat) (v : Value) (ts : List Pc) (t : Pc) (hs : a.eval s = v)
    (hown : w.ownsRow base 45 258 v ts.length (rowsOf ts)) (B : Nat) (hx : a.eval x = .slice (some ⟨B, 0, none⟩) 1 1) (cs : Array Value) (hB : w.heap[B]? = some (.cells cs 45 (0, 0))) (hcs : cs = t.row)
    (hn : ts.length < 1099511) (hbase : base ≤ w.heap.size)
    (h : ∀ v' w', w'.ownsRow base 45 258 v' (ts ++ [t]).length (rowsOf (ts ++ [t])) → Below base w w' → wpList Try.prog ops Q rest (a.put o.dst v') w') : wpList Try.prog ops Q (o :: rest) a w := by
  obtain ⟨i, z, hi, hsz, hby, hz, hzs⟩ := t_i
  subst hcs
  refine wpList_append_lies w hgd s x 41 ho base 45 i z 258 272 Try.underlying41 hi hz hsz hby hzs (by decide) v ts.length (rowsOf ts) hs hown ⟨B, 0, none⟩ 1 1 t.row.toList hx
    (by rw [Array.length_toList, row_size]) (World.news_of_block hB) (fun u hu => by have := row_one t; rw [Array.all_eq_true_iff_forall_mem] at this; exact this u (by simpa using hu)) (by decide) (by unfold maxLen; omega) (by omega) hbase w.heap.size rfl ?_
  intro g cap w' h2 h3 h4 h5
  refine h _ w' ?_ ((Below.refl _ _).grown h3 hbase fun k hk => (hown.lt k hk).1)
  rw [List.length_append, rowsOf_snoc]
  exact h2
theorem tok_case {c : UInt8} {r : List UInt8} {rest : List Pc} (h : Toks (c :: r) rest) :
    (c = 42 ∧ ∃ t, rest = .star :: t ∧ Toks r t) ∨ (c = 63 ∧ ∃ t, rest = .any :: t ∧ Toks r t) ∨ (c = 91 ∧ ∃ st r' t, refSet r = some (inF st, r') ∧ rest = .set st :: t ∧ Toks r' t) ∨
    (c ≠ 42 ∧ c ≠ 63 ∧ (c = 91 → refSet r = none) ∧ ∃ t, rest = .lit (oneB (c :: r)).1 :: t ∧ Toks (oneB (c :: r)).2 t) := by
  cases h with
  | star h => exact .inl ⟨rfl, _, rfl, h⟩
  | any h => exact .inr (.inl ⟨rfl, _, rfl, h⟩)
  | quote h => exact .inr (.inr (.inr ⟨by decide, by decide, fun e => absurd e (by decide), _, by rw [oneB_q], by rw [oneB_q]; exact h⟩))
  | lit h1 h2 h3 h4 h =>
    refine .inr (.inr (.inr ⟨h1, h2, fun e => ?_, ?_⟩))
    · have := set_same r
      rw [h3 e] at this
      exact this
    · by_cases hq : c = 92
      · obtain rfl := h4 hq
        exact ⟨_, rfl, h⟩
      · rw [oneB_ne hq]
        exact ⟨_, rfl, h⟩
  | set hg h =>
    have := set_same r
    rw [hg] at this
    exact .inr (.inr (.inl ⟨rfl, _, _, _, this.1, rfl, h⟩))

/-- How far the pattern is cut up. -/
structure Cut (p : ByteArray) (w wx : World) (j : Nat) (v : Value) : Prop where
  le : j ≤ p.size
  its : ∃ ts rest : List Pc, piecesOf p.data.toList = ts ++ rest ∧ Toks (p.data.toList.drop j) rest ∧ ts.length ≤ j ∧ wx.ownsRow w.heap.size 45 258 v ts.length (rowsOf ts)
  hb : Below w.heap.size w wx
theorem Cut.more {p : ByteArray} {w wx : World} {j j' : Nat} {v : Value} {ts rest : List Pc} {t : Pc} (hts : piecesOf p.data.toList = ts ++ t :: rest) (hT : Toks (p.data.toList.drop j') rest) (hl : ts.length ≤ j) (hj : j < j') (hz : j' ≤ p.size)
    (hown : wx.ownsRow w.heap.size 45 258 v (ts ++ [t]).length (rowsOf (ts ++ [t]))) (hb : Below w.heap.size w wx) : Cut p w wx j' v :=
  ⟨hz, ⟨ts ++ [t], rest, by rw [hts]; simp, hT, by simp; omega, hown⟩, hb⟩
set_option maxHeartbeats 4000000 in
set_option maxRecDepth 100000 in
theorem pieces_calls (p : ByteArray) (hp : p.size < 1099511) (w : World) :
    Calls Try.prog 20 #[.string p] w fun e w' => ∃ v, e = .returned v ∧ w'.ownsRow w.heap.size 45 258 v (piecesOf p.data.toList).length (rowsOf (piecesOf p.data.toList)) ∧ Below w.heap.size w w' := by
  have hz := t_zero.1
  have hsz := tRow_size 0 0 (fun _ => false)
  obtain ⟨z0, hz0⟩ : ∃ cs, cs = tRow 0 0 (fun _ => false) := ⟨_, rfl⟩
  rw [← hz0] at hsz hz
  have hne : ¬ z0 = #[] := by intro e; rw [e] at hsz; simp at hsz
  have HZ0 := Lib.hid hz0
  clear hz0
  have HC0 : Hid (Cut p w w 0 (.slice none 0 0)) := Lib.hid ⟨Nat.zero_le _, ⟨[], piecesOf p.data.toList, rfl, toks_pcs _ _ (Nat.lt_succ_self _), Nat.le_refl _, World.ownsRow_nil _ _ _ _⟩, Below.refl _ _⟩
  go_enter Try.func20, Try.ntmps20
  go_wp2
  go_loopw [3, 4] (fun v3 v4 wx => ∃ (j : Nat) (v : Value), v3 = v ∧ v4 = .int .i64 j ∧ Hid (Cut p w wx j v)) (fun _ j _ => p.size - (intOf j).toNat)
  case atStart => exact ⟨0, _, rfl, rfl, HC0⟩
  case round =>
    obtain ⟨j, v, rfl, rfl, HC⟩ := hrel
    have hje : IntKind.i64.wrap ((j : Int) + 1) = ((j + 1 : Nat) : Int) := IntWalk.i64_in _ (by have := HC.out.le; omega)
    obtain ⟨j1, hj1⟩ : ∃ j1, j1 = j + 1 := ⟨_, rfl⟩
    rw [← hj1] at hje
    have HJ1 := Lib.hid hj1
    cases hd : p.data.toList.drop j with
    | nil =>
      have hpj := drop_nil hd
      have g2 : ¬ ((j : Int) < (p.size : Int)) := by omega
      obtain ⟨ts, rest, hts, hT, hlen, hown⟩ := HC.out.its
      have hr0 : rest = [] := by
        rw [hd] at hT
        cases hT; rfl
      have HE := Lib.hid (show piecesOf p.data.toList = ts by rw [hts, hr0, List.append_nil])
      have HO := Lib.hid hown
      clear hpj hd hts hT hlen hown hr0 hj1
      go_wp2
      (try simp only [Exit.inBlock, Exit.then])
      go_ret
      exact ⟨_, rfl, by rw [HE.out]; exact HO.out, HC.out.hb⟩
    | cons c r =>
      obtain ⟨hlt, hx⟩ := at_drop hd
      obtain ⟨_, _, hdr⟩ := bt_drop hd
      have g2 : ((j : Int) < (p.size : Int)) := by omega
      obtain ⟨ts, rest, hts, hT, hlen, hown⟩ := HC.out.its
      rw [hd] at hT
      have HO := Lib.hid hown
      have HB := Lib.hid HC.out.hb
      have HL := Lib.hid hlen
      rw [← hj1] at hdr
      have hlt1 : j1 ≤ p.size := by omega
      have HLT := Lib.hid (show j < j1 ∧ ts.length < 1099511 by omega)
      rcases tok_case hT with ⟨rfl, t, rfl, hT2⟩ | ⟨rfl, t, rfl, hT2⟩ | ⟨rfl, st, r', t, hset, rfl, hT2⟩ | ⟨h42, h63, h91, t, rfl, hT2⟩
      · have e42 : (((p[j]'hlt).toNat : Int) == 42) = true := by rw [hx]; rfl
        obtain ⟨R, hR⟩ : ∃ R, R = Pc.row .star := ⟨_, rfl⟩
        have heq : z0.setIfInBounds 0 (.int .i64 3) = R := by rw [HZ0.out, hR]; rfl
        have hRs : R.size = 258 := by rw [hR]; exact row_size _
        have HRR := Lib.hid hR
        have HTS := Lib.hid hts
        rw [← hdr] at hT2
        have HT2 := Lib.hid hT2
        clear hR hd hx hdr hts hT hT2 hlen hown hj1
        go_wp2
        refine wp_slice1 (.tmp 19) rfl R rfl hRs ?_
        go_wp2_with (at_builtin; refine wpList_app1 rfl _ _ rfl w.heap.size _ ts .star rfl (HO.out.alloc _) wr.heap.size rfl R (heap_alloc_last wr _) HRR.out HLT.out.2 (by have := HB.out.size; simp; omega) ?_; intro v2 w2 hown2 hb2; have HO2 := Lib.hid hown2; have HB2 := Lib.hid ((HB.out.alloc HB.out.size _).trans hb2); clear hown2 hb2)
        exact ⟨⟨j1, _, rfl, rfl, Lib.hid (Cut.more HTS.out HT2.out HL.out HLT.out.1 hlt1 HO2.out HB2.out)⟩, by have := HLT.out; simp [intOf]; omega⟩
      · have e42 : (((p[j]'hlt).toNat : Int) == 42) = false := by rw [hx]; rfl
        have e63 : (((p[j]'hlt).toNat : Int) == 63) = true := by rw [hx]; rfl
        obtain ⟨R, hR⟩ : ∃ R, R = Pc.row .any := ⟨_, rfl⟩
        have heq : z0.setIfInBounds 0 (.int .i64 1) = R := by rw [HZ0.out, hR]; rfl
        have hRs : R.size = 258 := by rw [hR]; exact row_size _
        have HRR := Lib.hid hR
        have HTS := Lib.hid hts
        rw [← hdr] at hT2
        have HT2 := Lib.hid hT2
        clear hR hd hx hdr hts hT hT2 hlen hown hj1
        go_wp2
        refine wp_slice1 (.tmp 27) rfl R rfl hRs ?_
        go_wp2_with (at_builtin; refine wpList_app1 rfl _ _ rfl w.heap.size _ ts .any rfl (HO.out.alloc _) wr.heap.size rfl R (heap_alloc_last wr _) HRR.out HLT.out.2 (by have := HB.out.size; simp; omega) ?_; intro v2 w2 hown2 hb2; have HO2 := Lib.hid hown2; have HB2 := Lib.hid ((HB.out.alloc HB.out.size _).trans hb2); clear hown2 hb2)
        exact ⟨⟨j1, _, rfl, rfl, Lib.hid (Cut.more HTS.out HT2.out HL.out HLT.out.1 hlt1 HO2.out HB2.out)⟩, by have := HLT.out; simp [intOf]; omega⟩
      · have e42 : (((p[j]'hlt).toNat : Int) == 42) = false := by rw [hx]; rfl
        have e63 : (((p[j]'hlt).toNat : Int) == 63) = false := by rw [hx]; rfl
        have e91 : (((p[j]'hlt).toNat : Int) == 91) = true := by rw [hx]; rfl
        obtain ⟨R, hR⟩ : ∃ R, R = Pc.row (.set st) := ⟨_, rfl⟩
        have hRs : R.size = 258 := by rw [hR]; exact row_size _
        have HC1 := Lib.hid (fun w1 => set_calls p (by omega) j1 hlt1 w1)
        have HSP : Hid (∀ w1 e w2, SetPost p j1 w1 e w2 → ∃ j2 : Nat, e = .returned (.tuple #[.agg R, .int .i64 j2]) ∧ p.data.toList.drop j2 = r' ∧ j1 < j2 ∧ j2 ≤ p.size ∧ Below w1.heap.size w1 w2) := Lib.hid (fun w1 e w2 h => by
          unfold SetPost at h
          rw [hdr, hset] at h
          obtain ⟨⟨j2, h1, h2, h3, h4⟩, h5⟩ := h
          exact ⟨j2, by rw [hR]; exact h1, h2, h3, h4, h5⟩)
        have HRR := Lib.hid hR
        have HTS := Lib.hid hts
        have HT2 := Lib.hid hT2
        clear hR hd hx hdr hts hT hT2 hlen hown hj1 hset
        go_wp2_with (go_at_call 29; refine (HC1.out _).mono ?_; intro e w1 hsp; obtain ⟨j2, rfl, hd2, hj2, hz2, hb1⟩ := HSP.out _ _ _ hsp; have HJ2 := Lib.hid (show j < j2 ∧ j2 ≤ p.size by have := HLT.out; omega); have HD2 := Lib.hid hd2; have HO1 := Lib.hid (row_below HO.out hb1); have HB1 := Lib.hid (HB.out.trans (hb1.mono HB.out.size)); have hst := store_new w1 z0 R HZ0.out hRs (by rw [HRR.out]; exact row_one _); have hnn : (0 : Int) ≤ (j2 : Int) := (by omega); clear hsp hd2 hj2 hz2 hb1)
        refine wp_load rfl rfl (load_T _ _ R (heap_alloc_last w1 _) hRs) ?_
        clear hst
        go_wp2
        refine wp_slice1 (.tmp 44) rfl R rfl hRs ?_
        go_wp2_with (at_builtin; refine wpList_app1 rfl _ _ rfl w.heap.size _ ts (.set st) rfl ((HO1.out.alloc _).alloc _) (w1.alloc (.cells R 45)).heap.size rfl R (heap_alloc_last _ _) HRR.out HLT.out.2 (by have := HB1.out.size; simp; omega) ?_; intro v2 w2 hown2 hb2; have HO2 := Lib.hid hown2; have HB2 := Lib.hid (((HB1.out.alloc HB1.out.size _).alloc (by have := HB1.out.size; simp; omega) _).trans hb2); clear hown2 hb2)
        exact ⟨⟨j2, _, rfl, rfl, Lib.hid (Cut.more HTS.out (by rw [HD2.out]; exact HT2.out) HL.out HJ2.out.1 HJ2.out.2 HO2.out HB2.out)⟩, by have := HJ2.out; simp [intOf]; omega⟩
      · have e42 : (((p[j]'hlt).toNat : Int) == 42) = false := by rw [hx]; exact beq_eq_false_iff_ne.mpr (neC 42 42 rfl h42)
        have e63 : (((p[j]'hlt).toNat : Int) == 63) = false := by rw [hx]; exact beq_eq_false_iff_ne.mpr (neC 63 63 rfl h63)
        obtain ⟨j2, hf2, hd2, hj2, hz2⟩ := one_f p (by omega) j c r hd
        obtain ⟨ch, hch⟩ : ∃ ch, ch = (oneB (c :: r)).1 := ⟨_, rfl⟩
        rw [← hch] at hf2 hts
        rw [← hd2] at hT2
        obtain ⟨R, hR⟩ : ∃ R, R = Pc.row (.lit ch) := ⟨_, rfl⟩
        have heq : z0.setIfInBounds 1 (.int .u8 (ch.toNat : Int)) = R := by rw [HZ0.out, hR]; rfl
        have hRs : R.size = 258 := by rw [hR]; exact row_size _
        have HC1 := Lib.hid (fun w1 => one_at hf2 w1)
        have HJ2 := Lib.hid (show j < j2 ∧ j2 ≤ p.size from ⟨hj2, hz2⟩)
        have HRR := Lib.hid hR
        have HTS := Lib.hid hts
        have HT2 := Lib.hid hT2
        by_cases hc91 : c = 91
        · have e91 : (((p[j]'hlt).toNat : Int) == 91) = true := by rw [hx, hc91]; rfl
          have HSP : Hid (∀ w1 e w2, SetPost p j1 w1 e w2 → e = .returned (.tuple #[.agg z0, .int .i64 (-1)]) ∧ Below w1.heap.size w1 w2) := Lib.hid (fun w1 e w2 h => by
            unfold SetPost at h
            rw [hdr, h91 hc91] at h
            exact ⟨by rw [HZ0.out]; exact h.1, h.2⟩)
          have HS1 := Lib.hid (fun w1 => set_calls p (by omega) j1 hlt1 w1)
          clear hR hd hx hdr hts hT hT2 hlen hown hj1 hf2 hd2 hj2 hz2 hch hc91 h42 h63 h91
          go_wp2_with (first
            | (go_at_call 29; refine (HS1.out _).mono ?_; intro e w1 hsp; obtain ⟨rfl, hb1⟩ := HSP.out _ _ _ hsp; have HO1 := Lib.hid (row_below HO.out hb1); have HB1 := Lib.hid (HB.out.trans (hb1.mono HB.out.size)); have hst := store_new w1 z0 z0 HZ0.out hsz (by rw [HZ0.out]; exact tRow_one _ _ _); clear hsp hb1)
            | (go_at_call 24; refine (HC1.out _).mono ?_; rintro e w2 ⟨rfl, m, rfl⟩))
          refine wp_slice1 (.tmp 56) rfl R rfl hRs ?_
          go_wp2_with (at_builtin; go_must (refine wpList_app1 rfl _ _ rfl w.heap.size _ ts (.lit ch) rfl ((row_drewN (HO1.out.alloc _) m).alloc _) _ rfl R (heap_alloc_last _ _) HRR.out HLT.out.2 (by have := HB1.out.size; simp; omega) ?_); intro v2 w2 hown2 hb2; have HO2 := Lib.hid hown2; have HB2 := Lib.hid (((below_drewN (HB1.out.alloc HB1.out.size _) m).alloc (by have := HB1.out.size; simp; omega) _).trans hb2); clear hown2 hb2)
          exact ⟨⟨j2, _, rfl, rfl, Lib.hid (Cut.more HTS.out HT2.out HL.out HJ2.out.1 HJ2.out.2 HO2.out HB2.out)⟩, by have := HJ2.out; simp [intOf]; omega⟩
        · have e91 : (((p[j]'hlt).toNat : Int) == 91) = false := by rw [hx]; exact beq_eq_false_iff_ne.mpr (neC 91 91 rfl hc91)
          clear hR hd hx hdr hts hT hT2 hlen hown hj1 hf2 hd2 hj2 hz2 hch hc91 h42 h63 h91
          go_wp2_with (go_at_call 24; refine (HC1.out _).mono ?_; rintro e w2 ⟨rfl, m, rfl⟩)
          refine wp_slice1 (.tmp 56) rfl R rfl hRs ?_
          go_wp2_with (at_builtin; go_must (refine wpList_app1 rfl _ _ rfl w.heap.size _ ts (.lit ch) rfl ((row_drewN HO.out m).alloc _) _ rfl R (heap_alloc_last _ _) HRR.out HLT.out.2 (by have := HB.out.size; simp; omega) ?_); intro v2 w2 hown2 hb2; have HO2 := Lib.hid hown2; have HB2 := Lib.hid (((below_drewN HB.out m).alloc HB.out.size _).trans hb2); clear hown2 hb2)
          exact ⟨⟨j2, _, rfl, rfl, Lib.hid (Cut.more HTS.out HT2.out HL.out HJ2.out.1 HJ2.out.2 HO2.out HB2.out)⟩, by have := HJ2.out; simp [intOf]; omega⟩
end Go.Proofs.Ytpoekljclapbfaa.Gs
