/- Each operation of the second run does what the model's does: append, the builtins, calls; all of them. -/
import Derived.Test.YtlnjikneepgpaaaEvOps
import Derived.Laws.MakeOwn
namespace Go.Proofs.Ytlnjikneepgpaaa.Fast
section
variable {π : Nat → Value} {B : Bd} {σ : Sg} {P : Program} {o : Oper} {a : Act} {H : Heap} {w : World}

theorem lenOf_run {v : AV} {n : Nat} {x : Value} (hx : VR π σ v x) (h : lenX v = some n) (w : World) : (Builtin.lenOf x).run P w = .ok n w := by
  rcases lenX_ok hx h with ⟨q', c, e⟩ | ⟨s, e, e2⟩ <;> rw [e] <;> simp [Builtin.lenOf]
  exact e2

theorem size_zc (z : Array Value) (n : Nat) : (Builtin.zeroCells z n).size = n * z.size := by simp [Builtin.zeroCells]

/-- a new row, in which there may be room -/
theorem VR.fresh {σ' : Sg} {b n c size : Nat} {L : Loc} (hL : σ' b = some L) (hc : n ≤ c) (hs : 0 < size) (hz : L.sh + c * size ≤ L.csz) {sh : Nat} (hsh : L.sh = sh) {blk : Nat} (hb : L.blk = blk) :
    VR π σ' (.slice b 0 n n size) (.slice (some ⟨blk, sh, none⟩) n c) := by
  subst hsh; subst hb
  obtain ⟨g, rfl⟩ : ∃ g, size = g + 1 := ⟨size - 1, by omega⟩
  exact .sliceg b 0 n n g L c hL hc hc hz

theorem row_of {l : List AV} {xs rest : Array Value} {L : Loc} {e lo hi : Nat} {el : TypeId} {w' : World} (hx : VRL π σ l xs.toList) (hsh : L.sh = 0) (hc : L.csz = (xs ++ rest).size) (he : ElemR e el L l.length) (hw : w'.heap[L.blk]? = some (.cells (xs ++ rest) el (0, 0))) {σ' : Sg} (hs : Sg.le σ σ') : ObjR π σ' (.row l e lo hi) L w' := by
  refine ⟨_, el, (0, 0), hw, hc.symm, ⟨?_, fun i v hv => ?_⟩, FrzR.no _ _ _ _, he⟩
  · have := hx.length; rw [Array.length_toList] at this; rw [Array.size_append]; omega
  · obtain ⟨x, h1, h2⟩ := hx.get i v hv
    refine ⟨x, ?_, h2.mono hs⟩
    rw [hsh, Nat.zero_add]
    have hi : i < xs.size := by
      rcases Nat.lt_or_ge i xs.size with h' | h'
      · exact h'
      · rw [List.getElem?_eq_none (by simpa using h')] at h1; simp at h1
    rw [Array.getElem?_append_left hi]
    simpa using h1

theorem codeG_cases (elem off c : Nat) : codeG elem off c = 0 ∨ (codeG elem off c = typ 2 elem ∧ c / 4 = elem ∧ 2 ≤ c % 4 ∧ off = 0) := by
  unfold codeG
  cases h : band (Nat.beq (Nat.div c 4) elem) (band (Nat.ble 2 (Nat.mod c 4)) (Nat.beq off 0)) with
  | false => exact .inl rfl
  | true =>
    obtain ⟨h1, h2⟩ := band_true h
    obtain ⟨h3, h4⟩ := band_true h2
    exact .inr ⟨rfl, Nat.eq_of_beq_eq_true h1, Nat.le_of_ble_eq_true h3, Nat.eq_of_beq_eq_true h4⟩

theorem codeG_fresh (elem off c : Nat) (L : Loc) (n : Nat) (h : L.sh = 0) : ElemR (codeG elem off c) elem L n := by
  rcases codeG_cases elem off c with h1 | ⟨h1, _⟩
  · rw [h1]; exact typ0 _ _ _
  · rw [h1]; exact typ2 _ _ _ h

theorem codeG_in {elem off c : Nat} {e' : TypeId} {L' L : Loc} {m n : Nat} (h : ElemR c e' L' m) (hL : L.sh = L'.sh + off) : ElemR (codeG elem off c) e' L n := by
  rcases codeG_cases elem off c with h1 | ⟨h1, h2, h3, h4⟩
  · rw [h1]; exact typ0 _ _ _
  · have g1 := h.1 (by omega)
    have g2 := h.2.1 h3
    rw [h1]
    have : e' = elem := g1.trans h2
    subst this
    exact typ2 _ _ _ (by omega)

theorem grow_ok (hπ : ∀ i, (π i).oneCell' = true) (hS : SR π B σ H w) {t u ty elem size : Nat} {i : TypeInfo} {z : Value} (hT : AppT P t u elem size i z) {b off m cap g n : Nat} {y x : Value} {v : AV}
    (hy : VR π σ (.slice b off m cap g) y) (hx : VR π σ v x) (hn : lenX v = some n) {new : List AV} (hnew : firstA H size n v = some new) (hall : allb new = true) (hlen : new.length = n * size)
    (hm : m ≤ 1000000) (hn' : n ≤ 1000000) (hg : g = 0 ∨ g = size) (hgt : cap < m + n) {old : List AV} (hold : rd H b off (m * size) = some old) {l : List AV} {e lo hi : Nat} (hb : H.get b = some (.row l e lo hi))
    (hap : apart (off + m * size) (n * size) lo hi = true) :
    ∃ σ' r w', (Builtin.append_ #[t, u] ty #[y, x]).run P w = .ok r w' ∧ VR π σ' (.slice H.next 0 (m + n) (m + n) size) r ∧ SR π B σ' (killIf g b (H.new (.row (app old new) (codeG elem off e) (lo - off) (hi - off)))) w' ∧
      Ext σ H.know w σ' (killIf g b (H.new (.row (app old new) (codeG elem off e) (lo - off) (hi - off)))).know w' ∧ Nx σ H σ' (killIf g b (H.new (.row (app old new) (codeG elem off e) (lo - off) (hi - off)))) := by
  obtain ⟨xs, k1, k2, _⟩ := first_ok (P := P) hS hx hnew
  have hlx := k2.length
  rw [Array.length_toList] at hlx
  have hlo := lenOf_run (P := P) hx hn
  have hkn : H.know b = some (.row l e lo hi) := know_of_get hb (by simp)
  have hbn : b ≠ H.next := fun e => by
    obtain ⟨L, h1, _⟩ := hS.rel.obj b _ hkn
    rw [e, hS.dom _ (Nat.le_refl _)] at h1; simp at h1
  obtain ⟨L, C, e', fr, f1, f2, f3, f4, f5, f6, f7⟩ := Rel.row hS hb
  have hblt : L.blk < w.heap.size := by
    rcases Nat.lt_or_ge L.blk w.heap.size with h' | h'
    · exact h'
    · rw [Array.getElem?_eq_none h'] at f3; simp at f3
  -- what the new table knows
  have hK : ∀ c q, (killIf g b (H.new (.row (app old new) (codeG elem off e) (lo - off) (hi - off)))).know c = some q → (c = H.next ∧ q = .row (app old new) (codeG elem off e) (lo - off) (hi - off)) ∨ (c ≠ H.next ∧ ¬ (g ≠ 0 ∧ c = b) ∧ H.know c = some q) := by
    intro c q h
    have hd : q ≠ .dead := fun e => by subst e; unfold Heap.know at h; split at h <;> simp_all
    cases g with
    | zero =>
      rcases Heap.get_new (know_get (show (H.new _).know c = some q from h)) with h | ⟨h1, h2⟩
      · exact .inl h
      · exact .inr ⟨h1, by simp, know_of_get h2 hd⟩
    | succ g =>
      rcases Heap.get_put (know_get (show ((H.new _).put b .dead).know c = some q from h)) with ⟨_, h1⟩ | ⟨h1, h2⟩
      · exact absurd h1 hd
      · rcases Heap.get_new h2 with h | ⟨h3, h4⟩
        · exact .inl h
        · exact .inr ⟨h3, fun h5 => h1 h5.2, know_of_get h4 hd⟩
  have hnext : (killIf g b (H.new (.row (app old new) (codeG elem off e) (lo - off) (hi - off)))).next = H.next + 1 := by cases g <;> rfl
  -- a new row of the model's own
  have fresh : ∀ cap', y = .slice (some ⟨L.blk, L.sh + off, none⟩) m cap' → cap' < m + n →
      ∃ σ' r w', (Builtin.append_ #[t, u] ty #[y, x]).run P w = .ok r w' ∧ VR π σ' (.slice H.next 0 (m + n) (m + n) size) r ∧ SR π B σ' (killIf g b (H.new (.row (app old new) (codeG elem off e) (lo - off) (hi - off)))) w' ∧
        Ext σ H.know w σ' (killIf g b (H.new (.row (app old new) (codeG elem off e) (lo - off) (hi - off)))).know w' ∧ Nx σ H σ' (killIf g b (H.new (.row (app old new) (codeG elem off e) (lo - off) (hi - off)))) := by
    intro cap' hyy hlt
    subst hyy
    have hfo : firstA H size m (.slice b off m cap' 0) = some old := by show oif (Nat.ble m m) _ = _; rw [Nat.ble_self_eq_true]; exact hold
    obtain ⟨ys, g1, g2, _⟩ := first_ok (P := P) (x := .slice (some ⟨L.blk, L.sh + off, none⟩) m cap') hS (.slice _ _ _ _ _ f1) hfo
    obtain ⟨c, hc, hrun⟩ := append_new (ty := ty) hT hlo k1 g1 hlt hm hn'
    have hol : ys.size = m * size := by
      have := g2.length; rw [Array.length_toList] at this
      obtain ⟨o', h1, h2⟩ := obind_some (show obind (H.get b) (rdRow off (m * size)) = some old from hold)
      rw [hb] at h1; obtain rfl := Option.some.inj h1
      rw [this]; exact (sub_some (show sub l off (m * size) = some old from h2)).1
    have hcs : (ys ++ xs ++ Builtin.zeroCells z.cells (c - (m + n))).size = c * size := by
      simp only [Array.size_append, size_zc, hT.hv, hol, hlx, hlen]
      rw [← Nat.add_mul, ← Nat.add_mul]; congr 1; omega
    obtain ⟨σ', e1, e2, e3, e4⟩ := SR.move (w' := w.drew.alloc (.cells (ys ++ xs ++ Builtin.zeroCells z.cells (c - (m + n))) elem)) hS (.row (app old new) (codeG elem off e) (lo - off) (hi - off)) ⟨w.heap.size, 0, c * size⟩ _ hnext (fun c => g ≠ 0 ∧ c = b) hK hS.base (by simp) ⟨rfl, rfl, rfl⟩
      (fun c q L' _ h1 h2 => by
        obtain ⟨L2, i1, _, i3⟩ := hS.rel.obj c q h1
        rw [h2] at i1; obtain rfl := Option.some.inj i1
        have := i3.lt
        exact ⟨by simp; omega, heap_alloc_old w.drew _ _ this⟩)
      (fun k hk _ => heap_alloc_old w.drew _ k hk) (fun h => by simp at h)
      (fun σ' hs => row_of (xs := ys ++ xs) (rest := Builtin.zeroCells z.cells (c - (m + n))) (by rw [app_eq, Array.toList_append]; exact VRL.append g2 k2) rfl hcs.symm (codeG_fresh _ _ _ _ _ rfl) (heap_alloc_new w.drew _) hs)
    exact ⟨σ', _, _, hrun, VR.fresh e1 hc hT.pos (by simp) rfl rfl, e2, e3, e4⟩
  cases hy with
  | slice _ _ _ _ L' hL =>
    obtain rfl : L' = L := by rw [hL] at f1; exact Option.some.inj f1
    exact fresh cap rfl hgt
  | sliceg _ _ _ _ g' L' cap' hL hmc hcc hcs =>
    obtain rfl : L' = L := by rw [hL] at f1; exact Option.some.inj f1
    by_cases hroom : m + n ≤ cap'
    · -- in place
      have hgs : g' + 1 = size := by rcases hg with h | h <;> omega
      rw [hgs] at hcs
      have hend : L'.sh + off + (m + n) * size ≤ C.size := by
        have : (m + n) * size ≤ cap' * size := Nat.mul_le_mul_right _ hroom
        omega
      rw [Nat.add_mul] at hend
      have hst := run_storeCells_cells (P := P) L'.blk (L'.sh + off + m * size) xs.toList 0 w (fun j hj => by rw [cell_of f3, Array.getElem?_eq_getElem (by simp at hj; omega)]; rfl)
        (fun j hj => by
          simp only [World.frozen?, f3, Nat.add_zero]
          refine Bool.eq_false_iff.2 fun hd => ?_
          simp at hd hj
          have := f6.1 (L'.sh + off + m * size + j) (by omega) (by omega) hd.1 hd.2
          exact absurd ⟨by omega, by omega⟩ (apart_true hap (j := off + m * size + j) (by omega) (by omega))) (k2.ones hπ hall)
      rw [Nat.add_zero] at hst
      obtain ⟨C', c1, c2, c3⟩ := setCells_heap L'.blk xs.toList (L'.sh + off + m * size) w C e' fr f3 (by rw [Array.length_toList]; omega)
      obtain ⟨r1, r2, r3, r4⟩ := setCells_rest L'.blk xs.toList (L'.sh + off + m * size) w
      have hrun := append_room (P := P) (ty := ty) (w := w) (base := some ⟨L'.blk, L'.sh + off, none⟩) hT hlo (k1 w rfl) hroom (w' := w.setCells L'.blk (L'.sh + off + m * size) xs.toList)
        (fun q hq => by obtain rfl := Option.some.inj hq; rw [add_addr]; exact hst) (fun h => by simp at h)
      obtain ⟨σ', e1, e2, e3, e4⟩ := SR.move (w' := w.setCells L'.blk (L'.sh + off + m * size) xs.toList) hS (.row (app old new) (codeG elem off e) (lo - off) (hi - off)) ⟨L'.blk, L'.sh + off, L'.csz⟩ _ hnext (fun c => g' + 1 ≠ 0 ∧ c = b) hK f2 (Nat.le_of_eq r1.symm) ⟨r2, r3, r4⟩
        (fun c q L2 h0 h1 h2 => by
          have hne : L2.blk ≠ L'.blk := fun he => h0 ⟨by omega, hS.rel.inj c b q _ L2 L' h1 hkn h2 hL he⟩
          exact ⟨hne, setCells_other _ _ _ _ _ hne⟩)
        (fun k _ hk => setCells_other _ _ _ _ _ hk) (fun _ => ⟨b, _, L', hkn, hL, rfl⟩)
        (fun σ' hs => by
          obtain ⟨o', h1, h2⟩ := obind_some (show obind (H.get b) (rdRow off (m * size)) = some old from hold)
          rw [hb] at h1; obtain rfl := Option.some.inj h1
          obtain ⟨s1, s2⟩ := sub_some (show sub l off (m * size) = some old from h2)
          refine ⟨C', e', fr, c1, by rw [c2]; exact f4, ⟨?_, fun j q hq => ?_⟩, ⟨fun j j1 j2 j3 j4 => ?_, f6.2.1, fun h => by have := f6.2.2 h; show fr.2 ≤ L'.sh + off + (hi - off); omega⟩, codeG_in f7 rfl⟩
          · rw [app_eq, List.length_append, s1, hlen]; show L'.sh + off + _ ≤ _; omega
          · rw [app_eq] at hq
            show ∃ x, C'[L'.sh + off + j]? = some x ∧ _
            rw [c3, Array.length_toList]
            by_cases hj : j < m * size
            · rw [List.getElem?_append_left (by omega)] at hq
              rw [if_neg (by omega)]
              obtain ⟨q', i1, i2⟩ := s2 j hj
              obtain rfl : q = q' := by rw [i2] at hq; exact (Option.some.inj hq).symm
              obtain ⟨y, i3, i4⟩ := f5.2 _ _ i1
              exact ⟨y, by rw [Nat.add_assoc]; exact i3, i4.mono hs⟩
            · rw [List.getElem?_append_right (by omega), s1] at hq
              have hj2 : j - m * size < new.length := by
                rcases Nat.lt_or_ge (j - m * size) new.length with h' | h'
                · exact h'
                · rw [List.getElem?_eq_none h'] at hq; simp at hq
              rw [if_pos (by omega), show L'.sh + off + j - (L'.sh + off + m * size) = j - m * size by omega]
              obtain ⟨y, i3, i4⟩ := k2.get _ _ hq
              exact ⟨y, i3, i4.mono hs⟩
          · have j1 : L'.sh + off ≤ j := j1
            have := f6.1 j (by omega) (by omega) j3 j4
            show L'.sh + off + (lo - off) ≤ j ∧ j < L'.sh + off + (hi - off)
            omega)
      exact ⟨σ', _, _, hrun, VR.fresh e1 hroom hT.pos (by show L'.sh + off + _ ≤ L'.csz; omega) rfl rfl, e2, e3, e4⟩
    · exact fresh cap' rfl (by omega)

theorem aAppend_ok (hπ : ∀ i, (π i).oneCell' = true) (hS : SR π B σ H w) {env : Env} (he : EnvR π σ env a) {t u : Nat} {s x : Operand} (hop : o.op = .call { callee := .builtin .append, args := #[s, x], argTypes := #[t, u] }) :
    OpOk π B σ P o a H w ((aAppend P t u s x).run env H) := by
  unfold aAppend
  split
  · rename_i q hq
    obtain ⟨i, z, hT⟩ := appT_some hq
    refine OpOk.ob fun sv hs => OpOk.ob fun xv hx => OpOk.ob fun n hn => OpOk.oi fun hn' => OpOk.ob fun new hnew => OpOk.oi fun hc => ?_
    obtain ⟨hall, hln⟩ := band_true hc
    have hlen : new.length = n * q.2 := by rw [← len_eq]; exact Nat.eq_of_beq_eq_true hln
    have hn' := Nat.le_of_ble_eq_true hn'
    have hsv := gop_VR he hs
    have hxv := gop_VR he hx
    have hex : ∀ (r : Value) (w' : World), (Builtin.append_ #[t, u] o.type #[a.eval s, a.eval x]).run P w = .ok r w' → (execOp a.eval o).run P w = .ok (.value r) w' := fun r w' h => by
      simp [execOp, hop, resolve, invoke, builtin, h]
    obtain ⟨xs, k1, k2, _⟩ := first_ok (P := P) hS hxv hnew
    have hlx := k2.length
    rw [Array.length_toList] at hlx
    have hlo := lenOf_run (P := P) hxv hn
    unfold appendTo
    split
    · generalize hy : a.eval s = y at hsv hex
      cases hsv
      cases n with
      | zero =>
        have := append_room (P := P) (ty := o.type) (w := w) (base := none) hT hlo (k1 w rfl) (Nat.le_refl 0) (w' := w) (fun q hq => by simp at hq) (fun _ => rfl)
        exact ⟨σ, _, w, .inl (hex _ _ this), .nilslice, hS, Ext.refl _ _ _, Nx.refl _ _⟩
      | succ n =>
        obtain ⟨c, hc, hrun⟩ := append_new (P := P) (ty := o.type) (w := w) (base := none) (m := 0) (cap := 0) (old := #[]) hT hlo k1 (fun w' _ => by simp [Builtin.firstCells]) (by omega) (by omega) hn'
        rw [Nat.zero_add] at hc hrun
        have hcs : (xs ++ Builtin.zeroCells z.cells (c - (n + 1))).size = c * q.2 := by
          simp only [Array.size_append, size_zc, hT.hv, hlx, hlen]
          rw [← Nat.add_mul]; congr 1; omega
        simp only [Array.empty_append] at hrun
        obtain ⟨σ', e1, e2, e3, e4⟩ := SR.new (w' := w.drew.alloc (.cells (xs ++ Builtin.zeroCells z.cells (c - (n + 1))) q.1)) hS (.row new (typ 2 q.1) 0 0) ⟨w.heap.size, 0, c * q.2⟩ rfl (fun k hk => heap_alloc_old w.drew _ k hk) (by simp) ⟨rfl, rfl, rfl⟩
          (fun σ' hs => row_of (xs := xs) (rest := Builtin.zeroCells z.cells (c - (n + 1))) k2 rfl hcs.symm (typ2 _ _ _ rfl) (heap_alloc_new w.drew _) hs)
        exact ⟨σ', _, _, .inl (hex _ _ hrun), VR.fresh e1 hc hT.pos (by simp) rfl rfl, e2, e3, e4⟩
    · rename_i b off m cap g
      cases hle : Nat.ble (Nat.add m n) cap with
      | true =>
        refine OpOk.ob fun H' hH' => ?_
        have hle := Nat.le_of_ble_eq_true hle
        have : ∃ L cap', σ b = some L ∧ cap ≤ cap' ∧ a.eval s = .slice (some ⟨L.blk, L.sh + off, none⟩) m cap' ∧ ∀ n', n' ≤ cap → VR π σ (.slice b off n' cap g) (.slice (some ⟨L.blk, L.sh + off, none⟩) n' cap') := by
          generalize a.eval s = y at hsv
          cases hsv with
          | slice _ _ _ _ L e => exact ⟨L, _, e, Nat.le_refl _, rfl, fun n' _ => .slice _ _ _ _ _ e⟩
          | sliceg _ _ _ _ _ L _ e e1 e2 e3 => exact ⟨L, _, e, e2, rfl, fun n' h => .sliceg _ _ _ _ _ _ _ e (Nat.le_trans h e2) e2 e3⟩
        obtain ⟨L, cap', hL, hcc, hy, hmk⟩ := this
        obtain ⟨w', g1, g2, g3, g4⟩ := wr_run P hS hH' hL k2 (k2.ones hπ hall)
        have hrun := append_room (P := P) (ty := o.type) (w := w) (base := some ⟨L.blk, L.sh + off, none⟩) hT hlo (k1 w rfl) (Nat.le_trans hle hcc) (w' := w')
          (fun q' hq' => by obtain rfl := Option.some.inj hq'; rw [add_addr, Nat.add_assoc]; exact g1) (fun h => by simp at h)
        rw [hy] at hex
        exact ⟨σ, _, w', .inl (hex _ _ hrun), hmk _ hle, g2, g3, g4⟩
      | false =>
        refine OpOk.oi fun hm => OpOk.oi fun hg => OpOk.ob fun old hold => OpOk.ob fun q' hq' => OpOk.oi fun hap => ?_
        have hm := Nat.le_of_ble_eq_true hm
        have hgt : cap < m + n := by
          rcases Nat.lt_or_ge cap (m + n) with h' | h'
          · exact h'
          · rw [show Nat.ble (Nat.add m n) cap = true from Nat.ble_eq_true_of_le h'] at hle; simp at hle
        obtain ⟨ob, f1, f2⟩ := obind_some hq'
        cases ob with
        | row l e lo hi =>
          obtain rfl := Option.some.inj (show some (lo, hi) = some q' from f2)
          have hg' : g = 0 ∨ g = q.2 := by
            rcases bor_true hg with h | h
            · exact .inl (Nat.eq_of_beq_eq_true h)
            · exact .inr (Nat.eq_of_beq_eq_true h)
          obtain ⟨σ', r, w', g1, g2, g3, g4, g5⟩ := grow_ok (ty := o.type) hπ hS hT hsv hxv hn hnew hall hlen hm hn' hg' hgt hold f1 hap
          have hce : (Option.rec 0 codeO (H.get b) : Nat) = e := by rw [f1]; rfl
          rw [← hce] at g3 g4 g5
          exact ⟨σ', r, w', .inl (hex _ _ g1), g2, g3, g4, g5⟩
        | _ => exact absurd (show none = some q' from f2) (by simp)
    · trivial
  · trivial


theorem aMakeSlice_ok (hS : SR π B σ H w) {env : Env} (he : EnvR π σ env a) {t : Nat} {l c : Operand} (hop : o.op = .makeSlice t l c) : OpOk π B σ P o a H w ((aMakeSlice P t l c).run env H) := by
  unfold aMakeSlice
  split
  · rename_i elem hel
    split
    · rename_i z size i hz hs hi
      split
      · rename_i hb
        refine OpOk.ob fun lv hl => OpOk.ob fun cv hc => OpOk.ob fun ln hln => OpOk.ob fun cn hcn => OpOk.oi fun hlc => ?_
        obtain ⟨h1, h2⟩ := band_true hb
        obtain ⟨h3, h4⟩ := band_true hlc
        have h2 := Nat.le_of_ble_eq_true h2
        have h3 := Nat.le_of_ble_eq_true h3
        have h4 := Nat.le_of_ble_eq_true h4
        obtain ⟨k, rfl⟩ := natOf_some hln
        obtain ⟨k', rfl⟩ := natOf_some hcn
        have hlx := VR.int_inv (gop_VR he hl)
        have hcx := VR.int_inv (gop_VR he hc)
        obtain ⟨i', v, f1, f2, f3⟩ := zeroT_some hz
        obtain rfl : i' = i := by rw [hi] at f1; exact (Option.some.inj f1).symm
        have g2 : ∀ π σ, VR π σ z v := fun π σ => ofV_VR f3
        have hzc : z.cells.length = size := by rw [← len_eq]; exact Nat.eq_of_beq_eq_true h1
        have hvz : VRL π σ z.cells v.cells.toList := by
          have g2' := g2 π σ
          unfold ofV at f3
          split at f3
          · obtain ⟨l, e1, e2⟩ := obind_some f3
            obtain rfl := Option.some.inj e2
            exact mapO_VRL _ e1
          · obtain ⟨x, e1, e2⟩ := obind_some f3
            obtain rfl := Option.some.inj e2
            exact .cons _ _ _ _ g2' .nil
          · obtain rfl := Option.some.inj f3
            exact .cons _ _ _ _ g2' .nil
          · unfold ofS at f3
            split at f3 <;> first | (simp at f3; done) | (obtain rfl := Option.some.inj f3; exact .cons _ _ _ _ g2' .nil)
        have hvl : v.cells.size = size := by rw [← hzc, ← hvz.length, Array.length_toList]
        have h0 : VRL π σ (rep z.cells cn) (((Array.range (cn * size)).map (v.cells[· % v.cells.size]!)).toList) := by
          refine VRL.of _ _ (by simp [rep_length, hzc]) fun i u hu => ?_
          have hi : i < cn * z.cells.length := by
            rcases Nat.lt_or_ge i (cn * z.cells.length) with h' | h'
            · exact h'
            · rw [List.getElem?_eq_none (by rw [rep_length]; exact h')] at hu; simp at hu
          rw [rep_get _ _ _ hi] at hu
          obtain ⟨x, e1, e2⟩ := hvz.get _ _ hu
          refine ⟨x, ?_, e2⟩
          rw [hzc] at hi e1
          have e1' : v.cells[i % size]? = some x := by simpa using e1
          simp [hi, hvl, Array.getElem!_eq_getD, Array.getD_eq_getD_getElem?, e1']
        obtain ⟨σ', k1, k2, k3, k4⟩ := new_ok hS (rep z.cells cn) elem ((Array.range (cn * size)).map (v.cells[· % v.cells.size]!)) elem h0
        refine ⟨σ', .slice (some ⟨w.heap.size, 0, none⟩) ln cn, _, .inl ?_, ?_, k2, k3, k4⟩
        · have e3 : (i'.bytes : Int) * (cn : Int) ≤ 281474976710656 := by
            have h5 : i'.bytes * cn ≤ 1000 * 100000 := Nat.mul_le_mul h2 h4
            rw [← Int.natCast_mul]
            omega
          obtain ⟨i2, q1, q2⟩ := sizeT_some hs
          obtain rfl : i2 = i' := by rw [hi] at q1; exact (Option.some.inj q1).symm
          have hr := run_make (P := P) w t elem i2 v (elemS_some hel) hi f2 k k' (ln : Int) (cn : Int) (by omega) (by omega) e3 (by omega)
          rw [q2] at hr
          simp only [Int.toNat_natCast] at hr
          have hx : execOp a.eval o = (do let v ← Instr.makeSlice t (.int k (ln : Int)) (.int k' (cn : Int)); pure (.value v)) := by
            simp only [execOp, hop, hlx, hcx]; rfl
          rw [hx, Sem.run_bind, hr]
          rfl
        · exact VR.slice (π := π) (σ := σ') H.next 0 ln cn _ k1
      · trivial
    · trivial
  · trivial

theorem freeze_heap {w : World} {blk n : Nat} {C : Array Value} {e : TypeId} {fr : Nat × Nat} (h : w.heap[blk]? = some (.cells C e fr)) (hn : n ≠ 0) :
    (w.freeze ⟨blk, 0, none⟩ n).heap[blk]? = some (.cells C e (if fr.1 == fr.2 then (0, n) else (min fr.1 0, max fr.2 n))) ∧ (∀ k, k ≠ blk → (w.freeze ⟨blk, 0, none⟩ n).heap[k]? = w.heap[k]?) ∧ (w.freeze ⟨blk, 0, none⟩ n).heap.size = w.heap.size ∧
      (w.freeze ⟨blk, 0, none⟩ n).os = w.os ∧ (w.freeze ⟨blk, 0, none⟩ n).tape = w.tape ∧ (w.freeze ⟨blk, 0, none⟩ n).output = w.output := by
  unfold World.freeze
  rw [if_neg hn]
  refine ⟨?_, fun k hk => ?_, by simp, rfl, rfl, rfl⟩
  · simp [Array.getElem?_modify, h]
  · simp [Array.getElem?_modify, Ne.symm hk]

set_option maxHeartbeats 1000000 in
theorem unStr_ok (hS : SR π B σ H w) {env : Env} (he : EnvR π σ env a) {t u : Nat} {p n : Operand} (hop : o.op = .call { callee := .builtin .unsafeString, args := #[p, n], argTypes := #[t, u] }) :
    OpOk π B σ P o a H w ((aUnStr P t p n).run env H) := by
  unfold aUnStr
  split
  · rename_i e hbe
    refine OpOk.ob fun v hv => OpOk.ob fun m hm => OpOk.ob fun N hN => ?_
    have hv := gop_VR he hv
    have hm := gop_VR he hm
    have hex : ∀ (y z : Value) (w' : World), a.eval p = y → (Builtin.unsafeString_ #[t, u] o.type #[y, .int .i64 N]).run P w = .ok z w' → (execOp a.eval o).run P w = .ok (.value z) w' := fun y z w' hy hr => by
      have hn : a.eval n = .int .i64 N := by
        unfold intN at hN
        split at hN
        · rename_i q
          have hx := VR.int_inv hm
          unfold natI at hN
          split at hN
          · obtain rfl := Option.some.inj hN; exact hx
          · simp at hN
        · simp at hN
      simp [execOp, hop, resolve, invoke, builtin, hy, hn, hr]
    have hp : ∃ e', P.underlying t = some (.pointer e') ∧ P.cellsOf e' = 1 ∧ e' = e := by
      unfold byteP at hbe
      split at hbe
      · rename_i e' he'
        obtain ⟨h1, h2⟩ := oif_some hbe
        exact ⟨e', he', Nat.eq_of_beq_eq_true h1, Option.some.inj h2⟩
      · simp at hbe
    obtain ⟨e', hpt, hce, rfl⟩ := hp
    cases N with
    | zero =>
      have fin : ∀ q, a.eval p = .pointer q → OpOk π B σ P o a H w (.val (.str 0 0) H) := fun q hq =>
        ⟨σ, .string .empty, w, .inl (hex _ _ _ hq (Lib.run_unsafeString_none w t u o.type q)), VR.str (σ := σ) ByteArray.empty, hS, Ext.refl _ _ _, Nx.refl _ _⟩
      show OpOk π B σ P o a H w (str0 H v)
      unfold str0
      generalize hy : a.eval p = y at hv
      split
      · cases hv; exact fin _ hy
      · cases hv; exact fin _ hy
      · trivial
    | succ N =>
      show OpOk π B σ P o a H w (strAt H e' N v)
      unfold strAt
      split
      · rename_i b _
        refine OpOk.ob fun ob hob => ?_
        unfold frzRow
        split
        · rename_i l el lo hi m bits hs
          refine OpOk.oi fun hc => ?_
          obtain ⟨c0, hc⟩ := band_true hc
          obtain ⟨c1, c2⟩ := band_true hc
          have c0 : N + 1 ≤ 1000000000 := Nat.le_of_ble_eq_true c0
          have c1 : el / 4 = e' := Nat.eq_of_beq_eq_true c1
          have c2 : 2 ≤ el % 4 := Nat.le_of_ble_eq_true c2
          obtain ⟨cs, s1, s2⟩ := obind_some hs
          obtain ⟨bt, s3, s4⟩ := obind_some s2
          obtain ⟨rfl, rfl⟩ := AV.str.inj (Option.some.inj s4)
          obtain ⟨q1, q2⟩ := sub_some (show sub l 0 (N + 1) = some cs from s1)
          obtain ⟨bs, rfl, rfl⟩ := strOf_some s3
          rw [List.length_map] at q1
          obtain ⟨L, C, e2, fr, f1, _, f3, f4, f5, f6, f7⟩ := Rel.row hS hob
          have g1 : e2 = e' := (f7.1 (by omega)).trans c1
          subst g1
          have g2 := f7.2.1 c2
          obtain ⟨L', hL', hx⟩ := VR.ptr_inv hv
          obtain rfl : L' = L := by rw [hL'] at f1; exact Option.some.inj f1
          rw [g2] at hx
          have hlen : N + 1 ≤ l.length := by
            obtain ⟨z, z1, _⟩ := q2 N (by omega)
            rw [Nat.zero_add] at z1
            have := (List.getElem?_eq_some_iff.1 z1).1
            omega
          have hcs := f5.1
          rw [g2] at hcs
          have hcell : ∀ (j : Nat) (x : UInt8), bs[j]? = some x → w.cell? ((⟨L'.blk, 0, none⟩ : Addr).add j) = some (.int .u8 x.toNat) := fun j x hj => by
            have hjl : j < N + 1 := by rw [← q1]; exact (List.getElem?_eq_some_iff.1 hj).1
            obtain ⟨z, z1, z2⟩ := q2 j hjl
            rw [List.getElem?_map, hj] at z2
            obtain rfl := Option.some.inj z2
            rw [Nat.zero_add] at z1
            obtain ⟨y, y1, y2⟩ := f5.2 j _ z1
            rw [g2, Nat.zero_add] at y1
            have := VR.int_inv y2
            rw [add_addr, cell_of f3, Nat.zero_add, y1, this]
            rfl
          have hbs : bs ≠ [] := fun h => by rw [h] at q1; simp at q1
          have hrun := Lib.run_unsafeString_row (P := P) w t u o.type e2 hpt hce L'.blk C.size (by simp [World.shape?, f3]) bs hbs (by omega) (by omega) hcell
          rw [q1] at hrun
          obtain ⟨k1, k2, k3, k4⟩ := freeze_heap (n := N + 1) f3 (by omega)
          have hO : ObjR π σ (.row l el 0 (Nat.max hi (N + 1))) L' (w.freeze ⟨L'.blk, 0, none⟩ (N + 1)) := by
            refine ⟨C, e2, _, k1, f4, f5, ?_, f7⟩
            have f62 := f6.2.1
            have f63 := f6.2.2
            have hle : ∀ x, x ≤ hi ∨ x ≤ N + 1 → x ≤ Nat.max hi (N + 1) := fun x hx => by
              show x ≤ max hi (N + 1)
              omega
            unfold FrzR
            rw [g2] at f63 ⊢
            split
            · refine ⟨fun j _ _ _ h => ⟨by omega, ?_⟩, Nat.zero_le _, fun _ => ?_⟩
              · have := hle (N + 1) (.inr (Nat.le_refl _)); show j < 0 + _; have h : j < N + 1 := h; omega
              · have := hle (N + 1) (.inr (Nat.le_refl _)); show N + 1 ≤ 0 + _; omega
            · rename_i hne
              have hlt : fr.1 < fr.2 := by
                have : fr.1 ≠ fr.2 := fun h => hne (by rw [h]; simp)
                omega
              have h3 := f63 hlt
              have b1 := hle fr.2 (.inl (by omega))
              have b2 := hle (N + 1) (.inr (Nat.le_refl _))
              refine ⟨fun j _ _ _ h => ⟨by omega, ?_⟩, by show min fr.1 0 ≤ max fr.2 (N + 1); omega, fun _ => ?_⟩
              · have h : j < max fr.2 (N + 1) := h
                show j < 0 + _
                omega
              · show max fr.2 (N + 1) ≤ 0 + _
                omega
          have := SR.put (w' := w.freeze ⟨L'.blk, 0, none⟩ (N + 1)) hS b (.row l el 0 (Nat.max hi (N + 1))) (.row l el lo hi) L' (know_of_get hob (by simp)) hL' (fun k hk => k2 k hk) k3 k4 hO
          refine ⟨σ, .string ⟨bs.toArray⟩, _, .inl (hex _ _ _ hx hrun), ?_, this.1, this.2.1, this.2.2⟩
          have hv0 : VR π σ (.str bs.length (bitsOf bs)) (.string ⟨bs.toArray⟩) := VR.str (σ := σ) ⟨bs.toArray⟩
          rw [q1] at hv0
          exact hv0
        · trivial
      · trivial
  · trivial

theorem clear_ok (hπ : ∀ i, (π i).oneCell' = true) (hS : SR π B σ H w) {env : Env} (he : EnvR π σ env a) {t : Nat} {ts : Array TypeId} {x : Operand} (hts : ts[0]? = some t) (hop : o.op = .call { callee := .builtin .clear, args := #[x], argTypes := ts }) :
    OpOk π B σ P o a H w ((aClear P t x).run env H) := by
  unfold aClear
  split
  · rename_i elem hel
    split
    · rename_i z hz
      refine OpOk.ob fun v hv0 => ?_
      have hel' := elemS_some hel
      obtain ⟨zv, z1, z2⟩ := run_zero hz
      have hv := gop_VR he hv0
      generalize hy : a.eval x = y at hv
      have go : ∀ w', (Builtin.clear_ ts o.type #[y]).run P w = .ok (.tuple #[]) w' → (execOp a.eval o).run P w = .ok (.value (.tuple #[])) w' := fun w' h => by simp [execOp, hop, resolve, invoke, builtin, hy, h]
      have nul : (Builtin.clear_ ts o.type #[y]).run P w = .ok (.tuple #[]) w → OpOk π B σ P o a H w (.val (.tuple []) H) := fun h => OpOk.pure hS (go w h) undef_VR
      unfold clearA
      split
      · rename_i b off n cap g
        have : ∃ L cap', σ b = some L ∧ y = .slice (some ⟨L.blk, L.sh + off, none⟩) n cap' := by
          cases hv with
          | slice _ _ _ _ L e => exact ⟨L, _, e, rfl⟩
          | sliceg _ _ _ _ _ L _ e => exact ⟨L, _, e, rfl⟩
        obtain ⟨L, cap', hL, rfl⟩ := this
        cases n with
        | zero => exact nul (by simp [Builtin.clear_, hts, run_underlying hel'])
        | succ n =>
          refine OpOk.oi fun hall => OpOk.ho fun H' hH' => ?_
          have hvz : VRL π σ z.cells zv.cells.toList := (z2 π σ).cells hπ
          have hlz : zv.cells.size = z.cells.length := by rw [← hvz.length, Array.length_toList]
          have h0 : VRL π σ (rep z.cells (n + 1)) (Builtin.zeroCells zv.cells (n + 1)).toList := by
            refine VRL.of _ _ (by simp [Builtin.zeroCells, rep_length, hlz]) fun i u hu => ?_
            have hi : i < (n + 1) * z.cells.length := by
              rcases Nat.lt_or_ge i ((n + 1) * z.cells.length) with h' | h'
              · exact h'
              · rw [List.getElem?_eq_none (by rw [rep_length]; exact h')] at hu; simp at hu
            rw [rep_get _ _ _ hi] at hu
            obtain ⟨q, e1, e2⟩ := hvz.get _ _ hu
            refine ⟨q, ?_, e2⟩
            have e1' : zv.cells[i % z.cells.length]? = some q := by simpa using e1
            simp [Builtin.zeroCells, hi, hlz, Array.getElem!_eq_getD, Array.getD_eq_getD_getElem?, e1']
          obtain ⟨w', g1, g2, g3, g4⟩ := wr_run P hS hH' hL h0 (h0.ones hπ hall)
          exact ⟨σ, .tuple #[], w', .inl (go w' (by simp [Builtin.clear_, hts, run_underlying hel', z1, g1])), undef_VR, g2, g3, g4⟩
      · cases hv; exact nul (by simp [Builtin.clear_, hts, run_underlying hel'])
      · cases hv; exact nul (by simp [Builtin.clear_, hts, run_underlying hel'])
      · trivial
    · trivial
  · trivial

theorem aBuiltin_ok (hπ : ∀ i, (π i).oneCell' = true) (hS : SR π B σ H w) {env : Env} (he : EnvR π σ env a) {b : Builtin} {args : Array Operand} {ts : Array TypeId} (hop : o.op = .call { callee := .builtin b, args := args, argTypes := ts }) :
    OpOk π B σ P o a H w ((aBuiltin P b args.toList ts.toList).run env H) := by
  obtain ⟨args⟩ := args
  obtain ⟨ts⟩ := ts
  unfold aBuiltin
  split
  · dsimp only
    split
    · exact aLen_ok hS he (by simp) hop
    · trivial
  · dsimp only
    split
    · exact aAppend_ok hπ hS he hop
    · trivial
  · dsimp only
    split
    · exact aCopy_ok hπ hS he (by simp) hop
    · trivial
  · dsimp only
    split
    · exact aDelete_ok hS he (by simp) hop
    · trivial
  · dsimp only
    split
    · exact max2_ok hS he hop
    · trivial
  · dsimp only
    split
    · exact min2_ok hS he hop
    · trivial
  · dsimp only
    split
    · exact cap_ok hS he (by simp) hop
    · trivial
  · dsimp only
    split
    · exact data_ok hS he hop
    · trivial
  · dsimp only
    split
    · exact clear_ok hπ hS he (by simp) hop
    · trivial
  · dsimp only
    split
    · exact unStr_ok hS he hop
    · trivial
  · trivial

theorem funcOf_some {v : AV} {q : FuncId × List AV × List AV} (h : funcOf v = some q) : v = .func (.func q.1) q.2.1 q.2.2 := by
  unfold funcOf at h
  split at h
  · obtain rfl := Option.some.inj h; rfl
  · simp at h

theorem aCall_ok (hπ : ∀ i, (π i).oneCell' = true) (hS : SR π B σ H w) {env : Env} (he : EnvR π σ env a) {c : Call} (hop : o.op = .call c) : OpOk π B σ P o a H w ((aCall P c).run env H) := by
  obtain ⟨callee, args, ts⟩ := c
  unfold aCall
  split
  · rename_i f hc
    simp only at hc
    subst hc
    refine OpOk.ob fun v hv => OpOk.ob fun q hq => OpOk.ob fun l hl => ?_
    have hx := gop_VR he hv
    obtain rfl := funcOf_some hq
    generalize hy : a.eval f = y at hx
    cases hx with
    | func _ _ _ xs ys h1 h2 =>
      refine ⟨xs ++ args.map a.eval ++ ys, ?_, ?_⟩
      · simp [execOp, hop, resolve, invoke, hy, Deferred.ofValue]
      · rw [app_eq, app_eq]
        have h3 := gops_VR he hl
        simp only [Array.toList_append, Array.toList_map, List.append_assoc]
        exact VRL.append h1 (VRL.append h3 h2)
  · rename_i b hc
    simp only at hc
    subst hc
    exact aBuiltin_ok hπ hS he hop
  · trivial

theorem aop_ok (hπ : ∀ i, (π i).oneCell' = true) (hS : SR π B σ H w) {env : Env} (he : EnvR π σ env a) : OpOk π B σ P o a H w ((aop P o).run env H) := by
  unfold aop
  split
  · rename_i h; exact aMove_ok hS he (.inl h)
  · rename_i h; exact aMove_ok hS he (.inr h)
  · rename_i h; exact aPick_ok hS he h
  · rename_i h; exact aAlloc_ok hπ hS h
  · rename_i h; exact aBox_ok hπ hS he h
  · rename_i h; exact aBuild_ok hπ hS he h
  · rename_i h; exact aBuildSlice_ok hπ hS he h
  · rename_i h; exact aLoad_ok hS he h
  · rename_i h; exact aStore_ok hπ hS he h
  · rename_i h; exact aNil_ok hS he h
  · rename_i h; exact aBin_ok hS he h
  · rename_i h; exact aUn_ok hS he h
  · rename_i h; exact aConvert_ok hS he h
  · rename_i h; exact aMakeI_ok hS he h
  · rename_i h; exact aMakeF_ok hS he h
  · rename_i h; exact aMakeMap_ok hS h
  · rename_i h; exact aMakeSlice_ok hS he h
  · rename_i h; exact aSlice_ok hS he h
  · rename_i h; exact aFieldAddr_ok hS he h
  · rename_i h; exact aField_ok hS he h
  · rename_i h; exact aIndexAddr_ok hS he h
  · rename_i h; exact aIndex_ok hS he h
  · rename_i h; exact aLookup_ok hS he h
  · rename_i h; exact aUpdate_ok hS he (.inl h)
  · rename_i h; exact aUpdate_ok hS he (.inr h)
  · rename_i h; exact tupleAt_ok hS he h
  · rename_i h; exact aRange_ok hS he h
  · rename_i h; exact panic_ok hS he h
  · rename_i h; exact aAssert_ok hS he h
  · rename_i h; exact aNext_ok hS he h
  · rename_i h; exact aCall_ok hπ hS he h
  · trivial

end
end Go.Proofs.Ytlnjikneepgpaaa.Fast
