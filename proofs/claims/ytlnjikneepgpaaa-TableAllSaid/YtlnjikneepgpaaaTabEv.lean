/- For the evaluator: table.Find and table.Names by their contracts. -/
import Derived.Test.YtlnjikneepgpaaaEvPlace
import Derived.Test.YtlnjikneepgpaaaTabNames
namespace Go.Proofs.Ytlnjikneepgpaaa.Fin
open Go.Proofs.Ytlnjikneepgpaaa.Fast Go.RowKit Go.Proofs.Ytlnjikneepgpaaa.G
set_option linter.unusedVariables false
set_option maxRecDepth 1000000

def bytesU (n : Nat) : Nat → List UInt8 :=
  Nat.rec (motive := fun _ => Nat → List UInt8) (fun _ => []) (fun _ ih bits => UInt8.ofNat (Nat.mod bits 256) :: ih (Nat.div bits 256)) n
theorem bytesU_eq : ∀ (l : List UInt8), bytesU l.length (bitsOf l) = l
  | [] => rfl
  | b :: l => by
    have hb : b.toNat < 256 := b.toNat_lt
    have h1 : bitsOf (b :: l) % 256 = b.toNat := by show (b.toNat + 256 * bitsOf l) % 256 = _; omega
    have h2 : bitsOf (b :: l) / 256 = bitsOf l := by show (b.toNat + 256 * bitsOf l) / 256 = _; omega
    show UInt8.ofNat (bitsOf (b :: l) % 256) :: bytesU l.length (bitsOf (b :: l) / 256) = _
    rw [h1, h2, bytesU_eq l]
    simp
def strU (n b : Nat) : ByteArray := ⟨(bytesU n b).toArray⟩
theorem strU_eq (s : ByteArray) : strU s.data.toList.length (bitsOf s.data.toList) = s := by
  unfold strU
  rw [bytesU_eq]

/-- what a call leaves below -/
theorem CallR.under {π : Nat → Value} {B : Bd} {P : Program} {f : FuncId} {xs : Array Value} {σ : Sg} {w : World} {H : Heap} {x : Value} {v : AV} (hS : SR π B σ H w) (hv : VR π σ v x) (h : Calls P f xs w fun e w' => e = .returned x ∧ Below w.heap.size w w') : Calls P f xs w (CallR π B ⟨σ, w, H, []⟩ (.ret v H)) :=
  h.mono fun e w' ⟨h1, h2⟩ => ⟨σ, x, h1, hv, ⟨⟨fun b o hb => by
      obtain ⟨L, g1, g2, g3⟩ := hS.rel.obj b o hb
      exact ⟨L, g1, g2, g3.same (h2.block _ g3.lt)⟩, hS.rel.inj, fun k hk => (h2.block k (Nat.lt_of_lt_of_le hk hS.base)).trans (hS.rel.low k hk)⟩, hS.dom, Nat.le_trans hS.base h2.size⟩,
    ⟨Sg.le_refl σ, h2.os, h2.tape, h2.output, h2.size, fun k hk _ => h2.block k hk, fun b' o' L' e1 e2 _ => ⟨b', o', L', e1, e2, rfl⟩⟩, Nx.refl _ _⟩

/- table.Find -/
structure FRow where
  n : Nat
  b : Nat
  mn : Int
  mx : Int
  lz : Bool
  pu : Bool
  ok : Bool
def FRow.ans (r : FRow) : AV := .tuple [.agg [.int .i64 r.mn, .int .i64 r.mx, .bool r.lz, .bool r.pu], .bool r.ok]
def FRow.good (r : FRow) : Bool := decide (table_Find.f (strU r.n r.b) = some (r.mn, r.mx, r.lz, r.pu, r.ok))
noncomputable def findRow (l : List FRow) (n b : Nat) : Option FRow := List.rec (motive := fun _ => Option FRow) none (fun r _ ih => Bool.rec ih (some r) (strEq r.n r.b n b)) l
theorem findRow_some : ∀ {l : List FRow} {n b : Nat} {r : FRow}, findRow l n b = some r → r ∈ l ∧ r.n = n ∧ r.b = b
  | [], _, _, _, h => absurd (show none = some _ from h) (by simp)
  | q :: l, n, b, r, h => by
    have h : (Bool.rec (findRow l n b) (some q) (strEq q.n q.b n b) : Option FRow) = some r := h
    cases hb : strEq q.n q.b n b with
    | false =>
      rw [hb] at h
      obtain ⟨h1, h2⟩ := findRow_some (show findRow l n b = some r from h)
      exact ⟨List.mem_cons_of_mem _ h1, h2⟩
    | true =>
      rw [hb] at h
      obtain rfl := Option.some.inj h
      obtain ⟨h1, h2⟩ := band_true hb
      exact ⟨List.mem_cons_self, Nat.eq_of_beq_eq_true h1, Nat.eq_of_beq_eq_true h2⟩

def tabKeys : List (Nat × Nat) := tabL.map fun p => (p.1.data.toList.length, bitsOf p.1.data.toList)
theorem look_none : ∀ {L : List (ByteArray × Inf)} {x : ByteArray}, (∀ p ∈ L, p.1 ≠ x) → lookT L x = none
  | [], _, _ => rfl
  | (y, i) :: l, x, h => by
    show (if x = y then some i else lookT l x) = none
    rw [if_neg (fun e => h (y, i) (by simp) e.symm)]
    exact look_none fun p hp => h p (by simp [hp])

noncomputable def findF (rows : List FRow) (keys : List (Nat × Nat)) (args : List AV) (H : Heap) : CR :=
  match args with
  | [.str n b] => Option.rec (.no []) (fun r => .ret (FRow.ans r) H) (findRow rows n b)
  | [.notin l] => Bool.rec (.no []) (.ret (.tuple [.agg [.int .i64 0, .int .i64 0, .bool false, .bool false], .bool false]) H) (alls (fun q => amongA l q.1 q.2) keys)
  | _ => .no []

/- table.Names -/
noncomputable def namesF (l : List AV) (args : List AV) (H : Heap) : CR :=
  match args with
  | [] => .ret (.slice H.next 0 35 35 1) (H.new (.row l (typ 2 9) 0 0))
  | _ => .no []

noncomputable def tabK (rows : List FRow) (keys : List (Nat × Nat)) (names : List AV) (K : Known) : Known := fun f =>
  Bool.rec (Bool.rec (K f) (some (namesF names)) (Nat.beq f 38)) (some (findF rows keys)) (Nat.beq f 41)

theorem names_VRL {π : Nat → Value} {σ : Sg} : ∀ (l : List (List UInt8)), VRL π σ (l.map fun s => .str s.length (bitsOf s)) (l.map encStr)
  | [] => .nil
  | s :: l => .cons _ _ _ _ (VR.str (σ := σ) ⟨s.toArray⟩) (names_VRL l)

theorem tabK_ok {π : Nat → Value} {B : Bd} {rows : List FRow} {keys : List (Nat × Nat)} {names : List AV} {K : Known} (hr : alls FRow.good rows = true) (hk : keys = tabKeys) (hn : names = namesS.map fun s => .str s.length (bitsOf s)) (hK : KnownOk π B Try.prog K) : KnownOk π B Try.prog (tabK rows keys names K) := by
  intro f g hf args H hfine σ w xs hS hl
  unfold tabK at hf
  cases hb : Nat.beq f 41 with
  | true =>
    rw [hb] at hf
    obtain rfl := Option.some.inj hf
    obtain rfl := Nat.eq_of_beq_eq_true hb
    unfold findF at hfine ⊢
    split at hfine
    · rename_i n b
      match xs, hl with
      | ⟨[x]⟩, .cons _ _ _ _ hx .nil =>
        obtain ⟨s, rfl, rfl, rfl⟩ := VR.str_inv hx
        cases hq : findRow rows s.data.toList.length (bitsOf s.data.toList) with
        | none => rw [hq] at hfine; exact hfine.elim
        | some r =>
          obtain ⟨h1, h2, h3⟩ := findRow_some hq
          have h4 := alls_mem hr r h1
          unfold FRow.good at h4
          have h4 := of_decide_eq_true h4
          rw [h2, h3, strU_eq] at h4
          exact CallR.under hS (.tuple _ _ (.cons _ _ _ _ (.agg _ _ (.cons _ _ _ _ (.int _ _) (.cons _ _ _ _ (.int _ _) (.cons _ _ _ _ (.bool _) (.cons _ _ _ _ (.bool _) .nil))))) (.cons _ _ _ _ (.bool _) .nil))) (table_Find.calls s r.mn r.mx r.lz r.pu r.ok w h4)
    · rename_i l
      cases ha : alls (fun q : Nat × Nat => amongA l q.1 q.2) keys with
      | false => rw [ha] at hfine; exact hfine.elim
      | true =>
        match xs, hl with
        | ⟨[x]⟩, .cons _ _ _ _ hx .nil =>
          cases hx with
          | notin _ s hs hsz =>
            have hno : lookT tabL s = none := look_none fun p hp e => by
              subst e
              have h1 := alls_mem ha (p.1.data.toList.length, bitsOf p.1.data.toList) (by rw [hk]; exact List.mem_map.2 ⟨p, hp, rfl⟩)
              exact hs _ (among_mem h1) ⟨rfl, rfl⟩
            have hf : table_Find.f s = some (0, 0, false, false, false) := by
              unfold table_Find.f infOf
              rw [if_pos (by omega), hno]
              rfl
            exact CallR.under hS (.tuple _ _ (.cons _ _ _ _ (.agg _ _ (.cons _ _ _ _ (.int _ _) (.cons _ _ _ _ (.int _ _) (.cons _ _ _ _ (.bool _) (.cons _ _ _ _ (.bool _) .nil))))) (.cons _ _ _ _ (.bool _) .nil))) (table_Find.calls s 0 0 false false false w hf)
    · exact hfine.elim
  | false =>
    rw [hb] at hf
    have hf : (Bool.rec (K f) (some (namesF names)) (Nat.beq f 38) : Option (List AV → Heap → CR)) = some g := hf
    cases hb2 : Nat.beq f 38 with
    | false => rw [hb2] at hf; exact hK f g hf args H hfine σ w xs hS hl
    | true =>
      rw [hb2] at hf
      obtain rfl := Option.some.inj hf
      obtain rfl := Nat.eq_of_beq_eq_true hb2
      unfold namesF at hfine ⊢
      split at hfine
      · match xs, hl with
        | ⟨[]⟩, .nil =>
          refine (table_Names_own w).mono fun e w' ⟨g, cap, h1, h2, h3⟩ => ?_
          rcases h2.2 with ⟨h4, h5⟩ | ⟨g', cap', cur, h4, h5, h6, h7, h8, h9, h10⟩
          · exact absurd h5 (by decide)
          obtain ⟨rfl, rfl⟩ : g' = g ∧ cap' = cap := by
            have := Value.slice.inj h4
            obtain ⟨q1, _, q3⟩ := this
            have := Option.some.inj q1
            exact ⟨(Addr.mk.inj this).1.symm, q3.symm⟩
          obtain ⟨σ', e1, e2, e3, e4⟩ := SR.move (w' := w') hS (.row names (typ 2 9) 0 0) ⟨g', 0, cur.size⟩ (H.new (.row names (typ 2 9) 0 0)) rfl (fun _ => False)
            (fun c u hu => by
              have hd : u ≠ .dead := fun e => by subst e; unfold Heap.know at hu; split at hu <;> simp_all
              rcases Heap.get_new (know_get hu) with h | ⟨k1, k2⟩
              · exact .inl h
              · exact .inr ⟨k1, fun h => h, know_of_get k2 hd⟩)
            (Nat.le_trans hS.base h5) h3.size ⟨h3.os, h3.tape, h3.output⟩
            (fun c u L' _ hu hL => by
              obtain ⟨L2, k1, _, k3⟩ := hS.rel.obj c u hu
              rw [hL] at k1; obtain rfl := Option.some.inj k1
              have := k3.lt
              exact ⟨by show L'.blk ≠ g'; omega, h3.block _ this⟩)
            (fun k hk _ => h3.block k hk) (fun hlt => absurd hlt (by show ¬ g' < _; omega))
            (fun σ' _ => ⟨cur, 9, (0, 0), h6, rfl, ⟨by
              rw [hn, List.length_map]
              have : namesS.length = 35 := by have := h2.1; simpa using this
              show 0 + namesS.length ≤ cur.size
              omega, fun i v hv => by
              rw [hn] at hv
              obtain ⟨x, k1, k2⟩ := (names_VRL (π := π) (σ := σ') namesS).get i v hv
              refine ⟨x, ?_, k2⟩
              rw [← h10] at k1
              show cur[0 + i]? = some x
              rw [Nat.zero_add, ← Array.getElem?_toList]
              rw [List.getElem?_take] at k1
              split at k1
              · exact k1
              · simp at k1⟩, FrzR.no _ _ _ _, typ2 _ _ _ rfl⟩)
          refine ⟨σ', _, h1, ?_, e2, e3, e4⟩
          have := VR.sliceg (π := π) (σ := σ') H.next 0 35 35 0 ⟨g', 0, cur.size⟩ cap' e1 h7 h7 (by show 0 + 0 + cap' * (0 + 1) ≤ cur.size; omega)
          simpa using this
      · exact hfine.elim
end Go.Proofs.Ytlnjikneepgpaaa.Fin
