/- strings.Index's inner function, whatever internal/bytealg.MaxLen holds: taken by its contract. -/
import Derived.Test.YtlmabmpdbcgabaaDoorEvMemo
import Derived.Test.YtlmabmpdbcgabaaDoorShelf
import Derived.HandedShaped
namespace Go.Proofs.YtlmabmpdbcgabaaDoor.Fin
open Go.Proofs.YtlmabmpdbcgabaaDoor.Fast Go.RowKit
set_option linter.unusedVariables false

def bytesU (n : Nat) : Nat → List UInt8 :=
  Nat.rec (motive := fun _ => Nat → List UInt8) (fun _ => []) (fun _ ih bits => UInt8.ofNat (Nat.mod bits 256) :: ih (Nat.div bits 256)) n
theorem bytesU_eq : ∀ (l : List UInt8), bytesU l.length (bitsOf l) = l
  | [] => rfl
  | b :: l => by
    have hb : b.toNat < 256 := b.toNat_lt
    have h1 : bitsOf (b :: l) % 256 = b.toNat := by show (b.toNat + 256 * bitsOf l) % 256 = _; omega
    have h2 : bitsOf (b :: l) / 256 = bitsOf l := by show (b.toNat + 256 * bitsOf l) / 256 = _; omega
    show UInt8.ofNat (bitsOf (b :: l) % 256) :: bytesU l.length (bitsOf (b :: l) / 256) = _
    rw [h1, h2, bytesU_eq l]
    simp

noncomputable def idxF (args : List AV) (H : Heap) : CR :=
  match args with
  | [.str n a, .str m b] => Bool.rec (.no []) (.ret (.int .i64 (Lib.index (bytesU n a) (bytesU m b))) H) (Nat.blt n 1000000000)
  | _ => .no []
noncomputable def idxK (f0 : Nat) (K : Known) : Known := fun f => Bool.rec (K f) (some idxF) (Nat.beq f f0)

def Low (B : Bd) : Prop := ∀ w : World, (∀ k, k < B.n → w.heap[k]? = B.lo k) → ∃ m, w.cell? ⟨0, 0, none⟩ = some (.int .i64 m)

theorem low_top {w : World} (h : ∃ m, w.cell? ⟨0, 0, none⟩ = some (.int .i64 m)) : Low (topB w) := by
  intro w' hw
  obtain ⟨m, hm⟩ := h
  refine ⟨m, ?_⟩
  have h0 : 0 < w.heap.size := by
    rcases Nat.eq_zero_or_pos w.heap.size with h | h
    · have : w.heap[0]? = none := Array.getElem?_eq_none (by omega)
      simp [World.cell?, this] at hm
    · exact h
  have := hw 0 h0
  have : w'.heap[0]? = w.heap[0]? := this
  unfold World.cell? at hm ⊢
  rw [this]
  exact hm

theorem idxK_ok {π : Nat → Value} {B : Bd} {K : Known} (hB : Low B) (hK : KnownOk π B Tryd.prog K) : KnownOk π B Tryd.prog (idxK 45 K) := by
  intro f g hf args H hfine σ w xs hS hl
  unfold idxK at hf
  cases hb : Nat.beq f 45 with
  | false => rw [hb] at hf; exact hK f g hf args H hfine σ w xs hS hl
  | true =>
    rw [hb] at hf
    obtain rfl := Option.some.inj hf
    obtain rfl := Nat.eq_of_beq_eq_true hb
    unfold idxF at hfine ⊢
    split at hfine
    · rename_i n a m b
      cases hlt : Nat.blt n 1000000000 with
      | false => rw [hlt] at hfine; exact hfine.elim
      | true =>
        have hlt := blt_lt hlt
        match xs, hl with
        | ⟨[x, y]⟩, .cons _ _ _ _ hx (.cons _ _ _ _ hy .nil) =>
          obtain ⟨s, rfl, rfl, rfl⟩ := VR.str_inv hx
          obtain ⟨u, rfl, rfl, rfl⟩ := VR.str_inv hy
          obtain ⟨q, hq⟩ := hB w hS.rel.low
          have hsz : s.size = s.data.toList.length := by rw [Array.length_toList]; rfl
          refine CallR.same hS ?_ (Tryd.stringslite_Index s u q w (by omega) hq)
          rw [bytesU_eq, bytesU_eq]
          exact .int _ _
    · exact hfine.elim

theorem fin_idx {f : FuncId} {n : Nat} {args : List AV} {tab : Nat → Nat → Option Nat} {xs : Array Value} {w : World} (z : Nat → Int) (hw : ∃ m, w.cell? ⟨0, 0, none⟩ = some (.int .i64 m))
    (hb : ∀ fn, Tryd.prog.funcs[f]? = some fn → fn.body.isSome = true) (hz : ∀ i, (Lit.int .i64 (z i)).wf = true) (ht : ∀ i n r, tab i n = some r → 0 < n ∧ n ≤ 4611686018427387904 ∧ z i % (n : Int) = r)
    (hl : VRL (fun i => .int .i64 (z i)) (fun _ => none) args xs.toList) (hf : isTrue (call Tryd.prog (memoK memo (idxK 45 (placeK 6 tab))) n f args Heap.emp) = true) : Calls Tryd.prog f xs w fun e w' => e = .returned (.bool true) ∧ Below w.heap.size w w' :=
  call_true (fun _ => rfl) (memoK_ok (fun _ => rfl) names_ok mixed memo_ok (idxK_ok (low_top hw) (placeK_ok place_ok hz ht))) names_ok mixed hb hl hf

/-- a row's contract is handed the world's shape, and what is asked besides -/
theorem handed_shaped {H : Type} {enc : TypeId × Value → H} {a : Assume} {C : Checked} {os : Os} {f : FuncId} {fn : Func} {s : ChangeSpec} {conds : List PathCond} {apart fresh handsOn again : Bool} {X : World → Array Value → Prop}
    (hX : ∀ (w w' : World) (args : Array Value), w.heap = w'.heap → X w args → X w' args) (own : ownKnob C.prog.godebug = none) (started : os.Started) (noInit : C.prog.inits.idxOf? f = none) (hfn : C.prog.funcs[f]? = some fn)
    (witness : ∃ (w : World) (tape : Tape) (i : Input), w.os = os ∧ (w.forCall tape i).Shaped C.prog ∧ i.vars = [] ∧ Input.okWide C.prog (w.forCall tape i) .any w.heap.size f i ∧
      ((s.pre enc C.prog fn conds apart (w.forCall tape i).memory i.args ∧ X (w.forCall tape i).memory i.args) ∧ sizedMet enc C.prog fn (OpenSpec.ofChange s) apart (w.forCall tape i).memory i.args) ∧ a.holds C.prog (lone (Frame.enter C.prog f i.args .normal) [] (w.forCall tape i)))
    (go : ∀ (W : World) (base : Nat) (args : Array Value) (ds gs : List (DataW H)) (before : List MemPlace), (∀ (j : Nat) t v, fn.params[j]? = some t → args[j]? = some v → Value.okWide C.prog W .any base t v) →
      DataW.Whole enc C.prog fn.params.toList s.vars apart W args.toList ds gs before → conds.all (PathCond.test C.prog ⟨fn.params.toList, ds, s.plain.varTypes C.prog, gs⟩) = true → W.ShapedOpen C.prog →
      Calls C.prog f args W fun e W' => ∃ v, e = .returned v ∧ s.post enc C.prog fn apart fresh handsOn again W args v W') :
    ReturnsInHanded a C os f .any (fun w args => (s.pre enc C.prog fn conds apart w args ∧ X w args) ∧ sizedMet enc C.prog fn (OpenSpec.ofChange s) apart w args) (s.post enc C.prog fn apart fresh handsOn again) := by
  refine returnsInHanded_of_calls own started noInit witness fun w tape i _ hsh _ hok hpre _ => ?_
  obtain ⟨_, _, _, fn', hfn', _, _, _, _, hval⟩ := hok
  obtain rfl : fn' = fn := Option.some.inj (hfn'.symm.trans hfn)
  obtain ⟨⟨⟨ds, gs, before, hw, hc⟩, _⟩, _⟩ := hpre
  refine (go (w.forCall tape i) w.heap.size i.args ds gs before hval (DataW.Whole.of_heap (w' := w.forCall tape i) (by rfl) hw) hc hsh).mono fun e W' ⟨v, he, hp⟩ => ?_
  subst he
  exact ChangeSpec.post_blind hp
end Go.Proofs.YtlmabmpdbcgabaaDoor.Fin
