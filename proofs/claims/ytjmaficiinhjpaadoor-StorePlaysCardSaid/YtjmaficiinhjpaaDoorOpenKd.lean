/- An argument that reads as data, opened as a kind: numbers, bools, texts, slices, structs of one-cell fields; with what is known of its parts. -/
import Derived.Test.YtjmaficiinhjpaaDoorWWords
import Derived.Deep.Slices
import Derived.ChangeArms
import Derived.SizedLaws
namespace Go.Proofs.YtjmaficiinhjpaaDoor.G
open Go.RowKit Go.Deep Go.Proofs.YtjmaficiinhjpaaDoorW.PrintWords

/-- Whatever reads as data of type T is a v of kind d, and G holds of it. -/
def Opens {α : Type} (P : Program) (T : TypeId) (d : Kd α) (G : α → Prop) : Prop :=
  ∀ (H : Type) (enc : TypeId × Value → H) (w : World) (base : Nat) (spare : Nat → Bool) (held : Bool) (fuel : Nat) (cs : List Value) (x : DataW H × List MemPlace),
    DataW.trod enc P w base spare held fuel T cs = some x → (∀ n ∈ x.1.weights P T, n ≤ 140737488351232) → ∃ v, d.K w v cs ∧ G v

theorem opens_int {P : Program} {T : TypeId} {k : IntKind} (h : P.underlying T = some (.int k)) : Opens P T (Kd.int k) (fun n => (Lit.int k n).wf = true) := by
  intro H enc w base spare held fuel cs x hx hsz
  obtain ⟨n, rfl, _, hw⟩ := DataW.trod_int h hx
  exact ⟨n, rfl, hw⟩
theorem opens_bool {P : Program} {T : TypeId} (h : P.underlying T = some .bool) : Opens P T Kd.bool (fun _ => True) := by
  intro H enc w base spare held fuel cs x hx hsz
  obtain ⟨b, rfl, _⟩ := DataW.trod_bool h hx
  exact ⟨b, rfl, trivial⟩
theorem opens_string {P : Program} {T : TypeId} (h : P.underlying T = some .string) : Opens P T Kd.string (fun s => s.size ≤ 140737488351232) := by
  intro H enc w base spare held fuel cs x hx hsz
  obtain ⟨s, rfl, rfl, hz⟩ := DataW.trod_string h hx
  exact ⟨s, rfl, by have := hsz s.data.toList.length (by simp [DataW.weights]); exact this⟩

theorem mem_weightsAll {H : Type} {P : Program} {e : TypeId} : ∀ {l : List (DataW H)} {d : DataW H}, d ∈ l → ∀ n ∈ d.weights P e, n ∈ DataW.weightsAll P e l
  | [], _, h, _, _ => absurd h (by simp)
  | d0 :: l, d, h, n, hn => by
    simp only [DataW.weightsAll, List.mem_append]
    rcases List.mem_cons.mp h with rfl | h
    · exact Or.inl hn
    · exact Or.inr (mem_weightsAll h n hn)

theorem opens_slice {α : Type} {P : Program} {T e : TypeId} {d : Kd α} {G : α → Prop} (h : P.underlying T = some (.slice e)) (hd : Opens P e d G) (hs : P.cellsOf e = d.sz) :
    Opens P T (Kd.slice e d) (fun l => l.length * P.bytesOf e ≤ 140737488351232 ∧ ∀ v ∈ l, G v) := by
  intro H enc w base spare held fuel cs x hx hsz
  rcases open_slice h hx with ⟨rfl, _⟩ | ⟨a, len, cap, m, n, D, Pl, rfl, hb, hl, hm, hmm, rfl, hel⟩
  · exact ⟨[], ⟨none, 0, rfl, Nat.le_refl _, rfl, by simp, fun h => absurd h (Nat.lt_irrefl 0)⟩, by simp, by simp⟩
  · have hlm : len ≤ m := by rw [hmm]; split <;> omega
    have hlz : len * P.bytesOf e ≤ 140737488351232 := by
      have := hsz ((((List.range len).map D).length + ((List.range (m - len)).map fun j => D (len + j)).length) * P.bytesOf e) (by simp [DataW.weights, h])
      simp only [List.length_map, List.length_range] at this
      exact Nat.le_trans (Nat.mul_le_mul_right _ (by omega)) this
    have hdz : ∀ i, i < len → ∀ n ∈ (D i).weights P e, n ≤ 140737488351232 := fun i hi n hn => hsz n (by
      simp only [DataW.weights, h, List.mem_cons, List.mem_append]
      exact Or.inr (Or.inl (mem_weightsAll (List.mem_map.mpr ⟨i, List.mem_range.mpr hi, rfl⟩) n hn)))
    rcases Nat.eq_zero_or_pos len with rfl | hpos
    · exact ⟨[], ⟨some a, cap, rfl, hl, rfl, by simp, fun h => absurd h (Nat.lt_irrefl 0)⟩, by simp, by simp⟩
    obtain ⟨v0, _⟩ : ∃ v0 : α, True := by
      obtain ⟨cs', h1, h2⟩ := hel 0 (by omega)
      obtain ⟨v, _, _⟩ := hd H enc w base spare held n cs' _ h2 (hdz 0 hpos)
      exact ⟨v, trivial⟩
    haveI : Inhabited α := ⟨v0⟩
    obtain ⟨V, hV⟩ := choose_lt (n := len) (p := fun i v => ∃ cs', w.cells? base (a.add (i * P.cellsOf e)) (P.cellsOf e) = some cs' ∧ d.K w v cs' ∧ G v) (fun i hi => by
      obtain ⟨cs', h1, h2⟩ := hel i (by omega)
      obtain ⟨v, hv, hg⟩ := hd H enc w base spare held n cs' _ h2 (hdz i hi)
      exact ⟨v, cs', h1, hv, hg⟩)
    have hlen : ((List.range len).map V).length = len := by simp
    refine ⟨(List.range len).map V, ⟨some a, cap, by rw [hlen], by rw [hlen]; exact hl, hlen ▸ rfl, by rw [hlen]; unfold maxLen at hm; omega, fun _ => ⟨a, rfl, fun j p hj => ?_⟩⟩, by rw [hlen]; exact hlz, fun v hv => ?_⟩
    · have hjl : j < len := by
        have := (List.getElem?_eq_some_iff.1 hj).1
        rwa [hlen] at this
      have hp : p = V j := by
        rw [List.getElem?_map, List.getElem?_range hjl] at hj
        exact (Option.some.inj hj).symm
      subst hp
      obtain ⟨cs', h1, h2, _⟩ := hV j hjl
      obtain ⟨_, hcl, hcell⟩ := World.cells?_some h1
      refine ⟨cs', by rw [hcl, hs], h2, fun i u hu => ?_⟩
      have hi : i < P.cellsOf e := by
        have := (List.getElem?_eq_some_iff.1 hu).1
        omega
      have := hcell i hi
      rw [Deep.add_add] at this
      rw [← hs, this, hu]
    · obtain ⟨j, hj, rfl⟩ := List.mem_map.mp hv
      obtain ⟨_, _, _, hg⟩ := hV j (List.mem_range.mp hj)
      exact hg

theorem opens_iso {α β : Type} {P : Program} {T : TypeId} {d : Kd α} {G : α → Prop} (h : Opens P T d G) (f : β → α) (g : α → β) (hfg : ∀ a, f (g a) = a) : Opens P T (Kd.iso d f) (fun b => G (f b)) := by
  intro H enc w base spare held fuel cs x hx hsz
  obtain ⟨v, h1, h2⟩ := h H enc w base spare held fuel cs x hx hsz
  exact ⟨g v, by show d.K w (f (g v)) cs; rw [hfg]; exact h1, by show G (f (g v)); rw [hfg]; exact h2⟩

section
variable {P : Program} {T : TypeId} {α0 α1 α2 α3 α4 : Type} {d0 : Kd α0} {d1 : Kd α1} {d2 : Kd α2} {d3 : Kd α3} {d4 : Kd α4} {G0 : α0 → Prop} {G1 : α1 → Prop} {G2 : α2 → Prop} {G3 : α3 → Prop} {G4 : α4 → Prop} {f0 f1 f2 f3 f4 : Field}
theorem opens_struct1 (h : P.underlying T = some (.struct #[f0])) (hc : P.cellsOf T = 1) (o0 : f0.offset = 0) (c0 : P.cellsOf f0.type = 1) (h0 : Opens P f0.type d0 G0) : Opens P T d0 G0 := by
  intro H enc w base spare held fuel cs x hx hsz
  obtain ⟨xs, k, hk, rfl, hcl, hxl, hf⟩ := DataW.trod_struct h hx
  have hwz : ∀ (j : Nat) (f : Field) (y : DataW H × List MemPlace), ([f0] : List Field)[j]? = some f → xs[j]? = some y → ∀ n ∈ y.1.weights P f.type, n ≤ 140737488351232 := fun j f y hf' hy n hn => hsz n (by
    simp only [DataW.weights, h]
    exact DataW.weights_mem_each (j := j) (t := f.type) (d := y.1) (by simp only [List.getElem?_map, hf']; rfl) (by rw [List.getElem?_map, hy]; rfl) n hn)
  rw [hc] at hcl
  match xs, hxl, cs, hcl with
  | [y0], _, [v0], _ =>
    have g0 := hf 0 f0 rfl
    simp [o0, c0] at g0
    exact h0 H enc w base spare held k _ _ g0 (hwz 0 f0 _ rfl rfl)
theorem opens_struct4 (h : P.underlying T = some (.struct #[f0, f1, f2, f3])) (hc : P.cellsOf T = 4) (o0 : f0.offset = 0) (o1 : f1.offset = 1) (o2 : f2.offset = 2) (o3 : f3.offset = 3)
    (c0 : P.cellsOf f0.type = 1) (c1 : P.cellsOf f1.type = 1) (c2 : P.cellsOf f2.type = 1) (c3 : P.cellsOf f3.type = 1)
    (h0 : Opens P f0.type d0 G0) (h1 : Opens P f1.type d1 G1) (h2 : Opens P f2.type d2 G2) (h3 : Opens P f3.type d3 G3) :
    Opens P T (Kd.pair d0 (Kd.pair d1 (Kd.pair d2 d3))) (fun v => G0 v.1 ∧ G1 v.2.1 ∧ G2 v.2.2.1 ∧ G3 v.2.2.2) := by
  intro H enc w base spare held fuel cs x hx hsz
  obtain ⟨xs, k, hk, rfl, hcl, hxl, hf⟩ := DataW.trod_struct h hx
  have hwz : ∀ (j : Nat) (f : Field) (y : DataW H × List MemPlace), ([f0, f1, f2, f3] : List Field)[j]? = some f → xs[j]? = some y → ∀ n ∈ y.1.weights P f.type, n ≤ 140737488351232 := fun j f y hf' hy n hn => hsz n (by
    simp only [DataW.weights, h]
    exact DataW.weights_mem_each (j := j) (t := f.type) (d := y.1) (by simp only [List.getElem?_map, hf']; rfl) (by rw [List.getElem?_map, hy]; rfl) n hn)
  rw [hc] at hcl
  match xs, hxl, cs, hcl with
  | [y0, y1, y2, y3], _, [v0, v1, v2, v3], _ =>
    have g0 := hf 0 f0 rfl
    have g1 := hf 1 f1 rfl
    have g2 := hf 2 f2 rfl
    have g3 := hf 3 f3 rfl
    simp [o0, c0] at g0
    simp [o1, c1] at g1
    simp [o2, c2] at g2
    simp [o3, c3] at g3
    obtain ⟨u0, k0, e0⟩ := h0 H enc w base spare held k _ _ g0 (hwz 0 f0 _ rfl rfl)
    obtain ⟨u1, k1, e1⟩ := h1 H enc w base spare held k _ _ g1 (hwz 1 f1 _ rfl rfl)
    obtain ⟨u2, k2, e2⟩ := h2 H enc w base spare held k _ _ g2 (hwz 2 f2 _ rfl rfl)
    obtain ⟨u3, k3, e3⟩ := h3 H enc w base spare held k _ _ g3 (hwz 3 f3 _ rfl rfl)
    exact ⟨(u0, u1, u2, u3), ⟨[v0], [v1, v2, v3], rfl, k0, ⟨[v1], [v2, v3], rfl, k1, ⟨[v2], [v3], rfl, k2, k3⟩⟩⟩, e0, e1, e2, e3⟩
theorem opens_struct5 (h : P.underlying T = some (.struct #[f0, f1, f2, f3, f4])) (hc : P.cellsOf T = 5) (o0 : f0.offset = 0) (o1 : f1.offset = 1) (o2 : f2.offset = 2) (o3 : f3.offset = 3) (o4 : f4.offset = 4)
    (c0 : P.cellsOf f0.type = 1) (c1 : P.cellsOf f1.type = 1) (c2 : P.cellsOf f2.type = 1) (c3 : P.cellsOf f3.type = 1) (c4 : P.cellsOf f4.type = 1)
    (h0 : Opens P f0.type d0 G0) (h1 : Opens P f1.type d1 G1) (h2 : Opens P f2.type d2 G2) (h3 : Opens P f3.type d3 G3) (h4 : Opens P f4.type d4 G4) :
    Opens P T (Kd.pair d0 (Kd.pair d1 (Kd.pair d2 (Kd.pair d3 d4)))) (fun v => G0 v.1 ∧ G1 v.2.1 ∧ G2 v.2.2.1 ∧ G3 v.2.2.2.1 ∧ G4 v.2.2.2.2) := by
  intro H enc w base spare held fuel cs x hx hsz
  obtain ⟨xs, k, hk, rfl, hcl, hxl, hf⟩ := DataW.trod_struct h hx
  have hwz : ∀ (j : Nat) (f : Field) (y : DataW H × List MemPlace), ([f0, f1, f2, f3, f4] : List Field)[j]? = some f → xs[j]? = some y → ∀ n ∈ y.1.weights P f.type, n ≤ 140737488351232 := fun j f y hf' hy n hn => hsz n (by
    simp only [DataW.weights, h]
    exact DataW.weights_mem_each (j := j) (t := f.type) (d := y.1) (by simp only [List.getElem?_map, hf']; rfl) (by rw [List.getElem?_map, hy]; rfl) n hn)
  rw [hc] at hcl
  match xs, hxl, cs, hcl with
  | [y0, y1, y2, y3, y4], _, [v0, v1, v2, v3, v4], _ =>
    have g0 := hf 0 f0 rfl
    have g1 := hf 1 f1 rfl
    have g2 := hf 2 f2 rfl
    have g3 := hf 3 f3 rfl
    have g4 := hf 4 f4 rfl
    simp [o0, c0] at g0
    simp [o1, c1] at g1
    simp [o2, c2] at g2
    simp [o3, c3] at g3
    simp [o4, c4] at g4
    obtain ⟨u0, k0, e0⟩ := h0 H enc w base spare held k _ _ g0 (hwz 0 f0 _ rfl rfl)
    obtain ⟨u1, k1, e1⟩ := h1 H enc w base spare held k _ _ g1 (hwz 1 f1 _ rfl rfl)
    obtain ⟨u2, k2, e2⟩ := h2 H enc w base spare held k _ _ g2 (hwz 2 f2 _ rfl rfl)
    obtain ⟨u3, k3, e3⟩ := h3 H enc w base spare held k _ _ g3 (hwz 3 f3 _ rfl rfl)
    obtain ⟨u4, k4, e4⟩ := h4 H enc w base spare held k _ _ g4 (hwz 4 f4 _ rfl rfl)
    exact ⟨(u0, u1, u2, u3, u4), ⟨[v0], [v1, v2, v3, v4], rfl, k0, ⟨[v1], [v2, v3, v4], rfl, k1, ⟨[v2], [v3, v4], rfl, k2, ⟨[v3], [v4], rfl, k3, k4⟩⟩⟩⟩, e0, e1, e2, e3, e4⟩
end
end Go.Proofs.YtjmaficiinhjpaaDoor.G
