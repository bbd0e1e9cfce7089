/- store.All: the plain law of the values met in a range over the map. -/
import Derived.Test.YtjmaficiinhjpaaDoorStoAll
namespace Go.Proofs.YtjmaficiinhjpaaDoor.G
open Go.RowKit Go.Maps Go.WideMaps Go.Sort

structure Met (G : List Vr) (left : Lit → Bool) (L : List Vr) : Prop where
  nodup : (L.map Vr.name).Nodup
  mem : ∀ v, v ∈ L ↔ (lookL G v.name = some v ∧ left (keyL v.name) = false)
theorem datum_inj {u v : Vr} (h : u.datum = v.datum) : u = v := by
  have : u.cell = v.cell := varR_inv (v := u.cell) (e := v) (ps := []) (by rw [varR_mk, h])
  simp only [Vr.cell, Value.agg.injEq, Array.mk.injEq, List.cons.injEq, Value.string.injEq, Value.int.injEq, true_and, and_true] at this
  obtain ⟨h1, h2, h3, h4⟩ := this
  cases u; cases v
  simp_all
theorem met_look {G : List Vr} {D : DataW Unit} {x : ByteArray} {c : Vr} (hat : ∀ x z, D.atKey (keyL x) z = (lookD G x).getD z) (h : ∀ zd, D.atKey (keyL x) zd = c.datum) : lookL G x = some c := by
  have h1 := fun z => (hat x z).symm.trans (h z)
  unfold lookD at h1
  cases e : lookL G x with
  | none =>
    rw [e] at h1
    have a := (h1 zeroV.datum).trans (h1 (Vr.datum ⟨⟨#[]⟩, ⟨#[]⟩, 1, 0⟩)).symm
    have := congrArg Vr.fl (datum_inj (u := zeroV) (v := ⟨⟨#[]⟩, ⟨#[]⟩, 1, 0⟩) a)
    exact absurd this (by decide)
  | some u =>
    rw [e] at h1
    rw [datum_inj (h1 zeroV.datum)]
theorem Met.start {G : List Vr} {D : DataW Unit} (hhas : ∀ x, Maps.has D (keyL x) = (lookD G x).isSome) : Met G (Maps.has D) [] :=
  ⟨by simp, fun v => by
    constructor
    · intro h; cases h
    · rintro ⟨h1, h2⟩
      rw [hhas, lookD, h1] at h2
      cases h2⟩
theorem Met.step {G : List Vr} {left : Lit → Bool} {L : List Vr} {x : ByteArray} {c : Vr} (h : Met G left L) (hlk : left (keyL x) = true) (hc : lookL G x = some c) : Met G (fun z => left z && !z.sameKey (keyL x)) (L ++ [c]) := by
  have hn : c.name = x := (look_mem hc).2
  have hnew : ∀ v ∈ L, v.name ≠ x := fun v hv e => by
    have := ((h.mem v).1 hv).2
    rw [e, hlk] at this; cases this
  refine ⟨?_, fun v => ?_⟩
  · rw [List.map_append, List.nodup_append]
    refine ⟨h.nodup, by simp, fun a ha b hb => ?_⟩
    obtain ⟨v, hv, rfl⟩ := List.mem_map.mp ha
    simp only [List.map_cons, List.map_nil, List.mem_singleton] at hb
    subst hb
    rw [hn]; exact hnew v hv
  · rw [List.mem_append, List.mem_singleton, h.mem v]
    by_cases hy : v.name = x
    · rw [hy]
      have hlk2 : left (.string x.data.toList) = true := hlk
      simp only [hc, keyL, Lit.sameKey]
      constructor
      · rintro (h | rfl)
        · exact absurd h.2 (by simp [hlk2])
        · simp
      · rintro ⟨h1, _⟩
        exact Or.inr (Option.some.inj h1).symm
    · have hne : v ≠ c := fun e => hy (by rw [e, hn])
      have hk : (keyL v.name).sameKey (keyL x) = false := by
        simp only [keyL, Lit.sameKey, beq_eq_false_iff_ne]
        exact fun e => hy (keyL_inj (by unfold keyL; rw [e]))
      simp [hne, hk]
theorem rises_nodup {G : List Vr} (h : RisesV G) : (G.map Vr.name).Nodup := by
  unfold List.Nodup
  rw [List.pairwise_map]
  exact List.Pairwise.imp (R := fun a b : Vr => ltN a.name b.name) (fun {a b : Vr} (hab : ltN a.name b.name) (e : a.name = b.name) => ltN_irrefl a.name (by rw [← e] at hab; exact hab)) h
theorem look_self : ∀ {G : List Vr} {v : Vr}, RisesV G → v ∈ G → lookL G v.name = some v
  | g :: G, v, h, hv => by
    have h' := List.pairwise_cons.mp h
    rw [lookL]
    rcases List.mem_cons.mp hv with rfl | hv
    · rw [look_none (fun u hu e => ltN_irrefl u.name (by have := h'.1 u hu; rw [← e] at this; exact this))]
      simp
    · rw [look_self h'.2 hv]
theorem Met.ends {G : List Vr} {left : Lit → Bool} {L : List Vr} (h : Met G left L) (hG : RisesV G) (hl : ∀ kl, left kl = false) : L.Perm G := by
  have nd : ∀ l : List Vr, (l.map Vr.name).Nodup → l.Nodup := fun l hh => by
    unfold List.Nodup at hh ⊢
    rw [List.pairwise_map] at hh
    exact hh.imp (fun {a b} hab e => hab (by rw [e]))
  refine (List.perm_ext_iff_of_nodup (nd L h.nodup) (nd G (rises_nodup hG))).2 fun v => ?_
  rw [h.mem v, hl]
  constructor
  · rintro ⟨h1, _⟩
    exact (look_mem h1).1
  · intro hv
    exact ⟨look_self hG hv, rfl⟩
end Go.Proofs.YtjmaficiinhjpaaDoor.G
