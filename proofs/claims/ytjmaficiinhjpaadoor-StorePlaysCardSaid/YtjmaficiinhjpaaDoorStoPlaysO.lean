/- wainwrightlaw17.StorePlays: the walk as the row wants it. -/
import Derived.Test.YtjmaficiinhjpaaDoorStoPlays
import Derived.Test.YtjmaficiinhjpaaDoorOpenKd
namespace Go.Proofs.YtjmaficiinhjpaaDoor.G
open Go.RowKit Go.Deep Go.Maps Go.Sort Go.Proofs.YtjmaficiinhjpaaDoorW.PrintWords

abbrev VrS := ByteArray × ByteArray × Int × Int
def toVr (x : VrS) : Vr := ⟨x.1, x.2.1, x.2.2.1, x.2.2.2⟩
def kVr : Kd VrS := Kd.pair Kd.string (Kd.pair Kd.string (Kd.pair (Kd.int .i64) (Kd.int .i64)))
def GoodVr (x : VrS) : Prop := x.1.size ≤ 140737488351232 ∧ x.2.1.size ≤ 140737488351232
def GoodVrs (l : List VrS) : Prop := ∀ x ∈ l, GoodVr x
theorem opens_vr : Opens Tryd.prog 28 (Kd.slice 27 kVr) GoodVrs := by
  have h := opens_slice Tryd.underlying28 (opens_struct4 Tryd.underlying27 (by kernel_rfl) rfl rfl rfl rfl (by kernel_rfl) (by kernel_rfl) (by kernel_rfl) (by kernel_rfl) (opens_string Tryd.underlying9) (opens_string Tryd.underlying9) (opens_int (k := .i64) (by kernel_rfl)) (opens_int (k := .i64) (by kernel_rfl))) (by kernel_rfl)
  intro H enc w base spare held fuel cs x hx hsz
  obtain ⟨v, hv, h1, h2⟩ := h H enc w base spare held fuel cs x hx hsz
  exact ⟨v, hv, fun y hy => ⟨(h2 y hy).1, (h2 y hy).2.1⟩⟩
abbrev OpT := Int × ByteArray × List VrS × Bool
def kOpT : Kd OpT := Kd.pair (Kd.int .i64) (Kd.pair Kd.string (Kd.pair (Kd.slice 27 kVr) Kd.bool))
def GoodOpT (x : OpT) : Prop := x.2.1.size ≤ 140737488351232 ∧ GoodVrs x.2.2.1
def GoodScript (l : List OpT) : Prop := ∀ x ∈ l, GoodOpT x
theorem opens_script : Opens Tryd.prog 37 (Kd.slice 42 kOpT) GoodScript := by
  have h := opens_slice Tryd.underlying37 (opens_struct4 Tryd.underlying42 (by kernel_rfl) rfl rfl rfl rfl (by kernel_rfl) (by kernel_rfl) (by kernel_rfl) (by kernel_rfl) (opens_int Tryd.underlying3) (opens_string Tryd.underlying9) opens_vr (opens_bool Tryd.underlying4)) (by kernel_rfl)
  intro H enc w base spare held fuel cs x hx hsz
  obtain ⟨v, hv, h1, h2⟩ := h H enc w base spare held fuel cs x hx hsz
  exact ⟨v, hv, fun y hy => ⟨(h2 y hy).2.1, (h2 y hy).2.2.1⟩⟩

theorem kVr_cells {w : World} {x : VrS} {cs : List Value} (h : kVr.K w x cs) : cs = (toVr x).cells := by
  obtain ⟨c1, c2, rfl, h1, c3, c4, rfl, h3, c5, c6, rfl, h5, h6⟩ := h
  obtain rfl : c1 = _ := h1
  obtain rfl : c3 = _ := h3
  obtain rfl : c5 = _ := h5
  obtain rfl : c6 = _ := h6
  rfl
theorem addr_plain {w : World} {a : Addr} {u : Value} (h : w.cell? (a.add 0) = some u) : ∃ b off, a = ⟨b, off, none⟩ := by
  have e : a.add 0 = a := by simp [Addr.add]
  rw [e] at h
  have hsp : a.spot = none := World.cell?_spot h
  obtain ⟨b, off, sp⟩ := a
  simp only at hsp
  subst hsp
  exact ⟨b, off, rfl⟩
theorem add_any (b off j : Nat) : (⟨b, off, none⟩ : Addr).add j = ⟨b, off + j, none⟩ := add_off b off j
theorem vr_at {w : World} {A : Option Addr} {l : List VrS} (h : Kd.C kVr w A l.length l) : VarsAt w A (l.map toVr) := by
  intro hp
  rw [List.length_map] at hp
  obtain ⟨a, rfl, hc⟩ := h.2.2 hp
  have hone : ∀ j x, l[j]? = some x → ∀ i u, ((toVr x).cells)[i]? = some u → w.cell? (a.add (j * 4 + i)) = some u := fun j x hx i u hu => by
    obtain ⟨cs, hl, hK, hcell⟩ := hc j x hx
    obtain rfl := kVr_cells hK
    exact hcell i u hu
  have h0 := hone 0 _ (List.getElem?_eq_getElem hp) 0 _ rfl
  rw [show 0 * 4 + 0 = 0 from rfl] at h0
  obtain ⟨b, off, rfl⟩ := addr_plain h0
  rw [add_any] at h0
  refine ⟨b, off, rfl, World.block_lt_of_cell? w _ h0, fun j v hj => ?_⟩
  rw [List.getElem?_map] at hj
  obtain ⟨x, hx, rfl⟩ := Option.map_eq_some_iff.mp hj
  have hh := fun i u hu => by have := hone j x hx i u hu; rw [add_any] at this; exact this
  exact ⟨by have := hh 0 _ rfl; exact this, by have := hh 1 _ rfl; rw [← Nat.add_assoc] at this; exact this, by have := hh 2 _ rfl; rw [← Nat.add_assoc] at this; exact this, by have := hh 3 _ rfl; rw [← Nat.add_assoc] at this; exact this⟩
theorem vr_small {l : List VrS} (h : GoodVrs l) : ∀ v ∈ l.map toVr, v.name.size ≤ maxLen ∧ v.val.size ≤ maxLen := fun v hv => by
  obtain ⟨x, hx, rfl⟩ := List.mem_map.mp hv
  have := h x hx
  unfold maxLen
  exact ⟨by show x.1.size ≤ _; have := this.1; omega, by show x.2.1.size ≤ _; have := this.2; omega⟩
theorem script_at {w : World} {A : Option Addr} {l : List OpT} (h : Kd.C kOpT w A l.length l) (hG : GoodScript l) : ScriptAt w A l.length := by
  intro i hi
  obtain ⟨a, rfl, hc⟩ := h.2.2 (by omega)
  obtain ⟨⟨kd, nm, lv, call⟩, hx⟩ : ∃ x, l[i]? = some x := ⟨_, List.getElem?_eq_getElem hi⟩
  obtain ⟨cs, hl, hK, hcell⟩ := hc i _ hx
  obtain ⟨c1, c2, rfl, h1, c3, c4, rfl, h3, c5, c6, rfl, ⟨Al, cl, h5, hlc, hC⟩, h6⟩ := hK
  obtain rfl : c1 = _ := h1
  obtain rfl : c3 = _ := h3
  obtain rfl : c5 = _ := h5
  obtain rfl : c6 = _ := h6
  have d0 := hcell 0 _ rfl
  have d1 := hcell 1 _ rfl
  have d2 := hcell 2 _ rfl
  have d3 := hcell 3 _ rfl
  obtain ⟨b, off, rfl⟩ : ∃ b off, a = ⟨b, off, none⟩ := by
    obtain ⟨cs0, _, hK0, hcell0⟩ := hc 0 _ (List.getElem?_eq_getElem (show 0 < l.length by omega))
    obtain ⟨x1, x2, rfl, y1, _⟩ := hK0
    obtain rfl : x1 = _ := y1
    have z := hcell0 0 _ rfl
    rw [show 0 * kOpT.sz + 0 = 0 by omega] at z
    exact addr_plain z
  rw [add_any] at d0 d1 d2 d3
  obtain ⟨g1, g2⟩ := hG _ (List.mem_of_getElem? hx)
  have hsz : kOpT.sz = 4 := rfl
  rw [hsz] at d0 d1 d2 d3
  rw [← Nat.add_assoc] at d1 d2 d3
  refine ⟨b, off, kd, nm, Al, cl, lv.map toVr, call, rfl, World.block_lt_of_cell? w _ d0, d0, d1, by rw [List.length_map]; exact d2, d3, vr_at hC, by unfold maxLen; have : nm.size ≤ 140737488351232 := g1; omega, by rw [List.length_map]; exact hC.2.1, vr_small g2⟩
theorem storePlays_walk (A0 : Option Addr) (c0 : Nat) (l0 : List VrS) (A1 : Option Addr) (c1 : Nat) (l1 : List OpT) (w : World) (hC0 : Kd.C kVr w A0 l0.length l0) (_hc0 : l0.length ≤ c0) (hG0 : GoodVrs l0) (hC1 : Kd.C kOpT w A1 l1.length l1) (_hc1 : l1.length ≤ c1) (hG1 : GoodScript l1) :
    Calls Tryd.prog 4 #[.slice A0 l0.length c0, .slice A1 l1.length c1] w fun e w' => e = .returned (.bool true) ∧ Below w.heap.size w w' := by
  have h := plays_any A0 c0 (l0.map toVr) A1 c1 l1.length w (vr_at hC0) (by rw [List.length_map]; exact hC0.2.1) (vr_small hG0) (script_at hC1 hG1) hC1.2.1
  rw [List.length_map] at h
  exact h
end Go.Proofs.YtjmaficiinhjpaaDoor.G
