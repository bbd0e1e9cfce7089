/- store's laws: lists of bools, of variables as arguments. -/
import Derived.Test.YtjmaficiinhjpaaDoorOpenKd
import Derived.Test.YtjmaficiinhjpaaDoorStoAllW
namespace Go.Proofs.YtjmaficiinhjpaaDoor.G
open Go.RowKit Go.Deep Go.Proofs.YtjmaficiinhjpaaDoorW.PrintWords

def GoodBools (_ : List Bool) : Prop := True
theorem opens_bools : Opens Tryd.prog 23 (Kd.slice 4 Kd.bool) GoodBools := by
  have h := opens_slice Tryd.underlying23 (opens_bool Tryd.underlying4) (by kernel_rfl)
  intro H enc w base spare held fuel cs x hx hsz
  obtain ⟨v, hv, h1, h2⟩ := h H enc w base spare held fuel cs x hx hsz
  exact ⟨v, hv, trivial⟩
theorem bools_idx {A : Option Addr} {l : List Bool} {w : World} (h : Kd.C Kd.bool w A l.length l) (k : Nat) (hk : k < l.length) :
    ∃ b off, A = some ⟨b, off, none⟩ ∧ b < w.heap.size ∧ ∀ j, j < l.length → w.cell? ⟨b, off + j, none⟩ = some (.bool (l.getD j false)) := by
  obtain ⟨a, rfl, hc⟩ := h.2.2 (by omega)
  have hone : ∀ j, j < l.length → w.cell? (a.add j) = some (.bool (l.getD j false)) := fun j hj => by
    obtain ⟨cs, _, hK, hcell⟩ := hc j _ (List.getElem?_eq_getElem hj)
    obtain rfl : cs = [.bool l[j]] := hK
    have := hcell 0 _ rfl
    rw [show j * Kd.bool.sz + 0 = j by show j * 1 + 0 = j; omega] at this
    rw [this]
    simp [List.getD, hj]
  have h0 := hone 0 (by omega)
  have hsp : a.spot = none := World.cell?_spot h0
  obtain ⟨b, off, sp⟩ := a
  simp only at hsp
  subst hsp
  have e : ∀ j, (⟨b, off, none⟩ : Addr).add j = ⟨b, off + j, none⟩ := fun j => by
    unfold Addr.add
    split
    · rename_i h0; rw [h0]; rfl
    · rfl
  refine ⟨b, off, rfl, ?_, fun j hj => by rw [← e]; exact hone j hj⟩
  rw [e] at h0
  exact World.block_lt_of_cell? w _ h0
end Go.Proofs.YtjmaficiinhjpaaDoor.G
