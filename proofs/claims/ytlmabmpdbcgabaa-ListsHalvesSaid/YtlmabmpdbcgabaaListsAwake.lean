/- lists: the chapter's example (awake). -/
import Derived.Test.YtlmabmpdbcgabaaListsLaw
namespace Go.Proofs.Ytlmabmpdbcgabaa.G
open Go.RowKit Go.Sort Go.Proofs.Ytlmabmpdbcgabaa.P Go.Proofs.YtlmabmpdbcgabaaW.PrintWords Go.Proofs.Ytlmabmpdbcgabaa.Pure

theorem strs_block {w : World} {b : Nat} {C : Array Value} {fr : Nat × Nat} (l : List ByteArray) (h : w.heap[b]? = some (.cells C 9 fr)) (hC : C = (l.map Value.string).toArray) (hl : l.length ≤ 1000) : Strs w (some ⟨b, 0, none⟩) l := by
  subst hC
  refine Strs.mk (by omega) (fun j s hs => ?_)
  rw [Nat.zero_add]
  simp [World.cell?, h, hs]
theorem small_of (l : List ByteArray) (h : (decide (l.length ≤ 1000) && l.all (fun s => decide (s.size ≤ 1000))) = true) : Small l := by
  simp only [Bool.and_eq_true, decide_eq_true_eq, List.all_eq_true] at h
  exact ⟨h.1, fun s hs => h.2 s hs⟩
def aw1 : List ByteArray := [(⟨#[37, 46, 99]⟩ : ByteArray)]
def aw2 : List ByteArray := [(⟨#[97, 46, 99]⟩ : ByteArray), (⟨#[98, 46, 104]⟩ : ByteArray)]
def aw3 : List ByteArray := [(⟨#[97, 46, 99]⟩ : ByteArray)]
def aw4 : List ByteArray := [(⟨#[98]⟩ : ByteArray), (⟨#[97]⟩ : ByteArray), (⟨#[98]⟩ : ByteArray)]
def aw5 : List ByteArray := [(⟨#[97]⟩ : ByteArray), (⟨#[98]⟩ : ByteArray)]
def aw6 : List ByteArray := [(⟨#[97]⟩ : ByteArray), (⟨#[98]⟩ : ByteArray), (⟨#[99]⟩ : ByteArray)]
def aw7 : List ByteArray := [(⟨#[97]⟩ : ByteArray)]
def aw8 : List ByteArray := [(⟨#[49]⟩ : ByteArray), (⟨#[50]⟩ : ByteArray)]
def aw9 : List ByteArray := [(⟨#[97, 49]⟩ : ByteArray), (⟨#[50]⟩ : ByteArray)]
theorem aw_filter : keepB (pats aw1) false aw2 = aw3 := by decide +kernel
theorem aw_sort : sortB aw4 = aw5 := by
  refine sort_same (l := aw4) ⟨?_, fun x => ?_⟩
  · unfold Rises aw5
    refine List.pairwise_cons.mpr ⟨fun z hz => ?_, List.pairwise_singleton _ _⟩
    obtain rfl : z = _ := List.mem_singleton.mp hz
    show (_ : List UInt8) < _
    rw [Lib.toList_data, Lib.toList_data]
    decide
  · simp [aw4, aw5]
    intro h
    exact Or.inr h
theorem aw_slice : (cutB 2 9 0 aw6).length = 2 := by decide +kernel
theorem aw_pairs : pairs aw7 aw8 = aw9 := by decide +kernel
theorem aw_each (a b : ByteArray) : (eachB a b aw7).length = 1 := rfl
theorem block_two (w : World) (o1 o2 : Obj) : ((w.alloc o1).alloc o2).heap[w.heap.size]? = some o1 := by
  rw [Below.heap_alloc _ _ _ (by simp), heap_alloc_new]
theorem block_two' (w : World) (o1 o2 : Obj) : ((w.alloc o1).alloc o2).heap[w.heap.size + 1]? = some o2 := by
  have := heap_alloc_new (w.alloc o1) o2
  simpa using this

set_option maxHeartbeats 4000000 in
set_option maxRecDepth 100000 in
theorem awake_walk (w : World) : Calls Try.prog 8 #[] w fun e w' => e = .returned (.bool true) ∧ Below w.heap.size w w' := by
  have T1 : Hid True := trivial
  have T2 : Hid True := trivial
  go_enter Try.func8, Try.ntmps8
  go_wp2_with (first
    | (go_at_call 12; refine (lfilter_calls _ _ _ 1 2 aw1 aw2 false (strs_block aw1 (block_two _ _ _) rfl (by decide)) (strs_block aw2 (block_two' _ _ _) rfl (by decide)) (small_of _ (by decide)) (small_of _ (by decide))).mono ?_; rw [aw_filter]; rintro e w1 ⟨A1, c1, rfl, h1, s1, b1⟩; have B1 := Lib.hid ((((Below.refl w.heap.size w).alloc (Nat.le_refl _) _).alloc (by first | (simp; done) | (simp; omega)) _).trans (b1.mono (by first | (simp; done) | (simp; omega)))); have S1 := Lib.hid s1; clear s1 b1)
    | (clear T1; go_at_call 9; refine (same_calls _ A1 _ c1 1 aw3 (S1.out.below ((Below.refl _ _).alloc (Nat.le_refl _) _)) (strs_block aw3 (heap_alloc_new _ _) rfl (by decide)) h1 (by decide) (by decide)).mono ?_; rintro e w2 ⟨rfl, b2⟩; have B2 := Lib.hid ((B1.out.alloc B1.out.size _).trans (b2.mono (by have := B1.out.size; simp; omega))); clear b2)
    | (go_at_call 10; refine (sort_calls _ _ 3 aw4 (strs_block aw4 (heap_alloc_new _ _) rfl (by decide)) (by decide)).mono ?_; rw [aw_sort]; rintro e w3 ⟨A3, c3, rfl, h3, s3, b3⟩; have B3 := Lib.hid ((B2.out.alloc B2.out.size _).trans (b3.mono (by have := B2.out.size; simp; omega))); have S3 := Lib.hid s3; clear s3 b3)
    | (clear T2; go_at_call 9; refine (same_calls _ A3 _ c3 2 aw5 (S3.out.below ((Below.refl _ _).alloc (Nat.le_refl _) _)) (strs_block aw5 (heap_alloc_new _ _) rfl (by decide)) h3 (by decide) (by decide)).mono ?_; rintro e w4 ⟨rfl, b4⟩; have B4 := Lib.hid ((B3.out.alloc B3.out.size _).trans (b4.mono (by have := B3.out.size; simp; omega))); clear b4)
    | (go_at_call 16; refine (slice_calls _ _ 3 aw6 2 9 (strs_block aw6 (heap_alloc_new _ _) rfl (by decide)) (by decide) (by decide)).mono ?_; rintro e w5 ⟨A5, c5, rfl, h5, s5, b5⟩; rw [aw_slice]; have B5 := Lib.hid ((B4.out.alloc B4.out.size _).trans (b5.mono (by have := B4.out.size; simp; omega))); clear s5 b5)
    | (go_at_call 14; refine (pairs_calls _ _ _ 1 2 aw7 aw8 (strs_block aw7 (block_two _ _ _) rfl (by decide)) (strs_block aw8 (block_two' _ _ _) rfl (by decide)) (by decide) (by decide) (small_of _ (by decide)) (small_of _ (by decide))).mono ?_; rw [aw_pairs]; rintro e w6 ⟨A6, c6, rfl, h6, s6, b6⟩; have B6 := Lib.hid (((B5.out.alloc B5.out.size _).alloc (by have := B5.out.size; simp; omega) _).trans (b6.mono (by have := B5.out.size; simp; omega))); have S6 := Lib.hid s6; clear s6 b6)
    | (go_at_call 9; refine (same_calls _ A6 _ c6 2 aw9 (S6.out.below ((Below.refl _ _).alloc (Nat.le_refl _) _)) (strs_block aw9 (heap_alloc_new _ _) rfl (by decide)) h6 (by decide) (by decide)).mono ?_; rintro e w7 ⟨rfl, b7⟩; have B7 := Lib.hid ((B6.out.alloc B6.out.size _).trans (b7.mono (by have := B6.out.size; simp; omega))); clear b7)
    | (go_at_call 18; refine (each_calls _ _ 1 aw7 _ _ (strs_block aw7 (heap_alloc_new _ _) rfl (by decide)) (by decide) (small_of _ (by decide)) (by decide) (by decide)).mono ?_; rintro e w8 ⟨A8, c8, rfl, h8, s8, b8⟩; rw [aw_each]; have B8 := Lib.hid ((B7.out.alloc B7.out.size _).trans (b8.mono (by have := B7.out.size; simp; omega))); clear s8 b8))
  go_ret
  exact ⟨rfl, B8.out⟩
end Go.Proofs.Ytlmabmpdbcgabaa.G
