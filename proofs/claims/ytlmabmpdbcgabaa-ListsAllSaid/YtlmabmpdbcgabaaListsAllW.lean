/- wainwrightlaw05.ListsAll: the walk of the law, for all lists, texts, places. -/
import Derived.Test.YtlmabmpdbcgabaaListsAwake
import Derived.Test.YtlmabmpdbcgabaaOpenKd
namespace Go.Proofs.Ytlmabmpdbcgabaa.G
open Go.RowKit Go.Sort Go.Proofs.Ytlmabmpdbcgabaa.P Go.Proofs.YtlmabmpdbcgabaaW.PrintWords Go.Proofs.Ytlmabmpdbcgabaa.Pure

def GoodStrs (l : List ByteArray) : Prop := l.length ≤ 140737488351232 ∧ ∀ s ∈ l, s.size ≤ 140737488351232
theorem opens_strs : Opens Try.prog 22 (Kd.slice 9 Kd.string) GoodStrs := by
  have h := opens_slice Try.underlying22 (opens_string Try.underlying9) (by kernel_rfl)
  intro H enc w base spare held fuel cs x hx hsz
  obtain ⟨v, hv, h1, h2⟩ := h H enc w base spare held fuel cs x hx hsz
  have b1 : Try.prog.bytesOf 9 = 16 := by kernel_rfl
  rw [b1] at h1
  exact ⟨v, hv, by omega, h2⟩

/-- append to nil of a whole list: a copy. -/
theorem append_copy {w : World} {ops : Array Oper} {rest : List Oper} {o : Oper} {ac : Act} {Q : Exit → Act → World → Prop} (hgd : o.guard = none) (s x : Operand) (ho : o.op = .call { callee := .builtin .append, args := #[s, x], argTypes := #[22, 22] })
    (hs : ac.eval s = .slice none 0 0) (A : Option Addr) (c : Nat) (l : List ByteArray) (hx : ac.eval x = .slice A l.length c) (hS : Strs w A l) (hl : l.length ≤ 1000000)
    (h : ∀ v' w', Row w' w.heap.size v' l → Below w.heap.size w w' → wpList Try.prog ops Q rest (ac.put o.dst v') w') : wpList Try.prog ops Q (o :: rest) ac w := by
  obtain ⟨i0, hi, hz0, hz1, hz2⟩ := info_parts info_str
  cases A with
  | none =>
    have h0 : l = [] := by
      cases l with
      | nil => rfl
      | cons y r =>
        obtain ⟨b, off, he, _⟩ := hS.cells (by simp)
        cases he
    subst h0
    have hrun : (Builtin.append_ #[22, 22] o.type #[.slice none 0 0, .slice none 0 c]).run Try.prog w = .ok (.slice none 0 0) w := by
      simp [Builtin.append_, run_underlying Try.underlying22, sizeOf, typeInfo, hi, Builtin.lenOf, Builtin.firstCells]
    refine wpList_plain hgd fun K hK => ?_
    unfold Oper.wp execOp
    simp only [List.length_nil] at hx
    simp only [ho, resolve, invoke, builtin, Sem.run_bind, Sem.run_pure, Result.andThen_ok, List.map_toArray, List.map_cons, List.map_nil, hs, hx, hrun]
    exact hK _ _ (h _ _ (Row.nil _ _) (Below.refl _ _))
  | some ad =>
    refine wpList_append_own_at _ hgd s x 22 ho w.heap.size 9 i0 _ 1 16 Try.underlying22 hi hz0 hz1 hz2 rfl (by decide) (.slice none 0 0) 0 [] hs (World.ownsRow_nil _ _ _ _) ad l.length c (l.map Value.string) hx (by simp) (fun j u hu => ?_) (by intro u hu; obtain ⟨z, _, rfl⟩ := List.mem_map.mp hu; rfl) (by unfold maxLen; omega) (by omega) (Nat.le_refl _) ?_
    · rw [List.getElem?_map] at hu
      obtain ⟨z, hz, rfl⟩ := Option.map_eq_some_iff.mp hu
      have hp : 0 < l.length := by have := (List.getElem?_eq_some_iff.mp hz).1; omega
      obtain ⟨b, off, he, _, hc⟩ := hS.cells hp
      obtain rfl := Option.some.inj he
      rw [add_any]
      exact hc j z hz
    · intro v' w' hown hg _ _
      rw [Nat.zero_add] at hown
      exact h v' w' hown ((Below.refl _ w).grown hg (Nat.le_refl _) (fun k hk => by simp [Value.ownBlock] at hk))

set_option maxHeartbeats 8000000 in
set_option maxRecDepth 100000 in
theorem listsAll_walk (A1 : Option Addr) (c1 : Nat) (a : List ByteArray) (A2 : Option Addr) (c2 : Nat) (b : List ByteArray) (out : Bool) (f t : Int) (x y : ByteArray) (w : World)
    (hCa : Kd.C Kd.string w A1 a.length a) (hca : a.length ≤ c1) (hGa : GoodStrs a) (hCb : Kd.C Kd.string w A2 b.length b) (hcb : b.length ≤ c2) (hGb : GoodStrs b)
    (_w3 : (Lit.int .i64 f).wf = true) (_w4 : (Lit.int .i64 t).wf = true) (hx0 : x.size ≤ 140737488351232) (hy0 : y.size ≤ 140737488351232) :
    Calls Try.prog 3 #[.slice A1 a.length c1, .slice A2 b.length c2, .bool out, .int .i64 f, .int .i64 t, .string x, .string y] w fun e w' => e = .returned (.bool true) ∧ Below w.heap.size w w' := by
  obtain ⟨i0, hi, hz0, hz1, hz2⟩ := info_parts info_str
  have HA0 := Lib.hid (show Strs w A1 a from hCa)
  have HB0 := Lib.hid (show Strs w A2 b from hCb)
  have hga := hGa.1
  have hgb := hGb.1
  clear hCa hCb hGa hGb
  have T1 : Hid True := trivial
  have T2 : Hid True := trivial
  have T3 : Hid True := trivial
  have T4 : Hid True := trivial
  have T5 : Hid True := trivial
  have T6 : Hid True := trivial
  have T7 : Hid True := trivial
  have T8 : Hid True := trivial
  have T9 : Hid True := trivial
  have T10 : Hid True := trivial
  have T11 : Hid True := trivial
  have T12 : Hid True := trivial
  have T13 : Hid True := trivial
  have T14 : Hid True := trivial
  have T15 : Hid True := trivial
  have T16 : Hid True := trivial
  have T90 : Hid True := trivial
  have T91 : Hid True := trivial
  go_enter Try.func3, Try.ntmps3
  go_wp2_with (first
    | (clear T90; go_at_call 7; refine (few_b _ A1 c1 a HA0.out hca hga).mono ?_; rintro e w1 ⟨fa, rfl, hfa, b1⟩; have F1 := Lib.hid hfa; have B1 := Lib.hid b1; clear hfa b1)
    | (go_at_call 7; refine (few_b _ A2 c2 b (HB0.out.below B1.out) hcb hgb).mono ?_; rintro e w2 ⟨fb, rfl, hfb, b2⟩; have F2 := Lib.hid hfb; have B2 := Lib.hid (B1.out.trans (b2.mono B1.out.size)); clear hfb b2)
    | (clear T91; go_at_call 8; refine (awake_walk _).mono ?_; rintro e w3 ⟨rfl, b3⟩; first | have B9 := Lib.hid (B2.out.trans (b3.mono B2.out.size)) | have B9 := Lib.hid (B1.out.trans (b3.mono B1.out.size)))
    | (at_builtin; refine append_copy rfl _ _ rfl rfl A1 c1 a rfl (HA0.out.below B2.out) (by have := (F1.out (by assumption)).1; omega) ?_; intro vx wx hrx hbx; obtain ⟨AX, cX, rfl, hcx, hsx⟩ := hrx.strs; have HBX := Lib.hid (B2.out.trans (hbx.mono B2.out.size)); have HA := Lib.hid (HA0.out.below HBX.out); have HB := Lib.hid (HB0.out.below HBX.out); have HX := Lib.hid hsx; have SA : Hid (Small a) := Lib.hid ⟨by have := (F1.out (by assumption)).1; omega, fun s hs => by have := (F1.out (by assumption)).2 s hs; omega⟩; have SB : Hid (Small b) := Lib.hid ⟨by have := (F2.out (by assumption)).1; omega, fun s hs => by have := (F2.out (by assumption)).2 s hs; omega⟩; have hla : a.length ≤ 1000000 := (by have := SA.out.1; omega); have hla2 : a.length ≤ 1000 := SA.out.1; have hlb2 : b.length ≤ 1000 := SB.out.1; have hx1 : x.size ≤ 1000 := (by omega); have hy1 : y.size ≤ 1000 := (by omega); have B0 : Hid (Below wx.heap.size wx wx) := Lib.hid (Below.refl _ _); clear hrx hbx hsx T91)
    | (clear T1; go_at_call 10; refine (sort_calls _ AX cX a (HX.out.below B0.out) hla).mono ?_; rintro e w10 ⟨A10, c10, rfl, h10, s10, b10⟩; have B10 := Lib.hid (B0.out.trans (b10.mono B0.out.size)); have S10 := Lib.hid s10; clear s10 b10)
    | (clear T2; go_at_call 11; refine (rsort_calls A1 c1 a _ (HA.out.below B10.out) hla).mono ?_; rintro e w11 ⟨m, hm, A11, c11, rfl, h11, s11, b11⟩; obtain rfl := sort_same hm; have B11 := Lib.hid (B10.out.trans (b11.mono B10.out.size)); have S11 := Lib.hid s11; have Q11 := Lib.hid (S10.out.below b11); clear s11 b11 hm)
    | (clear T3; go_at_call 9; refine (same_calls _ A10 A11 c10 c11 (sortB a) Q11.out S11.out h10 h11 (by have := sortB_len a; omega)).mono ?_; rintro e w12 ⟨rfl, b12⟩; have B12 := Lib.hid (B11.out.trans (b12.mono B11.out.size)); clear b12)
    | (clear T4; go_at_call 12; refine (lfilter_calls _ A2 AX c2 cX b a out (HB.out.below B12.out) (HX.out.below B12.out) SB.out SA.out).mono ?_; rintro e w13 ⟨A13, c13, rfl, h13, s13, b13⟩; have B13 := Lib.hid (B12.out.trans (b13.mono B12.out.size)); have S13 := Lib.hid s13; clear s13 b13)
    | (clear T5; go_at_call 13; refine (rfilter_calls _ A2 A1 c2 c1 b a out (HB.out.below B13.out) (HA.out.below B13.out) hcb hca SB.out SA.out).mono ?_; rintro e w14 ⟨A14, c14, rfl, h14, s14, b14⟩; have B14 := Lib.hid (B13.out.trans (b14.mono B13.out.size)); have S14 := Lib.hid s14; have Q14 := Lib.hid (S13.out.below b14); clear s14 b14)
    | (clear T6; go_at_call 9; refine (same_calls _ A13 A14 c13 c14 (keepB (pats b) out a) Q14.out S14.out h13 h14 (by have := keep_len (pats b) out a; omega)).mono ?_; rintro e w15 ⟨rfl, b15⟩; have B15 := Lib.hid (B14.out.trans (b15.mono B14.out.size)); clear b15)
    | (clear T7; go_at_call 14; refine (pairs_calls _ AX A2 cX c2 a b (HX.out.below B15.out) (HB.out.below B15.out) hcx hcb SA.out SB.out).mono ?_; rintro e w16 ⟨A16, c16, rfl, h16, s16, b16⟩; have B16 := Lib.hid (B15.out.trans (b16.mono B15.out.size)); have S16 := Lib.hid s16; clear s16 b16)
    | (clear T8; go_at_call 15; refine (rpairs_calls _ A1 A2 c1 c2 a b (HA.out.below B16.out) (HB.out.below B16.out) hca hcb SA.out SB.out).mono ?_; rintro e w17 ⟨A17, c17, rfl, h17, s17, b17⟩; have B17 := Lib.hid (B16.out.trans (b17.mono B16.out.size)); have S17 := Lib.hid s17; have Q17 := Lib.hid (S16.out.below b17); clear s17 b17)
    | (clear T9; go_at_call 9; refine (same_calls _ A16 A17 c16 c17 (pairs a b) Q17.out S17.out h16 h17 (by rw [pairs_len]; omega)).mono ?_; rintro e w18 ⟨rfl, b18⟩; have B18 := Lib.hid (B17.out.trans (b18.mono B17.out.size)); clear b18)
    | (clear T10; go_at_call 16; refine (slice_calls _ AX cX a f t (HX.out.below B18.out) (by omega) hcx).mono ?_; rintro e w19 ⟨A19, c19, rfl, h19, s19, b19⟩; have B19 := Lib.hid (B18.out.trans (b19.mono B18.out.size)); have S19 := Lib.hid s19; clear s19 b19)
    | (clear T11; go_at_call 17; refine (rslice_calls _ A1 c1 a f t (HA.out.below B19.out) hca (by omega)).mono ?_; rintro e w20 ⟨A20, c20, rfl, h20, s20, b20⟩; have B20 := Lib.hid (B19.out.trans (b20.mono B19.out.size)); have S20 := Lib.hid s20; have Q20 := Lib.hid (S19.out.below b20); clear s20 b20)
    | (clear T12; go_at_call 9; refine (same_calls _ A19 A20 c19 c20 (cutB f t 0 a) Q20.out S20.out h19 h20 (by have := cut_len f t a; omega)).mono ?_; rintro e w21 ⟨rfl, b21⟩; have B21 := Lib.hid (B20.out.trans (b21.mono B20.out.size)); clear b21)
    | (clear T13; go_at_call 18; refine (each_calls _ AX cX a x y (HX.out.below B21.out) hcx SA.out hx1 hy1).mono ?_; rintro e w22 ⟨A22, c22, rfl, h22, s22, b22⟩; have B22 := Lib.hid (B21.out.trans (b22.mono B21.out.size)); have S22 := Lib.hid s22; clear s22 b22)
    | (clear T14; go_at_call 19; refine (reach_calls _ A1 c1 a x y (HA.out.below B22.out) hca SA.out hx1 hy1).mono ?_; rintro e w23 ⟨A23, c23, rfl, h23, s23, b23⟩; have B23 := Lib.hid (B22.out.trans (b23.mono B22.out.size)); have S23 := Lib.hid s23; have Q23 := Lib.hid (S22.out.below b23); clear s23 b23)
    | (clear T15; go_at_call 9; refine (same_calls _ A22 A23 c22 c23 (eachB x y a) Q23.out S23.out h22 h23 (by simp [eachB]; omega)).mono ?_; rintro e w24 ⟨rfl, b24⟩; have B24 := Lib.hid (B23.out.trans (b24.mono B23.out.size)); clear b24)
    | (clear T16; go_at_call 9; refine (same_calls _ AX A1 cX c1 a (HX.out.below B24.out) (HA.out.below B24.out) hcx hca hla).mono ?_; rintro e w25 ⟨rfl, b25⟩; have B25 := Lib.hid (B24.out.trans (b25.mono B24.out.size)); clear b25)
    | (go_at_call 8; refine (awake_walk _).mono ?_; rintro e w26 ⟨rfl, b26⟩; have B26 := Lib.hid (B25.out.trans (b26.mono B25.out.size)); clear b26))
  all_goals go_ret
  · exact ⟨rfl, B9.out⟩
  · exact ⟨rfl, HBX.out.trans (B26.out.mono HBX.out.size)⟩
  · exact ⟨rfl, B9.out⟩
  · exact ⟨rfl, B9.out⟩
end Go.Proofs.Ytlmabmpdbcgabaa.G
