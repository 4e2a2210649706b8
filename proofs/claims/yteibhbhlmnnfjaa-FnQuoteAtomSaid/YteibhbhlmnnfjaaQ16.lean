/- What functions of the program come to, written by a program of this session (mwprint.py); no condition. -/
import Derived.Test.YteibhbhlmnnfjaaQ0
import Derived.Test.YteibhbhlmnnfjaaQ1
import Derived.Test.YteibhbhlmnnfjaaQ3
import Derived.Test.YteibhbhlmnnfjaaQ7
namespace Go.Proofs.Yteibhbhlmnnfjaa.Q
open Go.RowKit Go.Proofs.YteibhbhlmnnfjaaW.PrintWords Go.Proofs.YteibhbhlmnnfjaaW.PrintLast Go.Proofs.YteibhbhlmnnfjaaW.PrintMore
attribute [local go_sem] max2_int min2_int max_two min_two max_three min_three max_four min_four   -- for this text's walks alone
set_option linter.unusedVariables false
set_option linter.unusedSimpArgs false

/-! ### laws_FnQuoteAtom: function 5 -/
def laws_FnQuoteAtom.j0 : Nat → ByteArray → ByteArray → Bool → Option (Bool)
  | 0, _, _, _ => none
  | k + 1, x3, x4, x19 => if x19 = true then ((spec_QuoteWord.f k x3).bind fun t420 => (some (x4.toList == t420.toList))) else (if 0 < (x4.size : Int) then (if (bt x4 0) = 34 then ((impl_AtomValid.f x4).bind fun t421 => (if t421 = true then (some false) else (if (x4.size : Int) ≥ 2 then (if 0 ≤ (wrap64 ((x4.size : Int) - 1)) then (if (wrap64 ((x4.size : Int) - 1)) < (x4.size : Int) then (some ((bt x4 (wrap64 ((x4.size : Int) - 1))) == 34)) else (none)) else (none)) else (some false)))) else ((impl_AtomValid.f x4).bind fun t422 => (if t422 = true then (some (x4.toList == x3.toList)) else (some false)))) else (none))
def laws_FnQuoteAtom.f (k : Nat) (l0 : List Int) : Option (Bool) := if (l0.length : Int) > 1048576 then (some true) else ((spec_DrawQuoteWord.f k l0).bind fun t417 => ((impl_QuoteWord.f k t417).bind fun t418 => ((spec_QuoteWord.f k t417).bind fun t419 => (if t418.toList = t419.toList then (laws_FnQuoteAtom.j0 k t417 t418 (t418.toList == ([] : List UInt8))) else (laws_FnQuoteAtom.j0 k t417 t418 true)))))
theorem laws_FnQuoteAtom.mono_l : ∀ k, (∀ y0 y1 y2, LeO (laws_FnQuoteAtom.j0 k y0 y1 y2) (laws_FnQuoteAtom.j0 (k + 1) y0 y1 y2))
  | 0 => fun _ _ _ r h => by simp [laws_FnQuoteAtom.j0] at h
  | k + 1 => by
    have ih0 := laws_FnQuoteAtom.mono_l k
    · intro y0 y1 y2
      unfold laws_FnQuoteAtom.j0
      repeat' first
      | (with_reducible exact ih0 _ _ _)
      | (with_reducible exact impl_QuoteWord.mono _ _)
      | (with_reducible exact spec_DrawQuoteWord.mono _ _)
      | (with_reducible exact spec_QuoteWord.mono _ _)
      | (with_reducible exact LeO.refl _)
      | (with_reducible exact LeO.none _)
      | (with_reducible refine LeO.ite ?_ ?_)
      | (with_reducible refine LeO.bind ?_ (fun _ => ?_))
      | exact ih0 _ _ _
      | exact impl_QuoteWord.mono _ _
      | exact spec_DrawQuoteWord.mono _ _
      | exact spec_QuoteWord.mono _ _
      | exact LeO.none _
      | refine LeO.ite ?_ ?_
      | refine LeO.bind ?_ (fun _ => ?_)
theorem laws_FnQuoteAtom.mono : ∀ a0 k, LeO (laws_FnQuoteAtom.f k a0) (laws_FnQuoteAtom.f (k + 1) a0) := by
  intro a0 k
  have ih0 := laws_FnQuoteAtom.mono_l k
  unfold laws_FnQuoteAtom.f
  repeat' first
      | (with_reducible exact ih0 _ _ _)
      | (with_reducible exact impl_QuoteWord.mono _ _)
      | (with_reducible exact spec_DrawQuoteWord.mono _ _)
      | (with_reducible exact spec_QuoteWord.mono _ _)
      | (with_reducible exact LeO.refl _)
      | (with_reducible exact LeO.none _)
      | (with_reducible refine LeO.ite ?_ ?_)
      | (with_reducible refine LeO.bind ?_ (fun _ => ?_))
      | exact ih0 _ _ _
      | exact impl_QuoteWord.mono _ _
      | exact spec_DrawQuoteWord.mono _ _
      | exact spec_QuoteWord.mono _ _
      | exact LeO.none _
      | refine LeO.ite ?_ ?_
      | refine LeO.bind ?_ (fun _ => ?_)
set_option maxHeartbeats 8000000 in
set_option maxRecDepth 100000 in
theorem laws_FnQuoteAtom.calls (k : Nat) (A0 : Option Addr) (c0 : Nat) (l0 : List Int) (r : Bool) (w : World) (hr0 : Kd.C (Kd.int .u8) w A0 l0.length l0) (hc0 : l0.length ≤ c0) (h : laws_FnQuoteAtom.f k l0 = some r) :
    Calls Try.prog 5 #[.slice A0 l0.length c0] w fun e w' => e = .returned (.bool r) ∧ Below w.heap.size w w' := by
  have HR0 := Aside0.mk hr0
  have HC0 := Aside0.mk hc0
  clear hr0 hc0
  have HB := Aside0.mk (Below.refl w.heap.size w)
  have H : (if (l0.length : Int) > 1048576 then (some true) else ((spec_DrawQuoteWord.f k l0).bind fun t417 => ((impl_QuoteWord.f k t417).bind fun t418 => ((spec_QuoteWord.f k t417).bind fun t419 => (if t418.toList = t419.toList then (laws_FnQuoteAtom.j0 k t417 t418 (t418.toList == ([] : List UInt8))) else (laws_FnQuoteAtom.j0 k t417 t418 true)))))) = some r := h
  clear h
  by_cases c2 : (l0.length : Int) > 1048576
  · rw [if_pos c2] at H
    have c2b0 : decide (1048576 < (l0.length : Int)) = true := decide_eq_true c2
    have c2b1 : decide (1048576 < l0.length) = true := decide_eq_true (by omega)
    clear c2
    obtain rfl := Option.some.inj H
    go_enter Try.func5, Try.ntmps5
    go_wp2
    go_ret
    exact ⟨by first | rfl | (simp [errW_none, errW_some] <;> rfl) | (simp [*, errW_none, errW_some] <;> rfl), by repeat (first | (with_reducible first | exact HB.out | apply below_alloc | apply pw_below_drewN | apply below_drew1) | exact HB.out)⟩
  · rw [if_neg c2] at H
    have c2b0 : decide (1048576 < (l0.length : Int)) = false := decide_eq_false c2
    have c2b1 : decide (1048576 < l0.length) = false := decide_eq_false (by omega)
    clear c2
    replace H := Option.bind_eq_some_iff.mp H
    obtain ⟨t417, A30, H⟩ := H
    replace H : ((impl_QuoteWord.f k t417).bind fun t418 => ((spec_QuoteWord.f k t417).bind fun t419 => (if t418.toList = t419.toList then (laws_FnQuoteAtom.j0 k t417 t418 (t418.toList == ([] : List UInt8))) else (laws_FnQuoteAtom.j0 k t417 t418 true)))) = some r := H
    have A3 := Aside0.mk A30
    clear A30
    replace H := Option.bind_eq_some_iff.mp H
    obtain ⟨t418, A40, H⟩ := H
    replace H : ((spec_QuoteWord.f k t417).bind fun t419 => (if t418.toList = t419.toList then (laws_FnQuoteAtom.j0 k t417 t418 (t418.toList == ([] : List UInt8))) else (laws_FnQuoteAtom.j0 k t417 t418 true))) = some r := H
    have A4 := Aside0.mk A40
    clear A40
    have HC5 := Aside0.mk H
    clear H
    go_enter Try.func5, Try.ntmps5
    go_upto_region 5 with (first | ((with_reducible refine gate_callee (f := 21) rfl ?_); refine goesL_ (some 9) rfl rfl Try.func21 (by kernel_rfl) rfl #[.slice A0 l0.length c0] rfl (by (try simp only [List.map_toArray, List.map_cons, List.map_nil]); first | done | rfl | (simp only [List.length_drop, List.length_take]; rfl)) ?_; (with_reducible refine (spec_DrawQuoteWord.calls k _ _ l0 t417 _ ?side1 ?side2 A3.out).mono ?_); (case side1 => repeat (first | exact HR0.out | (with_reducible refine Kd.C_alloc ?_ _) | (with_reducible refine Kd.C_drewN ?_ _) | (with_reducible refine Kd.C_drew ?_))); (case side2 => exact HC0.out); rintro e w6 ⟨rfl, hb⟩; refine ⟨_, rfl, ?_⟩; have n0_ := Aside0.mk (below_step (by repeat (first | (with_reducible first | exact HB.out | apply below_alloc | apply pw_below_drewN | apply below_drew1) | exact HB.out)) hb); clear HB; have HB := n0_; clear n0_; (try clear hb); (try clear hb2); (try clear hk); (try clear hi)) | ((with_reducible refine gate_callee (f := 16) rfl ?_); refine goesL_ (some 11) rfl rfl Try.func16 (by kernel_rfl) rfl #[.string t417] rfl (by (try simp only [List.map_toArray, List.map_cons, List.map_nil]); first | done | rfl | (simp only [List.length_drop, List.length_take]; rfl)) ?_; (with_reducible refine (impl_QuoteWord.calls k t417 t418 _ A4.out).mono ?_); rintro e w7 ⟨rfl, hb⟩; refine ⟨_, rfl, ?_⟩; have n0_ := Aside0.mk (below_step (by repeat (first | (with_reducible first | exact HB.out | apply below_alloc | apply pw_below_drewN | apply below_drew1) | exact HB.out)) hb); clear HB; have HB := n0_; clear n0_; (try clear hb); (try clear hb2); (try clear hk); (try clear hi)))
    (try simp only [Act.put, List.setIfInBounds_toArray, List.set_cons_zero, List.set_cons_succ])
    go_cut [19] (fun v19 wc => ∃ (kq : Nat) (x19_4 : Bool), v19 = .bool x19_4 ∧ Aside0 (laws_FnQuoteAtom.j0 kq t417 t418 x19_4 = some r) ∧ Aside0 (kq ≤ k) ∧ Aside0 (Below w.heap.size w wc))
    case first =>
      have H := HC5.out
      clear HC5
      replace H := Option.bind_eq_some_iff.mp H
      obtain ⟨t419, A80, H⟩ := H
      replace H : (if t418.toList = t419.toList then (laws_FnQuoteAtom.j0 k t417 t418 (t418.toList == ([] : List UInt8))) else (laws_FnQuoteAtom.j0 k t417 t418 true)) = some r := H
      have A8 := Aside0.mk A80
      clear A80
      by_cases c9 : t418.toList = t419.toList
      · rw [if_pos c9] at H
        have c9b0 : (t418.toList == t419.toList) = true := beq_iff_eq.mpr c9
        have c9b1 : (t418.toList != t419.toList) = false := bne_eq_false_iff_eq.mpr c9
        clear c9
        (first | rw [c9b0] | (simp only [i64_w, i32_w]; rw [c9b0]) | skip)
        have H' := Aside0.mk H
        clear H
        go_wp2_with (first | ((with_reducible refine gate_callee (f := 15) rfl ?_); refine goesL_ (some 14) rfl rfl Try.func15 (by kernel_rfl) rfl #[.string t417] rfl (by (try simp only [List.map_toArray, List.map_cons, List.map_nil]); first | done | rfl | (simp only [List.length_drop, List.length_take]; rfl)) ?_; (with_reducible refine (spec_QuoteWord.calls k t417 t419 _ A8.out).mono ?_); rintro e w10 ⟨rfl, hb⟩; refine ⟨_, rfl, ?_⟩; have n0_ := Aside0.mk (below_step (by repeat (first | (with_reducible first | exact HB.out | apply below_alloc | apply pw_below_drewN | apply below_drew1) | exact HB.out)) hb); clear HB; have HB := n0_; clear n0_; (try clear hb); (try clear hb2); (try clear hk); (try clear hi)))
        go_meet
        case rel => exact ⟨_, ((t418.toList == ([] : List UInt8))), (by first | rfl | (simp; done) | (simp [*]; done)), H', ⟨by first | omega | exact Nat.le_refl _⟩, ⟨by repeat (first | (with_reducible first | exact HB.out | apply below_alloc | apply pw_below_drewN | apply below_drew1) | exact HB.out)⟩⟩
      · rw [if_neg c9] at H
        have c9b0 : (t418.toList == t419.toList) = false := beq_eq_false_iff_ne.mpr c9
        have c9b1 : (t418.toList != t419.toList) = true := bne_iff_ne.mpr c9
        (first | rw [c9b0] | (simp only [i64_w, i32_w]; rw [c9b0]) | skip)
        have H' := Aside0.mk H
        clear H
        go_wp2_with (first | ((with_reducible refine gate_callee (f := 15) rfl ?_); refine goesL_ (some 14) rfl rfl Try.func15 (by kernel_rfl) rfl #[.string t417] rfl (by (try simp only [List.map_toArray, List.map_cons, List.map_nil]); first | done | rfl | (simp only [List.length_drop, List.length_take]; rfl)) ?_; (with_reducible refine (spec_QuoteWord.calls k t417 t419 _ A8.out).mono ?_); rintro e w11 ⟨rfl, hb⟩; refine ⟨_, rfl, ?_⟩; have n0_ := Aside0.mk (below_step (by repeat (first | (with_reducible first | exact HB.out | apply below_alloc | apply pw_below_drewN | apply below_drew1) | exact HB.out)) hb); clear HB; have HB := n0_; clear n0_; (try clear hb); (try clear hb2); (try clear hk); (try clear hi)))
        go_meet
        case rel => exact ⟨_, (true), (by first | rfl | (simp; done) | (simp [*]; done)), H', ⟨by first | omega | exact Nat.le_refl _⟩, ⟨by repeat (first | (with_reducible first | exact HB.out | apply below_alloc | apply pw_below_drewN | apply below_drew1) | exact HB.out)⟩⟩
    case rest =>
      clear HC5
      try clear c1
      try clear c2
      try clear c2b0
      try clear c2b1
      try clear p2
      try clear c5
      try clear c9
      try clear c9b0
      try clear c9b1
      obtain ⟨kq, x19_4, rfl, HA, HJ4, HB⟩ := hcut
      cases kq with
      | zero => exact absurd HA.out (by simp [laws_FnQuoteAtom.j0])
      | succ kj4 =>
        have H := HA.out
        clear HA
        simp only [laws_FnQuoteAtom.j0] at H
        by_cases c12 : x19_4 = true
        · subst c12
          have H1 : ((spec_QuoteWord.f kj4 t417).bind fun t420 => (some (t418.toList == t420.toList))) = some r := by rw [if_pos rfl] at H; exact H
          clear H
          have H := H1
          clear H1
          replace H := Option.bind_eq_some_iff.mp H
          obtain ⟨t420, A130, H⟩ := H
          replace H : (some (t418.toList == t420.toList)) = some r := H
          have A13 := Aside0.mk A130
          clear A130
          obtain rfl := Option.some.inj H
          go_wp2_with (first | ((with_reducible refine gate_callee (f := 15) rfl ?_); refine goesL_ (some 22) rfl rfl Try.func15 (by kernel_rfl) rfl #[.string t417] rfl (by (try simp only [List.map_toArray, List.map_cons, List.map_nil]); first | done | rfl | (simp only [List.length_drop, List.length_take]; rfl)) ?_; (with_reducible refine (spec_QuoteWord.calls kj4 t417 t420 _ A13.out).mono ?_); rintro e w14 ⟨rfl, hb⟩; refine ⟨_, rfl, ?_⟩; have n0_ := Aside0.mk (below_step (by repeat (first | (with_reducible first | exact HB.out | apply below_alloc | apply pw_below_drewN | apply below_drew1) | exact HB.out)) hb); clear HB; have HB := n0_; clear n0_; (try clear hb); (try clear hb2); (try clear hk); (try clear hi)))
          go_ret
          exact ⟨by first | rfl | (simp [errW_none, errW_some] <;> rfl) | (simp [*, errW_none, errW_some] <;> rfl), by repeat (first | (with_reducible first | exact HB.out | apply below_alloc | apply pw_below_drewN | apply below_drew1) | exact HB.out)⟩
        · replace c12 := Bool.eq_false_iff.mpr c12
          subst c12
          have H1 : (if 0 < (t418.size : Int) then (if (bt t418 0) = 34 then ((impl_AtomValid.f t418).bind fun t421 => (if t421 = true then (some false) else (if (t418.size : Int) ≥ 2 then (if 0 ≤ (wrap64 ((t418.size : Int) - 1)) then (if (wrap64 ((t418.size : Int) - 1)) < (t418.size : Int) then (some ((bt t418 (wrap64 ((t418.size : Int) - 1))) == 34)) else (none)) else (none)) else (some false)))) else ((impl_AtomValid.f t418).bind fun t422 => (if t422 = true then (some (t418.toList == t417.toList)) else (some false)))) else (none)) = some r := by rw [if_neg (show ¬ (false = true) by decide)] at H; exact H
          clear H
          have H := H1
          clear H1
          by_cases c15 : 0 < (t418.size : Int)
          · rw [if_pos c15] at H
            have c15b0 : decide (0 < (t418.size : Int)) = true := decide_eq_true c15
            have c15b1 : decide (0 < t418.size) = true := decide_eq_true (by omega)
            clear c15
            by_cases c17 : (bt t418 0) = 34
            · rw [if_pos c17] at H
              have c17b0 : ((bt t418 0) == 34) = true := beq_iff_eq.mpr c17
              have c17b1 : ((bt t418 0) != 34) = false := bne_eq_false_iff_eq.mpr c17
              clear c17
              replace H := Option.bind_eq_some_iff.mp H
              obtain ⟨t421, A180, H⟩ := H
              replace H : (if t421 = true then (some false) else (if (t418.size : Int) ≥ 2 then (if 0 ≤ (wrap64 ((t418.size : Int) - 1)) then (if (wrap64 ((t418.size : Int) - 1)) < (t418.size : Int) then (some ((bt t418 (wrap64 ((t418.size : Int) - 1))) == 34)) else (none)) else (none)) else (some false))) = some r := H
              have A18 := Aside0.mk A180
              clear A180
              by_cases c19 : t421 = true
              · subst c19
                have H1 : (some false) = some r := by rw [if_pos rfl] at H; exact H
                clear H
                have H := H1
                clear H1
                obtain rfl := Option.some.inj H
                have p16 : 0 ≤ (0 : Int) := (by omega)
                have q16 : 0 < t418.size := (by have : (0 : Int) < (t418.size : Int) := of_decide_eq_true (by first | (with_reducible assumption) | assumption); omega)
                have hx16 : ∀ h : 0 < t418.size, ((t418[0]'h).toNat : Int) = bt t418 0 := bt_at t418 0
                clear p16
                have qi16 : (0 < (t418.size : Int)) = True := eq_true (of_decide_eq_true (by first | (with_reducible assumption) | assumption))
                replace q16 := eq_true q16
                go_wp2_with (first | ((with_reducible refine gate_callee (f := 18) rfl ?_); refine goesL_ (some 35) rfl rfl Try.func18 (by kernel_rfl) rfl #[.string t418] rfl (by (try simp only [List.map_toArray, List.map_cons, List.map_nil]); first | done | rfl | (simp only [List.length_drop, List.length_take]; rfl)) ?_; (with_reducible refine (impl_AtomValid.calls t418 true _ A18.out).mono ?_); rintro e w' ⟨rfl, ⟨nd, rfl⟩⟩; refine ⟨_, rfl, ?_⟩))
                go_ret
                exact ⟨by first | rfl | (simp [errW_none, errW_some] <;> rfl) | (simp [*, errW_none, errW_some] <;> rfl), by repeat (first | (with_reducible first | exact HB.out | apply below_alloc | apply pw_below_drewN | apply below_drew1) | exact HB.out)⟩
              · replace c19 := Bool.eq_false_iff.mpr c19
                subst c19
                have H1 : (if (t418.size : Int) ≥ 2 then (if 0 ≤ (wrap64 ((t418.size : Int) - 1)) then (if (wrap64 ((t418.size : Int) - 1)) < (t418.size : Int) then (some ((bt t418 (wrap64 ((t418.size : Int) - 1))) == 34)) else (none)) else (none)) else (some false)) = some r := by rw [if_neg (show ¬ (false = true) by decide)] at H; exact H
                clear H
                have H := H1
                clear H1
                by_cases c20 : (t418.size : Int) ≥ 2
                · rw [if_pos c20] at H
                  have c20b0 : decide (2 ≤ (t418.size : Int)) = true := decide_eq_true c20
                  have c20b1 : decide (2 ≤ t418.size) = true := decide_eq_true (by omega)
                  clear c20
                  obtain ⟨ji21, hji21⟩ : ∃ j_ : Int, (wrap64 ((t418.size : Int) - 1)) = j_ := ⟨_, rfl⟩
                  replace H : (if 0 ≤ (ji21) then (if (ji21) < (t418.size : Int) then (some ((bt t418 (ji21)) == 34)) else (none)) else (none)) = some r := by first | (rw [hji21] at H; exact H) | (simp only [hji21] at H ⊢; exact H)
                  (try rw [hji21] at A18)
                  have hji21w : (IntKind.i64.wrap ((t418.size : Int) - 1)) = ji21 := (i64_w _).trans hji21
                  by_cases c22 : 0 ≤ (ji21)
                  · rw [if_pos c22] at H
                    have c22b0 : decide (0 ≤ (ji21)) = true := decide_eq_true c22
                    clear c22
                    by_cases c23 : (ji21) < (t418.size : Int)
                    · rw [if_pos c23] at H
                      have c23b0 : decide ((ji21) < (t418.size : Int)) = true := decide_eq_true c23
                      clear c23
                      obtain rfl := Option.some.inj H
                      have p16 : 0 ≤ (0 : Int) := (by omega)
                      have q16 : 0 < t418.size := (by have : (0 : Int) < (t418.size : Int) := of_decide_eq_true (by first | (with_reducible assumption) | assumption); omega)
                      have hx16 : ∀ h : 0 < t418.size, ((t418[0]'h).toNat : Int) = bt t418 0 := bt_at t418 0
                      clear p16
                      have qi16 : (0 < (t418.size : Int)) = True := eq_true (of_decide_eq_true (by first | (with_reducible assumption) | assumption))
                      replace q16 := eq_true q16
                      go_wp2_with (first | ((with_reducible refine gate_callee (f := 18) rfl ?_); refine goesL_ (some 35) rfl rfl Try.func18 (by kernel_rfl) rfl #[.string t418] rfl (by (try simp only [List.map_toArray, List.map_cons, List.map_nil]); first | done | rfl | (simp only [List.length_drop, List.length_take]; rfl)) ?_; (with_reducible refine (impl_AtomValid.calls t418 false _ A18.out).mono ?_); rintro e w' ⟨rfl, ⟨nd, rfl⟩⟩; refine ⟨_, rfl, ?_⟩; have p24 : 0 ≤ ((ji21) : Int) := of_decide_eq_true (by first | (with_reducible assumption) | assumption); have q24 : (ji21) < (t418.size : Int) := of_decide_eq_true (by first | (with_reducible assumption) | assumption); have hx24 := bt_at t418 (ji21); replace p24 := eq_true p24; replace q24 := eq_true q24))
                      go_ret
                      exact ⟨by first | rfl | (simp [errW_none, errW_some] <;> rfl) | (simp only [← hji21]; first | rfl | (simp [errW_none, errW_some] <;> rfl)) | (simp [*, errW_none, errW_some] <;> rfl), by repeat (first | (with_reducible first | exact HB.out | apply below_alloc | apply pw_below_drewN | apply below_drew1) | exact HB.out)⟩
                    · rw [if_neg c23] at H
                      exact absurd H (by simp)
                  · rw [if_neg c22] at H
                    exact absurd H (by simp)
                · rw [if_neg c20] at H
                  have c20b0 : decide (2 ≤ (t418.size : Int)) = false := decide_eq_false c20
                  have c20b1 : decide (2 ≤ t418.size) = false := decide_eq_false (by omega)
                  clear c20
                  obtain rfl := Option.some.inj H
                  have p16 : 0 ≤ (0 : Int) := (by omega)
                  have q16 : 0 < t418.size := (by have : (0 : Int) < (t418.size : Int) := of_decide_eq_true (by first | (with_reducible assumption) | assumption); omega)
                  have hx16 : ∀ h : 0 < t418.size, ((t418[0]'h).toNat : Int) = bt t418 0 := bt_at t418 0
                  clear p16
                  have qi16 : (0 < (t418.size : Int)) = True := eq_true (of_decide_eq_true (by first | (with_reducible assumption) | assumption))
                  replace q16 := eq_true q16
                  go_wp2_with (first | ((with_reducible refine gate_callee (f := 18) rfl ?_); refine goesL_ (some 35) rfl rfl Try.func18 (by kernel_rfl) rfl #[.string t418] rfl (by (try simp only [List.map_toArray, List.map_cons, List.map_nil]); first | done | rfl | (simp only [List.length_drop, List.length_take]; rfl)) ?_; (with_reducible refine (impl_AtomValid.calls t418 false _ A18.out).mono ?_); rintro e w' ⟨rfl, ⟨nd, rfl⟩⟩; refine ⟨_, rfl, ?_⟩))
                  go_ret
                  exact ⟨by first | rfl | (simp [errW_none, errW_some] <;> rfl) | (simp [*, errW_none, errW_some] <;> rfl), by repeat (first | (with_reducible first | exact HB.out | apply below_alloc | apply pw_below_drewN | apply below_drew1) | exact HB.out)⟩
            · rw [if_neg c17] at H
              have c17b0 : ((bt t418 0) == 34) = false := beq_eq_false_iff_ne.mpr c17
              have c17b1 : ((bt t418 0) != 34) = true := bne_iff_ne.mpr c17
              replace H := Option.bind_eq_some_iff.mp H
              obtain ⟨t422, A250, H⟩ := H
              replace H : (if t422 = true then (some (t418.toList == t417.toList)) else (some false)) = some r := H
              have A25 := Aside0.mk A250
              clear A250
              by_cases c26 : t422 = true
              · subst c26
                have H1 : (some (t418.toList == t417.toList)) = some r := by rw [if_pos rfl] at H; exact H
                clear H
                have H := H1
                clear H1
                obtain rfl := Option.some.inj H
                have p16 : 0 ≤ (0 : Int) := (by omega)
                have q16 : 0 < t418.size := (by have : (0 : Int) < (t418.size : Int) := of_decide_eq_true (by first | (with_reducible assumption) | assumption); omega)
                have hx16 : ∀ h : 0 < t418.size, ((t418[0]'h).toNat : Int) = bt t418 0 := bt_at t418 0
                clear p16
                have qi16 : (0 < (t418.size : Int)) = True := eq_true (of_decide_eq_true (by first | (with_reducible assumption) | assumption))
                replace q16 := eq_true q16
                go_wp2_with (first | ((with_reducible refine gate_callee (f := 18) rfl ?_); refine goesL_ (some 28) rfl rfl Try.func18 (by kernel_rfl) rfl #[.string t418] rfl (by (try simp only [List.map_toArray, List.map_cons, List.map_nil]); first | done | rfl | (simp only [List.length_drop, List.length_take]; rfl)) ?_; (with_reducible refine (impl_AtomValid.calls t418 true _ A25.out).mono ?_); rintro e w' ⟨rfl, ⟨nd, rfl⟩⟩; refine ⟨_, rfl, ?_⟩))
                go_ret
                exact ⟨by first | rfl | (simp [errW_none, errW_some] <;> rfl) | (simp [*, errW_none, errW_some] <;> rfl), by repeat (first | (with_reducible first | exact HB.out | apply below_alloc | apply pw_below_drewN | apply below_drew1) | exact HB.out)⟩
              · replace c26 := Bool.eq_false_iff.mpr c26
                subst c26
                have H1 : (some false) = some r := by rw [if_neg (show ¬ (false = true) by decide)] at H; exact H
                clear H
                have H := H1
                clear H1
                obtain rfl := Option.some.inj H
                have p16 : 0 ≤ (0 : Int) := (by omega)
                have q16 : 0 < t418.size := (by have : (0 : Int) < (t418.size : Int) := of_decide_eq_true (by first | (with_reducible assumption) | assumption); omega)
                have hx16 : ∀ h : 0 < t418.size, ((t418[0]'h).toNat : Int) = bt t418 0 := bt_at t418 0
                clear p16
                have qi16 : (0 < (t418.size : Int)) = True := eq_true (of_decide_eq_true (by first | (with_reducible assumption) | assumption))
                replace q16 := eq_true q16
                go_wp2_with (first | ((with_reducible refine gate_callee (f := 18) rfl ?_); refine goesL_ (some 28) rfl rfl Try.func18 (by kernel_rfl) rfl #[.string t418] rfl (by (try simp only [List.map_toArray, List.map_cons, List.map_nil]); first | done | rfl | (simp only [List.length_drop, List.length_take]; rfl)) ?_; (with_reducible refine (impl_AtomValid.calls t418 false _ A25.out).mono ?_); rintro e w' ⟨rfl, ⟨nd, rfl⟩⟩; refine ⟨_, rfl, ?_⟩))
                go_ret
                exact ⟨by first | rfl | (simp [errW_none, errW_some] <;> rfl) | (simp [*, errW_none, errW_some] <;> rfl), by repeat (first | (with_reducible first | exact HB.out | apply below_alloc | apply pw_below_drewN | apply below_drew1) | exact HB.out)⟩
          · rw [if_neg c15] at H
            exact absurd H (by simp)

/-- THE ONE PURE STATEMENT of laws_FnQuoteAtom: yours. -/
def laws_FnQuoteAtom.Pure : Prop := ∀ (l0 : List Int), l0.length ≤ maxLen → l0.length * 1 ≤ 140737488351232 → (∀ x ∈ l0, (Lit.int .u8 x).wf = true) → ∃ k, laws_FnQuoteAtom.f k l0 = some true
theorem laws_FnQuoteAtom.walk (P : laws_FnQuoteAtom.Pure) (a0 : Option Addr) (len0 cap0 : Nat) (z0 : List Int) (w : World) (w0 : (a0 = none ∧ len0 = 0 ∧ cap0 = 0 ∧ z0 = []) ∨ ∃ x, a0 = some x ∧ len0 ≤ cap0 ∧ cap0 ≤ maxLen ∧ z0.length = cap0 ∧ (∀ i, i < z0.length → w.cell? (x.add i) = some (.int .u8 (z0.getD i 0))) ∧ ∀ n ∈ z0, (Lit.int .u8 n).wf = true) (y0 : len0 * 1 ≤ 140737488351232) :
    Calls Try.prog 5 #[.slice a0 len0 cap0] w fun e w' => e = .returned (.bool true) ∧ Below w.heap.size w w' := by
  obtain ⟨l0, rfl, hr0, hm0, hw0, hc0⟩ := ReadsInt.ofRowC w0
  obtain ⟨k, h⟩ := P l0 hm0 y0 hw0
  refine (laws_FnQuoteAtom.calls k _ _ l0 true w (Kd.C_of_reads (d := (0 : Int)) (h1 := fun _ => rfl) hr0) hc0 h).mono ?_
  rintro e w' ⟨rfl, hd⟩
  exact ⟨rfl, hd⟩

end Go.Proofs.Yteibhbhlmnnfjaa.Q
