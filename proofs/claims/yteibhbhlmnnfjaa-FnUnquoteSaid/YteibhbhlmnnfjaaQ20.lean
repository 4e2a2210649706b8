/- What functions of the program come to, written by a program of this session (mwprint.py); no condition. -/
import Derived.Test.YteibhbhlmnnfjaaQ0
import Derived.Test.YteibhbhlmnnfjaaQ1
import Derived.Test.YteibhbhlmnnfjaaQ2
import Derived.Test.YteibhbhlmnnfjaaQ5
import Derived.Test.YteibhbhlmnnfjaaQ7
namespace Go.Proofs.Yteibhbhlmnnfjaa.Q
open Go.RowKit Go.Proofs.YteibhbhlmnnfjaaW.PrintWords Go.Proofs.YteibhbhlmnnfjaaW.PrintLast Go.Proofs.YteibhbhlmnnfjaaW.PrintMore
attribute [local go_sem] max2_int min2_int max_two min_two max_three min_three max_four min_four   -- for this text's walks alone
set_option linter.unusedVariables false
set_option linter.unusedSimpArgs false

/-! ### laws_FnUnquote: function 9 -/
def laws_FnUnquote.j0 : Nat → ByteArray → ByteArray → Bool → ByteArray → Bool → Bool → Option (Bool)
  | 0, _, _, _, _, _, _ => none
  | k + 1, x3, x4, x5, x6, x7, x34 => if x34 = true then (if x4.toList = x6.toList then (if (x5 == x7) = true then (some (x4.toList == ([] : List UInt8))) else (some false)) else (some false)) else ((impl_TextValid.f k x4).bind fun t481 => (if t481 = true then (if (x3.size : Int) ≥ (x4.size : Int) then ((impl_QuoteWord.f k x4).bind fun t482 => (some (t482.toList == x3.toList))) else (some false)) else (some false)))
def laws_FnUnquote.f (k : Nat) (l0 : List Int) : Option (Bool) := if (l0.length : Int) > 1048576 then (some true) else ((spec_DrawUnquoteWord.f k l0).bind fun t476 => ((impl_UnquoteWord.f k t476).bind fun bt477 => ((spec_UnquoteWord.f k t476).bind fun bt479 => (if bt477.1.toList = bt479.1.toList then (if (bt477.2 != bt479.2) = true then (laws_FnUnquote.j0 k t476 bt477.1 bt477.2 bt479.1 bt479.2 true) else (laws_FnUnquote.j0 k t476 bt477.1 bt477.2 bt479.1 bt479.2 (!bt477.2))) else (laws_FnUnquote.j0 k t476 bt477.1 bt477.2 bt479.1 bt479.2 true)))))
theorem laws_FnUnquote.mono_l : ∀ k, (∀ y0 y1 y2 y3 y4 y5, LeO (laws_FnUnquote.j0 k y0 y1 y2 y3 y4 y5) (laws_FnUnquote.j0 (k + 1) y0 y1 y2 y3 y4 y5))
  | 0 => fun _ _ _ _ _ _ r h => by simp [laws_FnUnquote.j0] at h
  | k + 1 => by
    have ih0 := laws_FnUnquote.mono_l k
    · intro y0 y1 y2 y3 y4 y5
      unfold laws_FnUnquote.j0
      repeat' first
      | (with_reducible exact ih0 _ _ _ _ _ _)
      | (with_reducible exact impl_QuoteWord.mono _ _)
      | (with_reducible exact impl_TextValid.mono _ _)
      | (with_reducible exact impl_UnquoteWord.mono _ _)
      | (with_reducible exact spec_DrawUnquoteWord.mono _ _)
      | (with_reducible exact spec_UnquoteWord.mono _ _)
      | (with_reducible exact LeO.refl _)
      | (with_reducible exact LeO.none _)
      | (with_reducible refine LeO.ite ?_ ?_)
      | (with_reducible refine LeO.bind ?_ (fun _ => ?_))
      | exact ih0 _ _ _ _ _ _
      | exact impl_QuoteWord.mono _ _
      | exact impl_TextValid.mono _ _
      | exact impl_UnquoteWord.mono _ _
      | exact spec_DrawUnquoteWord.mono _ _
      | exact spec_UnquoteWord.mono _ _
      | exact LeO.none _
      | refine LeO.ite ?_ ?_
      | refine LeO.bind ?_ (fun _ => ?_)
theorem laws_FnUnquote.mono : ∀ a0 k, LeO (laws_FnUnquote.f k a0) (laws_FnUnquote.f (k + 1) a0) := by
  intro a0 k
  have ih0 := laws_FnUnquote.mono_l k
  unfold laws_FnUnquote.f
  repeat' first
      | (with_reducible exact ih0 _ _ _ _ _ _)
      | (with_reducible exact impl_QuoteWord.mono _ _)
      | (with_reducible exact impl_TextValid.mono _ _)
      | (with_reducible exact impl_UnquoteWord.mono _ _)
      | (with_reducible exact spec_DrawUnquoteWord.mono _ _)
      | (with_reducible exact spec_UnquoteWord.mono _ _)
      | (with_reducible exact LeO.refl _)
      | (with_reducible exact LeO.none _)
      | (with_reducible refine LeO.ite ?_ ?_)
      | (with_reducible refine LeO.bind ?_ (fun _ => ?_))
      | exact ih0 _ _ _ _ _ _
      | exact impl_QuoteWord.mono _ _
      | exact impl_TextValid.mono _ _
      | exact impl_UnquoteWord.mono _ _
      | exact spec_DrawUnquoteWord.mono _ _
      | exact spec_UnquoteWord.mono _ _
      | exact LeO.none _
      | refine LeO.ite ?_ ?_
      | refine LeO.bind ?_ (fun _ => ?_)
set_option maxHeartbeats 8000000 in
set_option maxRecDepth 100000 in
theorem laws_FnUnquote.calls (k : Nat) (A0 : Option Addr) (c0 : Nat) (l0 : List Int) (r : Bool) (w : World) (hr0 : Kd.C (Kd.int .u8) w A0 l0.length l0) (hc0 : l0.length ≤ c0) (h : laws_FnUnquote.f k l0 = some r) :
    Calls Try.prog 9 #[.slice A0 l0.length c0] w fun e w' => e = .returned (.bool r) ∧ Below w.heap.size w w' := by
  have HR0 := Aside0.mk hr0
  have HC0 := Aside0.mk hc0
  clear hr0 hc0
  have HB := Aside0.mk (Below.refl w.heap.size w)
  have H : (if (l0.length : Int) > 1048576 then (some true) else ((spec_DrawUnquoteWord.f k l0).bind fun t476 => ((impl_UnquoteWord.f k t476).bind fun bt477 => ((spec_UnquoteWord.f k t476).bind fun bt479 => (if bt477.1.toList = bt479.1.toList then (if (bt477.2 != bt479.2) = true then (laws_FnUnquote.j0 k t476 bt477.1 bt477.2 bt479.1 bt479.2 true) else (laws_FnUnquote.j0 k t476 bt477.1 bt477.2 bt479.1 bt479.2 (!bt477.2))) else (laws_FnUnquote.j0 k t476 bt477.1 bt477.2 bt479.1 bt479.2 true)))))) = some r := h
  clear h
  by_cases c2 : (l0.length : Int) > 1048576
  · rw [if_pos c2] at H
    have c2b0 : decide (1048576 < (l0.length : Int)) = true := decide_eq_true c2
    have c2b1 : decide (1048576 < l0.length) = true := decide_eq_true (by omega)
    clear c2
    obtain rfl := Option.some.inj H
    go_enter Try.func9, Try.ntmps9
    go_wp2
    go_ret
    exact ⟨by first | rfl | (simp [errW_none, errW_some] <;> rfl) | (simp [*, errW_none, errW_some] <;> rfl), by repeat (first | (with_reducible first | exact HB.out | apply below_alloc | apply pw_below_drewN | apply below_drew1) | exact HB.out)⟩
  · rw [if_neg c2] at H
    have c2b0 : decide (1048576 < (l0.length : Int)) = false := decide_eq_false c2
    have c2b1 : decide (1048576 < l0.length) = false := decide_eq_false (by omega)
    clear c2
    replace H := Option.bind_eq_some_iff.mp H
    obtain ⟨t476, A30, H⟩ := H
    replace H : ((impl_UnquoteWord.f k t476).bind fun bt477 => ((spec_UnquoteWord.f k t476).bind fun bt479 => (if bt477.1.toList = bt479.1.toList then (if (bt477.2 != bt479.2) = true then (laws_FnUnquote.j0 k t476 bt477.1 bt477.2 bt479.1 bt479.2 true) else (laws_FnUnquote.j0 k t476 bt477.1 bt477.2 bt479.1 bt479.2 (!bt477.2))) else (laws_FnUnquote.j0 k t476 bt477.1 bt477.2 bt479.1 bt479.2 true)))) = some r := H
    have A3 := Aside0.mk A30
    clear A30
    replace H := Option.bind_eq_some_iff.mp H
    obtain ⟨⟨t477, t478⟩, A40, H⟩ := H
    replace H : ((spec_UnquoteWord.f k t476).bind fun bt479 => (if t477.toList = bt479.1.toList then (if (t478 != bt479.2) = true then (laws_FnUnquote.j0 k t476 t477 t478 bt479.1 bt479.2 true) else (laws_FnUnquote.j0 k t476 t477 t478 bt479.1 bt479.2 (!t478))) else (laws_FnUnquote.j0 k t476 t477 t478 bt479.1 bt479.2 true))) = some r := H
    have A4 := Aside0.mk A40
    clear A40
    replace H := Option.bind_eq_some_iff.mp H
    obtain ⟨⟨t479, t480⟩, A50, H⟩ := H
    replace H : (if t477.toList = t479.toList then (if (t478 != t480) = true then (laws_FnUnquote.j0 k t476 t477 t478 t479 t480 true) else (laws_FnUnquote.j0 k t476 t477 t478 t479 t480 (!t478))) else (laws_FnUnquote.j0 k t476 t477 t478 t479 t480 true)) = some r := H
    have A5 := Aside0.mk A50
    clear A50
    have HC6 := Aside0.mk H
    clear H
    go_enter Try.func9, Try.ntmps9
    go_upto_region 6 with (first | ((with_reducible refine gate_callee (f := 29) rfl ?_); refine goesL_ (some 12) rfl rfl Try.func29 (by kernel_rfl) rfl #[.slice A0 l0.length c0] rfl (by (try simp only [List.map_toArray, List.map_cons, List.map_nil]); first | done | rfl | (simp only [List.length_drop, List.length_take]; rfl)) ?_; (with_reducible refine (spec_DrawUnquoteWord.calls k _ _ l0 t476 _ ?side1 ?side2 A3.out).mono ?_); (case side1 => repeat (first | exact HR0.out | (with_reducible refine Kd.C_alloc ?_ _) | (with_reducible refine Kd.C_drewN ?_ _) | (with_reducible refine Kd.C_drew ?_))); (case side2 => exact HC0.out); rintro e w7 ⟨rfl, hb⟩; refine ⟨_, rfl, ?_⟩; have n0_ := Aside0.mk (below_step (by repeat (first | (with_reducible first | exact HB.out | apply below_alloc | apply pw_below_drewN | apply below_drew1) | exact HB.out)) hb); clear HB; have HB := n0_; clear n0_; (try clear hb); (try clear hb2); (try clear hk); (try clear hi)) | ((with_reducible refine gate_callee (f := 23) rfl ?_); refine goesL_ (some 15) rfl rfl Try.func23 (by kernel_rfl) rfl #[.string t476] rfl (by (try simp only [List.map_toArray, List.map_cons, List.map_nil]); first | done | rfl | (simp only [List.length_drop, List.length_take]; rfl)) ?_; (with_reducible refine (impl_UnquoteWord.calls k t476 t477 t478 _ A4.out).mono ?_); rintro e w8 ⟨rfl, hb⟩; refine ⟨_, rfl, ?_⟩; have n0_ := Aside0.mk (below_step (by repeat (first | (with_reducible first | exact HB.out | apply below_alloc | apply pw_below_drewN | apply below_drew1) | exact HB.out)) hb); clear HB; have HB := n0_; clear n0_; (try clear hb); (try clear hb2); (try clear hk); (try clear hi)) | ((with_reducible refine gate_callee (f := 22) rfl ?_); refine goesL_ (some 20) rfl rfl Try.func22 (by kernel_rfl) rfl #[.string t476] rfl (by (try simp only [List.map_toArray, List.map_cons, List.map_nil]); first | done | rfl | (simp only [List.length_drop, List.length_take]; rfl)) ?_; (with_reducible refine (spec_UnquoteWord.calls k t476 t479 t480 _ A5.out).mono ?_); rintro e w9 ⟨rfl, hb⟩; refine ⟨_, rfl, ?_⟩; have n0_ := Aside0.mk (below_step (by repeat (first | (with_reducible first | exact HB.out | apply below_alloc | apply pw_below_drewN | apply below_drew1) | exact HB.out)) hb); clear HB; have HB := n0_; clear n0_; (try clear hb); (try clear hb2); (try clear hk); (try clear hi)))
    (try simp only [Act.put, List.setIfInBounds_toArray, List.set_cons_zero, List.set_cons_succ])
    go_cut [34] (fun v34 wc => ∃ (kq : Nat) (x34_5 : Bool), v34 = .bool x34_5 ∧ Aside0 (laws_FnUnquote.j0 kq t476 t477 t478 t479 t480 x34_5 = some r) ∧ Aside0 (kq ≤ k) ∧ Aside0 (Below w.heap.size w wc))
    case first =>
      have H := HC6.out
      clear HC6
      by_cases c10 : t477.toList = t479.toList
      · rw [if_pos c10] at H
        have c10b0 : (t477.toList == t479.toList) = true := beq_iff_eq.mpr c10
        have c10b1 : (t477.toList != t479.toList) = false := bne_eq_false_iff_eq.mpr c10
        clear c10
        (first | rw [c10b0] | (simp only [i64_w, i32_w]; rw [c10b0]) | skip)
        by_cases c11 : (t478 != t480) = true
        · rw [if_pos c11] at H
          have c11b0 : (t478 != t480) = true := c11
          (try (have c11b1 : decide (t478 = t480) = false := by simpa using c11))
          (try (have c11b2 : (t478 == t480) = false := by simpa using c11))
          (try (have c11b3 : ¬ (t478 = t480) := by simpa using c11))
          clear c11
          have H' := Aside0.mk H
          clear H
          go_wp2
          go_meet
          case rel => exact ⟨_, (true), (by first | rfl | (simp; done) | (simp [*]; done)), H', ⟨by first | omega | exact Nat.le_refl _⟩, ⟨by repeat (first | (with_reducible first | exact HB.out | apply below_alloc | apply pw_below_drewN | apply below_drew1) | exact HB.out)⟩⟩
        · rw [if_neg c11] at H
          have c11b0 : (t478 != t480) = false := by simpa using c11
          (try (have c11b1 : decide (t478 = t480) = true := by simpa using c11))
          (try (have c11b2 : (t478 == t480) = true := by simpa using c11))
          clear c11
          have H' := Aside0.mk H
          clear H
          go_wp2
          go_meet
          case rel => exact ⟨_, (!t478), (by first | rfl | (simp; done) | (simp [*]; done)), H', ⟨by first | omega | exact Nat.le_refl _⟩, ⟨by repeat (first | (with_reducible first | exact HB.out | apply below_alloc | apply pw_below_drewN | apply below_drew1) | exact HB.out)⟩⟩
      · rw [if_neg c10] at H
        have c10b0 : (t477.toList == t479.toList) = false := beq_eq_false_iff_ne.mpr c10
        have c10b1 : (t477.toList != t479.toList) = true := bne_iff_ne.mpr c10
        (first | rw [c10b0] | (simp only [i64_w, i32_w]; rw [c10b0]) | skip)
        have H' := Aside0.mk H
        clear H
        go_wp2
        go_meet
        case rel => exact ⟨_, (true), (by first | rfl | (simp; done) | (simp [*]; done)), H', ⟨by first | omega | exact Nat.le_refl _⟩, ⟨by repeat (first | (with_reducible first | exact HB.out | apply below_alloc | apply pw_below_drewN | apply below_drew1) | exact HB.out)⟩⟩
    case rest =>
      clear HC6
      try clear c1
      try clear c2
      try clear c2b0
      try clear c2b1
      try clear p2
      try clear c9
      try clear c10
      try clear c10b0
      try clear c10b1
      try clear c11
      try clear c11b0
      try clear c11b1
      try clear c11b2
      obtain ⟨kq, x34_5, rfl, HA, HJ5, HB⟩ := hcut
      cases kq with
      | zero => exact absurd HA.out (by simp [laws_FnUnquote.j0])
      | succ kj5 =>
        have H := HA.out
        clear HA
        simp only [laws_FnUnquote.j0] at H
        by_cases c12 : x34_5 = true
        · subst c12
          have H1 : (if t477.toList = t479.toList then (if (t478 == t480) = true then (some (t477.toList == ([] : List UInt8))) else (some false)) else (some false)) = some r := by rw [if_pos rfl] at H; exact H
          clear H
          have H := H1
          clear H1
          by_cases c13 : t477.toList = t479.toList
          · rw [if_pos c13] at H
            have c13b0 : (t477.toList == t479.toList) = true := beq_iff_eq.mpr c13
            have c13b1 : (t477.toList != t479.toList) = false := bne_eq_false_iff_eq.mpr c13
            clear c13
            by_cases c14 : (t478 == t480) = true
            · rw [if_pos c14] at H
              have c14b0 : (t478 == t480) = true := c14
              (try (have c14b1 : decide (t478 = t480) = true := by simpa using c14))
              (try (have c14b2 : (t478 == t480) = true := by simpa using c14))
              clear c14
              obtain rfl := Option.some.inj H
              go_wp2
              go_ret
              exact ⟨by first | rfl | (simp [errW_none, errW_some] <;> rfl) | (simp [*, errW_none, errW_some] <;> rfl), by repeat (first | (with_reducible first | exact HB.out | apply below_alloc | apply pw_below_drewN | apply below_drew1) | exact HB.out)⟩
            · rw [if_neg c14] at H
              have c14b0 : (t478 == t480) = false := by simpa using c14
              (try (have c14b1 : decide (t478 = t480) = false := by simpa using c14))
              (try (have c14b2 : (t478 == t480) = false := by simpa using c14))
              (try (have c14b3 : ¬ (t478 = t480) := by simpa using c14))
              clear c14
              obtain rfl := Option.some.inj H
              go_wp2
              go_ret
              exact ⟨by first | rfl | (simp [errW_none, errW_some] <;> rfl) | (simp [*, errW_none, errW_some] <;> rfl), by repeat (first | (with_reducible first | exact HB.out | apply below_alloc | apply pw_below_drewN | apply below_drew1) | exact HB.out)⟩
          · rw [if_neg c13] at H
            have c13b0 : (t477.toList == t479.toList) = false := beq_eq_false_iff_ne.mpr c13
            have c13b1 : (t477.toList != t479.toList) = true := bne_iff_ne.mpr c13
            obtain rfl := Option.some.inj H
            go_wp2
            go_ret
            exact ⟨by first | rfl | (simp [errW_none, errW_some] <;> rfl) | (simp [*, errW_none, errW_some] <;> rfl), by repeat (first | (with_reducible first | exact HB.out | apply below_alloc | apply pw_below_drewN | apply below_drew1) | exact HB.out)⟩
        · replace c12 := Bool.eq_false_iff.mpr c12
          subst c12
          have H1 : ((impl_TextValid.f kj5 t477).bind fun t481 => (if t481 = true then (if (t476.size : Int) ≥ (t477.size : Int) then ((impl_QuoteWord.f kj5 t477).bind fun t482 => (some (t482.toList == t476.toList))) else (some false)) else (some false))) = some r := by rw [if_neg (show ¬ (false = true) by decide)] at H; exact H
          clear H
          have H := H1
          clear H1
          replace H := Option.bind_eq_some_iff.mp H
          obtain ⟨t481, A150, H⟩ := H
          replace H : (if t481 = true then (if (t476.size : Int) ≥ (t477.size : Int) then ((impl_QuoteWord.f kj5 t477).bind fun t482 => (some (t482.toList == t476.toList))) else (some false)) else (some false)) = some r := H
          have A15 := Aside0.mk A150
          clear A150
          by_cases c16 : t481 = true
          · subst c16
            have H1 : (if (t476.size : Int) ≥ (t477.size : Int) then ((impl_QuoteWord.f kj5 t477).bind fun t482 => (some (t482.toList == t476.toList))) else (some false)) = some r := by rw [if_pos rfl] at H; exact H
            clear H
            have H := H1
            clear H1
            by_cases c17 : (t476.size : Int) ≥ (t477.size : Int)
            · rw [if_pos c17] at H
              have c17b0 : decide ((t477.size : Int) ≤ (t476.size : Int)) = true := decide_eq_true c17
              have c17b1 : decide (t477.size ≤ t476.size) = true := decide_eq_true (Int.ofNat_le.mp c17)
              clear c17
              replace H := Option.bind_eq_some_iff.mp H
              obtain ⟨t482, A180, H⟩ := H
              replace H : (some (t482.toList == t476.toList)) = some r := H
              have A18 := Aside0.mk A180
              clear A180
              obtain rfl := Option.some.inj H
              go_wp2_with (first | ((with_reducible refine gate_callee (f := 20) rfl ?_); refine goesL_ (some 48) rfl rfl Try.func20 (by kernel_rfl) rfl #[.string t477] rfl (by (try simp only [List.map_toArray, List.map_cons, List.map_nil]); first | done | rfl | (simp only [List.length_drop, List.length_take]; rfl)) ?_; (with_reducible refine (impl_TextValid.calls kj5 t477 true _ A15.out).mono ?_); rintro e w' ⟨rfl, ⟨nd, rfl⟩⟩; refine ⟨_, rfl, ?_⟩) | (go_at_call 16; (with_reducible refine (impl_QuoteWord.calls kj5 t477 t482 _ A18.out).mono ?_); rintro e w19 ⟨rfl, hb⟩; have n0_ := Aside0.mk (below_step (by repeat (first | (with_reducible first | exact HB.out | apply below_alloc | apply pw_below_drewN | apply below_drew1) | exact HB.out)) hb); clear HB; have HB := n0_; clear n0_; (try clear hb); (try clear hb2); (try clear hk); (try clear hi)))
              go_ret
              exact ⟨by first | rfl | (simp [errW_none, errW_some] <;> rfl) | (simp [*, errW_none, errW_some] <;> rfl), by repeat (first | (with_reducible first | exact HB.out | apply below_alloc | apply pw_below_drewN | apply below_drew1) | exact HB.out)⟩
            · rw [if_neg c17] at H
              have c17b0 : decide ((t477.size : Int) ≤ (t476.size : Int)) = false := decide_eq_false c17
              have c17b1 : decide (t477.size ≤ t476.size) = false := decide_eq_false (fun h => c17 (Int.ofNat_le.mpr h))
              clear c17
              obtain rfl := Option.some.inj H
              go_wp2_with (first | ((with_reducible refine gate_callee (f := 20) rfl ?_); refine goesL_ (some 48) rfl rfl Try.func20 (by kernel_rfl) rfl #[.string t477] rfl (by (try simp only [List.map_toArray, List.map_cons, List.map_nil]); first | done | rfl | (simp only [List.length_drop, List.length_take]; rfl)) ?_; (with_reducible refine (impl_TextValid.calls kj5 t477 true _ A15.out).mono ?_); rintro e w' ⟨rfl, ⟨nd, rfl⟩⟩; refine ⟨_, rfl, ?_⟩))
              go_ret
              exact ⟨by first | rfl | (simp [errW_none, errW_some] <;> rfl) | (simp [*, errW_none, errW_some] <;> rfl), by repeat (first | (with_reducible first | exact HB.out | apply below_alloc | apply pw_below_drewN | apply below_drew1) | exact HB.out)⟩
          · replace c16 := Bool.eq_false_iff.mpr c16
            subst c16
            have H1 : (some false) = some r := by rw [if_neg (show ¬ (false = true) by decide)] at H; exact H
            clear H
            have H := H1
            clear H1
            obtain rfl := Option.some.inj H
            go_wp2_with (first | ((with_reducible refine gate_callee (f := 20) rfl ?_); refine goesL_ (some 48) rfl rfl Try.func20 (by kernel_rfl) rfl #[.string t477] rfl (by (try simp only [List.map_toArray, List.map_cons, List.map_nil]); first | done | rfl | (simp only [List.length_drop, List.length_take]; rfl)) ?_; (with_reducible refine (impl_TextValid.calls kj5 t477 false _ A15.out).mono ?_); rintro e w' ⟨rfl, ⟨nd, rfl⟩⟩; refine ⟨_, rfl, ?_⟩))
            go_ret
            exact ⟨by first | rfl | (simp [errW_none, errW_some] <;> rfl) | (simp [*, errW_none, errW_some] <;> rfl), by repeat (first | (with_reducible first | exact HB.out | apply below_alloc | apply pw_below_drewN | apply below_drew1) | exact HB.out)⟩

/-- THE ONE PURE STATEMENT of laws_FnUnquote: yours. -/
def laws_FnUnquote.Pure : Prop := ∀ (l0 : List Int), l0.length ≤ maxLen → l0.length * 1 ≤ 140737488351232 → (∀ x ∈ l0, (Lit.int .u8 x).wf = true) → ∃ k, laws_FnUnquote.f k l0 = some true
theorem laws_FnUnquote.walk (P : laws_FnUnquote.Pure) (a0 : Option Addr) (len0 cap0 : Nat) (z0 : List Int) (w : World) (w0 : (a0 = none ∧ len0 = 0 ∧ cap0 = 0 ∧ z0 = []) ∨ ∃ x, a0 = some x ∧ len0 ≤ cap0 ∧ cap0 ≤ maxLen ∧ z0.length = cap0 ∧ (∀ i, i < z0.length → w.cell? (x.add i) = some (.int .u8 (z0.getD i 0))) ∧ ∀ n ∈ z0, (Lit.int .u8 n).wf = true) (y0 : len0 * 1 ≤ 140737488351232) :
    Calls Try.prog 9 #[.slice a0 len0 cap0] w fun e w' => e = .returned (.bool true) ∧ Below w.heap.size w w' := by
  obtain ⟨l0, rfl, hr0, hm0, hw0, hc0⟩ := ReadsInt.ofRowC w0
  obtain ⟨k, h⟩ := P l0 hm0 y0 hw0
  refine (laws_FnUnquote.calls k _ _ l0 true w (Kd.C_of_reads (d := (0 : Int)) (h1 := fun _ => rfl) hr0) hc0 h).mono ?_
  rintro e w' ⟨rfl, hd⟩
  exact ⟨rfl, hd⟩

end Go.Proofs.Yteibhbhlmnnfjaa.Q
