/- What functions of the program come to, written by a program of this session (mwprint.py); no condition. -/
import Derived.Test.YtdblodoojgonoaaQ0
import Derived.Test.YtdblodoojgonoaaQ1
import Derived.Test.YtdblodoojgonoaaQ2
import Derived.Test.YtdblodoojgonoaaQ4
namespace Go.Proofs.Ytdblodoojgonoaa.Q
open Go.RowKit Go.Proofs.YtdblodoojgonoaaW.PrintWords Go.Proofs.YtdblodoojgonoaaW.PrintLast Go.Proofs.YtdblodoojgonoaaW.PrintMore
attribute [local go_sem] max2_int min2_int max_two min_two max_three min_three max_four min_four   -- for this text's walks alone
set_option linter.unusedVariables false
set_option linter.unusedSimpArgs false

/-! ### laws_FnAtomPart: function 14 -/
def laws_FnAtomPart.j0 : Nat → ByteArray → Bool → Bool → Option (Bool)
  | 0, _, _, _ => none
  | k + 1, x3, x4, x19 => if x19 = true then ((spec_AtomValid.f k x3).bind fun t216 => (some (x4 == t216))) else (if 0 ≤ 1 then (if 1 ≤ (x3.size : Int) then ((impl_AtomValid.f (x3.extract 0 1)).bind fun t217 => (if t217 = true then (if 0 ≤ (wrap64 ((x3.size : Int) / 2)) then (if (wrap64 ((x3.size : Int) / 2)) ≤ (x3.size : Int) then ((impl_AtomValid.f (x3.extract ((wrap64 ((x3.size : Int) / 2)) : Int).toNat x3.size)).bind fun t218 => (if t218 = true then (if x3.size + 1 ≤ 9223372036854775807 then ((impl_AtomValid.f (x3 ++ (⟨#[32]⟩ : ByteArray))).bind fun t219 => (if t219 = true then (some false) else ((impl_AtomValid.f (⟨#[]⟩ : ByteArray)).bind fun t220 => (some (!t220))))) else (none)) else (some false))) else (none)) else (none)) else (some false))) else (none)) else (none))
def laws_FnAtomPart.f (k : Nat) (l0 : List Int) : Option (Bool) := if (l0.length : Int) > 1048576 then (some true) else ((spec_DrawAtomValid.f k l0).bind fun t213 => ((impl_AtomValid.f t213).bind fun t214 => ((spec_AtomValid.f k t213).bind fun t215 => (if (t214 != t215) = true then (laws_FnAtomPart.j0 k t213 t214 true) else (laws_FnAtomPart.j0 k t213 t214 (!t214))))))
theorem laws_FnAtomPart.mono_l : ∀ k, (∀ y0 y1 y2, LeO (laws_FnAtomPart.j0 k y0 y1 y2) (laws_FnAtomPart.j0 (k + 1) y0 y1 y2))
  | 0 => fun _ _ _ r h => by simp [laws_FnAtomPart.j0] at h
  | k + 1 => by
    have ih0 := laws_FnAtomPart.mono_l k
    · intro y0 y1 y2
      unfold laws_FnAtomPart.j0
      repeat' first
      | (with_reducible exact ih0 _ _ _)
      | (with_reducible exact spec_AtomValid.mono _ _)
      | (with_reducible exact spec_DrawAtomValid.mono _ _)
      | (with_reducible exact LeO.refl _)
      | (with_reducible exact LeO.none _)
      | (with_reducible refine LeO.ite ?_ ?_)
      | (with_reducible refine LeO.bind ?_ (fun _ => ?_))
      | exact ih0 _ _ _
      | exact spec_AtomValid.mono _ _
      | exact spec_DrawAtomValid.mono _ _
      | exact LeO.none _
      | refine LeO.ite ?_ ?_
      | refine LeO.bind ?_ (fun _ => ?_)
theorem laws_FnAtomPart.mono : ∀ a0 k, LeO (laws_FnAtomPart.f k a0) (laws_FnAtomPart.f (k + 1) a0) := by
  intro a0 k
  have ih0 := laws_FnAtomPart.mono_l k
  unfold laws_FnAtomPart.f
  repeat' first
      | (with_reducible exact ih0 _ _ _)
      | (with_reducible exact spec_AtomValid.mono _ _)
      | (with_reducible exact spec_DrawAtomValid.mono _ _)
      | (with_reducible exact LeO.refl _)
      | (with_reducible exact LeO.none _)
      | (with_reducible refine LeO.ite ?_ ?_)
      | (with_reducible refine LeO.bind ?_ (fun _ => ?_))
      | exact ih0 _ _ _
      | exact spec_AtomValid.mono _ _
      | exact spec_DrawAtomValid.mono _ _
      | exact LeO.none _
      | refine LeO.ite ?_ ?_
      | refine LeO.bind ?_ (fun _ => ?_)
set_option maxHeartbeats 8000000 in
set_option maxRecDepth 100000 in
theorem laws_FnAtomPart.calls (k : Nat) (A0 : Option Addr) (c0 : Nat) (l0 : List Int) (r : Bool) (w : World) (hr0 : Kd.C (Kd.int .u8) w A0 l0.length l0) (hc0 : l0.length ≤ c0) (h : laws_FnAtomPart.f k l0 = some r) :
    Calls Try.prog 14 #[.slice A0 l0.length c0] w fun e w' => e = .returned (.bool r) ∧ Below w.heap.size w w' := by
  have HR0 := Aside0.mk hr0
  have HC0 := Aside0.mk hc0
  clear hr0 hc0
  have HB := Aside0.mk (Below.refl w.heap.size w)
  have H : (if (l0.length : Int) > 1048576 then (some true) else ((spec_DrawAtomValid.f k l0).bind fun t213 => ((impl_AtomValid.f t213).bind fun t214 => ((spec_AtomValid.f k t213).bind fun t215 => (if (t214 != t215) = true then (laws_FnAtomPart.j0 k t213 t214 true) else (laws_FnAtomPart.j0 k t213 t214 (!t214))))))) = some r := h
  clear h
  by_cases c2 : (l0.length : Int) > 1048576
  · rw [if_pos c2] at H
    have c2b0 : decide (1048576 < (l0.length : Int)) = true := decide_eq_true c2
    have c2b1 : decide (1048576 < l0.length) = true := decide_eq_true (by omega)
    clear c2
    obtain rfl := Option.some.inj H
    go_enter Try.func14, Try.ntmps14
    go_wp2
    go_ret
    exact ⟨by first | rfl | (simp [errW_none, errW_some] <;> rfl) | (simp [*, errW_none, errW_some] <;> rfl), by repeat (first | (with_reducible first | exact HB.out | apply below_alloc | apply pw_below_drewN | apply below_drew1) | exact HB.out)⟩
  · rw [if_neg c2] at H
    have c2b0 : decide (1048576 < (l0.length : Int)) = false := decide_eq_false c2
    have c2b1 : decide (1048576 < l0.length) = false := decide_eq_false (by omega)
    clear c2
    replace H := Option.bind_eq_some_iff.mp H
    obtain ⟨t213, A30, H⟩ := H
    replace H : ((impl_AtomValid.f t213).bind fun t214 => ((spec_AtomValid.f k t213).bind fun t215 => (if (t214 != t215) = true then (laws_FnAtomPart.j0 k t213 t214 true) else (laws_FnAtomPart.j0 k t213 t214 (!t214))))) = some r := H
    have A3 := Aside0.mk A30
    clear A30
    replace H := Option.bind_eq_some_iff.mp H
    obtain ⟨t214, A40, H⟩ := H
    replace H : ((spec_AtomValid.f k t213).bind fun t215 => (if (t214 != t215) = true then (laws_FnAtomPart.j0 k t213 t214 true) else (laws_FnAtomPart.j0 k t213 t214 (!t214)))) = some r := H
    have A4 := Aside0.mk A40
    clear A40
    have HC5 := Aside0.mk H
    clear H
    go_enter Try.func14, Try.ntmps14
    go_upto_region 5 with (first | ((with_reducible refine gate_callee (f := 31) rfl ?_); refine goesL_ (some 9) rfl rfl Try.func31 (by kernel_rfl) rfl #[.slice A0 l0.length c0] rfl (by (try simp only [List.map_toArray, List.map_cons, List.map_nil]); first | done | rfl | (simp only [List.length_drop, List.length_take]; rfl)) ?_; (with_reducible refine (spec_DrawAtomValid.calls k _ _ l0 t213 _ ?side1 ?side2 A3.out).mono ?_); (case side1 => repeat (first | exact HR0.out | (with_reducible refine Kd.C_alloc ?_ _) | (with_reducible refine Kd.C_drewN ?_ _) | (with_reducible refine Kd.C_drew ?_))); (case side2 => exact HC0.out); rintro e w6 ⟨rfl, hb⟩; refine ⟨_, rfl, ?_⟩; have n0_ := Aside0.mk (below_step (by repeat (first | (with_reducible first | exact HB.out | apply below_alloc | apply pw_below_drewN | apply below_drew1) | exact HB.out)) hb); clear HB; have HB := n0_; clear n0_; (try clear hb); (try clear hb2); (try clear hk); (try clear hi)) | ((with_reducible refine gate_callee (f := 22) rfl ?_); refine goesL_ (some 11) rfl rfl Try.func22 (by kernel_rfl) rfl #[.string t213] rfl (by (try simp only [List.map_toArray, List.map_cons, List.map_nil]); first | done | rfl | (simp only [List.length_drop, List.length_take]; rfl)) ?_; (with_reducible refine (impl_AtomValid.calls t213 t214 _ A4.out).mono ?_); rintro e w' ⟨rfl, ⟨nd, rfl⟩⟩; refine ⟨_, rfl, ?_⟩))
    (try simp only [Act.put, List.setIfInBounds_toArray, List.set_cons_zero, List.set_cons_succ])
    go_cut [19] (fun v19 wc => ∃ (kq : Nat) (x19_4 : Bool), v19 = .bool x19_4 ∧ Aside0 (laws_FnAtomPart.j0 kq t213 t214 x19_4 = some r) ∧ Aside0 (kq ≤ k) ∧ Aside0 (Below w.heap.size w wc))
    case first =>
      have H := HC5.out
      clear HC5
      replace H := Option.bind_eq_some_iff.mp H
      obtain ⟨t215, A70, H⟩ := H
      replace H : (if (t214 != t215) = true then (laws_FnAtomPart.j0 k t213 t214 true) else (laws_FnAtomPart.j0 k t213 t214 (!t214))) = some r := H
      have A7 := Aside0.mk A70
      clear A70
      by_cases c8 : (t214 != t215) = true
      · rw [if_pos c8] at H
        have c8b0 : (t214 != t215) = true := c8
        (try (have c8b1 : decide (t214 = t215) = false := by simpa using c8))
        (try (have c8b2 : (t214 == t215) = false := by simpa using c8))
        (try (have c8b3 : ¬ (t214 = t215) := by simpa using c8))
        clear c8
        (first | rw [c8b0] | (simp only [i64_w, i32_w]; rw [c8b0]) | skip)
        have H' := Aside0.mk H
        clear H
        go_wp2_with (first | ((with_reducible refine gate_callee (f := 21) rfl ?_); refine goesL_ (some 14) rfl rfl Try.func21 (by kernel_rfl) rfl #[.string t213] rfl (by (try simp only [List.map_toArray, List.map_cons, List.map_nil]); first | done | rfl | (simp only [List.length_drop, List.length_take]; rfl)) ?_; (with_reducible refine (spec_AtomValid.calls k t213 t215 _ A7.out).mono ?_); rintro e w' ⟨rfl, ⟨nd, rfl⟩⟩; refine ⟨_, rfl, ?_⟩))
        go_meet
        case rel => exact ⟨_, (true), (by first | rfl | (simp; done) | (simp [*]; done)), H', ⟨by first | omega | exact Nat.le_refl _⟩, ⟨by repeat (first | (with_reducible first | exact HB.out | apply below_alloc | apply pw_below_drewN | apply below_drew1) | exact HB.out)⟩⟩
      · rw [if_neg c8] at H
        have c8b0 : (t214 != t215) = false := by simpa using c8
        (try (have c8b1 : decide (t214 = t215) = true := by simpa using c8))
        (try (have c8b2 : (t214 == t215) = true := by simpa using c8))
        clear c8
        (first | rw [c8b0] | (simp only [i64_w, i32_w]; rw [c8b0]) | skip)
        have H' := Aside0.mk H
        clear H
        go_wp2_with (first | ((with_reducible refine gate_callee (f := 21) rfl ?_); refine goesL_ (some 14) rfl rfl Try.func21 (by kernel_rfl) rfl #[.string t213] rfl (by (try simp only [List.map_toArray, List.map_cons, List.map_nil]); first | done | rfl | (simp only [List.length_drop, List.length_take]; rfl)) ?_; (with_reducible refine (spec_AtomValid.calls k t213 t215 _ A7.out).mono ?_); rintro e w' ⟨rfl, ⟨nd, rfl⟩⟩; refine ⟨_, rfl, ?_⟩))
        go_meet
        case rel => exact ⟨_, (!t214), (by first | rfl | (simp; done) | (simp [*]; done)), H', ⟨by first | omega | exact Nat.le_refl _⟩, ⟨by repeat (first | (with_reducible first | exact HB.out | apply below_alloc | apply pw_below_drewN | apply below_drew1) | exact HB.out)⟩⟩
    case rest =>
      clear HC5
      try clear c1
      try clear c2
      try clear c2b0
      try clear c2b1
      try clear p2
      try clear c3
      try clear c8
      try clear c8b0
      try clear c8b1
      try clear c8b2
      obtain ⟨kq, x19_4, rfl, HA, HJ4, HB⟩ := hcut
      cases kq with
      | zero => exact absurd HA.out (by simp [laws_FnAtomPart.j0])
      | succ kj4 =>
        have H := HA.out
        clear HA
        simp only [laws_FnAtomPart.j0] at H
        by_cases c9 : x19_4 = true
        · subst c9
          have H1 : ((spec_AtomValid.f kj4 t213).bind fun t216 => (some (t214 == t216))) = some r := by rw [if_pos rfl] at H; exact H
          clear H
          have H := H1
          clear H1
          replace H := Option.bind_eq_some_iff.mp H
          obtain ⟨t216, A100, H⟩ := H
          replace H : (some (t214 == t216)) = some r := H
          have A10 := Aside0.mk A100
          clear A100
          obtain rfl := Option.some.inj H
          go_wp2_with (first | ((with_reducible refine gate_callee (f := 21) rfl ?_); refine goesL_ (some 22) rfl rfl Try.func21 (by kernel_rfl) rfl #[.string t213] rfl (by (try simp only [List.map_toArray, List.map_cons, List.map_nil]); first | done | rfl | (simp only [List.length_drop, List.length_take]; rfl)) ?_; (with_reducible refine (spec_AtomValid.calls kj4 t213 t216 _ A10.out).mono ?_); rintro e w' ⟨rfl, ⟨nd, rfl⟩⟩; refine ⟨_, rfl, ?_⟩))
          go_ret
          exact ⟨by first | rfl | (simp [errW_none, errW_some] <;> rfl) | (simp [*, errW_none, errW_some] <;> rfl), by repeat (first | (with_reducible first | exact HB.out | apply below_alloc | apply pw_below_drewN | apply below_drew1) | exact HB.out)⟩
        · replace c9 := Bool.eq_false_iff.mpr c9
          subst c9
          have H1 : (if 0 ≤ 1 then (if 1 ≤ (t213.size : Int) then ((impl_AtomValid.f (t213.extract 0 1)).bind fun t217 => (if t217 = true then (if 0 ≤ (wrap64 ((t213.size : Int) / 2)) then (if (wrap64 ((t213.size : Int) / 2)) ≤ (t213.size : Int) then ((impl_AtomValid.f (t213.extract ((wrap64 ((t213.size : Int) / 2)) : Int).toNat t213.size)).bind fun t218 => (if t218 = true then (if t213.size + 1 ≤ 9223372036854775807 then ((impl_AtomValid.f (t213 ++ (⟨#[32]⟩ : ByteArray))).bind fun t219 => (if t219 = true then (some false) else ((impl_AtomValid.f (⟨#[]⟩ : ByteArray)).bind fun t220 => (some (!t220))))) else (none)) else (some false))) else (none)) else (none)) else (some false))) else (none)) else (none)) = some r := by rw [if_neg (show ¬ (false = true) by decide)] at H; exact H
          clear H
          have H := H1
          clear H1
          by_cases c11 : 0 ≤ 1
          · rw [if_pos c11] at H
            have c11b0 := eq_true c11
            have c11b1 : decide (0 ≤ 1) = true := decide_eq_true c11
            clear c11
            by_cases c12 : 1 ≤ (t213.size : Int)
            · rw [if_pos c12] at H
              have c12b0 := eq_true c12
              have c12b1 : decide (1 ≤ (t213.size : Int)) = true := decide_eq_true c12
              clear c12
              replace H := Option.bind_eq_some_iff.mp H
              obtain ⟨t217, A130, H⟩ := H
              replace H : (if t217 = true then (if 0 ≤ (wrap64 ((t213.size : Int) / 2)) then (if (wrap64 ((t213.size : Int) / 2)) ≤ (t213.size : Int) then ((impl_AtomValid.f (t213.extract ((wrap64 ((t213.size : Int) / 2)) : Int).toNat t213.size)).bind fun t218 => (if t218 = true then (if t213.size + 1 ≤ 9223372036854775807 then ((impl_AtomValid.f (t213 ++ (⟨#[32]⟩ : ByteArray))).bind fun t219 => (if t219 = true then (some false) else ((impl_AtomValid.f (⟨#[]⟩ : ByteArray)).bind fun t220 => (some (!t220))))) else (none)) else (some false))) else (none)) else (none)) else (some false)) = some r := H
              have A13 := Aside0.mk A130
              clear A130
              by_cases c14 : t217 = true
              · subst c14
                have H1 : (if 0 ≤ (wrap64 ((t213.size : Int) / 2)) then (if (wrap64 ((t213.size : Int) / 2)) ≤ (t213.size : Int) then ((impl_AtomValid.f (t213.extract ((wrap64 ((t213.size : Int) / 2)) : Int).toNat t213.size)).bind fun t218 => (if t218 = true then (if t213.size + 1 ≤ 9223372036854775807 then ((impl_AtomValid.f (t213 ++ (⟨#[32]⟩ : ByteArray))).bind fun t219 => (if t219 = true then (some false) else ((impl_AtomValid.f (⟨#[]⟩ : ByteArray)).bind fun t220 => (some (!t220))))) else (none)) else (some false))) else (none)) else (none)) = some r := by rw [if_pos rfl] at H; exact H
                clear H
                have H := H1
                clear H1
                obtain ⟨ji15, hji15⟩ : ∃ j_ : Int, (wrap64 ((t213.size : Int) / 2)) = j_ := ⟨_, rfl⟩
                replace H : (if 0 ≤ (ji15) then (if (ji15) ≤ (t213.size : Int) then ((impl_AtomValid.f (t213.extract ((ji15) : Int).toNat t213.size)).bind fun t218 => (if t218 = true then (if t213.size + 1 ≤ 9223372036854775807 then ((impl_AtomValid.f (t213 ++ (⟨#[32]⟩ : ByteArray))).bind fun t219 => (if t219 = true then (some false) else ((impl_AtomValid.f (⟨#[]⟩ : ByteArray)).bind fun t220 => (some (!t220))))) else (none)) else (some false))) else (none)) else (none)) = some r := by first | (rw [hji15] at H; exact H) | (simp only [hji15] at H ⊢; exact H)
                (try rw [hji15] at A13)
                have hji15w : (IntKind.i64.wrap ((t213.size : Int) / 2)) = ji15 := (i64_w _).trans hji15
                by_cases c16 : 0 ≤ (ji15)
                · rw [if_pos c16] at H
                  have c16b0 := eq_true c16
                  have c16b1 : decide (0 ≤ (ji15)) = true := decide_eq_true c16
                  clear c16
                  by_cases c17 : (ji15) ≤ (t213.size : Int)
                  · rw [if_pos c17] at H
                    have c17b0 := eq_true c17
                    have c17b1 : decide ((ji15) ≤ (t213.size : Int)) = true := decide_eq_true c17
                    clear c17
                    replace H := Option.bind_eq_some_iff.mp H
                    obtain ⟨t218, A180, H⟩ := H
                    replace H : (if t218 = true then (if t213.size + 1 ≤ 9223372036854775807 then ((impl_AtomValid.f (t213 ++ (⟨#[32]⟩ : ByteArray))).bind fun t219 => (if t219 = true then (some false) else ((impl_AtomValid.f (⟨#[]⟩ : ByteArray)).bind fun t220 => (some (!t220))))) else (none)) else (some false)) = some r := H
                    have A18 := Aside0.mk A180
                    clear A180
                    by_cases c19 : t218 = true
                    · subst c19
                      have H1 : (if t213.size + 1 ≤ 9223372036854775807 then ((impl_AtomValid.f (t213 ++ (⟨#[32]⟩ : ByteArray))).bind fun t219 => (if t219 = true then (some false) else ((impl_AtomValid.f (⟨#[]⟩ : ByteArray)).bind fun t220 => (some (!t220))))) else (none)) = some r := by rw [if_pos rfl] at H; exact H
                      clear H
                      have H := H1
                      clear H1
                      by_cases c20 : t213.size + 1 ≤ 9223372036854775807
                      · rw [if_pos c20] at H
                        have c20b0 := eq_true c20
                        have c20b1 : decide (t213.size + 1 ≤ 9223372036854775807) = true := decide_eq_true c20
                        try have c20b2 : (9223372036854775807 < t213.size + 1) = False := eq_false (Nat.not_lt.2 c20)
                        replace H := Option.bind_eq_some_iff.mp H
                        obtain ⟨t219, A210, H⟩ := H
                        replace H : (if t219 = true then (some false) else ((impl_AtomValid.f (⟨#[]⟩ : ByteArray)).bind fun t220 => (some (!t220)))) = some r := H
                        have A21 := Aside0.mk A210
                        clear A210
                        by_cases c22 : t219 = true
                        · subst c22
                          have H1 : (some false) = some r := by rw [if_pos rfl] at H; exact H
                          clear H
                          have H := H1
                          clear H1
                          obtain rfl := Option.some.inj H
                          go_wp2_with (first | ((with_reducible refine gate_callee (f := 22) rfl ?_); refine goesL_ (some 26) rfl rfl Try.func22 (by kernel_rfl) rfl #[.string (t213.extract 0 1)] rfl (by (try simp only [List.map_toArray, List.map_cons, List.map_nil]); first | done | rfl | (simp only [List.length_drop, List.length_take]; rfl)) ?_; (with_reducible refine (impl_AtomValid.calls (t213.extract 0 1) true _ A13.out).mono ?_); rintro e w' ⟨rfl, ⟨nd, rfl⟩⟩; refine ⟨_, rfl, ?_⟩) | (go_at_call 22; (with_reducible refine (impl_AtomValid.calls (t213.extract ((ji15) : Int).toNat t213.size) true _ A18.out).mono ?_); rintro e w' ⟨rfl, ⟨nd, rfl⟩⟩) | (go_at_call 22; (with_reducible refine (impl_AtomValid.calls (t213 ++ (⟨#[32]⟩ : ByteArray)) true _ A21.out).mono ?_); rintro e w' ⟨rfl, ⟨nd, rfl⟩⟩))
                          go_ret
                          exact ⟨by first | rfl | (simp [errW_none, errW_some] <;> rfl) | (simp only [← hji15]; first | rfl | (simp [errW_none, errW_some] <;> rfl)) | (simp [*, errW_none, errW_some] <;> rfl), by repeat (first | (with_reducible first | exact HB.out | apply below_alloc | apply pw_below_drewN | apply below_drew1) | exact HB.out)⟩
                        · replace c22 := Bool.eq_false_iff.mpr c22
                          subst c22
                          have H1 : ((impl_AtomValid.f (⟨#[]⟩ : ByteArray)).bind fun t220 => (some (!t220))) = some r := by rw [if_neg (show ¬ (false = true) by decide)] at H; exact H
                          clear H
                          have H := H1
                          clear H1
                          replace H := Option.bind_eq_some_iff.mp H
                          obtain ⟨t220, A230, H⟩ := H
                          replace H : (some (!t220)) = some r := H
                          have A23 := Aside0.mk A230
                          clear A230
                          obtain rfl := Option.some.inj H
                          go_wp2_with (first | ((with_reducible refine gate_callee (f := 22) rfl ?_); refine goesL_ (some 26) rfl rfl Try.func22 (by kernel_rfl) rfl #[.string (t213.extract 0 1)] rfl (by (try simp only [List.map_toArray, List.map_cons, List.map_nil]); first | done | rfl | (simp only [List.length_drop, List.length_take]; rfl)) ?_; (with_reducible refine (impl_AtomValid.calls (t213.extract 0 1) true _ A13.out).mono ?_); rintro e w' ⟨rfl, ⟨nd, rfl⟩⟩; refine ⟨_, rfl, ?_⟩) | (go_at_call 22; (with_reducible refine (impl_AtomValid.calls (t213.extract ((ji15) : Int).toNat t213.size) true _ A18.out).mono ?_); rintro e w' ⟨rfl, ⟨nd, rfl⟩⟩) | (go_at_call 22; (with_reducible refine (impl_AtomValid.calls (t213 ++ (⟨#[32]⟩ : ByteArray)) false _ A21.out).mono ?_); rintro e w' ⟨rfl, ⟨nd, rfl⟩⟩) | (go_at_call 22; (with_reducible refine (impl_AtomValid.calls (⟨#[]⟩ : ByteArray) t220 _ A23.out).mono ?_); rintro e w' ⟨rfl, ⟨nd, rfl⟩⟩))
                          go_ret
                          exact ⟨by first | rfl | (simp [errW_none, errW_some] <;> rfl) | (simp only [← hji15]; first | rfl | (simp [errW_none, errW_some] <;> rfl)) | (simp [*, errW_none, errW_some] <;> rfl), by repeat (first | (with_reducible first | exact HB.out | apply below_alloc | apply pw_below_drewN | apply below_drew1) | exact HB.out)⟩
                      · rw [if_neg c20] at H
                        exact absurd H (by simp)
                    · replace c19 := Bool.eq_false_iff.mpr c19
                      subst c19
                      have H1 : (some false) = some r := by rw [if_neg (show ¬ (false = true) by decide)] at H; exact H
                      clear H
                      have H := H1
                      clear H1
                      obtain rfl := Option.some.inj H
                      go_wp2_with (first | ((with_reducible refine gate_callee (f := 22) rfl ?_); refine goesL_ (some 26) rfl rfl Try.func22 (by kernel_rfl) rfl #[.string (t213.extract 0 1)] rfl (by (try simp only [List.map_toArray, List.map_cons, List.map_nil]); first | done | rfl | (simp only [List.length_drop, List.length_take]; rfl)) ?_; (with_reducible refine (impl_AtomValid.calls (t213.extract 0 1) true _ A13.out).mono ?_); rintro e w' ⟨rfl, ⟨nd, rfl⟩⟩; refine ⟨_, rfl, ?_⟩) | (go_at_call 22; (with_reducible refine (impl_AtomValid.calls (t213.extract ((ji15) : Int).toNat t213.size) false _ A18.out).mono ?_); rintro e w' ⟨rfl, ⟨nd, rfl⟩⟩))
                      go_ret
                      exact ⟨by first | rfl | (simp [errW_none, errW_some] <;> rfl) | (simp only [← hji15]; first | rfl | (simp [errW_none, errW_some] <;> rfl)) | (simp [*, errW_none, errW_some] <;> rfl), by repeat (first | (with_reducible first | exact HB.out | apply below_alloc | apply pw_below_drewN | apply below_drew1) | exact HB.out)⟩
                  · rw [if_neg c17] at H
                    exact absurd H (by simp)
                · rw [if_neg c16] at H
                  exact absurd H (by simp)
              · replace c14 := Bool.eq_false_iff.mpr c14
                subst c14
                have H1 : (some false) = some r := by rw [if_neg (show ¬ (false = true) by decide)] at H; exact H
                clear H
                have H := H1
                clear H1
                obtain rfl := Option.some.inj H
                go_wp2_with (first | ((with_reducible refine gate_callee (f := 22) rfl ?_); refine goesL_ (some 26) rfl rfl Try.func22 (by kernel_rfl) rfl #[.string (t213.extract 0 1)] rfl (by (try simp only [List.map_toArray, List.map_cons, List.map_nil]); first | done | rfl | (simp only [List.length_drop, List.length_take]; rfl)) ?_; (with_reducible refine (impl_AtomValid.calls (t213.extract 0 1) false _ A13.out).mono ?_); rintro e w' ⟨rfl, ⟨nd, rfl⟩⟩; refine ⟨_, rfl, ?_⟩))
                go_ret
                exact ⟨by first | rfl | (simp [errW_none, errW_some] <;> rfl) | (simp [*, errW_none, errW_some] <;> rfl), by repeat (first | (with_reducible first | exact HB.out | apply below_alloc | apply pw_below_drewN | apply below_drew1) | exact HB.out)⟩
            · rw [if_neg c12] at H
              exact absurd H (by simp)
          · rw [if_neg c11] at H
            exact absurd H (by simp)

/-- THE ONE PURE STATEMENT of laws_FnAtomPart: yours. -/
def laws_FnAtomPart.Pure : Prop := ∀ (l0 : List Int), l0.length ≤ maxLen → l0.length * 1 ≤ 140737488351232 → (∀ x ∈ l0, (Lit.int .u8 x).wf = true) → ∃ k, laws_FnAtomPart.f k l0 = some true
theorem laws_FnAtomPart.walk (P : laws_FnAtomPart.Pure) (a0 : Option Addr) (len0 cap0 : Nat) (z0 : List Int) (w : World) (w0 : (a0 = none ∧ len0 = 0 ∧ cap0 = 0 ∧ z0 = []) ∨ ∃ x, a0 = some x ∧ len0 ≤ cap0 ∧ cap0 ≤ maxLen ∧ z0.length = cap0 ∧ (∀ i, i < z0.length → w.cell? (x.add i) = some (.int .u8 (z0.getD i 0))) ∧ ∀ n ∈ z0, (Lit.int .u8 n).wf = true) (y0 : len0 * 1 ≤ 140737488351232) :
    Calls Try.prog 14 #[.slice a0 len0 cap0] w fun e w' => e = .returned (.bool true) ∧ Below w.heap.size w w' := by
  obtain ⟨l0, rfl, hr0, hm0, hw0, hc0⟩ := ReadsInt.ofRowC w0
  obtain ⟨k, h⟩ := P l0 hm0 y0 hw0
  refine (laws_FnAtomPart.calls k _ _ l0 true w (Kd.C_of_reads (d := (0 : Int)) (h1 := fun _ => rfl) hr0) hc0 h).mono ?_
  rintro e w' ⟨rfl, hd⟩
  exact ⟨rfl, hd⟩

end Go.Proofs.Ytdblodoojgonoaa.Q
