/- What functions of the program come to, written by a program of this session (mwprint.py); no condition. -/
import Derived.Test.YteibhbhlmnnfjaaQ0
import Derived.Test.YteibhbhlmnnfjaaQ2
import Derived.Test.YteibhbhlmnnfjaaQ4
import Derived.Test.YteibhbhlmnnfjaaQ7
namespace Go.Proofs.Yteibhbhlmnnfjaa.Q
open Go.RowKit Go.Proofs.YteibhbhlmnnfjaaW.PrintWords Go.Proofs.YteibhbhlmnnfjaaW.PrintLast Go.Proofs.YteibhbhlmnnfjaaW.PrintMore
attribute [local go_sem] max2_int min2_int max_two min_two max_three min_three max_four min_four   -- for this text's walks alone
set_option linter.unusedVariables false
set_option linter.unusedSimpArgs false

/-! ### laws_FnJoinSpaces: function 13 -/
def laws_FnJoinSpaces.j0 : Nat → List ByteArray → ByteArray → Bool → Option (Bool)
  | 0, _, _, _ => none
  | k + 1, x3, x4, x20 => if x20 = true then ((spec_JoinWords.f k x3).bind fun t399 => (some (x4.toList == t399.toList))) else (if 0 ≤ (wrap64 ((x3.length : Int) - 1)) then (if (wrap64 ((x3.length : Int) - 1)) ≤ (x3.length : Int) then ((impl_JoinWords.f k (x3.drop ((wrap64 ((x3.length : Int) - 1)) : Int).toNat)).bind fun t404 => (if 0 < (x4.size : Int) then (if (bt x4 0) = 32 then (some false) else (if 0 ≤ (wrap64 ((x4.size : Int) - 1)) then (if (wrap64 ((x4.size : Int) - 1)) < (x4.size : Int) then (if (bt x4 (wrap64 ((x4.size : Int) - 1))) = 32 then (some false) else (if (x4.size : Int) ≥ (t404.size : Int) then (if 0 ≤ (wrap64 ((x4.size : Int) - (t404.size : Int))) then (if (wrap64 ((x4.size : Int) - (t404.size : Int))) ≤ (x4.size : Int) then (some ((x4.extract ((wrap64 ((x4.size : Int) - (t404.size : Int))) : Int).toNat x4.size).toList == t404.toList)) else (none)) else (none)) else (some false))) else (none)) else (none))) else (none))) else (none)) else (none))
def laws_FnJoinSpaces.f (k : Nat) (l0 : List Int) : Option (Bool) := if (l0.length : Int) > 1048576 then (some true) else ((spec_DrawJoinWords.f k l0).bind fun t394 => ((impl_JoinWords.f k t394).bind fun t397 => ((spec_JoinWords.f k t394).bind fun t398 => (if t397.toList = t398.toList then (laws_FnJoinSpaces.j0 k t394 t397 (t397.toList == ([] : List UInt8))) else (laws_FnJoinSpaces.j0 k t394 t397 true)))))
theorem laws_FnJoinSpaces.mono_l : ∀ k, (∀ y0 y1 y2, LeO (laws_FnJoinSpaces.j0 k y0 y1 y2) (laws_FnJoinSpaces.j0 (k + 1) y0 y1 y2))
  | 0 => fun _ _ _ r h => by simp [laws_FnJoinSpaces.j0] at h
  | k + 1 => by
    have ih0 := laws_FnJoinSpaces.mono_l k
    · intro y0 y1 y2
      unfold laws_FnJoinSpaces.j0
      repeat' first
      | (with_reducible exact ih0 _ _ _)
      | (with_reducible exact impl_JoinWords.mono _ _)
      | (with_reducible exact spec_DrawJoinWords.mono _ _)
      | (with_reducible exact spec_JoinWords.mono _ _)
      | (with_reducible exact LeO.refl _)
      | (with_reducible exact LeO.none _)
      | (with_reducible refine LeO.ite ?_ ?_)
      | (with_reducible refine LeO.bind ?_ (fun _ => ?_))
      | exact ih0 _ _ _
      | exact impl_JoinWords.mono _ _
      | exact spec_DrawJoinWords.mono _ _
      | exact spec_JoinWords.mono _ _
      | exact LeO.none _
      | refine LeO.ite ?_ ?_
      | refine LeO.bind ?_ (fun _ => ?_)
theorem laws_FnJoinSpaces.mono : ∀ a0 k, LeO (laws_FnJoinSpaces.f k a0) (laws_FnJoinSpaces.f (k + 1) a0) := by
  intro a0 k
  have ih0 := laws_FnJoinSpaces.mono_l k
  unfold laws_FnJoinSpaces.f
  repeat' first
      | (with_reducible exact ih0 _ _ _)
      | (with_reducible exact impl_JoinWords.mono _ _)
      | (with_reducible exact spec_DrawJoinWords.mono _ _)
      | (with_reducible exact spec_JoinWords.mono _ _)
      | (with_reducible exact LeO.refl _)
      | (with_reducible exact LeO.none _)
      | (with_reducible refine LeO.ite ?_ ?_)
      | (with_reducible refine LeO.bind ?_ (fun _ => ?_))
      | exact ih0 _ _ _
      | exact impl_JoinWords.mono _ _
      | exact spec_DrawJoinWords.mono _ _
      | exact spec_JoinWords.mono _ _
      | exact LeO.none _
      | refine LeO.ite ?_ ?_
      | refine LeO.bind ?_ (fun _ => ?_)
set_option maxHeartbeats 8000000 in
set_option maxRecDepth 100000 in
theorem laws_FnJoinSpaces.calls (k : Nat) (A0 : Option Addr) (c0 : Nat) (l0 : List Int) (r : Bool) (w : World) (hr0 : Kd.C (Kd.int .u8) w A0 l0.length l0) (hc0 : l0.length ≤ c0) (h : laws_FnJoinSpaces.f k l0 = some r) :
    Calls Try.prog 13 #[.slice A0 l0.length c0] w fun e w' => e = .returned (.bool r) ∧ Below w.heap.size w w' := by
  have HR0 := Aside0.mk hr0
  have HC0 := Aside0.mk hc0
  clear hr0 hc0
  have HB := Aside0.mk (Below.refl w.heap.size w)
  have H : (if (l0.length : Int) > 1048576 then (some true) else ((spec_DrawJoinWords.f k l0).bind fun t394 => ((impl_JoinWords.f k t394).bind fun t397 => ((spec_JoinWords.f k t394).bind fun t398 => (if t397.toList = t398.toList then (laws_FnJoinSpaces.j0 k t394 t397 (t397.toList == ([] : List UInt8))) else (laws_FnJoinSpaces.j0 k t394 t397 true)))))) = some r := h
  clear h
  by_cases c2 : (l0.length : Int) > 1048576
  · rw [if_pos c2] at H
    have c2b0 : decide (1048576 < (l0.length : Int)) = true := decide_eq_true c2
    have c2b1 : decide (1048576 < l0.length) = true := decide_eq_true (by omega)
    clear c2
    obtain rfl := Option.some.inj H
    go_enter Try.func13, Try.ntmps13
    go_wp2
    go_ret
    exact ⟨by first | rfl | (simp [errW_none, errW_some] <;> rfl) | (simp [*, errW_none, errW_some] <;> rfl), by repeat (first | (with_reducible first | exact HB.out | apply below_alloc | apply pw_below_drewN | apply below_drew1) | exact HB.out)⟩
  · rw [if_neg c2] at H
    have c2b0 : decide (1048576 < (l0.length : Int)) = false := decide_eq_false c2
    have c2b1 : decide (1048576 < l0.length) = false := decide_eq_false (by omega)
    clear c2
    replace H := Option.bind_eq_some_iff.mp H
    obtain ⟨t394, A30, H⟩ := H
    replace H : ((impl_JoinWords.f k t394).bind fun t397 => ((spec_JoinWords.f k t394).bind fun t398 => (if t397.toList = t398.toList then (laws_FnJoinSpaces.j0 k t394 t397 (t397.toList == ([] : List UInt8))) else (laws_FnJoinSpaces.j0 k t394 t397 true)))) = some r := H
    have A3 := Aside0.mk A30
    clear A30
    replace H := Option.bind_eq_some_iff.mp H
    obtain ⟨t397, A40, H⟩ := H
    replace H : ((spec_JoinWords.f k t394).bind fun t398 => (if t397.toList = t398.toList then (laws_FnJoinSpaces.j0 k t394 t397 (t397.toList == ([] : List UInt8))) else (laws_FnJoinSpaces.j0 k t394 t397 true))) = some r := H
    have A4 := Aside0.mk A40
    clear A40
    have HC5 := Aside0.mk H
    clear H
    go_enter Try.func13, Try.ntmps13
    go_upto_region 5 with (first | ((with_reducible refine gate_callee (f := 37) rfl ?_); refine goesL_ (some 10) rfl rfl Try.func37 (by kernel_rfl) rfl #[.slice A0 l0.length c0] rfl (by (try simp only [List.map_toArray, List.map_cons, List.map_nil]); first | done | rfl | (simp only [List.length_drop, List.length_take]; rfl)) ?_; (with_reducible refine (spec_DrawJoinWords.calls k _ _ l0 t394 _ ?side1 ?side2 A3.out).mono ?_); (case side1 => repeat (first | exact HR0.out | (with_reducible refine Kd.C_alloc ?_ _) | (with_reducible refine Kd.C_drewN ?_ _) | (with_reducible refine Kd.C_drew ?_))); (case side2 => exact HC0.out); rintro e w6 ⟨v395, rfl, ho0, hb⟩; refine ⟨_, rfl, ?_⟩; have n0_ := Aside0.mk (Kd.R_lower ho0 (below_size (by repeat (first | (with_reducible first | exact HB.out | apply below_alloc | apply pw_below_drewN | apply below_drew1) | exact HB.out)))); have n1_ := Aside0.mk (below_step (by repeat (first | (with_reducible first | exact HB.out | apply below_alloc | apply pw_below_drewN | apply below_drew1) | exact HB.out)) hb); clear HB; have HO396 := n0_; have HB := n1_; clear n0_ n1_; (try clear hb); (try clear hb2); (try clear hk); (try clear hi); (try clear ho0); obtain ⟨Ao7, co7, eo7⟩ := Kd.R_slice HO396.out; subst eo7) | ((with_reducible refine gate_callee (f := 34) rfl ?_); refine goesL_ (some 12) rfl rfl Try.func34 (by kernel_rfl) rfl #[.slice Ao7 t394.length co7] rfl (by (try simp only [List.map_toArray, List.map_cons, List.map_nil]); first | done | rfl | (simp only [List.length_drop, List.length_take]; rfl)) ?_; (with_reducible refine (impl_JoinWords.calls k _ _ t394 t397 _ ?side1 ?side2 A4.out).mono ?_); (case side1 => repeat (first | exact (Kd.R_reads' HO396.out).2.2 | (with_reducible refine Kd.C_alloc ?_ _) | (with_reducible refine Kd.C_drewN ?_ _) | (with_reducible refine Kd.C_drew ?_))); (case side2 => exact (Kd.R_reads' HO396.out).2.1); rintro e w8 ⟨rfl, hb⟩; refine ⟨_, rfl, ?_⟩; have n0_ := Aside0.mk (Kd.R_below (by (with_reducible repeat (first | apply Kd.R_alloc | apply Kd.R_drewN | apply Kd.R_drew)); exact HO396.out) hb); have n1_ := Aside0.mk (below_step (by repeat (first | (with_reducible first | exact HB.out | apply below_alloc | apply pw_below_drewN | apply below_drew1) | exact HB.out)) hb); clear HO396; clear HB; have HO396 := n0_; have HB := n1_; clear n0_ n1_; (try clear hb); (try clear hb2); (try clear hk); (try clear hi)))
    (try simp only [Act.put, List.setIfInBounds_toArray, List.set_cons_zero, List.set_cons_succ])
    go_cut [20] (fun v20 wc => ∃ (kq : Nat) (x20_4 : Bool), v20 = .bool x20_4 ∧ Aside0 (laws_FnJoinSpaces.j0 kq t394 t397 x20_4 = some r) ∧ Aside0 (kq ≤ k) ∧ Aside0 (Kd.R Kd.string 9 wc w.heap.size (fun _ => True) (.slice Ao7 t394.length co7) t394) ∧ Aside0 (Below w.heap.size w wc))
    case first =>
      have H := HC5.out
      clear HC5
      replace H := Option.bind_eq_some_iff.mp H
      obtain ⟨t398, A90, H⟩ := H
      replace H : (if t397.toList = t398.toList then (laws_FnJoinSpaces.j0 k t394 t397 (t397.toList == ([] : List UInt8))) else (laws_FnJoinSpaces.j0 k t394 t397 true)) = some r := H
      have A9 := Aside0.mk A90
      clear A90
      by_cases c10 : t397.toList = t398.toList
      · rw [if_pos c10] at H
        have c10b0 : (t397.toList == t398.toList) = true := beq_iff_eq.mpr c10
        have c10b1 : (t397.toList != t398.toList) = false := bne_eq_false_iff_eq.mpr c10
        clear c10
        (first | rw [c10b0] | (simp only [i64_w, i32_w]; rw [c10b0]) | skip)
        have H' := Aside0.mk H
        clear H
        go_wp2_with (first | ((with_reducible refine gate_callee (f := 32) rfl ?_); refine goesL_ (some 15) rfl rfl Try.func32 (by kernel_rfl) rfl #[.slice Ao7 t394.length co7] rfl (by (try simp only [List.map_toArray, List.map_cons, List.map_nil]); first | done | rfl | (simp only [List.length_drop, List.length_take]; rfl)) ?_; (with_reducible refine (spec_JoinWords.calls k _ _ t394 t398 _ ?side1 ?side2 A9.out).mono ?_); (case side1 => repeat (first | exact (Kd.R_reads' HO396.out).2.2 | (with_reducible refine Kd.C_alloc ?_ _) | (with_reducible refine Kd.C_drewN ?_ _) | (with_reducible refine Kd.C_drew ?_))); (case side2 => exact (Kd.R_reads' HO396.out).2.1); rintro e w11 ⟨rfl, hb⟩; refine ⟨_, rfl, ?_⟩; have n0_ := Aside0.mk (Kd.R_below (by (with_reducible repeat (first | apply Kd.R_alloc | apply Kd.R_drewN | apply Kd.R_drew)); exact HO396.out) hb); have n1_ := Aside0.mk (below_step (by repeat (first | (with_reducible first | exact HB.out | apply below_alloc | apply pw_below_drewN | apply below_drew1) | exact HB.out)) hb); clear HO396; clear HB; have HO396 := n0_; have HB := n1_; clear n0_ n1_; (try clear hb); (try clear hb2); (try clear hk); (try clear hi)))
        go_meet
        case rel => exact ⟨_, ((t397.toList == ([] : List UInt8))), (by first | rfl | (simp; done) | (simp [*]; done)), H', ⟨by first | omega | exact Nat.le_refl _⟩, ⟨by (with_reducible repeat (first | apply Kd.R_alloc | apply Kd.R_drewN | apply Kd.R_drew)); exact HO396.out⟩, ⟨by repeat (first | (with_reducible first | exact HB.out | apply below_alloc | apply pw_below_drewN | apply below_drew1) | exact HB.out)⟩⟩
      · rw [if_neg c10] at H
        have c10b0 : (t397.toList == t398.toList) = false := beq_eq_false_iff_ne.mpr c10
        have c10b1 : (t397.toList != t398.toList) = true := bne_iff_ne.mpr c10
        (first | rw [c10b0] | (simp only [i64_w, i32_w]; rw [c10b0]) | skip)
        have H' := Aside0.mk H
        clear H
        go_wp2_with (first | ((with_reducible refine gate_callee (f := 32) rfl ?_); refine goesL_ (some 15) rfl rfl Try.func32 (by kernel_rfl) rfl #[.slice Ao7 t394.length co7] rfl (by (try simp only [List.map_toArray, List.map_cons, List.map_nil]); first | done | rfl | (simp only [List.length_drop, List.length_take]; rfl)) ?_; (with_reducible refine (spec_JoinWords.calls k _ _ t394 t398 _ ?side1 ?side2 A9.out).mono ?_); (case side1 => repeat (first | exact (Kd.R_reads' HO396.out).2.2 | (with_reducible refine Kd.C_alloc ?_ _) | (with_reducible refine Kd.C_drewN ?_ _) | (with_reducible refine Kd.C_drew ?_))); (case side2 => exact (Kd.R_reads' HO396.out).2.1); rintro e w12 ⟨rfl, hb⟩; refine ⟨_, rfl, ?_⟩; have n0_ := Aside0.mk (Kd.R_below (by (with_reducible repeat (first | apply Kd.R_alloc | apply Kd.R_drewN | apply Kd.R_drew)); exact HO396.out) hb); have n1_ := Aside0.mk (below_step (by repeat (first | (with_reducible first | exact HB.out | apply below_alloc | apply pw_below_drewN | apply below_drew1) | exact HB.out)) hb); clear HO396; clear HB; have HO396 := n0_; have HB := n1_; clear n0_ n1_; (try clear hb); (try clear hb2); (try clear hk); (try clear hi)))
        go_meet
        case rel => exact ⟨_, (true), (by first | rfl | (simp; done) | (simp [*]; done)), H', ⟨by first | omega | exact Nat.le_refl _⟩, ⟨by (with_reducible repeat (first | apply Kd.R_alloc | apply Kd.R_drewN | apply Kd.R_drew)); exact HO396.out⟩, ⟨by repeat (first | (with_reducible first | exact HB.out | apply below_alloc | apply pw_below_drewN | apply below_drew1) | exact HB.out)⟩⟩
    case rest =>
      clear HC5
      try clear c1
      try clear c2
      try clear c2b0
      try clear c2b1
      try clear p2
      try clear c3
      try clear c10
      try clear c10b0
      try clear c10b1
      obtain ⟨kq, x20_4, rfl, HA, HJ4, HO_3, HB⟩ := hcut
      cases kq with
      | zero => exact absurd HA.out (by simp [laws_FnJoinSpaces.j0])
      | succ kj4 =>
        have H := HA.out
        clear HA
        simp only [laws_FnJoinSpaces.j0] at H
        by_cases c13 : x20_4 = true
        · subst c13
          have H1 : ((spec_JoinWords.f kj4 t394).bind fun t399 => (some (t397.toList == t399.toList))) = some r := by rw [if_pos rfl] at H; exact H
          clear H
          have H := H1
          clear H1
          replace H := Option.bind_eq_some_iff.mp H
          obtain ⟨t399, A140, H⟩ := H
          replace H : (some (t397.toList == t399.toList)) = some r := H
          have A14 := Aside0.mk A140
          clear A140
          obtain rfl := Option.some.inj H
          go_wp2_with (first | ((with_reducible refine gate_callee (f := 32) rfl ?_); refine goesL_ (some 23) rfl rfl Try.func32 (by kernel_rfl) rfl #[.slice Ao7 t394.length co7] rfl (by (try simp only [List.map_toArray, List.map_cons, List.map_nil]); first | done | rfl | (simp only [List.length_drop, List.length_take]; rfl)) ?_; (with_reducible refine (spec_JoinWords.calls kj4 _ _ t394 t399 _ ?side1 ?side2 A14.out).mono ?_); (case side1 => repeat (first | exact (Kd.R_reads' HO_3.out).2.2 | (with_reducible refine Kd.C_alloc ?_ _) | (with_reducible refine Kd.C_drewN ?_ _) | (with_reducible refine Kd.C_drew ?_))); (case side2 => exact (Kd.R_reads' HO_3.out).2.1); rintro e w15 ⟨rfl, hb⟩; refine ⟨_, rfl, ?_⟩; have n0_ := Aside0.mk (Kd.R_below (by (with_reducible repeat (first | apply Kd.R_alloc | apply Kd.R_drewN | apply Kd.R_drew)); exact HO_3.out) hb); have n1_ := Aside0.mk (below_step (by repeat (first | (with_reducible first | exact HB.out | apply below_alloc | apply pw_below_drewN | apply below_drew1) | exact HB.out)) hb); clear HO_3; clear HB; have HO_3 := n0_; have HB := n1_; clear n0_ n1_; (try clear hb); (try clear hb2); (try clear hk); (try clear hi)))
          go_ret
          exact ⟨by first | rfl | (simp [errW_none, errW_some] <;> rfl) | (simp [*, errW_none, errW_some] <;> rfl), by repeat (first | (with_reducible first | exact HB.out | apply below_alloc | apply pw_below_drewN | apply below_drew1) | exact HB.out)⟩
        · replace c13 := Bool.eq_false_iff.mpr c13
          subst c13
          have H1 : (if 0 ≤ (wrap64 ((t394.length : Int) - 1)) then (if (wrap64 ((t394.length : Int) - 1)) ≤ (t394.length : Int) then ((impl_JoinWords.f kj4 (t394.drop ((wrap64 ((t394.length : Int) - 1)) : Int).toNat)).bind fun t404 => (if 0 < (t397.size : Int) then (if (bt t397 0) = 32 then (some false) else (if 0 ≤ (wrap64 ((t397.size : Int) - 1)) then (if (wrap64 ((t397.size : Int) - 1)) < (t397.size : Int) then (if (bt t397 (wrap64 ((t397.size : Int) - 1))) = 32 then (some false) else (if (t397.size : Int) ≥ (t404.size : Int) then (if 0 ≤ (wrap64 ((t397.size : Int) - (t404.size : Int))) then (if (wrap64 ((t397.size : Int) - (t404.size : Int))) ≤ (t397.size : Int) then (some ((t397.extract ((wrap64 ((t397.size : Int) - (t404.size : Int))) : Int).toNat t397.size).toList == t404.toList)) else (none)) else (none)) else (some false))) else (none)) else (none))) else (none))) else (none)) else (none)) = some r := by rw [if_neg (show ¬ (false = true) by decide)] at H; exact H
          clear H
          have H := H1
          clear H1
          obtain ⟨ji16, hji16⟩ : ∃ j_ : Int, (wrap64 ((t394.length : Int) - 1)) = j_ := ⟨_, rfl⟩
          replace H : (if 0 ≤ (ji16) then (if (ji16) ≤ (t394.length : Int) then ((impl_JoinWords.f kj4 (t394.drop ((ji16) : Int).toNat)).bind fun t404 => (if 0 < (t397.size : Int) then (if (bt t397 0) = 32 then (some false) else (if 0 ≤ (wrap64 ((t397.size : Int) - 1)) then (if (wrap64 ((t397.size : Int) - 1)) < (t397.size : Int) then (if (bt t397 (wrap64 ((t397.size : Int) - 1))) = 32 then (some false) else (if (t397.size : Int) ≥ (t404.size : Int) then (if 0 ≤ (wrap64 ((t397.size : Int) - (t404.size : Int))) then (if (wrap64 ((t397.size : Int) - (t404.size : Int))) ≤ (t397.size : Int) then (some ((t397.extract ((wrap64 ((t397.size : Int) - (t404.size : Int))) : Int).toNat t397.size).toList == t404.toList)) else (none)) else (none)) else (some false))) else (none)) else (none))) else (none))) else (none)) else (none)) = some r := by first | (rw [hji16] at H; exact H) | (simp only [hji16] at H ⊢; exact H)
          have hji16w : (IntKind.i64.wrap ((t394.length : Int) - 1)) = ji16 := (i64_w _).trans hji16
          by_cases c17 : 0 ≤ (ji16)
          · rw [if_pos c17] at H
            have c17b0 := eq_true c17
            have c17b1 : decide (0 ≤ (ji16)) = true := decide_eq_true c17
            clear c17
            by_cases c18 : (ji16) ≤ (t394.length : Int)
            · rw [if_pos c18] at H
              have c18b0 := eq_true c18
              have c18b1 : decide ((ji16) ≤ (t394.length : Int)) = true := decide_eq_true c18
              clear c18
              obtain ⟨y400, hy400⟩ : ∃ y_ : List ByteArray, y_ = (t394.drop ((ji16) : Int).toNat) := ⟨_, rfl⟩
              replace H : ((impl_JoinWords.f kj4 y400).bind fun t404 => (if 0 < (t397.size : Int) then (if (bt t397 0) = 32 then (some false) else (if 0 ≤ (wrap64 ((t397.size : Int) - 1)) then (if (wrap64 ((t397.size : Int) - 1)) < (t397.size : Int) then (if (bt t397 (wrap64 ((t397.size : Int) - 1))) = 32 then (some false) else (if (t397.size : Int) ≥ (t404.size : Int) then (if 0 ≤ (wrap64 ((t397.size : Int) - (t404.size : Int))) then (if (wrap64 ((t397.size : Int) - (t404.size : Int))) ≤ (t397.size : Int) then (some ((t397.extract ((wrap64 ((t397.size : Int) - (t404.size : Int))) : Int).toNat t397.size).toList == t404.toList)) else (none)) else (none)) else (some false))) else (none)) else (none))) else (none))) = some r := by first | (rw [hy400]; with_reducible exact H) | (have H2_ := (Option.bind_some _ _).symm.trans H; rw [hy400]; with_reducible exact H2_) | (have H2_ := (Option.bind_some _ _).symm.trans H; with_reducible exact H2_) | with_reducible exact H | (rw [hy400]; exact H) | exact H
              have Ny400 := Aside0.mk hy400
              clear hy400
              replace H := Option.bind_eq_some_iff.mp H
              obtain ⟨t404, A190, H⟩ := H
              replace H : (if 0 < (t397.size : Int) then (if (bt t397 0) = 32 then (some false) else (if 0 ≤ (wrap64 ((t397.size : Int) - 1)) then (if (wrap64 ((t397.size : Int) - 1)) < (t397.size : Int) then (if (bt t397 (wrap64 ((t397.size : Int) - 1))) = 32 then (some false) else (if (t397.size : Int) ≥ (t404.size : Int) then (if 0 ≤ (wrap64 ((t397.size : Int) - (t404.size : Int))) then (if (wrap64 ((t397.size : Int) - (t404.size : Int))) ≤ (t397.size : Int) then (some ((t397.extract ((wrap64 ((t397.size : Int) - (t404.size : Int))) : Int).toNat t397.size).toList == t404.toList)) else (none)) else (none)) else (some false))) else (none)) else (none))) else (none)) = some r := H
              have A19 := Aside0.mk A190
              clear A190
              by_cases c20 : 0 < (t397.size : Int)
              · rw [if_pos c20] at H
                have c20b0 : decide (0 < (t397.size : Int)) = true := decide_eq_true c20
                have c20b1 : decide (0 < t397.size) = true := decide_eq_true (by omega)
                clear c20
                by_cases c22 : (bt t397 0) = 32
                · rw [if_pos c22] at H
                  have c22b0 : ((bt t397 0) == 32) = true := beq_iff_eq.mpr c22
                  have c22b1 : ((bt t397 0) != 32) = false := bne_eq_false_iff_eq.mpr c22
                  clear c22
                  obtain rfl := Option.some.inj H
                  have q23 : ((ji16) : Int) ≤ ((t394.length : Int) : Int) := of_decide_eq_true (by first | (with_reducible assumption) | assumption)
                  obtain ⟨i023, hi023, _, hsz23, _⟩ := info_parts info9
                  have hroom23 : t394.length ≤ co7 := (Kd.R_reads' HO_3.out).2.1
                  have hC23 : Kd.C Kd.string _ Ao7 t394.length t394 := (Kd.R_reads' HO_3.out).2.2
                  have q023 : (0 : Int) ≤ ((ji16) : Int) := of_decide_eq_true (by first | (with_reducible assumption) | assumption)
                  have hcut23 := cut_from (P := Try.prog) 29 9 .i64 Try.underlying29 hi023 1 hsz23 Ao7 t394.length co7 (ji16) q023 q23
                  have hr23 := Kd.C_drop (m := ((ji16) : Int).toNat) (c := co7) hC23 (by omega) hroom23
                  obtain ⟨A23, hA23⟩ : ∃ A1, A1 = (if co7 = ((ji16) : Int).toNat then Ao7 else (Ao7 : Option Addr).map (·.add (((ji16) : Int).toNat * 1))) := ⟨_, rfl⟩
                  obtain ⟨c23, hc23⟩ : ∃ c1, c1 = co7 - ((ji16) : Int).toNat := ⟨_, rfl⟩
                  have hy23 : y400.length = t394.length - ((ji16) : Int).toNat := (by rw [Ny400.out, List.length_drop] <;> omega)
                  rw [show (t394).drop ((ji16) : Int).toNat = y400 from Ny400.out.symm] at hr23
                  replace hr23 : Kd.C Kd.string _ A23 y400.length y400 := (by rw [hA23]; exact hr23)
                  rw [← hy23, ← hA23, ← hc23] at hcut23
                  have HR403 := Aside0.mk hr23
                  have HC403 := Aside0.mk (show y400.length ≤ c23 from by rw [hy23, hc23]; exact Nat.sub_le_sub_right hroom23 _)
                  clear hr23 hC23 hroom23 hi023 hsz23 hc23
                  have KY23 := Aside0.mk hy23
                  have KA23 := Aside0.mk hA23
                  clear hy23 hA23
                  have KL23 := Aside0.mk (show ((ji16) : Int).toNat ≤ t394.length from by omega)
                  replace q23 := eq_true q23
                  go_wp2_with (first | ((with_reducible refine gate_callee (f := 34) rfl ?_); refine goesL_ (some 30) rfl rfl Try.func34 (by kernel_rfl) rfl #[.slice A23 y400.length c23] rfl (by (try simp only [List.map_toArray, List.map_cons, List.map_nil]); first | done | rfl | (simp only [List.length_drop, List.length_take]; rfl)) ?_; (with_reducible refine (impl_JoinWords.calls kj4 _ _ y400 t404 _ ?side1 ?side2 A19.out).mono ?_); (case side1 => repeat (first | exact (by repeat (first | (with_reducible exact HR403.out) | (with_reducible refine Kd.C_alloc ?_ _) | (with_reducible refine Kd.C_drewN ?_ _) | (with_reducible refine Kd.C_drew ?_) | exact HR403.out)) | (with_reducible refine Kd.C_alloc ?_ _) | (with_reducible refine Kd.C_drewN ?_ _) | (with_reducible refine Kd.C_drew ?_))); (case side2 => exact HC403.out); rintro e w24 ⟨rfl, hb⟩; refine ⟨_, rfl, ?_⟩; have n0_ := Aside0.mk (Kd.R_below (by (with_reducible repeat (first | apply Kd.R_alloc | apply Kd.R_drewN | apply Kd.R_drew)); exact HO_3.out) hb); have n1_ := Aside0.mk (Kd.C_below (by repeat (first | (with_reducible exact HR403.out) | (with_reducible refine Kd.C_alloc ?_ _) | (with_reducible refine Kd.C_drewN ?_ _) | (with_reducible refine Kd.C_drew ?_) | exact HR403.out)) hb); have n2_ := Aside0.mk (below_step (by repeat (first | (with_reducible first | exact HB.out | apply below_alloc | apply pw_below_drewN | apply below_drew1) | exact HB.out)) hb); clear HO_3; clear HR403; clear HB; have HO_3 := n0_; have HR403 := n1_; have HB := n2_; clear n0_ n1_ n2_; (try clear hb); (try clear hb2); (try clear hk); (try clear hi); have p21 : 0 ≤ (0 : Int) := (by omega); have q21 : 0 < t397.size := (by have : (0 : Int) < (t397.size : Int) := of_decide_eq_true (by first | (with_reducible assumption) | assumption); omega); have hx21 : ∀ h : 0 < t397.size, ((t397[0]'h).toNat : Int) = bt t397 0 := bt_at t397 0; clear p21; have qi21 : (0 < (t397.size : Int)) = True := eq_true (of_decide_eq_true (by first | (with_reducible assumption) | assumption)); replace q21 := eq_true q21))
                  go_ret
                  exact ⟨by first | rfl | (simp [errW_none, errW_some] <;> rfl) | (simp only [← hji16]; first | rfl | (simp [errW_none, errW_some] <;> rfl)) | (simp [*, errW_none, errW_some] <;> rfl), by repeat (first | (with_reducible first | exact HB.out | apply below_alloc | apply pw_below_drewN | apply below_drew1) | exact HB.out)⟩
                · rw [if_neg c22] at H
                  have c22b0 : ((bt t397 0) == 32) = false := beq_eq_false_iff_ne.mpr c22
                  have c22b1 : ((bt t397 0) != 32) = true := bne_iff_ne.mpr c22
                  obtain ⟨ji25, hji25⟩ : ∃ j_ : Int, (wrap64 ((t397.size : Int) - 1)) = j_ := ⟨_, rfl⟩
                  replace H : (if 0 ≤ (ji25) then (if (ji25) < (t397.size : Int) then (if (bt t397 (ji25)) = 32 then (some false) else (if (t397.size : Int) ≥ (t404.size : Int) then (if 0 ≤ (wrap64 ((t397.size : Int) - (t404.size : Int))) then (if (wrap64 ((t397.size : Int) - (t404.size : Int))) ≤ (t397.size : Int) then (some ((t397.extract ((wrap64 ((t397.size : Int) - (t404.size : Int))) : Int).toNat t397.size).toList == t404.toList)) else (none)) else (none)) else (some false))) else (none)) else (none)) = some r := by first | (rw [hji25] at H; exact H) | (simp only [hji25] at H ⊢; exact H)
                  (try rw [hji25] at A19)
                  have hji25w : (IntKind.i64.wrap ((t397.size : Int) - 1)) = ji25 := (i64_w _).trans hji25
                  by_cases c26 : 0 ≤ (ji25)
                  · rw [if_pos c26] at H
                    have c26b0 : decide (0 ≤ (ji25)) = true := decide_eq_true c26
                    clear c26
                    by_cases c27 : (ji25) < (t397.size : Int)
                    · rw [if_pos c27] at H
                      have c27b0 : decide ((ji25) < (t397.size : Int)) = true := decide_eq_true c27
                      clear c27
                      by_cases c29 : (bt t397 (ji25)) = 32
                      · rw [if_pos c29] at H
                        have c29b0 : ((bt t397 (ji25)) == 32) = true := beq_iff_eq.mpr c29
                        have c29b1 : ((bt t397 (ji25)) != 32) = false := bne_eq_false_iff_eq.mpr c29
                        clear c29
                        obtain rfl := Option.some.inj H
                        have q30 : ((ji16) : Int) ≤ ((t394.length : Int) : Int) := of_decide_eq_true (by first | (with_reducible assumption) | assumption)
                        obtain ⟨i030, hi030, _, hsz30, _⟩ := info_parts info9
                        have hroom30 : t394.length ≤ co7 := (Kd.R_reads' HO_3.out).2.1
                        have hC30 : Kd.C Kd.string _ Ao7 t394.length t394 := (Kd.R_reads' HO_3.out).2.2
                        have q030 : (0 : Int) ≤ ((ji16) : Int) := of_decide_eq_true (by first | (with_reducible assumption) | assumption)
                        have hcut30 := cut_from (P := Try.prog) 29 9 .i64 Try.underlying29 hi030 1 hsz30 Ao7 t394.length co7 (ji16) q030 q30
                        have hr30 := Kd.C_drop (m := ((ji16) : Int).toNat) (c := co7) hC30 (by omega) hroom30
                        obtain ⟨A30, hA30⟩ : ∃ A1, A1 = (if co7 = ((ji16) : Int).toNat then Ao7 else (Ao7 : Option Addr).map (·.add (((ji16) : Int).toNat * 1))) := ⟨_, rfl⟩
                        obtain ⟨c30, hc30⟩ : ∃ c1, c1 = co7 - ((ji16) : Int).toNat := ⟨_, rfl⟩
                        have hy30 : y400.length = t394.length - ((ji16) : Int).toNat := (by rw [Ny400.out, List.length_drop] <;> omega)
                        rw [show (t394).drop ((ji16) : Int).toNat = y400 from Ny400.out.symm] at hr30
                        replace hr30 : Kd.C Kd.string _ A30 y400.length y400 := (by rw [hA30]; exact hr30)
                        rw [← hy30, ← hA30, ← hc30] at hcut30
                        have HR403 := Aside0.mk hr30
                        have HC403 := Aside0.mk (show y400.length ≤ c30 from by rw [hy30, hc30]; exact Nat.sub_le_sub_right hroom30 _)
                        clear hr30 hC30 hroom30 hi030 hsz30 hc30
                        have KY30 := Aside0.mk hy30
                        have KA30 := Aside0.mk hA30
                        clear hy30 hA30
                        have KL30 := Aside0.mk (show ((ji16) : Int).toNat ≤ t394.length from by omega)
                        replace q30 := eq_true q30
                        go_wp2_with (first | ((with_reducible refine gate_callee (f := 34) rfl ?_); refine goesL_ (some 30) rfl rfl Try.func34 (by kernel_rfl) rfl #[.slice A30 y400.length c30] rfl (by (try simp only [List.map_toArray, List.map_cons, List.map_nil]); first | done | rfl | (simp only [List.length_drop, List.length_take]; rfl)) ?_; (with_reducible refine (impl_JoinWords.calls kj4 _ _ y400 t404 _ ?side1 ?side2 A19.out).mono ?_); (case side1 => repeat (first | exact (by repeat (first | (with_reducible exact HR403.out) | (with_reducible refine Kd.C_alloc ?_ _) | (with_reducible refine Kd.C_drewN ?_ _) | (with_reducible refine Kd.C_drew ?_) | exact HR403.out)) | (with_reducible refine Kd.C_alloc ?_ _) | (with_reducible refine Kd.C_drewN ?_ _) | (with_reducible refine Kd.C_drew ?_))); (case side2 => exact HC403.out); rintro e w31 ⟨rfl, hb⟩; refine ⟨_, rfl, ?_⟩; have n0_ := Aside0.mk (Kd.R_below (by (with_reducible repeat (first | apply Kd.R_alloc | apply Kd.R_drewN | apply Kd.R_drew)); exact HO_3.out) hb); have n1_ := Aside0.mk (Kd.C_below (by repeat (first | (with_reducible exact HR403.out) | (with_reducible refine Kd.C_alloc ?_ _) | (with_reducible refine Kd.C_drewN ?_ _) | (with_reducible refine Kd.C_drew ?_) | exact HR403.out)) hb); have n2_ := Aside0.mk (below_step (by repeat (first | (with_reducible first | exact HB.out | apply below_alloc | apply pw_below_drewN | apply below_drew1) | exact HB.out)) hb); clear HO_3; clear HR403; clear HB; have HO_3 := n0_; have HR403 := n1_; have HB := n2_; clear n0_ n1_ n2_; (try clear hb); (try clear hb2); (try clear hk); (try clear hi); have p21 : 0 ≤ (0 : Int) := (by omega); have q21 : 0 < t397.size := (by have : (0 : Int) < (t397.size : Int) := of_decide_eq_true (by first | (with_reducible assumption) | assumption); omega); have hx21 : ∀ h : 0 < t397.size, ((t397[0]'h).toNat : Int) = bt t397 0 := bt_at t397 0; clear p21; have qi21 : (0 < (t397.size : Int)) = True := eq_true (of_decide_eq_true (by first | (with_reducible assumption) | assumption)); replace q21 := eq_true q21; have p28 : 0 ≤ ((ji25) : Int) := of_decide_eq_true (by first | (with_reducible assumption) | assumption); have q28 : (ji25) < (t397.size : Int) := of_decide_eq_true (by first | (with_reducible assumption) | assumption); have hx28 := bt_at t397 (ji25); replace p28 := eq_true p28; replace q28 := eq_true q28))
                        go_ret
                        exact ⟨by first | rfl | (simp [errW_none, errW_some] <;> rfl) | (simp only [← hji16, ← hji25]; first | rfl | (simp [errW_none, errW_some] <;> rfl)) | (simp [*, errW_none, errW_some] <;> rfl), by repeat (first | (with_reducible first | exact HB.out | apply below_alloc | apply pw_below_drewN | apply below_drew1) | exact HB.out)⟩
                      · rw [if_neg c29] at H
                        have c29b0 : ((bt t397 (ji25)) == 32) = false := beq_eq_false_iff_ne.mpr c29
                        have c29b1 : ((bt t397 (ji25)) != 32) = true := bne_iff_ne.mpr c29
                        by_cases c32 : (t397.size : Int) ≥ (t404.size : Int)
                        · rw [if_pos c32] at H
                          have c32b0 : decide ((t404.size : Int) ≤ (t397.size : Int)) = true := decide_eq_true c32
                          have c32b1 : decide (t404.size ≤ t397.size) = true := decide_eq_true (Int.ofNat_le.mp c32)
                          clear c32
                          obtain ⟨ji33, hji33⟩ : ∃ j_ : Int, (wrap64 ((t397.size : Int) - (t404.size : Int))) = j_ := ⟨_, rfl⟩
                          replace H : (if 0 ≤ (ji33) then (if (ji33) ≤ (t397.size : Int) then (some ((t397.extract ((ji33) : Int).toNat t397.size).toList == t404.toList)) else (none)) else (none)) = some r := by first | (rw [hji33] at H; exact H) | (simp only [hji33] at H ⊢; exact H)
                          (try rw [hji33] at A19)
                          have hji33w : (IntKind.i64.wrap ((t397.size : Int) - (t404.size : Int))) = ji33 := (i64_w _).trans hji33
                          by_cases c34 : 0 ≤ (ji33)
                          · rw [if_pos c34] at H
                            have c34b0 := eq_true c34
                            have c34b1 : decide (0 ≤ (ji33)) = true := decide_eq_true c34
                            clear c34
                            by_cases c35 : (ji33) ≤ (t397.size : Int)
                            · rw [if_pos c35] at H
                              have c35b0 := eq_true c35
                              have c35b1 : decide ((ji33) ≤ (t397.size : Int)) = true := decide_eq_true c35
                              clear c35
                              obtain rfl := Option.some.inj H
                              have q36 : ((ji16) : Int) ≤ ((t394.length : Int) : Int) := of_decide_eq_true (by first | (with_reducible assumption) | assumption)
                              obtain ⟨i036, hi036, _, hsz36, _⟩ := info_parts info9
                              have hroom36 : t394.length ≤ co7 := (Kd.R_reads' HO_3.out).2.1
                              have hC36 : Kd.C Kd.string _ Ao7 t394.length t394 := (Kd.R_reads' HO_3.out).2.2
                              have q036 : (0 : Int) ≤ ((ji16) : Int) := of_decide_eq_true (by first | (with_reducible assumption) | assumption)
                              have hcut36 := cut_from (P := Try.prog) 29 9 .i64 Try.underlying29 hi036 1 hsz36 Ao7 t394.length co7 (ji16) q036 q36
                              have hr36 := Kd.C_drop (m := ((ji16) : Int).toNat) (c := co7) hC36 (by omega) hroom36
                              obtain ⟨A36, hA36⟩ : ∃ A1, A1 = (if co7 = ((ji16) : Int).toNat then Ao7 else (Ao7 : Option Addr).map (·.add (((ji16) : Int).toNat * 1))) := ⟨_, rfl⟩
                              obtain ⟨c36, hc36⟩ : ∃ c1, c1 = co7 - ((ji16) : Int).toNat := ⟨_, rfl⟩
                              have hy36 : y400.length = t394.length - ((ji16) : Int).toNat := (by rw [Ny400.out, List.length_drop] <;> omega)
                              rw [show (t394).drop ((ji16) : Int).toNat = y400 from Ny400.out.symm] at hr36
                              replace hr36 : Kd.C Kd.string _ A36 y400.length y400 := (by rw [hA36]; exact hr36)
                              rw [← hy36, ← hA36, ← hc36] at hcut36
                              have HR403 := Aside0.mk hr36
                              have HC403 := Aside0.mk (show y400.length ≤ c36 from by rw [hy36, hc36]; exact Nat.sub_le_sub_right hroom36 _)
                              clear hr36 hC36 hroom36 hi036 hsz36 hc36
                              have KY36 := Aside0.mk hy36
                              have KA36 := Aside0.mk hA36
                              clear hy36 hA36
                              have KL36 := Aside0.mk (show ((ji16) : Int).toNat ≤ t394.length from by omega)
                              replace q36 := eq_true q36
                              go_wp2_with (first | ((with_reducible refine gate_callee (f := 34) rfl ?_); refine goesL_ (some 30) rfl rfl Try.func34 (by kernel_rfl) rfl #[.slice A36 y400.length c36] rfl (by (try simp only [List.map_toArray, List.map_cons, List.map_nil]); first | done | rfl | (simp only [List.length_drop, List.length_take]; rfl)) ?_; (with_reducible refine (impl_JoinWords.calls kj4 _ _ y400 t404 _ ?side1 ?side2 A19.out).mono ?_); (case side1 => repeat (first | exact (by repeat (first | (with_reducible exact HR403.out) | (with_reducible refine Kd.C_alloc ?_ _) | (with_reducible refine Kd.C_drewN ?_ _) | (with_reducible refine Kd.C_drew ?_) | exact HR403.out)) | (with_reducible refine Kd.C_alloc ?_ _) | (with_reducible refine Kd.C_drewN ?_ _) | (with_reducible refine Kd.C_drew ?_))); (case side2 => exact HC403.out); rintro e w37 ⟨rfl, hb⟩; refine ⟨_, rfl, ?_⟩; have n0_ := Aside0.mk (Kd.R_below (by (with_reducible repeat (first | apply Kd.R_alloc | apply Kd.R_drewN | apply Kd.R_drew)); exact HO_3.out) hb); have n1_ := Aside0.mk (Kd.C_below (by repeat (first | (with_reducible exact HR403.out) | (with_reducible refine Kd.C_alloc ?_ _) | (with_reducible refine Kd.C_drewN ?_ _) | (with_reducible refine Kd.C_drew ?_) | exact HR403.out)) hb); have n2_ := Aside0.mk (below_step (by repeat (first | (with_reducible first | exact HB.out | apply below_alloc | apply pw_below_drewN | apply below_drew1) | exact HB.out)) hb); clear HO_3; clear HR403; clear HB; have HO_3 := n0_; have HR403 := n1_; have HB := n2_; clear n0_ n1_ n2_; (try clear hb); (try clear hb2); (try clear hk); (try clear hi); have p21 : 0 ≤ (0 : Int) := (by omega); have q21 : 0 < t397.size := (by have : (0 : Int) < (t397.size : Int) := of_decide_eq_true (by first | (with_reducible assumption) | assumption); omega); have hx21 : ∀ h : 0 < t397.size, ((t397[0]'h).toNat : Int) = bt t397 0 := bt_at t397 0; clear p21; have qi21 : (0 < (t397.size : Int)) = True := eq_true (of_decide_eq_true (by first | (with_reducible assumption) | assumption)); replace q21 := eq_true q21; have p28 : 0 ≤ ((ji25) : Int) := of_decide_eq_true (by first | (with_reducible assumption) | assumption); have q28 : (ji25) < (t397.size : Int) := of_decide_eq_true (by first | (with_reducible assumption) | assumption); have hx28 := bt_at t397 (ji25); replace p28 := eq_true p28; replace q28 := eq_true q28))
                              go_ret
                              exact ⟨by first | rfl | (simp [errW_none, errW_some] <;> rfl) | (simp only [← hji16, ← hji25, ← hji33]; first | rfl | (simp [errW_none, errW_some] <;> rfl)) | (simp [*, errW_none, errW_some] <;> rfl), by repeat (first | (with_reducible first | exact HB.out | apply below_alloc | apply pw_below_drewN | apply below_drew1) | exact HB.out)⟩
                            · rw [if_neg c35] at H
                              exact absurd H (by simp)
                          · rw [if_neg c34] at H
                            exact absurd H (by simp)
                        · rw [if_neg c32] at H
                          have c32b0 : decide ((t404.size : Int) ≤ (t397.size : Int)) = false := decide_eq_false c32
                          have c32b1 : decide (t404.size ≤ t397.size) = false := decide_eq_false (fun h => c32 (Int.ofNat_le.mpr h))
                          clear c32
                          obtain rfl := Option.some.inj H
                          have q38 : ((ji16) : Int) ≤ ((t394.length : Int) : Int) := of_decide_eq_true (by first | (with_reducible assumption) | assumption)
                          obtain ⟨i038, hi038, _, hsz38, _⟩ := info_parts info9
                          have hroom38 : t394.length ≤ co7 := (Kd.R_reads' HO_3.out).2.1
                          have hC38 : Kd.C Kd.string _ Ao7 t394.length t394 := (Kd.R_reads' HO_3.out).2.2
                          have q038 : (0 : Int) ≤ ((ji16) : Int) := of_decide_eq_true (by first | (with_reducible assumption) | assumption)
                          have hcut38 := cut_from (P := Try.prog) 29 9 .i64 Try.underlying29 hi038 1 hsz38 Ao7 t394.length co7 (ji16) q038 q38
                          have hr38 := Kd.C_drop (m := ((ji16) : Int).toNat) (c := co7) hC38 (by omega) hroom38
                          obtain ⟨A38, hA38⟩ : ∃ A1, A1 = (if co7 = ((ji16) : Int).toNat then Ao7 else (Ao7 : Option Addr).map (·.add (((ji16) : Int).toNat * 1))) := ⟨_, rfl⟩
                          obtain ⟨c38, hc38⟩ : ∃ c1, c1 = co7 - ((ji16) : Int).toNat := ⟨_, rfl⟩
                          have hy38 : y400.length = t394.length - ((ji16) : Int).toNat := (by rw [Ny400.out, List.length_drop] <;> omega)
                          rw [show (t394).drop ((ji16) : Int).toNat = y400 from Ny400.out.symm] at hr38
                          replace hr38 : Kd.C Kd.string _ A38 y400.length y400 := (by rw [hA38]; exact hr38)
                          rw [← hy38, ← hA38, ← hc38] at hcut38
                          have HR403 := Aside0.mk hr38
                          have HC403 := Aside0.mk (show y400.length ≤ c38 from by rw [hy38, hc38]; exact Nat.sub_le_sub_right hroom38 _)
                          clear hr38 hC38 hroom38 hi038 hsz38 hc38
                          have KY38 := Aside0.mk hy38
                          have KA38 := Aside0.mk hA38
                          clear hy38 hA38
                          have KL38 := Aside0.mk (show ((ji16) : Int).toNat ≤ t394.length from by omega)
                          replace q38 := eq_true q38
                          go_wp2_with (first | ((with_reducible refine gate_callee (f := 34) rfl ?_); refine goesL_ (some 30) rfl rfl Try.func34 (by kernel_rfl) rfl #[.slice A38 y400.length c38] rfl (by (try simp only [List.map_toArray, List.map_cons, List.map_nil]); first | done | rfl | (simp only [List.length_drop, List.length_take]; rfl)) ?_; (with_reducible refine (impl_JoinWords.calls kj4 _ _ y400 t404 _ ?side1 ?side2 A19.out).mono ?_); (case side1 => repeat (first | exact (by repeat (first | (with_reducible exact HR403.out) | (with_reducible refine Kd.C_alloc ?_ _) | (with_reducible refine Kd.C_drewN ?_ _) | (with_reducible refine Kd.C_drew ?_) | exact HR403.out)) | (with_reducible refine Kd.C_alloc ?_ _) | (with_reducible refine Kd.C_drewN ?_ _) | (with_reducible refine Kd.C_drew ?_))); (case side2 => exact HC403.out); rintro e w39 ⟨rfl, hb⟩; refine ⟨_, rfl, ?_⟩; have n0_ := Aside0.mk (Kd.R_below (by (with_reducible repeat (first | apply Kd.R_alloc | apply Kd.R_drewN | apply Kd.R_drew)); exact HO_3.out) hb); have n1_ := Aside0.mk (Kd.C_below (by repeat (first | (with_reducible exact HR403.out) | (with_reducible refine Kd.C_alloc ?_ _) | (with_reducible refine Kd.C_drewN ?_ _) | (with_reducible refine Kd.C_drew ?_) | exact HR403.out)) hb); have n2_ := Aside0.mk (below_step (by repeat (first | (with_reducible first | exact HB.out | apply below_alloc | apply pw_below_drewN | apply below_drew1) | exact HB.out)) hb); clear HO_3; clear HR403; clear HB; have HO_3 := n0_; have HR403 := n1_; have HB := n2_; clear n0_ n1_ n2_; (try clear hb); (try clear hb2); (try clear hk); (try clear hi); have p21 : 0 ≤ (0 : Int) := (by omega); have q21 : 0 < t397.size := (by have : (0 : Int) < (t397.size : Int) := of_decide_eq_true (by first | (with_reducible assumption) | assumption); omega); have hx21 : ∀ h : 0 < t397.size, ((t397[0]'h).toNat : Int) = bt t397 0 := bt_at t397 0; clear p21; have qi21 : (0 < (t397.size : Int)) = True := eq_true (of_decide_eq_true (by first | (with_reducible assumption) | assumption)); replace q21 := eq_true q21; have p28 : 0 ≤ ((ji25) : Int) := of_decide_eq_true (by first | (with_reducible assumption) | assumption); have q28 : (ji25) < (t397.size : Int) := of_decide_eq_true (by first | (with_reducible assumption) | assumption); have hx28 := bt_at t397 (ji25); replace p28 := eq_true p28; replace q28 := eq_true q28))
                          go_ret
                          exact ⟨by first | rfl | (simp [errW_none, errW_some] <;> rfl) | (simp only [← hji16, ← hji25]; first | rfl | (simp [errW_none, errW_some] <;> rfl)) | (simp [*, errW_none, errW_some] <;> rfl), by repeat (first | (with_reducible first | exact HB.out | apply below_alloc | apply pw_below_drewN | apply below_drew1) | exact HB.out)⟩
                    · rw [if_neg c27] at H
                      exact absurd H (by simp)
                  · rw [if_neg c26] at H
                    exact absurd H (by simp)
              · rw [if_neg c20] at H
                exact absurd H (by simp)
            · rw [if_neg c18] at H
              exact absurd H (by simp)
          · rw [if_neg c17] at H
            exact absurd H (by simp)

/-- THE ONE PURE STATEMENT of laws_FnJoinSpaces: yours. -/
def laws_FnJoinSpaces.Pure : Prop := ∀ (l0 : List Int), l0.length ≤ maxLen → l0.length * 1 ≤ 140737488351232 → (∀ x ∈ l0, (Lit.int .u8 x).wf = true) → ∃ k, laws_FnJoinSpaces.f k l0 = some true
theorem laws_FnJoinSpaces.walk (P : laws_FnJoinSpaces.Pure) (a0 : Option Addr) (len0 cap0 : Nat) (z0 : List Int) (w : World) (w0 : (a0 = none ∧ len0 = 0 ∧ cap0 = 0 ∧ z0 = []) ∨ ∃ x, a0 = some x ∧ len0 ≤ cap0 ∧ cap0 ≤ maxLen ∧ z0.length = cap0 ∧ (∀ i, i < z0.length → w.cell? (x.add i) = some (.int .u8 (z0.getD i 0))) ∧ ∀ n ∈ z0, (Lit.int .u8 n).wf = true) (y0 : len0 * 1 ≤ 140737488351232) :
    Calls Try.prog 13 #[.slice a0 len0 cap0] w fun e w' => e = .returned (.bool true) ∧ Below w.heap.size w w' := by
  obtain ⟨l0, rfl, hr0, hm0, hw0, hc0⟩ := ReadsInt.ofRowC w0
  obtain ⟨k, h⟩ := P l0 hm0 y0 hw0
  refine (laws_FnJoinSpaces.calls k _ _ l0 true w (Kd.C_of_reads (d := (0 : Int)) (h1 := fun _ => rfl) hr0) hc0 h).mono ?_
  rintro e w' ⟨rfl, hd⟩
  exact ⟨rfl, hd⟩

end Go.Proofs.Yteibhbhlmnnfjaa.Q
