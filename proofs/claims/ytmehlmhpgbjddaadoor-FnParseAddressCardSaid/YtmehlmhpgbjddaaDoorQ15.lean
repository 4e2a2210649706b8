/- What functions of the program come to, written by a program of this session (mwprint.py); no condition. -/
import Derived.Test.YtmehlmhpgbjddaaDoorQ0
import Derived.Test.YtmehlmhpgbjddaaDoorQ10
import Derived.Test.YtmehlmhpgbjddaaDoorQ11
namespace Go.Proofs.YtmehlmhpgbjddaaDoor.Q
open Go.RowKit Go.Proofs.YtmehlmhpgbjddaaDoorV.PrintWords Go.Proofs.YtmehlmhpgbjddaaDoorV.PrintLast Go.Proofs.YtmehlmhpgbjddaaDoorV.PrintMore
attribute [local go_sem] max2_int min2_int max_two min_two max_three min_three max_four min_four   -- for this text's walks alone
set_option linter.unusedVariables false
set_option linter.unusedSimpArgs false
/-! ### spec_l1Bend: function 41 -/
def spec_l1Bend.j0 : Nat → ByteArray → List ByteArray → Bool → List Int → Int → Option (ByteArray × Int)
 | 0, _, _, _, _, _ => none
 | k + 1, x1, x2, x15, x1000, x1001 => if x15 = true then (some (x1, x1001)) else ((spec_l13Rd_pick.f k x1000 x1001 (x1.size : Int)).bind fun bt214 => (if 0 ≤ bt214.1 then (if bt214.1 ≤ (x1.size : Int) then ((spec_l13Rd_of.f k x1000 bt214.2 x2).bind fun bt216 => (if (x1.extract 0 (bt214.1 : Int).toNat).size + bt216.1.size ≤ 9223372036854775807 then ((spec_l13Rd_pick.f k x1000 bt216.2 2).bind fun bt218 => (if 0 ≤ (wrap64 (bt214.1 + bt218.1)) then (if (wrap64 (bt214.1 + bt218.1)) ≤ (x1.size : Int) then (if ((x1.extract 0 (bt214.1 : Int).toNat) ++ bt216.1).size + (x1.extract ((wrap64 (bt214.1 + bt218.1)) : Int).toNat x1.size).size ≤ 9223372036854775807 then (some (((x1.extract 0 (bt214.1 : Int).toNat) ++ bt216.1) ++ (x1.extract ((wrap64 (bt214.1 + bt218.1)) : Int).toNat x1.size), bt218.2)) else (none)) else (none)) else (none))) else (none))) else (none)) else (none)))
def spec_l1Bend.f (k : Nat) (s0_0 : List Int) (s0_1 : Int) (a1 : ByteArray) (l2 : List ByteArray) : Option (ByteArray × Int) := if (a1.size : Int) = 0 then (spec_l1Bend.j0 k a1 l2 true s0_0 s0_1) else ((spec_l13Rd_pick.f k s0_0 s0_1 2).bind fun bt212 => (spec_l1Bend.j0 k a1 l2 (bt212.1 == 0) s0_0 bt212.2))
theorem spec_l1Bend.mono_l : ∀ k, (∀ y0 y1 y2 y3 y4, LeO (spec_l1Bend.j0 k y0 y1 y2 y3 y4) (spec_l1Bend.j0 (k + 1) y0 y1 y2 y3 y4))
 | 0 => fun _ _ _ _ _ r h => by simp [spec_l1Bend.j0] at h
 | k + 1 => by
  have ih0 := spec_l1Bend.mono_l k
  ·intro y0 y1 y2 y3 y4
   unfold spec_l1Bend.j0
   repeat' first
   | (with_reducible first | exact ih0 _ _ _ _ _ | exact spec_l13Rd_of.mono _ _ _ _ | exact spec_l13Rd_pick.mono _ _ _ _ | exact LeO.refl _ | exact LeO.none _ | refine LeO.ite ?_ ?_ | refine LeO.bind ?_ (fun _ => ?_)) | exact ih0 _ _ _ _ _ | exact spec_l13Rd_of.mono _ _ _ _ | exact spec_l13Rd_pick.mono _ _ _ _ | exact LeO.none _ | refine LeO.ite ?_ ?_ | refine LeO.bind ?_ (fun _ => ?_)
theorem spec_l1Bend.mono : ∀ a0 a1 a2 a3 k, LeO (spec_l1Bend.f k a0 a1 a2 a3) (spec_l1Bend.f (k + 1) a0 a1 a2 a3) := by
 intro a0 a1 a2 a3 k
 have ih0 := spec_l1Bend.mono_l k
 unfold spec_l1Bend.f
 repeat' first
   | (with_reducible first | exact ih0 _ _ _ _ _ | exact spec_l13Rd_of.mono _ _ _ _ | exact spec_l13Rd_pick.mono _ _ _ _ | exact LeO.refl _ | exact LeO.none _ | refine LeO.ite ?_ ?_ | refine LeO.bind ?_ (fun _ => ?_)) | exact ih0 _ _ _ _ _ | exact spec_l13Rd_of.mono _ _ _ _ | exact spec_l13Rd_pick.mono _ _ _ _ | exact LeO.none _ | refine LeO.ite ?_ ?_ | refine LeO.bind ?_ (fun _ => ?_)
def spec_l1Bend.T4 : Bool × List (List Nat × List Nat) := (true, [([], []), ([], []), ([0, 1], [0, 1]), ([], []), ([], []), ([3, 4], [3, 4]), ([2, 5], [2, 5]), ([], []), ([], []), ([], []), ([9, 5], [9]), ([8, 10], [8, 10]), ([7, 11], [7, 11]), ([6, 12], [6, 12]), ([13, 10, 0, 1, 2, 3, 4, 5, 6, 7, 8, 9, 10, 11, 12, 13], [13])])
def spec_l1Bend.B4 : List Nat := [0, 0, 3, 0, 0, 24, 63, 0, 0, 0, 568, 1848, 4024, 8191, 16383]
theorem spec_l1Bend.tab4 : rtab .any (opsOf Tryd.f41 4) = spec_l1Bend.T4 := by kernel_rfl
theorem spec_l1Bend.bits4 : waitsOk spec_l1Bend.T4.2 spec_l1Bend.B4 = true := by kernel_rfl
set_option maxHeartbeats 8000000 in
set_option maxRecDepth 100000 in
theorem spec_l1Bend.calls (k : Nat) (g : Nat) (s0_0 : List Int) (s0_1 : Int) (a1 : ByteArray) (A2 : Option Addr) (c2 : Nat) (l2 : List ByteArray) (r1 : ByteArray) (r2 : Int) (w0 w : World) (hI : IsS80 w0 w g s0_0 s0_1) (hB : Below w0.heap.size w0 w) (hr2 : Kd.C Kd.string w A2 l2.length l2) (hc2 : l2.length ≤ c2) (hf2 : ∀ ad, A2 = some ad → 0 < l2.length → ad.block ≠ g) (h : spec_l1Bend.f k s0_0 s0_1 a1 l2 = some (r1, r2)) :
  Calls Tryd.prog 41 #[.pointer (some ⟨g, 0, none⟩), .string a1, .slice A2 l2.length c2] w fun e w' => e = .returned (.string r1) ∧ IsS80 w0 w' g s0_0 r2 ∧ Below w0.heap.size w0 w' ∧ KeepBut w w' g none := by
 have HR2 := Aside0.mk hr2
 have HC2 := Aside0.mk hc2
 clear hr2 hc2
 have HI0 := Aside0.mk hI
 have HK := Aside0.mk (KeepBut.refl w g none)
 have HL := Aside0.mk hB.size
 clear hI
 have HW0 := Aside0.mk hB.size
 have HB := Aside0.mk hB
 clear hB
 have H : (if (a1.size : Int) = 0 then (spec_l1Bend.j0 k a1 l2 true s0_0 s0_1) else ((spec_l13Rd_pick.f k s0_0 s0_1 2).bind fun bt212 => (spec_l1Bend.j0 k a1 l2 (bt212.1 == 0) s0_0 bt212.2))) = some (r1, r2) := h
 clear h
 have HC4 := Aside0.mk H
 clear H
 go_enter Tryd.func41, Tryd.ntmps41
 go_upto_region 1 with (fail)
 go_cut [15] (fun v15 wc => ∃ (kq : Nat) (x15_3 : Bool) (x1001_3 : Int), v15 = .bool x15_3 ∧ Aside0 (spec_l1Bend.j0 kq a1 l2 x15_3 s0_0 x1001_3 = some (r1, r2)) ∧ Aside0 (kq ≤ k) ∧ Aside0 (IsS80 w0 wc g s0_0 x1001_3) ∧ Aside0 (KeepBut w wc g none) ∧ Aside0 (Below w0.heap.size w0 wc))
 case first =>
  have H := HC4.out
  clear HC4
  by_cases c5 : (a1.size : Int) = 0
  ·rw [if_pos c5] at H
   have c5b0 : ((a1.size : Int) == 0) = true := beq_iff_eq.mpr c5
   have c5b1 : ((a1.size : Int) != 0) = false := bne_eq_false_iff_eq.mpr c5
   clear c5
   (first | rw [c5b0] | (simp only [i64_w, i32_w]; rw [c5b0]) | skip)
   have H' := Aside0.mk H
   clear H
   go_wp2
   go_meet
   case rel => exact ⟨_, (true), (s0_1), (by first | rfl | (simp; done) | (simp [*]; done)), H', ⟨by first | omega | exact Nat.le_refl _⟩, ⟨by repeat (first | (with_reducible first | exact HI0.out | apply IsS80.alloc | apply IsS80.drewN | apply IsS80.drew | apply IsS80.set_1) | exact HI0.out)⟩, ⟨by repeat (first | (with_reducible first | exact HK.out | apply KeepBut.set_ | apply keep_drewN | apply keep_drew | apply keep_alloc) | exact HK.out)⟩, ⟨by repeat (first | (with_reducible first | exact HB.out | apply below_alloc | apply pw_below_drewN | apply below_drew1 | refine below_set ?_ (IsS80.ge HI0.out)) | exact HB.out)⟩⟩
  ·rw [if_neg c5] at H
   have c5b0 : ((a1.size : Int) == 0) = false := beq_eq_false_iff_ne.mpr c5
   have c5b1 : ((a1.size : Int) != 0) = true := bne_iff_ne.mpr c5
   (first | rw [c5b0] | (simp only [i64_w, i32_w]; rw [c5b0]) | skip)
   replace H := Option.bind_eq_some_iff.mp H
   obtain ⟨⟨t212, t213⟩, A60, H⟩ := H
   replace H : (spec_l1Bend.j0 k a1 l2 (t212 == 0) s0_0 t213) = some (r1, r2) := H
   have A6 := Aside0.mk A60
   clear A60
   have H' := Aside0.mk H
   clear H
   go_wp2_with (first | (go_at_call 39; (with_reducible refine (spec_l13Rd_pick.calls k g s0_0 s0_1 2 t212 t213 w0 _ ?side1 ?side2 A6.out).mono ?_); (case side1 => repeat (first | (with_reducible first | exact HI0.out | apply IsS80.alloc | apply IsS80.drewN | apply IsS80.drew | apply IsS80.set_1) | exact HI0.out)); (case side2 => repeat (first | (with_reducible first | exact HB.out | apply below_alloc | apply pw_below_drewN | apply below_drew1 | refine below_set ?_ (IsS80.ge HI0.out)) | exact HB.out)); rintro e w7 ⟨rfl, hi, hb, hk⟩; have n0_ := Aside0.mk (KeepBut.trans (by repeat (first | (with_reducible first | exact HK.out | apply KeepBut.set_ | apply keep_drewN | apply keep_drew | apply keep_alloc) | exact HK.out)) hk (.inl rfl)); have n1_ := Aside0.mk (hb); have n2_ := Aside0.mk (hi); clear HK; clear HB; clear HI0; have HK := n0_; have HB := n1_; have HI0 := n2_; clear n0_ n1_ n2_; (try clear hb); (try clear hb2); (try clear hk); (try clear hi)))
   go_meet
   case rel => exact ⟨_, ((t212 == 0)), (t213), (by first | rfl | (simp; done) | (simp [*]; done)), H', ⟨by first | omega | exact Nat.le_refl _⟩, ⟨by repeat (first | (with_reducible first | exact HI0.out | apply IsS80.alloc | apply IsS80.drewN | apply IsS80.drew | apply IsS80.set_1) | exact HI0.out)⟩, ⟨by repeat (first | (with_reducible first | exact HK.out | apply KeepBut.set_ | apply keep_drewN | apply keep_drew | apply keep_alloc) | exact HK.out)⟩, ⟨by repeat (first | (with_reducible first | exact HB.out | apply below_alloc | apply pw_below_drewN | apply below_drew1 | refine below_set ?_ (IsS80.ge HI0.out)) | exact HB.out)⟩⟩
 case rest =>
  clear HC4
  try clear c2
  try clear p2
  try clear c4
  try clear c5
  try clear c5b0
  try clear c5b1
  obtain ⟨kq, x15_3, x1001_3, rfl, HA, HJ3, HI0, HK, HB⟩ := hcut
  cases kq with
  | zero => exact absurd HA.out (by simp [spec_l1Bend.j0])
  | succ kj3 =>
   have H := HA.out
   clear HA
   simp only [spec_l1Bend.j0] at H
   by_cases c8 : x15_3 = true
   ·subst c8
    have H1 : (some (a1, x1001_3)) = some (r1, r2) := by rw [if_pos rfl] at H; exact H
    clear H
    have H := H1
    clear H1
    simp only [Option.some.injEq, Prod.mk.injEq] at H
    obtain ⟨rfl, rfl⟩ := H
    go_wp2
    go_ret
    exact ⟨by first | rfl | (simp [errW_none, errW_some] <;> rfl) | (simp [*, errW_none, errW_some] <;> rfl), by repeat (first | (with_reducible first | exact HI0.out | apply IsS80.alloc | apply IsS80.drewN | apply IsS80.drew | apply IsS80.set_1) | exact HI0.out), by repeat (first | (with_reducible first | exact HB.out | apply below_alloc | apply pw_below_drewN | apply below_drew1 | refine below_set ?_ (IsS80.ge HI0.out)) | exact HB.out), by repeat (first | (with_reducible first | exact HK.out | apply KeepBut.set_ | apply keep_drewN | apply keep_drew | apply keep_alloc) | exact HK.out)⟩
   ·replace c8 := Bool.eq_false_iff.mpr c8
    subst c8
    have H1 : ((spec_l13Rd_pick.f kj3 s0_0 x1001_3 (a1.size : Int)).bind fun bt214 => (if 0 ≤ bt214.1 then (if bt214.1 ≤ (a1.size : Int) then ((spec_l13Rd_of.f kj3 s0_0 bt214.2 l2).bind fun bt216 => (if (a1.extract 0 (bt214.1 : Int).toNat).size + bt216.1.size ≤ 9223372036854775807 then ((spec_l13Rd_pick.f kj3 s0_0 bt216.2 2).bind fun bt218 => (if 0 ≤ (wrap64 (bt214.1 + bt218.1)) then (if (wrap64 (bt214.1 + bt218.1)) ≤ (a1.size : Int) then (if ((a1.extract 0 (bt214.1 : Int).toNat) ++ bt216.1).size + (a1.extract ((wrap64 (bt214.1 + bt218.1)) : Int).toNat a1.size).size ≤ 9223372036854775807 then (some (((a1.extract 0 (bt214.1 : Int).toNat) ++ bt216.1) ++ (a1.extract ((wrap64 (bt214.1 + bt218.1)) : Int).toNat a1.size), bt218.2)) else (none)) else (none)) else (none))) else (none))) else (none)) else (none))) = some (r1, r2) := by rw [if_neg (show ¬ (false = true) by decide)] at H; exact H
    clear H
    have H := H1
    clear H1
    replace H := Option.bind_eq_some_iff.mp H
    obtain ⟨⟨t214, t215⟩, A90, H⟩ := H
    replace H : (if 0 ≤ t214 then (if t214 ≤ (a1.size : Int) then ((spec_l13Rd_of.f kj3 s0_0 t215 l2).bind fun bt216 => (if (a1.extract 0 (t214 : Int).toNat).size + bt216.1.size ≤ 9223372036854775807 then ((spec_l13Rd_pick.f kj3 s0_0 bt216.2 2).bind fun bt218 => (if 0 ≤ (wrap64 (t214 + bt218.1)) then (if (wrap64 (t214 + bt218.1)) ≤ (a1.size : Int) then (if ((a1.extract 0 (t214 : Int).toNat) ++ bt216.1).size + (a1.extract ((wrap64 (t214 + bt218.1)) : Int).toNat a1.size).size ≤ 9223372036854775807 then (some (((a1.extract 0 (t214 : Int).toNat) ++ bt216.1) ++ (a1.extract ((wrap64 (t214 + bt218.1)) : Int).toNat a1.size), bt218.2)) else (none)) else (none)) else (none))) else (none))) else (none)) else (none)) = some (r1, r2) := H
    have A9 := Aside0.mk A90
    clear A90
    by_cases c10 : 0 ≤ t214
    ·rw [if_pos c10] at H
     have c10b0 := eq_true c10
     have c10b1 : decide (0 ≤ t214) = true := decide_eq_true c10
     clear c10
     by_cases c11 : t214 ≤ (a1.size : Int)
     ·rw [if_pos c11] at H
      have c11b0 := eq_true c11
      have c11b1 : decide (t214 ≤ (a1.size : Int)) = true := decide_eq_true c11
      clear c11
      replace H := Option.bind_eq_some_iff.mp H
      obtain ⟨⟨t216, t217⟩, A120, H⟩ := H
      replace H : (if (a1.extract 0 (t214 : Int).toNat).size + t216.size ≤ 9223372036854775807 then ((spec_l13Rd_pick.f kj3 s0_0 t217 2).bind fun bt218 => (if 0 ≤ (wrap64 (t214 + bt218.1)) then (if (wrap64 (t214 + bt218.1)) ≤ (a1.size : Int) then (if ((a1.extract 0 (t214 : Int).toNat) ++ t216).size + (a1.extract ((wrap64 (t214 + bt218.1)) : Int).toNat a1.size).size ≤ 9223372036854775807 then (some (((a1.extract 0 (t214 : Int).toNat) ++ t216) ++ (a1.extract ((wrap64 (t214 + bt218.1)) : Int).toNat a1.size), bt218.2)) else (none)) else (none)) else (none))) else (none)) = some (r1, r2) := H
      have A12 := Aside0.mk A120
      clear A120
      by_cases c13 : (a1.extract 0 (t214 : Int).toNat).size + t216.size ≤ 9223372036854775807
      ·rw [if_pos c13] at H
       have c13b0 := eq_true c13
       have c13b1 : decide ((a1.extract 0 (t214 : Int).toNat).size + t216.size ≤ 9223372036854775807) = true := decide_eq_true c13
       try have c13b2 : (9223372036854775807 < (a1.extract 0 (t214 : Int).toNat).size + t216.size) = False := eq_false (Nat.not_lt.2 c13)
       replace H := Option.bind_eq_some_iff.mp H
       obtain ⟨⟨t218, t219⟩, A140, H⟩ := H
       replace H : (if 0 ≤ (wrap64 (t214 + t218)) then (if (wrap64 (t214 + t218)) ≤ (a1.size : Int) then (if ((a1.extract 0 (t214 : Int).toNat) ++ t216).size + (a1.extract ((wrap64 (t214 + t218)) : Int).toNat a1.size).size ≤ 9223372036854775807 then (some (((a1.extract 0 (t214 : Int).toNat) ++ t216) ++ (a1.extract ((wrap64 (t214 + t218)) : Int).toNat a1.size), t219)) else (none)) else (none)) else (none)) = some (r1, r2) := H
       have A14 := Aside0.mk A140
       clear A140
       obtain ⟨ji15, hji15⟩ : ∃ j_ : Int, (wrap64 (t214 + t218)) = j_ := ⟨_, rfl⟩
       replace H : (if 0 ≤ (ji15) then (if (ji15) ≤ (a1.size : Int) then (if ((a1.extract 0 (t214 : Int).toNat) ++ t216).size + (a1.extract ((ji15) : Int).toNat a1.size).size ≤ 9223372036854775807 then (some (((a1.extract 0 (t214 : Int).toNat) ++ t216) ++ (a1.extract ((ji15) : Int).toNat a1.size), t219)) else (none)) else (none)) else (none)) = some (r1, r2) := by first | (rw [hji15] at H; exact H) | (simp only [hji15] at H ⊢; exact H)
       (try rw [hji15] at A9)
       (try rw [hji15] at A12)
       (try rw [hji15] at A14)
       have hji15w : (IntKind.i64.wrap (t214 + t218)) = ji15 := (i64_w _).trans hji15
       by_cases c16 : 0 ≤ (ji15)
       ·rw [if_pos c16] at H
        have c16b0 := eq_true c16
        have c16b1 : decide (0 ≤ (ji15)) = true := decide_eq_true c16
        clear c16
        by_cases c17 : (ji15) ≤ (a1.size : Int)
        ·rw [if_pos c17] at H
         have c17b0 := eq_true c17
         have c17b1 : decide ((ji15) ≤ (a1.size : Int)) = true := decide_eq_true c17
         clear c17
         by_cases c18 : ((a1.extract 0 (t214 : Int).toNat) ++ t216).size + (a1.extract ((ji15) : Int).toNat a1.size).size ≤ 9223372036854775807
         ·rw [if_pos c18] at H
          have c18b0 := eq_true c18
          have c18b1 : decide (((a1.extract 0 (t214 : Int).toNat) ++ t216).size + (a1.extract ((ji15) : Int).toNat a1.size).size ≤ 9223372036854775807) = true := decide_eq_true c18
          try have c18b2 : (9223372036854775807 < ((a1.extract 0 (t214 : Int).toNat) ++ t216).size + (a1.extract ((ji15) : Int).toNat a1.size).size) = False := eq_false (Nat.not_lt.2 c18)
          simp only [Option.some.injEq, Prod.mk.injEq] at H
          obtain ⟨rfl, rfl⟩ := H
          try go_wp2_with (first | ((with_reducible refine gate_callee (f := 39) rfl ?_); refine goesL_ (some 20) rfl rfl Tryd.func39 (by kernel_rfl) rfl #[.pointer (some ⟨g, 0, none⟩), .int .i64 (a1.size : Int)] rfl (by (try simp only [List.map_toArray, List.map_cons, List.map_nil]); first | done | rfl | (simp only [List.length_drop, List.length_take]; rfl)) ?_; (with_reducible refine (spec_l13Rd_pick.calls kj3 g s0_0 x1001_3 (a1.size : Int) t214 t215 w0 _ ?side1 ?side2 A9.out).mono ?_); (case side1 => repeat (first | (with_reducible first | exact HI0.out | apply IsS80.alloc | apply IsS80.drewN | apply IsS80.drew | apply IsS80.set_1) | exact HI0.out)); (case side2 => repeat (first | (with_reducible first | exact HB.out | apply below_alloc | apply pw_below_drewN | apply below_drew1 | refine below_set ?_ (IsS80.ge HI0.out)) | exact HB.out)); rintro e w19 ⟨rfl, hi, hb, hk⟩; refine ⟨_, rfl, ?_⟩; have n0_ := Aside0.mk (KeepBut.trans (by repeat (first | (with_reducible first | exact HK.out | apply KeepBut.set_ | apply keep_drewN | apply keep_drew | apply keep_alloc) | exact HK.out)) hk (.inl rfl)); have n1_ := Aside0.mk (hb); have n2_ := Aside0.mk (hi); clear HK; clear HB; clear HI0; have HK := n0_; have HB := n1_; have HI0 := n2_; clear n0_ n1_ n2_; (try clear hb); (try clear hb2); (try clear hk); (try clear hi)))
          have n0_ := Aside0.mk (IsS80.drew HI0.out)
          have n1_ := Aside0.mk (keep_drew HK.out)
          have n2_ := Aside0.mk (below_drew1 HB.out)
          clear HI0
          clear HK
          clear HB
          have HI0 := n0_
          have HK := n1_
          have HB := n2_
          clear n0_ n1_ n2_
          refine start_ (n := 15) (S := fun w' => True) (ds := []) #[false, false, false, false, false, false, false, false, false, false, false, false, false, false, false] (by kernel_rfl) rfl rfl trivial (fun hHeld => ?_); refine with_tabW spec_l1Bend.tab4 spec_l1Bend.bits4 (fun HT_ HW_ => ?_)
          generalize w19.drew = w20 at HI0 HK HB hHeld ⊢
          refine pure_ (i := 0) (N := some 21) (v := ?_) (a' := ?_) #[true, false, false, false, false, false, false, false, false, false, false, false, false, false, false] rfl rfl (any_of HT_.out (by kernel_rfl)) (fun _ _ _ h => h) (Or.inl ⟨by rfl, ?_⟩) ?_ ?_
          rotate_left
          ·intro w'
           go_simp
           first | (with_reducible rfl) | (rw [if_neg (by simp only [ByteArray.size_append, ByteArray.size_extract, decide_eq_true_eq] at * <;> omega)])
          rotate_left
          ·simp only [Act.put, List.setIfInBounds_toArray, List.set_cons_zero, List.set_cons_succ, i64_w, i32_w]
           rfl
          refine pure_ (i := 1) (N := some 22) (v := ?_) (a' := ?_) #[true, true, false, false, false, false, false, false, false, false, false, false, false, false, false] rfl rfl (any_of HT_.out (by kernel_rfl)) (fun _ _ _ h => h) (Or.inl ⟨by rfl, ?_⟩) ?_ ?_
          rotate_left
          ·intro w'
           go_simp
           first | (with_reducible rfl) | (rw [if_neg (by simp only [ByteArray.size_append, ByteArray.size_extract, decide_eq_true_eq] at * <;> omega)])
          rotate_left
          ·simp only [Act.put, List.setIfInBounds_toArray, List.set_cons_zero, List.set_cons_succ, i64_w, i32_w]
           rfl
          refine pure_ (i := 2) (N := some 23) (v := ?_) (a' := ?_) #[true, true, true, false, false, false, false, false, false, false, false, false, false, false, false] rfl rfl (any_of HT_.out (by kernel_rfl)) (fun _ _ _ h => h) (Or.inl ⟨by rfl, ?_⟩) ?_ ?_
          rotate_left
          ·intro w'
           go_simp
           first | (with_reducible rfl) | (rw [if_neg (by simp only [ByteArray.size_append, ByteArray.size_extract, decide_eq_true_eq] at * <;> omega)])
          rotate_left
          ·simp only [Act.put, List.setIfInBounds_toArray, List.set_cons_zero, List.set_cons_succ, i64_w, i32_w]
           rfl
          refine pure_ (i := 3) (N := some 24) (v := ?_) (a' := ?_) #[true, true, true, true, false, false, false, false, false, false, false, false, false, false, false] rfl rfl (any_of HT_.out (by kernel_rfl)) (fun _ _ _ h => h) (Or.inl ⟨by rfl, ?_⟩) ?_ ?_
          rotate_left
          ·intro w'
           go_simp
           first | (with_reducible rfl) | (rw [if_neg (by simp only [ByteArray.size_append, ByteArray.size_extract, decide_eq_true_eq] at * <;> omega)])
          rotate_left
          ·simp only [Act.put, List.setIfInBounds_toArray, List.set_cons_zero, List.set_cons_succ, i64_w, i32_w]
           rfl
          refine pure_ (i := 4) (N := some 25) (v := ?_) (a' := ?_) #[true, true, true, true, true, false, false, false, false, false, false, false, false, false, false] rfl rfl (any_of HT_.out (by kernel_rfl)) (fun _ _ _ h => h) (Or.inl ⟨by rfl, ?_⟩) ?_ ?_
          rotate_left
          ·intro w'
           go_simp
           first | (with_reducible rfl) | (rw [if_neg (by simp only [ByteArray.size_append, ByteArray.size_extract, decide_eq_true_eq] at * <;> omega)])
          rotate_left
          ·simp only [Act.put, List.setIfInBounds_toArray, List.set_cons_zero, List.set_cons_succ, i64_w, i32_w]
           rfl
          refine pure_ (i := 7) (N := some 28) (v := ?_) (a' := ?_) #[true, true, true, true, true, false, false, true, false, false, false, false, false, false, false] rfl rfl (any_of HT_.out (by kernel_rfl)) (fun _ _ _ h => h) (Or.inl ⟨by rfl, ?_⟩) ?_ ?_
          rotate_left
          ·intro w'
           go_simp
           first | (with_reducible rfl) | (rw [if_neg (by simp only [ByteArray.size_append, ByteArray.size_extract, decide_eq_true_eq] at * <;> omega)])
          rotate_left
          ·simp only [Act.put, List.setIfInBounds_toArray, List.set_cons_zero, List.set_cons_succ, i64_w, i32_w]
           rfl
          refine pure_ (i := 8) (N := some 29) (v := ?_) (a' := ?_) #[true, true, true, true, true, false, false, true, true, false, false, false, false, false, false] rfl rfl (any_of HT_.out (by kernel_rfl)) (fun _ _ _ h => h) (Or.inl ⟨by rfl, ?_⟩) ?_ ?_
          rotate_left
          ·intro w'
           go_simp
           first | (with_reducible rfl) | (rw [if_neg (by simp only [ByteArray.size_append, ByteArray.size_extract, decide_eq_true_eq] at * <;> omega)])
          rotate_left
          ·simp only [Act.put, List.setIfInBounds_toArray, List.set_cons_zero, List.set_cons_succ, i64_w, i32_w]
           rfl
          refine pure_ (i := 9) (N := some 30) (v := ?_) (a' := ?_) #[true, true, true, true, true, false, false, true, true, true, false, false, false, false, false] rfl rfl (any_of HT_.out (by kernel_rfl)) (fun _ _ _ h => h) (Or.inl ⟨by rfl, ?_⟩) ?_ ?_
          rotate_left
          ·intro w'
           go_simp
           first | (with_reducible rfl) | (rw [if_neg (by simp only [ByteArray.size_append, ByteArray.size_extract, decide_eq_true_eq] at * <;> omega)])
          rotate_left
          ·simp only [Act.put, List.setIfInBounds_toArray, List.set_cons_zero, List.set_cons_succ, i64_w, i32_w]
           rfl
          refine one_ (i := 5) (N := some 26) #[true, true, true, true, true, true, false, true, true, true, false, false, false, false, false] rfl rfl (one_of HT_.out (by kernel_rfl)) (by decide) (fun K hK => ?_)
          refine goes_ Tryd.func40 (by kernel_rfl) rfl #[.pointer (some ⟨g, 0, none⟩), .slice A2 l2.length c2] (by rfl) rfl rfl (by (try simp only [List.map_toArray, List.map_cons, List.map_nil]); first | done | rfl | (simp only [List.length_drop, List.length_take]; rfl)) ?_
          with_reducible refine (spec_l13Rd_of.calls kj3 g s0_0 t215 _ _ l2 t216 t217 w0 _ ?side1 ?side2 ?side3 ?side4 ?side5 A12.out).mono ?_
          (case side1 => repeat (first | (with_reducible first | exact HI0.out | apply IsS80.alloc | apply IsS80.drewN | apply IsS80.drew | apply IsS80.set_1) | exact HI0.out))
          (case side2 => repeat (first | (with_reducible first | exact HB.out | apply below_alloc | apply pw_below_drewN | apply below_drew1 | refine below_set ?_ (IsS80.ge HI0.out)) | exact HB.out))
          (case side3 => exact Kd.C_keep (⟨#[]⟩ : ByteArray) HR2.out (by repeat (first | (with_reducible first | exact HK.out | apply KeepBut.set_ | apply keep_drewN | apply keep_drew | apply keep_alloc) | exact HK.out)) hf2)
          (case side4 => exact HC2.out)
          (case side5 => exact hf2)
          rintro e w21 ⟨rfl, hi, hb, hk⟩
          refine ⟨_, rfl, ?_⟩
          have n0_ := Aside0.mk (KeepBut.trans (by repeat (first | (with_reducible first | exact HK.out | apply KeepBut.set_ | apply keep_drewN | apply keep_drew | apply keep_alloc) | exact HK.out)) hk (.inl rfl))
          have n1_ := Aside0.mk (hb)
          have n2_ := Aside0.mk (hi)
          clear HK
          clear HB
          clear HI0
          have HK := n0_
          have HB := n1_
          have HI0 := n2_
          clear n0_ n1_ n2_
          (try clear hb)
          (try clear hb2)
          (try clear hk)
          (try clear hi)
          refine hK.out _ _ trivial (fun hHeld => ?_)
          clear hK K
          refine norm_ (a' := ?_) ?_ ?_
          rotate_left
          ·show Act.put _ (some 26) _ = _
           simp only [Act.put, List.setIfInBounds_toArray, List.set_cons_zero, List.set_cons_succ, i64_w, i32_w]
           rfl
          refine pure_ (i := 6) (N := some 27) (v := ?_) (a' := ?_) #[true, true, true, true, true, true, true, true, true, true, false, false, false, false, false] rfl rfl (any_of HT_.out (by kernel_rfl)) (fun _ _ _ h => h) (Or.inl ⟨by rfl, ?_⟩) ?_ ?_
          rotate_left
          ·intro w'
           go_simp
           first | (with_reducible rfl) | (rw [if_neg (by simp only [ByteArray.size_append, ByteArray.size_extract, decide_eq_true_eq] at * <;> omega)])
          rotate_left
          ·simp only [Act.put, List.setIfInBounds_toArray, List.set_cons_zero, List.set_cons_succ, i64_w, i32_w]
           rfl
          refine one_ (i := 10) (N := some 31) #[true, true, true, true, true, true, true, true, true, true, true, false, false, false, false] rfl rfl (one_of HT_.out (by kernel_rfl)) (by decide) (fun K hK => ?_)
          refine goes_ Tryd.func39 (by kernel_rfl) rfl #[.pointer (some ⟨g, 0, none⟩), .int .i64 2] (by rfl) rfl rfl (by (try simp only [List.map_toArray, List.map_cons, List.map_nil]); first | done | rfl | (simp only [List.length_drop, List.length_take]; rfl)) ?_
          with_reducible refine (spec_l13Rd_pick.calls kj3 g s0_0 t217 2 t218 t219 w0 _ ?side1 ?side2 A14.out).mono ?_
          (case side1 => repeat (first | (with_reducible first | exact HI0.out | apply IsS80.alloc | apply IsS80.drewN | apply IsS80.drew | apply IsS80.set_1) | exact HI0.out))
          (case side2 => repeat (first | (with_reducible first | exact HB.out | apply below_alloc | apply pw_below_drewN | apply below_drew1 | refine below_set ?_ (IsS80.ge HI0.out)) | exact HB.out))
          rintro e w22 ⟨rfl, hi, hb, hk⟩
          refine ⟨_, rfl, ?_⟩
          have n0_ := Aside0.mk (KeepBut.trans (by repeat (first | (with_reducible first | exact HK.out | apply KeepBut.set_ | apply keep_drewN | apply keep_drew | apply keep_alloc) | exact HK.out)) hk (.inl rfl))
          have n1_ := Aside0.mk (hb)
          have n2_ := Aside0.mk (hi)
          clear HK
          clear HB
          clear HI0
          have HK := n0_
          have HB := n1_
          have HI0 := n2_
          clear n0_ n1_ n2_
          (try clear hb)
          (try clear hb2)
          (try clear hk)
          (try clear hi)
          refine hK.out _ _ trivial (fun hHeld => ?_)
          clear hK K
          refine norm_ (a' := ?_) ?_ ?_
          rotate_left
          ·show Act.put _ (some 31) _ = _
           simp only [Act.put, List.setIfInBounds_toArray, List.set_cons_zero, List.set_cons_succ, i64_w, i32_w]
           rfl
          refine pure_ (i := 11) (N := some 32) (v := ?_) (a' := ?_) #[true, true, true, true, true, true, true, true, true, true, true, true, false, false, false] rfl rfl (any_of HT_.out (by kernel_rfl)) (fun _ _ _ h => h) (Or.inl ⟨by rfl, ?_⟩) ?_ ?_
          rotate_left
          ·intro w'
           go_simp
           first | (with_reducible rfl) | (rw [if_neg (by simp only [ByteArray.size_append, ByteArray.size_extract, decide_eq_true_eq] at * <;> omega)])
          rotate_left
          ·simp only [Act.put, List.setIfInBounds_toArray, List.set_cons_zero, List.set_cons_succ, i64_w, i32_w]
           rfl
          refine pure_ (i := 12) (N := some 33) (v := ?_) (a' := ?_) #[true, true, true, true, true, true, true, true, true, true, true, true, true, false, false] rfl rfl (any_of HT_.out (by kernel_rfl)) (fun _ _ _ h => h) (Or.inl ⟨by rfl, ?_⟩) ?_ ?_
          rotate_left
          ·intro w'
           go_simp
           first | (with_reducible rfl) | (rw [if_neg (by simp only [ByteArray.size_append, ByteArray.size_extract, decide_eq_true_eq] at * <;> omega)])
          rotate_left
          ·simp only [Act.put, List.setIfInBounds_toArray, List.set_cons_zero, List.set_cons_succ, i64_w, i32_w]
           rfl
          refine pure_ (i := 13) (N := some 34) (v := ?_) (a' := ?_) #[true, true, true, true, true, true, true, true, true, true, true, true, true, true, false] rfl rfl (any_of HT_.out (by kernel_rfl)) (fun _ _ _ h => h) (Or.inl ⟨by rfl, ?_⟩) ?_ ?_
          rotate_left
          ·intro w'
           go_simp
           first | (with_reducible rfl) | (rw [if_neg (by simp only [ByteArray.size_append, ByteArray.size_extract, decide_eq_true_eq] at * <;> omega)])
          rotate_left
          ·simp only [Act.put, List.setIfInBounds_toArray, List.set_cons_zero, List.set_cons_succ, i64_w, i32_w]
           rfl
          refine pure_ (i := 14) (N := some 6) (v := ?_) (a' := ?_) #[true, true, true, true, true, true, true, true, true, true, true, true, true, true, true] rfl rfl (any_of HT_.out (by kernel_rfl)) (fun _ _ _ h => h) (Or.inl ⟨by rfl, ?_⟩) ?_ ?_
          rotate_left
          ·intro w'
           go_simp
           first | (with_reducible rfl) | (rw [if_neg (by simp only [ByteArray.size_append, ByteArray.size_extract, decide_eq_true_eq] at * <;> omega)])
          rotate_left
          ·simp only [Act.put, List.setIfInBounds_toArray, List.set_cons_zero, List.set_cons_succ, i64_w, i32_w]
           rfl
          refine done_ (done_of HT_.out (by kernel_rfl)) ?_
          try go_wp2
          go_ret
          exact ⟨by first | rfl | (simp [errW_none, errW_some] <;> rfl) | (simp only [← hji15]; first | rfl | (simp [errW_none, errW_some] <;> rfl)) | (simp [*, errW_none, errW_some] <;> rfl), by repeat (first | (with_reducible first | exact HI0.out | apply IsS80.alloc | apply IsS80.drewN | apply IsS80.drew | apply IsS80.set_1) | exact HI0.out), by repeat (first | (with_reducible first | exact HB.out | apply below_alloc | apply pw_below_drewN | apply below_drew1 | refine below_set ?_ (IsS80.ge HI0.out)) | exact HB.out), by repeat (first | (with_reducible first | exact HK.out | apply KeepBut.set_ | apply keep_drewN | apply keep_drew | apply keep_alloc) | exact HK.out)⟩
         ·rw [if_neg c18] at H
          exact absurd H (by simp)
        ·rw [if_neg c17] at H
         exact absurd H (by simp)
       ·rw [if_neg c16] at H
        exact absurd H (by simp)
      ·rw [if_neg c13] at H
       exact absurd H (by simp)
     ·rw [if_neg c11] at H
      exact absurd H (by simp)
    ·rw [if_neg c10] at H
     exact absurd H (by simp)

/-! ### spec_DrawParseAddress: function 16 -/
def spec_DrawParseAddress.f (k : Nat) (l0 : List Int) : Option (ByteArray) := (spec_l13Open.f l0).bind fun bt487 => ((spec_l13Rd_pick.f k bt487.1 bt487.2 4).bind fun bt490 => (if bt490.1 = 0 then ((spec_l13Rd_of.f k bt487.1 bt490.2 (([(⟨#[65, 110, 110, 32, 76, 101, 101, 32, 60, 97, 110, 110, 64, 88, 46, 79, 114, 103, 62]⟩ : ByteArray), (⟨#[32, 97, 110, 110, 64, 120, 46, 111, 114, 103, 32]⟩ : ByteArray), (⟨#[60, 97, 46, 98, 64, 99, 62]⟩ : ByteArray), (⟨#[34, 65, 34, 32, 66, 32, 60, 98, 64, 99, 62]⟩ : ByteArray), (⟨#[65, 110, 110, 32, 60, 62]⟩ : ByteArray), (⟨#[97, 110, 110, 64, 120, 46, 111, 114, 103, 32, 60, 98, 64, 99, 62]⟩ : ByteArray), (⟨#[97, 64, 98, 62]⟩ : ByteArray), (⟨#[60, 97, 64, 98, 62, 32, 120]⟩ : ByteArray)] : List ByteArray))).bind fun bt495 => (some bt495.1)) else ((spec_l2Draw.f k bt487.1 bt490.2).bind fun bt497 => ((spec_FormatAddress.f k bt497.1 bt497.2.1 bt497.2.2.1).bind fun t501 => ((spec_l1Bend.f k bt487.1 bt497.2.2.2 t501 (([(⟨#[]⟩ : ByteArray), (⟨#[32]⟩ : ByteArray), (⟨#[60]⟩ : ByteArray), (⟨#[62]⟩ : ByteArray), (⟨#[64]⟩ : ByteArray), (⟨#[34]⟩ : ByteArray), (⟨#[46]⟩ : ByteArray)] : List ByteArray))).bind fun bt505 => (some bt505.1))))))
theorem spec_DrawParseAddress.mono : ∀ a0 k, LeO (spec_DrawParseAddress.f k a0) (spec_DrawParseAddress.f (k + 1) a0) := by
 intro a0 k
 unfold spec_DrawParseAddress.f
 repeat' first
   | (with_reducible first | exact spec_FormatAddress.mono _ _ _ _ | exact spec_l13Rd_of.mono _ _ _ _ | exact spec_l13Rd_pick.mono _ _ _ _ | exact spec_l1Bend.mono _ _ _ _ _ | exact spec_l2Draw.mono _ _ _ | exact LeO.refl _ | exact LeO.none _ | refine LeO.ite ?_ ?_ | refine LeO.bind ?_ (fun _ => ?_)) | exact spec_FormatAddress.mono _ _ _ _ | exact spec_l13Rd_of.mono _ _ _ _ | exact spec_l13Rd_pick.mono _ _ _ _ | exact spec_l1Bend.mono _ _ _ _ _ | exact spec_l2Draw.mono _ _ _ | exact LeO.none _ | refine LeO.ite ?_ ?_ | refine LeO.bind ?_ (fun _ => ?_)
set_option maxHeartbeats 8000000 in
set_option maxRecDepth 100000 in
theorem spec_DrawParseAddress.calls (k : Nat) (A0 : Option Addr) (c0 : Nat) (l0 : List Int) (r : ByteArray) (w : World) (hr0 : Kd.C (Kd.int .u8) w A0 l0.length l0) (hc0 : l0.length ≤ c0) (h : spec_DrawParseAddress.f k l0 = some r) :
  Calls Tryd.prog 16 #[.slice A0 l0.length c0] w fun e w' => e = .returned (.string r) ∧ Below w.heap.size w w' := by
 have HR0 := Aside0.mk hr0
 have HC0 := Aside0.mk hc0
 clear hr0 hc0
 have HB := Aside0.mk (Below.refl w.heap.size w)
 have H : ((spec_l13Open.f l0).bind fun bt487 => ((spec_l13Rd_pick.f k bt487.1 bt487.2 4).bind fun bt490 => (if bt490.1 = 0 then ((spec_l13Rd_of.f k bt487.1 bt490.2 (([(⟨#[65, 110, 110, 32, 76, 101, 101, 32, 60, 97, 110, 110, 64, 88, 46, 79, 114, 103, 62]⟩ : ByteArray), (⟨#[32, 97, 110, 110, 64, 120, 46, 111, 114, 103, 32]⟩ : ByteArray), (⟨#[60, 97, 46, 98, 64, 99, 62]⟩ : ByteArray), (⟨#[34, 65, 34, 32, 66, 32, 60, 98, 64, 99, 62]⟩ : ByteArray), (⟨#[65, 110, 110, 32, 60, 62]⟩ : ByteArray), (⟨#[97, 110, 110, 64, 120, 46, 111, 114, 103, 32, 60, 98, 64, 99, 62]⟩ : ByteArray), (⟨#[97, 64, 98, 62]⟩ : ByteArray), (⟨#[60, 97, 64, 98, 62, 32, 120]⟩ : ByteArray)] : List ByteArray))).bind fun bt495 => (some bt495.1)) else ((spec_l2Draw.f k bt487.1 bt490.2).bind fun bt497 => ((spec_FormatAddress.f k bt497.1 bt497.2.1 bt497.2.2.1).bind fun t501 => ((spec_l1Bend.f k bt487.1 bt497.2.2.2 t501 (([(⟨#[]⟩ : ByteArray), (⟨#[32]⟩ : ByteArray), (⟨#[60]⟩ : ByteArray), (⟨#[62]⟩ : ByteArray), (⟨#[64]⟩ : ByteArray), (⟨#[34]⟩ : ByteArray), (⟨#[46]⟩ : ByteArray)] : List ByteArray))).bind fun bt505 => (some bt505.1))))))) = some r := h
 clear h
 replace H := Option.bind_eq_some_iff.mp H
 obtain ⟨⟨t487, t488⟩, A20, H⟩ := H
 replace H : ((spec_l13Rd_pick.f k t487 t488 4).bind fun bt490 => (if bt490.1 = 0 then ((spec_l13Rd_of.f k t487 bt490.2 (([(⟨#[65, 110, 110, 32, 76, 101, 101, 32, 60, 97, 110, 110, 64, 88, 46, 79, 114, 103, 62]⟩ : ByteArray), (⟨#[32, 97, 110, 110, 64, 120, 46, 111, 114, 103, 32]⟩ : ByteArray), (⟨#[60, 97, 46, 98, 64, 99, 62]⟩ : ByteArray), (⟨#[34, 65, 34, 32, 66, 32, 60, 98, 64, 99, 62]⟩ : ByteArray), (⟨#[65, 110, 110, 32, 60, 62]⟩ : ByteArray), (⟨#[97, 110, 110, 64, 120, 46, 111, 114, 103, 32, 60, 98, 64, 99, 62]⟩ : ByteArray), (⟨#[97, 64, 98, 62]⟩ : ByteArray), (⟨#[60, 97, 64, 98, 62, 32, 120]⟩ : ByteArray)] : List ByteArray))).bind fun bt495 => (some bt495.1)) else ((spec_l2Draw.f k t487 bt490.2).bind fun bt497 => ((spec_FormatAddress.f k bt497.1 bt497.2.1 bt497.2.2.1).bind fun t501 => ((spec_l1Bend.f k t487 bt497.2.2.2 t501 (([(⟨#[]⟩ : ByteArray), (⟨#[32]⟩ : ByteArray), (⟨#[60]⟩ : ByteArray), (⟨#[62]⟩ : ByteArray), (⟨#[64]⟩ : ByteArray), (⟨#[34]⟩ : ByteArray), (⟨#[46]⟩ : ByteArray)] : List ByteArray))).bind fun bt505 => (some bt505.1)))))) = some r := H
 have A2 := Aside0.mk A20
 clear A20
 replace H := Option.bind_eq_some_iff.mp H
 obtain ⟨⟨t490, t491⟩, A30, H⟩ := H
 replace H : (if t490 = 0 then ((spec_l13Rd_of.f k t487 t491 (([(⟨#[65, 110, 110, 32, 76, 101, 101, 32, 60, 97, 110, 110, 64, 88, 46, 79, 114, 103, 62]⟩ : ByteArray), (⟨#[32, 97, 110, 110, 64, 120, 46, 111, 114, 103, 32]⟩ : ByteArray), (⟨#[60, 97, 46, 98, 64, 99, 62]⟩ : ByteArray), (⟨#[34, 65, 34, 32, 66, 32, 60, 98, 64, 99, 62]⟩ : ByteArray), (⟨#[65, 110, 110, 32, 60, 62]⟩ : ByteArray), (⟨#[97, 110, 110, 64, 120, 46, 111, 114, 103, 32, 60, 98, 64, 99, 62]⟩ : ByteArray), (⟨#[97, 64, 98, 62]⟩ : ByteArray), (⟨#[60, 97, 64, 98, 62, 32, 120]⟩ : ByteArray)] : List ByteArray))).bind fun bt495 => (some bt495.1)) else ((spec_l2Draw.f k t487 t491).bind fun bt497 => ((spec_FormatAddress.f k bt497.1 bt497.2.1 bt497.2.2.1).bind fun t501 => ((spec_l1Bend.f k t487 bt497.2.2.2 t501 (([(⟨#[]⟩ : ByteArray), (⟨#[32]⟩ : ByteArray), (⟨#[60]⟩ : ByteArray), (⟨#[62]⟩ : ByteArray), (⟨#[64]⟩ : ByteArray), (⟨#[34]⟩ : ByteArray), (⟨#[46]⟩ : ByteArray)] : List ByteArray))).bind fun bt505 => (some bt505.1))))) = some r := H
 have A3 := Aside0.mk A30
 clear A30
 by_cases c4 : t490 = 0
 ·rw [if_pos c4] at H
  have c4b0 : (t490 == 0) = true := beq_iff_eq.mpr c4
  have c4b1 : (t490 != 0) = false := bne_eq_false_iff_eq.mpr c4
  clear c4
  obtain ⟨y492, hy492⟩ : ∃ y_ : List ByteArray, y_ = (([(⟨#[65, 110, 110, 32, 76, 101, 101, 32, 60, 97, 110, 110, 64, 88, 46, 79, 114, 103, 62]⟩ : ByteArray), (⟨#[32, 97, 110, 110, 64, 120, 46, 111, 114, 103, 32]⟩ : ByteArray), (⟨#[60, 97, 46, 98, 64, 99, 62]⟩ : ByteArray), (⟨#[34, 65, 34, 32, 66, 32, 60, 98, 64, 99, 62]⟩ : ByteArray), (⟨#[65, 110, 110, 32, 60, 62]⟩ : ByteArray), (⟨#[97, 110, 110, 64, 120, 46, 111, 114, 103, 32, 60, 98, 64, 99, 62]⟩ : ByteArray), (⟨#[97, 64, 98, 62]⟩ : ByteArray), (⟨#[60, 97, 64, 98, 62, 32, 120]⟩ : ByteArray)] : List ByteArray)) := ⟨_, rfl⟩
  replace H : ((spec_l13Rd_of.f k t487 t491 y492).bind fun bt495 => (some bt495.1)) = some r := by first | (rw [hy492]; with_reducible exact H) | (have H2_ := (Option.bind_some _ _).symm.trans H; rw [hy492]; with_reducible exact H2_) | (have H2_ := (Option.bind_some _ _).symm.trans H; with_reducible exact H2_) | with_reducible exact H | (rw [hy492]; exact H) | exact H
  have Ny492 := Aside0.mk hy492
  clear hy492
  replace H := Option.bind_eq_some_iff.mp H
  obtain ⟨⟨t495, t496⟩, A50, H⟩ := H
  replace H : (some t495) = some r := H
  have A5 := Aside0.mk A50
  clear A50
  obtain rfl := Option.some.inj H
  go_enter Tryd.func16, Tryd.ntmps16
  go_wp2_with (first | ((with_reducible refine gate_callee (f := 38) rfl ?_); refine goesL_ (some 5) rfl rfl Tryd.func38 (by kernel_rfl) rfl #[.slice A0 l0.length c0] rfl (by (try simp only [List.map_toArray, List.map_cons, List.map_nil]); first | done | rfl | (simp only [List.length_drop, List.length_take]; rfl)) ?_; (with_reducible refine (spec_l13Open.calls _ _ l0 t487 t488 w _ ?side1 ?side2 ?side3 A2.out).mono ?_); (case side1 => repeat (first | (with_reducible first | exact HB.out | apply below_alloc | apply pw_below_drewN | apply below_drew1) | exact HB.out)); (case side2 => exact HR0.out); (case side3 => exact HC0.out); rintro e w6 ⟨g489, rfl, hi, hb, hb2⟩; refine ⟨_, rfl, ?_⟩; have n0_ := Aside0.mk (hb); have n1_ := Aside0.mk (hi); clear HB; have HB := n0_; have HI489 := n1_; clear n0_ n1_; (try clear hb); (try clear hb2); (try clear hk); (try clear hi)) | ((with_reducible refine gate_callee (f := 39) rfl ?_); refine goesL_ (some 7) rfl rfl Tryd.func39 (by kernel_rfl) rfl #[.pointer (some ⟨g489, 0, none⟩), .int .i64 4] rfl (by (try simp only [List.map_toArray, List.map_cons, List.map_nil]); first | done | rfl | (simp only [List.length_drop, List.length_take]; rfl)) ?_; (with_reducible refine (spec_l13Rd_pick.calls k g489 t487 t488 4 t490 t491 w _ ?side1 ?side2 A3.out).mono ?_); (case side1 => repeat (first | (with_reducible first | exact HI489.out | apply IsS80.alloc | apply IsS80.drewN | apply IsS80.drew | apply IsS80.set_1) | exact HI489.out)); (case side2 => repeat (first | (with_reducible first | exact HB.out | apply below_alloc | apply pw_below_drewN | apply below_drew1 | refine below_set ?_ (IsS80.ge HI489.out)) | exact HB.out)); rintro e w7 ⟨rfl, hi, hb, hk⟩; refine ⟨_, rfl, ?_⟩; have n0_ := Aside0.mk (hb); have n1_ := Aside0.mk (hi); clear HB; clear HI489; have HB := n0_; have HI489 := n1_; clear n0_ n1_; (try clear hb); (try clear hb2); (try clear hk); (try clear hi)) | ((with_reducible refine gate_dst (N := 10) rfl ?_); refine Kd.R_lit Kd.string _ 9 ?hg (N := 10) ?hd (xs := ([(⟨#[65, 110, 110, 32, 76, 101, 101, 32, 60, 97, 110, 110, 64, 88, 46, 79, 114, 103, 62]⟩ : ByteArray), (⟨#[32, 97, 110, 110, 64, 120, 46, 111, 114, 103, 32]⟩ : ByteArray), (⟨#[60, 97, 46, 98, 64, 99, 62]⟩ : ByteArray), (⟨#[34, 65, 34, 32, 66, 32, 60, 98, 64, 99, 62]⟩ : ByteArray), (⟨#[65, 110, 110, 32, 60, 62]⟩ : ByteArray), (⟨#[97, 110, 110, 64, 120, 46, 111, 114, 103, 32, 60, 98, 64, 99, 62]⟩ : ByteArray), (⟨#[97, 64, 98, 62]⟩ : ByteArray), (⟨#[60, 97, 64, 98, 62, 32, 120]⟩ : ByteArray)] : List ByteArray)) (inner := [.string (⟨#[65, 110, 110, 32, 76, 101, 101, 32, 60, 97, 110, 110, 64, 88, 46, 79, 114, 103, 62]⟩ : ByteArray), .string (⟨#[32, 97, 110, 110, 64, 120, 46, 111, 114, 103, 32]⟩ : ByteArray), .string (⟨#[60, 97, 46, 98, 64, 99, 62]⟩ : ByteArray), .string (⟨#[34, 65, 34, 32, 66, 32, 60, 98, 64, 99, 62]⟩ : ByteArray), .string (⟨#[65, 110, 110, 32, 60, 62]⟩ : ByteArray), .string (⟨#[97, 110, 110, 64, 120, 46, 111, 114, 103, 32, 60, 98, 64, 99, 62]⟩ : ByteArray), .string (⟨#[97, 64, 98, 62]⟩ : ByteArray), .string (⟨#[60, 97, 64, 98, 62, 32, 120]⟩ : ByteArray)]) (ok := fun _ => True) (okp := fun _ => True) ?hr ?hp (fun _ hk => hk) trivial (Below.refl _ _) (Nat.le_refl _) (by simp) ?_; (case hd => rfl); (case hg => rfl); (case hr => first | (go_simp; done) | (go_simp; rfl)); (case hp => exact (Reps.one (show Kd.M Kd.string _ _ _ (⟨#[65, 110, 110, 32, 76, 101, 101, 32, 60, 97, 110, 110, 64, 88, 46, 79, 114, 103, 62]⟩ : ByteArray) [.string (⟨#[65, 110, 110, 32, 76, 101, 101, 32, 60, 97, 110, 110, 64, 88, 46, 79, 114, 103, 62]⟩ : ByteArray)] from rfl) (Reps.one (show Kd.M Kd.string _ _ _ (⟨#[32, 97, 110, 110, 64, 120, 46, 111, 114, 103, 32]⟩ : ByteArray) [.string (⟨#[32, 97, 110, 110, 64, 120, 46, 111, 114, 103, 32]⟩ : ByteArray)] from rfl) (Reps.one (show Kd.M Kd.string _ _ _ (⟨#[60, 97, 46, 98, 64, 99, 62]⟩ : ByteArray) [.string (⟨#[60, 97, 46, 98, 64, 99, 62]⟩ : ByteArray)] from rfl) (Reps.one (show Kd.M Kd.string _ _ _ (⟨#[34, 65, 34, 32, 66, 32, 60, 98, 64, 99, 62]⟩ : ByteArray) [.string (⟨#[34, 65, 34, 32, 66, 32, 60, 98, 64, 99, 62]⟩ : ByteArray)] from rfl) (Reps.one (show Kd.M Kd.string _ _ _ (⟨#[65, 110, 110, 32, 60, 62]⟩ : ByteArray) [.string (⟨#[65, 110, 110, 32, 60, 62]⟩ : ByteArray)] from rfl) (Reps.one (show Kd.M Kd.string _ _ _ (⟨#[97, 110, 110, 64, 120, 46, 111, 114, 103, 32, 60, 98, 64, 99, 62]⟩ : ByteArray) [.string (⟨#[97, 110, 110, 64, 120, 46, 111, 114, 103, 32, 60, 98, 64, 99, 62]⟩ : ByteArray)] from rfl) (Reps.one (show Kd.M Kd.string _ _ _ (⟨#[97, 64, 98, 62]⟩ : ByteArray) [.string (⟨#[97, 64, 98, 62]⟩ : ByteArray)] from rfl) (Reps.one (show Kd.M Kd.string _ _ _ (⟨#[60, 97, 64, 98, 62, 32, 120]⟩ : ByteArray) [.string (⟨#[60, 97, 64, 98, 62, 32, 120]⟩ : ByteArray)] from rfl) (Reps.none _ _)))))))))); intro v493 w8 ho9 hb hg_ hnew_; clear hg_ hnew_; (first | rw [← Ny492.out] at ho9 | (simp only [Int.reduceToNat] at ho9; rw [← Ny492.out] at ho9)); have n0_ := Aside0.mk (Kd.R_lower ho9 (below_size (by repeat (first | (with_reducible first | exact HB.out | apply below_alloc | apply pw_below_drewN | apply below_drew1 | refine below_set ?_ (IsS80.ge HI489.out)) | exact HB.out)))); have n1_ := Aside0.mk (IsS80.below (by repeat (first | (with_reducible first | exact HI489.out | apply IsS80.alloc | apply IsS80.drewN | apply IsS80.drew | apply IsS80.set_1) | exact HI489.out)) hb); have n2_ := Aside0.mk (below_step (by repeat (first | (with_reducible first | exact HB.out | apply below_alloc | apply pw_below_drewN | apply below_drew1 | refine below_set ?_ (IsS80.ge HI489.out)) | exact HB.out)) hb); clear HI489; clear HB; have HO494 := n0_; have HI489 := n1_; have HB := n2_; clear n0_ n1_ n2_; clear hb ho9; obtain ⟨Ao10, co10, eo10⟩ := Kd.R_slice HO494.out; subst eo10) | ((with_reducible refine gate_callee (f := 40) rfl ?_); refine goesL_ (some 11) rfl rfl Tryd.func40 (by kernel_rfl) rfl #[.pointer (some ⟨g489, 0, none⟩), .slice Ao10 y492.length co10] rfl (by (try simp only [List.map_toArray, List.map_cons, List.map_nil]); first | done | rfl | (simp only [List.length_drop, List.length_take]; rfl)) ?_; (with_reducible refine (spec_l13Rd_of.calls k g489 t487 t491 _ _ y492 t495 t496 w _ ?side1 ?side2 ?side3 ?side4 ?side5 A5.out).mono ?_); (case side1 => repeat (first | (with_reducible first | exact HI489.out | apply IsS80.alloc | apply IsS80.drewN | apply IsS80.drew | apply IsS80.set_1) | exact HI489.out)); (case side2 => repeat (first | (with_reducible first | exact HB.out | apply below_alloc | apply pw_below_drewN | apply below_drew1 | refine below_set ?_ (IsS80.ge HI489.out)) | exact HB.out)); (case side3 => repeat (first | exact (Kd.R_reads' HO494.out).2.2 | (with_reducible refine Kd.C_alloc ?_ _) | (with_reducible refine Kd.C_drewN ?_ _) | (with_reducible refine Kd.C_drew ?_))); (case side4 => exact (Kd.R_reads' HO494.out).2.1); (case side5 => exact far_slice (IsS80.own_ne HI489.out HO494.out (by decide))); rintro e w11 ⟨rfl, hi, hb, hk⟩; refine ⟨_, rfl, ?_⟩; have n0_ := Aside0.mk (Kd.R_mono (Kd.R_keep (IsS80.apart (show IsS80 w _ g489 t487 t491 from by repeat (first | (with_reducible first | exact HI489.out | apply IsS80.alloc | apply IsS80.drewN | apply IsS80.drew | apply IsS80.set_1) | exact HI489.out)) (by (with_reducible repeat (first | apply Kd.R_alloc | apply Kd.R_drewN | apply Kd.R_drew)); exact HO494.out) (by decide)) hk (fun _ h => h.2)) (fun _ h => h.1)); have n1_ := Aside0.mk (hb); have n2_ := Aside0.mk (hi); clear HO494; clear HB; clear HI489; have HO494 := n0_; have HB := n1_; have HI489 := n2_; clear n0_ n1_ n2_; (try clear hb); (try clear hb2); (try clear hk); (try clear hi)))
  go_ret
  exact ⟨by first | rfl | (simp [errW_none, errW_some] <;> rfl) | (simp [*, errW_none, errW_some] <;> rfl), by repeat (first | (with_reducible first | exact HB.out | apply below_alloc | apply pw_below_drewN | apply below_drew1 | refine below_set ?_ (IsS80.ge HI489.out)) | exact HB.out)⟩
 ·rw [if_neg c4] at H
  have c4b0 : (t490 == 0) = false := beq_eq_false_iff_ne.mpr c4
  have c4b1 : (t490 != 0) = true := bne_iff_ne.mpr c4
  replace H := Option.bind_eq_some_iff.mp H
  obtain ⟨⟨t497, t498, t499, t500⟩, A120, H⟩ := H
  replace H : ((spec_FormatAddress.f k t497 t498 t499).bind fun t501 => ((spec_l1Bend.f k t487 t500 t501 (([(⟨#[]⟩ : ByteArray), (⟨#[32]⟩ : ByteArray), (⟨#[60]⟩ : ByteArray), (⟨#[62]⟩ : ByteArray), (⟨#[64]⟩ : ByteArray), (⟨#[34]⟩ : ByteArray), (⟨#[46]⟩ : ByteArray)] : List ByteArray))).bind fun bt505 => (some bt505.1))) = some r := H
  have A12 := Aside0.mk A120
  clear A120
  replace H := Option.bind_eq_some_iff.mp H
  obtain ⟨t501, A130, H⟩ := H
  replace H : ((spec_l1Bend.f k t487 t500 t501 (([(⟨#[]⟩ : ByteArray), (⟨#[32]⟩ : ByteArray), (⟨#[60]⟩ : ByteArray), (⟨#[62]⟩ : ByteArray), (⟨#[64]⟩ : ByteArray), (⟨#[34]⟩ : ByteArray), (⟨#[46]⟩ : ByteArray)] : List ByteArray))).bind fun bt505 => (some bt505.1)) = some r := H
  have A13 := Aside0.mk A130
  clear A130
  obtain ⟨y502, hy502⟩ : ∃ y_ : List ByteArray, y_ = (([(⟨#[]⟩ : ByteArray), (⟨#[32]⟩ : ByteArray), (⟨#[60]⟩ : ByteArray), (⟨#[62]⟩ : ByteArray), (⟨#[64]⟩ : ByteArray), (⟨#[34]⟩ : ByteArray), (⟨#[46]⟩ : ByteArray)] : List ByteArray)) := ⟨_, rfl⟩
  replace H : ((spec_l1Bend.f k t487 t500 t501 y502).bind fun bt505 => (some bt505.1)) = some r := by first | (rw [hy502]; with_reducible exact H) | (have H2_ := (Option.bind_some _ _).symm.trans H; rw [hy502]; with_reducible exact H2_) | (have H2_ := (Option.bind_some _ _).symm.trans H; with_reducible exact H2_) | with_reducible exact H | (rw [hy502]; exact H) | exact H
  have Ny502 := Aside0.mk hy502
  clear hy502
  replace H := Option.bind_eq_some_iff.mp H
  obtain ⟨⟨t505, t506⟩, A140, H⟩ := H
  replace H : (some t505) = some r := H
  have A14 := Aside0.mk A140
  clear A140
  obtain rfl := Option.some.inj H
  go_enter Tryd.func16, Tryd.ntmps16
  go_wp2_with (first | ((with_reducible refine gate_callee (f := 38) rfl ?_); refine goesL_ (some 5) rfl rfl Tryd.func38 (by kernel_rfl) rfl #[.slice A0 l0.length c0] rfl (by (try simp only [List.map_toArray, List.map_cons, List.map_nil]); first | done | rfl | (simp only [List.length_drop, List.length_take]; rfl)) ?_; (with_reducible refine (spec_l13Open.calls _ _ l0 t487 t488 w _ ?side1 ?side2 ?side3 A2.out).mono ?_); (case side1 => repeat (first | (with_reducible first | exact HB.out | apply below_alloc | apply pw_below_drewN | apply below_drew1) | exact HB.out)); (case side2 => exact HR0.out); (case side3 => exact HC0.out); rintro e w15 ⟨g489, rfl, hi, hb, hb2⟩; refine ⟨_, rfl, ?_⟩; have n0_ := Aside0.mk (hb); have n1_ := Aside0.mk (hi); clear HB; have HB := n0_; have HI489 := n1_; clear n0_ n1_; (try clear hb); (try clear hb2); (try clear hk); (try clear hi)) | ((with_reducible refine gate_callee (f := 39) rfl ?_); refine goesL_ (some 7) rfl rfl Tryd.func39 (by kernel_rfl) rfl #[.pointer (some ⟨g489, 0, none⟩), .int .i64 4] rfl (by (try simp only [List.map_toArray, List.map_cons, List.map_nil]); first | done | rfl | (simp only [List.length_drop, List.length_take]; rfl)) ?_; (with_reducible refine (spec_l13Rd_pick.calls k g489 t487 t488 4 t490 t491 w _ ?side1 ?side2 A3.out).mono ?_); (case side1 => repeat (first | (with_reducible first | exact HI489.out | apply IsS80.alloc | apply IsS80.drewN | apply IsS80.drew | apply IsS80.set_1) | exact HI489.out)); (case side2 => repeat (first | (with_reducible first | exact HB.out | apply below_alloc | apply pw_below_drewN | apply below_drew1 | refine below_set ?_ (IsS80.ge HI489.out)) | exact HB.out)); rintro e w16 ⟨rfl, hi, hb, hk⟩; refine ⟨_, rfl, ?_⟩; have n0_ := Aside0.mk (hb); have n1_ := Aside0.mk (hi); clear HB; clear HI489; have HB := n0_; have HI489 := n1_; clear n0_ n1_; (try clear hb); (try clear hb2); (try clear hk); (try clear hi)) | ((with_reducible refine gate_callee (f := 42) rfl ?_); refine goesL_ (some 14) rfl rfl Tryd.func42 (by kernel_rfl) rfl #[.pointer (some ⟨g489, 0, none⟩)] rfl (by (try simp only [List.map_toArray, List.map_cons, List.map_nil]); first | done | rfl | (simp only [List.length_drop, List.length_take]; rfl)) ?_; (with_reducible refine (spec_l2Draw.calls k g489 t487 t491 t497 t498 t499 t500 w _ ?side1 ?side2 A12.out).mono ?_); (case side1 => repeat (first | (with_reducible first | exact HI489.out | apply IsS80.alloc | apply IsS80.drewN | apply IsS80.drew | apply IsS80.set_1) | exact HI489.out)); (case side2 => repeat (first | (with_reducible first | exact HB.out | apply below_alloc | apply pw_below_drewN | apply below_drew1 | refine below_set ?_ (IsS80.ge HI489.out)) | exact HB.out)); rintro e w17 ⟨rfl, hi, hb, hk⟩; refine ⟨_, rfl, ?_⟩; have n0_ := Aside0.mk (hb); have n1_ := Aside0.mk (hi); clear HB; clear HI489; have HB := n0_; have HI489 := n1_; clear n0_ n1_; (try clear hb); (try clear hb2); (try clear hk); (try clear hi)) | ((with_reducible refine gate_callee (f := 22) rfl ?_); refine goesL_ (some 15) rfl rfl Tryd.func22 (by kernel_rfl) rfl #[.agg #[.string t497, .string t498, .string t499]] rfl (by (try simp only [List.map_toArray, List.map_cons, List.map_nil]); first | done | rfl | (simp only [List.length_drop, List.length_take]; rfl)) ?_; (with_reducible refine (spec_FormatAddress.calls k t497 t498 t499 t501 _ A13.out).mono ?_); rintro e w18 ⟨rfl, hb⟩; refine ⟨_, rfl, ?_⟩; have n0_ := Aside0.mk (IsS80.below (by repeat (first | (with_reducible first | exact HI489.out | apply IsS80.alloc | apply IsS80.drewN | apply IsS80.drew | apply IsS80.set_1) | exact HI489.out)) hb); have n1_ := Aside0.mk (below_step (by repeat (first | (with_reducible first | exact HB.out | apply below_alloc | apply pw_below_drewN | apply below_drew1 | refine below_set ?_ (IsS80.ge HI489.out)) | exact HB.out)) hb); clear HI489; clear HB; have HI489 := n0_; have HB := n1_; clear n0_ n1_; (try clear hb); (try clear hb2); (try clear hk); (try clear hi)) | ((with_reducible refine gate_dst (N := 16) rfl ?_); refine Kd.R_lit Kd.string _ 9 ?hg (N := 16) ?hd (xs := ([(⟨#[]⟩ : ByteArray), (⟨#[32]⟩ : ByteArray), (⟨#[60]⟩ : ByteArray), (⟨#[62]⟩ : ByteArray), (⟨#[64]⟩ : ByteArray), (⟨#[34]⟩ : ByteArray), (⟨#[46]⟩ : ByteArray)] : List ByteArray)) (inner := [.string (⟨#[]⟩ : ByteArray), .string (⟨#[32]⟩ : ByteArray), .string (⟨#[60]⟩ : ByteArray), .string (⟨#[62]⟩ : ByteArray), .string (⟨#[64]⟩ : ByteArray), .string (⟨#[34]⟩ : ByteArray), .string (⟨#[46]⟩ : ByteArray)]) (ok := fun _ => True) (okp := fun _ => True) ?hr ?hp (fun _ hk => hk) trivial (Below.refl _ _) (Nat.le_refl _) (by simp) ?_; (case hd => rfl); (case hg => rfl); (case hr => first | (go_simp; done) | (go_simp; rfl)); (case hp => exact (Reps.one (show Kd.M Kd.string _ _ _ (⟨#[]⟩ : ByteArray) [.string (⟨#[]⟩ : ByteArray)] from rfl) (Reps.one (show Kd.M Kd.string _ _ _ (⟨#[32]⟩ : ByteArray) [.string (⟨#[32]⟩ : ByteArray)] from rfl) (Reps.one (show Kd.M Kd.string _ _ _ (⟨#[60]⟩ : ByteArray) [.string (⟨#[60]⟩ : ByteArray)] from rfl) (Reps.one (show Kd.M Kd.string _ _ _ (⟨#[62]⟩ : ByteArray) [.string (⟨#[62]⟩ : ByteArray)] from rfl) (Reps.one (show Kd.M Kd.string _ _ _ (⟨#[64]⟩ : ByteArray) [.string (⟨#[64]⟩ : ByteArray)] from rfl) (Reps.one (show Kd.M Kd.string _ _ _ (⟨#[34]⟩ : ByteArray) [.string (⟨#[34]⟩ : ByteArray)] from rfl) (Reps.one (show Kd.M Kd.string _ _ _ (⟨#[46]⟩ : ByteArray) [.string (⟨#[46]⟩ : ByteArray)] from rfl) (Reps.none _ _))))))))); intro v503 w19 ho20 hb hg_ hnew_; clear hg_ hnew_; (first | rw [← Ny502.out] at ho20 | (simp only [Int.reduceToNat] at ho20; rw [← Ny502.out] at ho20)); have n0_ := Aside0.mk (Kd.R_lower ho20 (below_size (by repeat (first | (with_reducible first | exact HB.out | apply below_alloc | apply pw_below_drewN | apply below_drew1 | refine below_set ?_ (IsS80.ge HI489.out)) | exact HB.out)))); have n1_ := Aside0.mk (IsS80.below (by repeat (first | (with_reducible first | exact HI489.out | apply IsS80.alloc | apply IsS80.drewN | apply IsS80.drew | apply IsS80.set_1) | exact HI489.out)) hb); have n2_ := Aside0.mk (below_step (by repeat (first | (with_reducible first | exact HB.out | apply below_alloc | apply pw_below_drewN | apply below_drew1 | refine below_set ?_ (IsS80.ge HI489.out)) | exact HB.out)) hb); clear HI489; clear HB; have HO504 := n0_; have HI489 := n1_; have HB := n2_; clear n0_ n1_ n2_; clear hb ho20; obtain ⟨Ao21, co21, eo21⟩ := Kd.R_slice HO504.out; subst eo21) | ((with_reducible refine gate_callee (f := 41) rfl ?_); refine goesL_ (some 17) rfl rfl Tryd.func41 (by kernel_rfl) rfl #[.pointer (some ⟨g489, 0, none⟩), .string t501, .slice Ao21 y502.length co21] rfl (by (try simp only [List.map_toArray, List.map_cons, List.map_nil]); first | done | rfl | (simp only [List.length_drop, List.length_take]; rfl)) ?_; (with_reducible refine (spec_l1Bend.calls k g489 t487 t500 t501 _ _ y502 t505 t506 w _ ?side1 ?side2 ?side3 ?side4 ?side5 A14.out).mono ?_); (case side1 => repeat (first | (with_reducible first | exact HI489.out | apply IsS80.alloc | apply IsS80.drewN | apply IsS80.drew | apply IsS80.set_1) | exact HI489.out)); (case side2 => repeat (first | (with_reducible first | exact HB.out | apply below_alloc | apply pw_below_drewN | apply below_drew1 | refine below_set ?_ (IsS80.ge HI489.out)) | exact HB.out)); (case side3 => repeat (first | exact (Kd.R_reads' HO504.out).2.2 | (with_reducible refine Kd.C_alloc ?_ _) | (with_reducible refine Kd.C_drewN ?_ _) | (with_reducible refine Kd.C_drew ?_))); (case side4 => exact (Kd.R_reads' HO504.out).2.1); (case side5 => exact far_slice (IsS80.own_ne HI489.out HO504.out (by decide))); rintro e w22 ⟨rfl, hi, hb, hk⟩; refine ⟨_, rfl, ?_⟩; have n0_ := Aside0.mk (Kd.R_mono (Kd.R_keep (IsS80.apart (show IsS80 w _ g489 t487 t500 from by repeat (first | (with_reducible first | exact HI489.out | apply IsS80.alloc | apply IsS80.drewN | apply IsS80.drew | apply IsS80.set_1) | exact HI489.out)) (by (with_reducible repeat (first | apply Kd.R_alloc | apply Kd.R_drewN | apply Kd.R_drew)); exact HO504.out) (by decide)) hk (fun _ h => h.2)) (fun _ h => h.1)); have n1_ := Aside0.mk (hb); have n2_ := Aside0.mk (hi); clear HO504; clear HB; clear HI489; have HO504 := n0_; have HB := n1_; have HI489 := n2_; clear n0_ n1_ n2_; (try clear hb); (try clear hb2); (try clear hk); (try clear hi)))
  go_ret
  exact ⟨by first | rfl | (simp [errW_none, errW_some] <;> rfl) | (simp [*, errW_none, errW_some] <;> rfl), by repeat (first | (with_reducible first | exact HB.out | apply below_alloc | apply pw_below_drewN | apply below_drew1 | refine below_set ?_ (IsS80.ge HI489.out)) | exact HB.out)⟩

end Go.Proofs.YtmehlmhpgbjddaaDoor.Q
