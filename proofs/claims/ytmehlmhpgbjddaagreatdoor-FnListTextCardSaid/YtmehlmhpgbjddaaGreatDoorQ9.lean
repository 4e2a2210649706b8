/- What functions of the program come to, written by a program of this session (mwprint.py); no condition. -/
import Derived.Test.YtmehlmhpgbjddaaGreatDoorQ0
import Derived.Test.YtmehlmhpgbjddaaGreatDoorQ1
import Derived.Test.YtmehlmhpgbjddaaGreatDoorQ3
import Derived.Test.YtmehlmhpgbjddaaGreatDoorQ4
import Derived.Test.YtmehlmhpgbjddaaGreatDoorQ5
import Derived.Test.YtmehlmhpgbjddaaGreatDoorQ6
import Derived.Test.YtmehlmhpgbjddaaGreatDoorQ7
import Derived.Test.YtmehlmhpgbjddaaGreatDoorQ8
namespace Go.Proofs.YtmehlmhpgbjddaaGreatDoor.Q
open Go.RowKit Go.Proofs.YtmehlmhpgbjddaaGreatDoorV.PrintWords Go.Proofs.YtmehlmhpgbjddaaGreatDoorV.PrintLast Go.Proofs.YtmehlmhpgbjddaaGreatDoorV.PrintMore
attribute [local go_sem] max2_int min2_int max_two min_two max_three min_three max_four min_four   -- for this text's walks alone
set_option linter.unusedVariables false
set_option linter.unusedSimpArgs false
attribute [local go_sem high] eqA36
/-! ### spec_DrawParseList: function 9 -/
def spec_DrawParseList.f (k : Nat) (l0 : List Int) : Option (ByteArray) := (spec_l13Open.f l0).bind fun bt467 => ((spec_l2List.f k bt467.1 bt467.2).bind fun bt470 => ((spec_FormatList.f k bt470.1).bind fun t474 => ((spec_l1Bend.f k bt467.1 bt470.2 t474 (([(⟨#[]⟩ : ByteArray), (⟨#[32]⟩ : ByteArray), (⟨#[44]⟩ : ByteArray), (⟨#[34]⟩ : ByteArray), (⟨#[60]⟩ : ByteArray)] : List ByteArray))).bind fun bt478 => (some bt478.1))))
theorem spec_DrawParseList.mono : ∀ a0 k, LeO (spec_DrawParseList.f k a0) (spec_DrawParseList.f (k + 1) a0) := by
 intro a0 k
 unfold spec_DrawParseList.f
 repeat' first
   | (with_reducible first | exact spec_FormatList.mono _ _ | exact spec_l1Bend.mono _ _ _ _ _ | exact spec_l2List.mono _ _ _ | exact LeO.refl _ | exact LeO.none _ | refine LeO.ite ?_ ?_ | refine LeO.bind ?_ (fun _ => ?_)) | exact spec_FormatList.mono _ _ | exact spec_l1Bend.mono _ _ _ _ _ | exact spec_l2List.mono _ _ _ | exact LeO.none _ | refine LeO.ite ?_ ?_ | refine LeO.bind ?_ (fun _ => ?_)
set_option maxHeartbeats 8000000 in
set_option maxRecDepth 100000 in
theorem spec_DrawParseList.calls (k : Nat) (A0 : Option Addr) (c0 : Nat) (l0 : List Int) (r : ByteArray) (w : World) (hr0 : Kd.C (Kd.int .u8) w A0 l0.length l0) (hc0 : l0.length ≤ c0) (h : spec_DrawParseList.f k l0 = some r) :
  Calls Tryz.prog 9 #[.slice A0 l0.length c0] w fun e w' => e = .returned (.string r) ∧ Below w.heap.size w w' := by
 have HR0 := Aside0.mk hr0
 have HC0 := Aside0.mk hc0
 clear hr0 hc0
 have HB := Aside0.mk (Below.refl w.heap.size w)
 have H : ((spec_l13Open.f l0).bind fun bt467 => ((spec_l2List.f k bt467.1 bt467.2).bind fun bt470 => ((spec_FormatList.f k bt470.1).bind fun t474 => ((spec_l1Bend.f k bt467.1 bt470.2 t474 (([(⟨#[]⟩ : ByteArray), (⟨#[32]⟩ : ByteArray), (⟨#[44]⟩ : ByteArray), (⟨#[34]⟩ : ByteArray), (⟨#[60]⟩ : ByteArray)] : List ByteArray))).bind fun bt478 => (some bt478.1))))) = some r := h
 clear h
 replace H := Option.bind_eq_some_iff.mp H
 obtain ⟨⟨t467, t468⟩, A20, H⟩ := H
 replace H : ((spec_l2List.f k t467 t468).bind fun bt470 => ((spec_FormatList.f k bt470.1).bind fun t474 => ((spec_l1Bend.f k t467 bt470.2 t474 (([(⟨#[]⟩ : ByteArray), (⟨#[32]⟩ : ByteArray), (⟨#[44]⟩ : ByteArray), (⟨#[34]⟩ : ByteArray), (⟨#[60]⟩ : ByteArray)] : List ByteArray))).bind fun bt478 => (some bt478.1)))) = some r := H
 have A2 := Aside0.mk A20
 clear A20
 replace H := Option.bind_eq_some_iff.mp H
 obtain ⟨⟨t470, t473⟩, A30, H⟩ := H
 replace H : ((spec_FormatList.f k t470).bind fun t474 => ((spec_l1Bend.f k t467 t473 t474 (([(⟨#[]⟩ : ByteArray), (⟨#[32]⟩ : ByteArray), (⟨#[44]⟩ : ByteArray), (⟨#[34]⟩ : ByteArray), (⟨#[60]⟩ : ByteArray)] : List ByteArray))).bind fun bt478 => (some bt478.1))) = some r := H
 have A3 := Aside0.mk A30
 clear A30
 replace H := Option.bind_eq_some_iff.mp H
 obtain ⟨t474, A40, H⟩ := H
 replace H : ((spec_l1Bend.f k t467 t473 t474 (([(⟨#[]⟩ : ByteArray), (⟨#[32]⟩ : ByteArray), (⟨#[44]⟩ : ByteArray), (⟨#[34]⟩ : ByteArray), (⟨#[60]⟩ : ByteArray)] : List ByteArray))).bind fun bt478 => (some bt478.1)) = some r := H
 have A4 := Aside0.mk A40
 clear A40
 obtain ⟨y475, hy475⟩ : ∃ y_ : List ByteArray, y_ = (([(⟨#[]⟩ : ByteArray), (⟨#[32]⟩ : ByteArray), (⟨#[44]⟩ : ByteArray), (⟨#[34]⟩ : ByteArray), (⟨#[60]⟩ : ByteArray)] : List ByteArray)) := ⟨_, rfl⟩
 replace H : ((spec_l1Bend.f k t467 t473 t474 y475).bind fun bt478 => (some bt478.1)) = some r := by first | (rw [hy475]; with_reducible exact H) | (have H2_ := (Option.bind_some _ _).symm.trans H; rw [hy475]; with_reducible exact H2_) | (have H2_ := (Option.bind_some _ _).symm.trans H; with_reducible exact H2_) | with_reducible exact H | (rw [hy475]; exact H) | exact H
 have Ny475 := Aside0.mk hy475
 clear hy475
 replace H := Option.bind_eq_some_iff.mp H
 obtain ⟨⟨t478, t479⟩, A50, H⟩ := H
 replace H : (some t478) = some r := H
 have A5 := Aside0.mk A50
 clear A50
 obtain rfl := Option.some.inj H
 go_enter Tryz.func9, Tryz.ntmps9
 go_wp2_with (first | ((with_reducible refine gate_callee (f := 12) rfl ?_); refine goesL_ (some 5) rfl rfl Tryz.func12 (by kernel_rfl) rfl #[.slice A0 l0.length c0] rfl tA ?_; (with_reducible refine (spec_l13Open.calls _ _ l0 t467 t468 w _ ?side1 ?side2 ?side3 A2.out).mono ?_); (case side1 => repeat (first | (with_reducible first | exact HB.out | apply below_alloc | apply pw_below_drewN | apply below_drew1) | exact HB.out)); (case side2 => exact HR0.out); (case side3 => exact HC0.out); rintro e w6 ⟨g469, rfl, hi, hb, hb2⟩; refine ⟨_, rfl, ?_⟩; have n0_ := Aside0.mk (hb); have n1_ := Aside0.mk (hi); clear HB; have HB := n0_; have HI469 := n1_; clear n0_ n1_; (try clear hb); (try clear hb2); (try clear hk); (try clear hi)) | ((with_reducible refine gate_callee (f := 25) rfl ?_); refine goesL_ (some 8) rfl rfl Tryz.func25 (by kernel_rfl) rfl #[.pointer (some ⟨g469, 0, none⟩)] rfl tA ?_; (with_reducible refine (spec_l2List.calls k g469 t467 t468 t470 t473 w _ ?side1 ?side2 A3.out).mono ?_); (case side1 => repeat (first | (with_reducible first | exact HI469.out | apply IsS53.alloc | apply IsS53.drewN | apply IsS53.drew | apply IsS53.set_1) | exact HI469.out)); (case side2 => repeat (first | (with_reducible first | exact HB.out | apply below_alloc | apply pw_below_drewN | apply below_drew1 | refine below_set ?_ (IsS53.ge HI469.out)) | exact HB.out)); rintro e w7 ⟨v471, rfl, ho0, hi, hb, hk⟩; refine ⟨_, rfl, ?_⟩; have n0_ := Aside0.mk (Kd.R_lower ho0 (below_size (by repeat (first | (with_reducible first | exact HB.out | apply below_alloc | apply pw_below_drewN | apply below_drew1 | refine below_set ?_ (IsS53.ge HI469.out)) | exact HB.out)))); have n1_ := Aside0.mk (hb); have n2_ := Aside0.mk (hi); clear HB; clear HI469; have HO472 := n0_; have HB := n1_; have HI469 := n2_; clear n0_ n1_ n2_; (try clear hb); (try clear hb2); (try clear hk); (try clear hi); (try clear ho0); obtain ⟨Ao8, co8, eo8⟩ := Kd.R_slice HO472.out; subst eo8) | ((with_reducible refine gate_callee (f := 6) rfl ?_); refine goesL_ (some 9) rfl rfl Tryz.func6 (by kernel_rfl) rfl #[.slice Ao8 t470.length co8] rfl tA ?_; (with_reducible refine (spec_FormatList.calls k _ _ t470 t474 _ ?side1 ?side2 A4.out).mono ?_); (case side1 => repeat (first | exact (Kd.R_reads' HO472.out).2.2 | (with_reducible refine Kd.C_alloc ?_ _) | (with_reducible refine Kd.C_drewN ?_ _) | (with_reducible refine Kd.C_drew ?_))); (case side2 => exact (Kd.R_reads' HO472.out).2.1); rintro e w9 ⟨rfl, hb⟩; refine ⟨_, rfl, ?_⟩; have n0_ := Aside0.mk (Kd.R_below (by (with_reducible repeat (first | apply Kd.R_alloc | apply Kd.R_drewN | apply Kd.R_drew)); exact HO472.out) hb); have n1_ := Aside0.mk (IsS53.below (by repeat (first | (with_reducible first | exact HI469.out | apply IsS53.alloc | apply IsS53.drewN | apply IsS53.drew | apply IsS53.set_1) | exact HI469.out)) hb); have n2_ := Aside0.mk (below_step (by repeat (first | (with_reducible first | exact HB.out | apply below_alloc | apply pw_below_drewN | apply below_drew1 | refine below_set ?_ (IsS53.ge HI469.out)) | exact HB.out)) hb); clear HO472; clear HI469; clear HB; have HO472 := n0_; have HI469 := n1_; have HB := n2_; clear n0_ n1_ n2_; (try clear hb); (try clear hb2); (try clear hk); (try clear hi)) | ((with_reducible refine gate_dst (N := 10) rfl ?_); refine Kd.R_lit Kd.string _ 9 ?hg (N := 10) ?hd (xs := ([(⟨#[]⟩ : ByteArray), (⟨#[32]⟩ : ByteArray), (⟨#[44]⟩ : ByteArray), (⟨#[34]⟩ : ByteArray), (⟨#[60]⟩ : ByteArray)] : List ByteArray)) (inner := [.string (⟨#[]⟩ : ByteArray), .string (⟨#[32]⟩ : ByteArray), .string (⟨#[44]⟩ : ByteArray), .string (⟨#[34]⟩ : ByteArray), .string (⟨#[60]⟩ : ByteArray)]) (ok := fun _ => True) (okp := fun _ => True) ?hr ?hp (fun _ hk => hk) trivial (Below.refl _ _) (Nat.le_refl _) (by simp) ?_; (case hd => rfl); (case hg => rfl); (case hr => first | (go_simp; done) | (go_simp; rfl)); (case hp => exact (Reps.one (show Kd.M Kd.string _ _ _ (⟨#[]⟩ : ByteArray) [.string (⟨#[]⟩ : ByteArray)] from rfl) (Reps.one (show Kd.M Kd.string _ _ _ (⟨#[32]⟩ : ByteArray) [.string (⟨#[32]⟩ : ByteArray)] from rfl) (Reps.one (show Kd.M Kd.string _ _ _ (⟨#[44]⟩ : ByteArray) [.string (⟨#[44]⟩ : ByteArray)] from rfl) (Reps.one (show Kd.M Kd.string _ _ _ (⟨#[34]⟩ : ByteArray) [.string (⟨#[34]⟩ : ByteArray)] from rfl) (Reps.one (show Kd.M Kd.string _ _ _ (⟨#[60]⟩ : ByteArray) [.string (⟨#[60]⟩ : ByteArray)] from rfl) (Reps.none _ _))))))); intro v476 w10 ho11 hb hg_ hnew_; clear hg_ hnew_; (first | rw [← Ny475.out] at ho11 | (simp only [Int.reduceToNat] at ho11; rw [← Ny475.out] at ho11)); have n0_ := Aside0.mk (Kd.R_below (by (with_reducible repeat (first | apply Kd.R_alloc | apply Kd.R_drewN | apply Kd.R_drew)); exact HO472.out) hb); have n1_ := Aside0.mk (Kd.R_lower ho11 (below_size (by repeat (first | (with_reducible first | exact HB.out | apply below_alloc | apply pw_below_drewN | apply below_drew1 | refine below_set ?_ (IsS53.ge HI469.out)) | exact HB.out)))); have n2_ := Aside0.mk (IsS53.below (by repeat (first | (with_reducible first | exact HI469.out | apply IsS53.alloc | apply IsS53.drewN | apply IsS53.drew | apply IsS53.set_1) | exact HI469.out)) hb); have n3_ := Aside0.mk (below_step (by repeat (first | (with_reducible first | exact HB.out | apply below_alloc | apply pw_below_drewN | apply below_drew1 | refine below_set ?_ (IsS53.ge HI469.out)) | exact HB.out)) hb); clear HO472; clear HI469; clear HB; have HO472 := n0_; have HO477 := n1_; have HI469 := n2_; have HB := n3_; clear n0_ n1_ n2_ n3_; clear hb ho11; obtain ⟨Ao12, co12, eo12⟩ := Kd.R_slice HO477.out; subst eo12) | ((with_reducible refine gate_callee (f := 24) rfl ?_); refine goesL_ (some 11) rfl rfl Tryz.func24 (by kernel_rfl) rfl #[.pointer (some ⟨g469, 0, none⟩), .string t474, .slice Ao12 y475.length co12] rfl tA ?_; (with_reducible refine (spec_l1Bend.calls k g469 t467 t473 t474 _ _ y475 t478 t479 w _ ?side1 ?side2 ?side3 ?side4 ?side5 A5.out).mono ?_); (case side1 => repeat (first | (with_reducible first | exact HI469.out | apply IsS53.alloc | apply IsS53.drewN | apply IsS53.drew | apply IsS53.set_1) | exact HI469.out)); (case side2 => repeat (first | (with_reducible first | exact HB.out | apply below_alloc | apply pw_below_drewN | apply below_drew1 | refine below_set ?_ (IsS53.ge HI469.out)) | exact HB.out)); (case side3 => repeat (first | exact (Kd.R_reads' HO477.out).2.2 | (with_reducible refine Kd.C_alloc ?_ _) | (with_reducible refine Kd.C_drewN ?_ _) | (with_reducible refine Kd.C_drew ?_))); (case side4 => exact (Kd.R_reads' HO477.out).2.1); (case side5 => exact far_slice (IsS53.own_ne HI469.out HO477.out (by decide))); rintro e w13 ⟨rfl, hi, hb, hk⟩; refine ⟨_, rfl, ?_⟩; have n0_ := Aside0.mk (Kd.R_mono (Kd.R_keep (IsS53.apart (show IsS53 w _ g469 t467 t473 from by repeat (first | (with_reducible first | exact HI469.out | apply IsS53.alloc | apply IsS53.drewN | apply IsS53.drew | apply IsS53.set_1) | exact HI469.out)) (by (with_reducible repeat (first | apply Kd.R_alloc | apply Kd.R_drewN | apply Kd.R_drew)); exact HO472.out) (by decide)) hk (fun _ h => h.2)) (fun _ h => h.1)); have n1_ := Aside0.mk (Kd.R_mono (Kd.R_keep (IsS53.apart (show IsS53 w _ g469 t467 t473 from by repeat (first | (with_reducible first | exact HI469.out | apply IsS53.alloc | apply IsS53.drewN | apply IsS53.drew | apply IsS53.set_1) | exact HI469.out)) (by (with_reducible repeat (first | apply Kd.R_alloc | apply Kd.R_drewN | apply Kd.R_drew)); exact HO477.out) (by decide)) hk (fun _ h => h.2)) (fun _ h => h.1)); have n2_ := Aside0.mk (hb); have n3_ := Aside0.mk (hi); clear HO472; clear HO477; clear HB; clear HI469; have HO472 := n0_; have HO477 := n1_; have HB := n2_; have HI469 := n3_; clear n0_ n1_ n2_ n3_; (try clear hb); (try clear hb2); (try clear hk); (try clear hi)))
 go_ret
 exact ⟨tE, by repeat (first | (with_reducible first | exact HB.out | apply below_alloc | apply pw_below_drewN | apply below_drew1 | refine below_set ?_ (IsS53.ge HI469.out)) | exact HB.out)⟩

/-! ### laws_mwAddresses: function 8 -/
def laws_mwAddresses.l0 : Nat → List (S36) → List (S36) → Int → Option (Bool)
 | 0, _, _, _ => none
 | k + 1, x0, x1, x5 => if x5 < (x0.length : Int) then (if 0 ≤ x5 then (if x5 < (x1.length : Int) then (if (!((((rd_T36 x0 x5).f0).toList) == (((rd_T36 x1 x5).f0).toList)) || (!((((rd_T36 x0 x5).f1).toList) == (((rd_T36 x1 x5).f1).toList)) || (!((((rd_T36 x0 x5).f2).toList) == (((rd_T36 x1 x5).f2).toList))))) = true then (some false) else (laws_mwAddresses.l0 k x0 x1 (wrap64 (x5 + 1)))) else (none)) else (none)) else (some true)
def laws_mwAddresses.f (k : Nat) (l0 : List (S36)) (l1 : List (S36)) : Option (Bool) := if (l0.length : Int) = (l1.length : Int) then (laws_mwAddresses.l0 k l0 l1 0) else (some false)
theorem laws_mwAddresses.mono_l : ∀ k, (∀ y0 y1 y2, LeO (laws_mwAddresses.l0 k y0 y1 y2) (laws_mwAddresses.l0 (k + 1) y0 y1 y2))
 | 0 => fun _ _ _ r h => by simp [laws_mwAddresses.l0] at h
 | k + 1 => by
  have ih0 := laws_mwAddresses.mono_l k
  ·intro y0 y1 y2
   unfold laws_mwAddresses.l0
   repeat' first
   | (with_reducible first | exact ih0 _ _ _ | exact LeO.refl _ | exact LeO.none _ | refine LeO.ite ?_ ?_ | refine LeO.bind ?_ (fun _ => ?_)) | exact ih0 _ _ _ | exact LeO.none _ | refine LeO.ite ?_ ?_ | refine LeO.bind ?_ (fun _ => ?_)
theorem laws_mwAddresses.mono : ∀ a0 a1 k, LeO (laws_mwAddresses.f k a0 a1) (laws_mwAddresses.f (k + 1) a0 a1) := by
 intro a0 a1 k
 have ih0 := laws_mwAddresses.mono_l k
 unfold laws_mwAddresses.f
 repeat' first
   | (with_reducible first | exact ih0 _ _ _ | exact LeO.refl _ | exact LeO.none _ | refine LeO.ite ?_ ?_ | refine LeO.bind ?_ (fun _ => ?_)) | exact ih0 _ _ _ | exact LeO.none _ | refine LeO.ite ?_ ?_ | refine LeO.bind ?_ (fun _ => ?_)
set_option maxHeartbeats 8000000 in
set_option maxRecDepth 100000 in
theorem laws_mwAddresses.calls (k : Nat) (A0 : Option Addr) (c0 : Nat) (l0 : List (S36)) (A1 : Option Addr) (c1 : Nat) (l1 : List (S36)) (r : Bool) (w : World) (hr0 : Kd.C k36 w A0 l0.length l0) (hc0 : l0.length ≤ c0) (hr1 : Kd.C k36 w A1 l1.length l1) (hc1 : l1.length ≤ c1) (h : laws_mwAddresses.f k l0 l1 = some r) :
  Calls Tryz.prog 8 #[.slice A0 l0.length c0, .slice A1 l1.length c1] w fun e w' => e = .returned (.bool r) ∧ Drawn0 w w' := by
 have hu36 := Tryz.underlying36
 have HR0 := Aside0.mk hr0
 have HC0 := Aside0.mk hc0
 clear hr0 hc0
 have HR1 := Aside0.mk hr1
 have HC1 := Aside0.mk hc1
 clear hr1 hc1
 have H : (if (l0.length : Int) = (l1.length : Int) then (laws_mwAddresses.l0 k l0 l1 0) else (some false)) = some r := h
 clear h
 by_cases c3 : (l0.length : Int) = (l1.length : Int)
 ·rw [if_pos c3] at H
  have c3b0 : ((l0.length : Int) == (l1.length : Int)) = true := beq_iff_eq.mpr c3
  have c3b1 : ((l0.length : Int) != (l1.length : Int)) = false := bne_eq_false_iff_eq.mpr c3
  have c3b2 : (l0.length == l1.length) = true := by first | simpa using c3 | (simp at c3 ⊢; omega)
  clear c3
  have H' := Aside0.mk H
  clear H
  go_enter Tryz.func8, Tryz.ntmps8
  go_wp2
  repeat (go_quiet (fail); try go_wp2)
  go_loopg [5] k (fun kq v5 w' => ∃ (x5_1 : Int), v5 = .int .i64 x5_1 ∧ Aside0 (laws_mwAddresses.l0 kq l0 l1 x5_1 = some r) ∧ Aside0 (kq ≤ k) ∧ Drawn0 w w')
  case atStart => exact ⟨(0), tS, H', ⟨Nat.le_refl _⟩, by repeat (first | exact Drawn0.refl _ | apply Drawn0.step)⟩
  case round =>
   clear H'
   try clear c1
   try clear p2
   try clear c3
   try clear c3b0
   try clear c3b1
   try clear c3b2
   obtain ⟨x5_1, rfl, HA, HK1, ⟨m1, rfl⟩⟩ := hrel
   cases gk with
   | zero => exact absurd HA.out (by simp [laws_mwAddresses.l0])
   | succ k1 =>
    have H := HA.out
    clear HA
    simp only [laws_mwAddresses.l0] at H
    by_cases c4 : x5_1 < (l0.length : Int)
    ·rw [if_pos c4] at H
     have c4b0 : decide (x5_1 < (l0.length : Int)) = true := decide_eq_true c4
     clear c4
     by_cases c5 : 0 ≤ x5_1
     ·rw [if_pos c5] at H
      have c5b0 : decide (0 ≤ x5_1) = true := decide_eq_true c5
      clear c5
      by_cases c6 : x5_1 < (l1.length : Int)
      ·rw [if_pos c6] at H
       have c6b0 : decide (x5_1 < (l1.length : Int)) = true := decide_eq_true c6
       clear c6
       by_cases c7 : (!((((rd_T36 l0 x5_1).f0).toList) == (((rd_T36 l1 x5_1).f0).toList)) || (!((((rd_T36 l0 x5_1).f1).toList) == (((rd_T36 l1 x5_1).f1).toList)) || (!((((rd_T36 l0 x5_1).f2).toList) == (((rd_T36 l1 x5_1).f2).toList))))) = true
       ·rw [if_pos c7] at H
        have c7b0 : (!((((rd_T36 l0 x5_1).f0).toList) == (((rd_T36 l1 x5_1).f0).toList)) || (!((((rd_T36 l0 x5_1).f1).toList) == (((rd_T36 l1 x5_1).f1).toList)) || (!((((rd_T36 l0 x5_1).f2).toList) == (((rd_T36 l1 x5_1).f2).toList))))) = true := c7
        clear c7
        obtain rfl := Option.some.inj H
        have p480 : 0 ≤ (x5_1 : Int) := of_decide_eq_true tF
        have q480 : x5_1 < (l0.length : Int) := of_decide_eq_true tF
        obtain ⟨ad480, e480, hx480_0, hx480_1, hx480_2⟩ := at_T36 HR0.out x5_1 p480 q480
        cases e480
        replace p480 := eq_true p480
        replace q480 := eq_true q480
        have p481 : 0 ≤ (x5_1 : Int) := of_decide_eq_true tF
        have q481 : x5_1 < (l1.length : Int) := of_decide_eq_true tF
        obtain ⟨ad481, e481, hx481_0, hx481_1, hx481_2⟩ := at_T36 HR1.out x5_1 p481 q481
        cases e481
        replace p481 := eq_true p481
        replace q481 := eq_true q481
        go_wp2
        repeat (go_quiet (fail); try go_wp2)
        go_ret
        exact ⟨by first | rfl | (simp; done) | (simp [*]; done), by repeat (first | exact Drawn0.refl _ | apply Drawn0.step)⟩
       ·rw [if_neg c7] at H
        have c7b0 : (!((((rd_T36 l0 x5_1).f0).toList) == (((rd_T36 l1 x5_1).f0).toList)) || (!((((rd_T36 l0 x5_1).f1).toList) == (((rd_T36 l1 x5_1).f1).toList)) || (!((((rd_T36 l0 x5_1).f2).toList) == (((rd_T36 l1 x5_1).f2).toList))))) = false := by simpa using c7
        clear c7
        have H' := Aside0.mk H
        clear H
        have p480 : 0 ≤ (x5_1 : Int) := of_decide_eq_true tF
        have q480 : x5_1 < (l0.length : Int) := of_decide_eq_true tF
        obtain ⟨ad480, e480, hx480_0, hx480_1, hx480_2⟩ := at_T36 HR0.out x5_1 p480 q480
        cases e480
        replace p480 := eq_true p480
        replace q480 := eq_true q480
        have p481 : 0 ≤ (x5_1 : Int) := of_decide_eq_true tF
        have q481 : x5_1 < (l1.length : Int) := of_decide_eq_true tF
        obtain ⟨ad481, e481, hx481_0, hx481_1, hx481_2⟩ := at_T36 HR1.out x5_1 p481 q481
        cases e481
        replace p481 := eq_true p481
        replace q481 := eq_true q481
        go_wp2
        repeat (go_quiet (fail); try go_wp2)
        go_roundg k1
        case measure => have := HK1.out; omega
        case rel => exact ⟨(wrap64 (x5_1 + 1)), tS, H', ⟨by have := HK1.out; omega⟩, by repeat (first | exact Drawn0.refl _ | apply Drawn0.step)⟩
      ·rw [if_neg c6] at H
       exact absurd H (by simp)
     ·rw [if_neg c5] at H
      exact absurd H (by simp)
    ·rw [if_neg c4] at H
     have c4b0 : decide (x5_1 < (l0.length : Int)) = false := decide_eq_false c4
     clear c4
     obtain rfl := Option.some.inj H
     go_wp2
     repeat (go_quiet (fail); try go_wp2)
     go_ret
     exact ⟨by first | rfl | (simp; done) | (simp [*]; done), by repeat (first | exact Drawn0.refl _ | apply Drawn0.step)⟩
 ·rw [if_neg c3] at H
  have c3b0 : ((l0.length : Int) == (l1.length : Int)) = false := beq_eq_false_iff_ne.mpr c3
  have c3b1 : ((l0.length : Int) != (l1.length : Int)) = true := bne_iff_ne.mpr c3
  have c3b2 : (l0.length == l1.length) = false := by first | simpa using c3 | (simp at c3 ⊢; omega)
  obtain rfl := Option.some.inj H
  go_enter Tryz.func8, Tryz.ntmps8
  go_wp2
  repeat (go_quiet (fail); try go_wp2)
  go_ret
  exact ⟨by first | rfl | (simp; done) | (simp [*]; done), by repeat (first | exact Drawn0.refl _ | apply Drawn0.step)⟩

/-! ### laws_FnListText: function 3 -/
mutual
def laws_FnListText.j0 : Nat → List Int → List Int → Bool → Option (Bool)
 | 0, _, _, _ => none
 | k + 1, x0, x1, x24 => if x24 = true then (some true) else ((spec_DrawFormatList.f k x0).bind fun t482 => ((impl_FormatList.f k t482).bind fun t485 => ((spec_FormatList.f k t482).bind fun t486 => (if t485.toList = t486.toList then (if t485.toList = ([] : List UInt8) then (laws_FnListText.j1 k x1) else ((impl_ParseList.f k t485).bind fun bt487 => (if bt487.2 = true then ((laws_mwAddresses.f k bt487.1 t482).bind fun t491 => (if t491 = true then (laws_FnListText.j1 k x1) else (some false))) else (some false)))) else (some false)))))
def laws_FnListText.j1 : Nat → List Int → Option (Bool)
 | 0, _ => none
 | k + 1, x1 => (spec_DrawParseList.f k x1).bind fun t492 => ((impl_ParseList.f k t492).bind fun bt493 => ((spec_ParseList.f k t492).bind fun bt497 => ((laws_mwAddresses.f k bt493.1 bt497.1).bind fun t501 => (if t501 = true then (laws_FnListText.j2 k bt493.1 bt493.2 (bt493.2 != bt497.2)) else (laws_FnListText.j2 k bt493.1 bt493.2 true)))))
def laws_FnListText.j2 : Nat → List (S36) → Bool → Bool → Option (Bool)
 | 0, _, _, _ => none
 | k + 1, x10, x11, x68 => if x68 = true then (some false) else ((impl_FormatList.f k x10).bind fun t502 => ((impl_ParseList.f k t502).bind fun bt503 => (if x11 = true then (if t502.toList = ([] : List UInt8) then (some true) else (if bt503.2 = true then ((laws_mwAddresses.f k bt503.1 x10).bind fun t507 => (some t507)) else (some false))) else (some true))))
end
def laws_FnListText.f (k : Nat) (l0 : List Int) (l1 : List Int) : Option (Bool) := if (l0.length : Int) > 1048576 then (laws_FnListText.j0 k l0 l1 true) else (laws_FnListText.j0 k l0 l1 (decide ((l1.length : Int) > 1048576)))
theorem laws_FnListText.mono_l : ∀ k, (∀ y0 y1 y2, LeO (laws_FnListText.j0 k y0 y1 y2) (laws_FnListText.j0 (k + 1) y0 y1 y2)) ∧ (∀ y0, LeO (laws_FnListText.j1 k y0) (laws_FnListText.j1 (k + 1) y0)) ∧ (∀ y0 y1 y2, LeO (laws_FnListText.j2 k y0 y1 y2) (laws_FnListText.j2 (k + 1) y0 y1 y2))
 | 0 => ⟨fun _ _ _ r h => by simp [laws_FnListText.j0] at h, fun _ r h => by simp [laws_FnListText.j1] at h, fun _ _ _ r h => by simp [laws_FnListText.j2] at h⟩
 | k + 1 => by
  obtain ⟨ih0, ih1, ih2⟩ := laws_FnListText.mono_l k
  refine ⟨?_, ?_, ?_⟩
  ·intro y0 y1 y2
   unfold laws_FnListText.j0
   repeat' first
   | (with_reducible first | exact ih0 _ _ _ | exact ih1 _ | exact ih2 _ _ _ | exact impl_FormatList.mono _ _ | exact impl_ParseList.mono _ _ | exact laws_mwAddresses.mono _ _ _ | exact spec_DrawFormatList.mono _ _ | exact spec_DrawParseList.mono _ _ | exact spec_FormatList.mono _ _ | exact spec_ParseList.mono _ _ | exact LeO.refl _ | exact LeO.none _ | refine LeO.ite ?_ ?_ | refine LeO.bind ?_ (fun _ => ?_)) | exact ih0 _ _ _ | exact ih1 _ | exact ih2 _ _ _ | exact impl_FormatList.mono _ _ | exact impl_ParseList.mono _ _ | exact laws_mwAddresses.mono _ _ _ | exact spec_DrawFormatList.mono _ _ | exact spec_DrawParseList.mono _ _ | exact spec_FormatList.mono _ _ | exact spec_ParseList.mono _ _ | exact LeO.none _ | refine LeO.ite ?_ ?_ | refine LeO.bind ?_ (fun _ => ?_)
  ·intro y0
   unfold laws_FnListText.j1
   repeat' first
   | (with_reducible first | exact ih0 _ _ _ | exact ih1 _ | exact ih2 _ _ _ | exact impl_FormatList.mono _ _ | exact impl_ParseList.mono _ _ | exact laws_mwAddresses.mono _ _ _ | exact spec_DrawFormatList.mono _ _ | exact spec_DrawParseList.mono _ _ | exact spec_FormatList.mono _ _ | exact spec_ParseList.mono _ _ | exact LeO.refl _ | exact LeO.none _ | refine LeO.ite ?_ ?_ | refine LeO.bind ?_ (fun _ => ?_)) | exact ih0 _ _ _ | exact ih1 _ | exact ih2 _ _ _ | exact impl_FormatList.mono _ _ | exact impl_ParseList.mono _ _ | exact laws_mwAddresses.mono _ _ _ | exact spec_DrawFormatList.mono _ _ | exact spec_DrawParseList.mono _ _ | exact spec_FormatList.mono _ _ | exact spec_ParseList.mono _ _ | exact LeO.none _ | refine LeO.ite ?_ ?_ | refine LeO.bind ?_ (fun _ => ?_)
  ·intro y0 y1 y2
   unfold laws_FnListText.j2
   repeat' first
   | (with_reducible first | exact ih0 _ _ _ | exact ih1 _ | exact ih2 _ _ _ | exact impl_FormatList.mono _ _ | exact impl_ParseList.mono _ _ | exact laws_mwAddresses.mono _ _ _ | exact spec_DrawFormatList.mono _ _ | exact spec_DrawParseList.mono _ _ | exact spec_FormatList.mono _ _ | exact spec_ParseList.mono _ _ | exact LeO.refl _ | exact LeO.none _ | refine LeO.ite ?_ ?_ | refine LeO.bind ?_ (fun _ => ?_)) | exact ih0 _ _ _ | exact ih1 _ | exact ih2 _ _ _ | exact impl_FormatList.mono _ _ | exact impl_ParseList.mono _ _ | exact laws_mwAddresses.mono _ _ _ | exact spec_DrawFormatList.mono _ _ | exact spec_DrawParseList.mono _ _ | exact spec_FormatList.mono _ _ | exact spec_ParseList.mono _ _ | exact LeO.none _ | refine LeO.ite ?_ ?_ | refine LeO.bind ?_ (fun _ => ?_)
theorem laws_FnListText.mono : ∀ a0 a1 k, LeO (laws_FnListText.f k a0 a1) (laws_FnListText.f (k + 1) a0 a1) := by
 intro a0 a1 k
 obtain ⟨ih0, ih1, ih2⟩ := laws_FnListText.mono_l k
 unfold laws_FnListText.f
 repeat' first
   | (with_reducible first | exact ih0 _ _ _ | exact ih1 _ | exact ih2 _ _ _ | exact impl_FormatList.mono _ _ | exact impl_ParseList.mono _ _ | exact laws_mwAddresses.mono _ _ _ | exact spec_DrawFormatList.mono _ _ | exact spec_DrawParseList.mono _ _ | exact spec_FormatList.mono _ _ | exact spec_ParseList.mono _ _ | exact LeO.refl _ | exact LeO.none _ | refine LeO.ite ?_ ?_ | refine LeO.bind ?_ (fun _ => ?_)) | exact ih0 _ _ _ | exact ih1 _ | exact ih2 _ _ _ | exact impl_FormatList.mono _ _ | exact impl_ParseList.mono _ _ | exact laws_mwAddresses.mono _ _ _ | exact spec_DrawFormatList.mono _ _ | exact spec_DrawParseList.mono _ _ | exact spec_FormatList.mono _ _ | exact spec_ParseList.mono _ _ | exact LeO.none _ | refine LeO.ite ?_ ?_ | refine LeO.bind ?_ (fun _ => ?_)
set_option maxHeartbeats 8000000 in
set_option maxRecDepth 100000 in
theorem laws_FnListText.calls (k : Nat) (A0 : Option Addr) (c0 : Nat) (l0 : List Int) (A1 : Option Addr) (c1 : Nat) (l1 : List Int) (r : Bool) (w : World) (hr0 : Kd.C (Kd.int .u8) w A0 l0.length l0) (hc0 : l0.length ≤ c0) (hr1 : Kd.C (Kd.int .u8) w A1 l1.length l1) (hc1 : l1.length ≤ c1) (h : laws_FnListText.f k l0 l1 = some r) :
  Calls Tryz.prog 3 #[.slice A0 l0.length c0, .slice A1 l1.length c1] w fun e w' => e = .returned (.bool r) ∧ Below w.heap.size w w' := by
 have HR0 := Aside0.mk hr0
 have HC0 := Aside0.mk hc0
 clear hr0 hc0
 have HR1 := Aside0.mk hr1
 have HC1 := Aside0.mk hc1
 clear hr1 hc1
 have HB := Aside0.mk (Below.refl w.heap.size w)
 have H : (if (l0.length : Int) > 1048576 then (laws_FnListText.j0 k l0 l1 true) else (laws_FnListText.j0 k l0 l1 (decide ((l1.length : Int) > 1048576)))) = some r := h
 clear h
 have HC3 := Aside0.mk H
 clear H
 go_enter Tryz.func3, Tryz.ntmps3
 go_upto_region 1 with (fail)
 go_cut [24] (fun v24 wc => ∃ (kq : Nat) (x24_2 : Bool), v24 = .bool x24_2 ∧ Aside0 (laws_FnListText.j0 kq l0 l1 x24_2 = some r) ∧ Aside0 (kq ≤ k) ∧ Aside0 (Below w.heap.size w wc))
 case first =>
  have H := HC3.out
  clear HC3
  by_cases c4 : (l0.length : Int) > 1048576
  ·rw [if_pos c4] at H
   have c4b0 : decide (1048576 < (l0.length : Int)) = true := decide_eq_true c4
   have c4b1 : decide (1048576 < l0.length) = true := decide_eq_true (by omega)
   clear c4
   (first | rw [c4b0] | (simp only [i64_w, i32_w]; rw [c4b0]) | skip)
   have H' := Aside0.mk H
   clear H
   go_wp2
   go_meet
   case rel => exact ⟨_, (true), tS, H', ⟨by first | omega | exact Nat.le_refl _⟩, ⟨by repeat (first | (with_reducible first | exact HB.out | apply below_alloc | apply pw_below_drewN | apply below_drew1) | exact HB.out)⟩⟩
  ·rw [if_neg c4] at H
   have c4b0 : decide (1048576 < (l0.length : Int)) = false := decide_eq_false c4
   have c4b1 : decide (1048576 < l0.length) = false := decide_eq_false (by omega)
   clear c4
   (first | rw [c4b0] | (simp only [i64_w, i32_w]; rw [c4b0]) | skip)
   have H' := Aside0.mk H
   clear H
   go_wp2
   go_meet
   case rel => exact ⟨_, (decide ((l1.length : Int) > 1048576)), tS, H', ⟨by first | omega | exact Nat.le_refl _⟩, ⟨by repeat (first | (with_reducible first | exact HB.out | apply below_alloc | apply pw_below_drewN | apply below_drew1) | exact HB.out)⟩⟩
 case rest =>
  clear HC3
  try clear c1
  try clear p2
  try clear c3
  try clear c4
  try clear c4b0
  try clear c4b1
  obtain ⟨kq, x24_2, rfl, HA, HJ2, HB⟩ := hcut
  cases kq with
  | zero => exact absurd HA.out (by simp [laws_FnListText.j0])
  | succ kj2 =>
   have H := HA.out
   clear HA
   simp only [laws_FnListText.j0] at H
   by_cases c5 : x24_2 = true
   ·subst c5
    rw [if_pos rfl] at H
    obtain rfl := Option.some.inj H
    go_wp2
    go_ret
    exact ⟨tE, tB⟩
   ·replace c5 := Bool.eq_false_iff.mpr c5
    subst c5
    rw [if_neg (show ¬ (false = true) by decide)] at H
    replace H := Option.bind_eq_some_iff.mp H
    obtain ⟨t482, A60, H⟩ := H
    replace H : ((impl_FormatList.f kj2 t482).bind fun t485 => ((spec_FormatList.f kj2 t482).bind fun t486 => (if t485.toList = t486.toList then (if t485.toList = ([] : List UInt8) then (laws_FnListText.j1 kj2 l1) else ((impl_ParseList.f kj2 t485).bind fun bt487 => (if bt487.2 = true then ((laws_mwAddresses.f kj2 bt487.1 t482).bind fun t491 => (if t491 = true then (laws_FnListText.j1 kj2 l1) else (some false))) else (some false)))) else (some false)))) = some r := H
    have A6 := Aside0.mk A60
    clear A60
    replace H := Option.bind_eq_some_iff.mp H
    obtain ⟨t485, A70, H⟩ := H
    replace H : ((spec_FormatList.f kj2 t482).bind fun t486 => (if t485.toList = t486.toList then (if t485.toList = ([] : List UInt8) then (laws_FnListText.j1 kj2 l1) else ((impl_ParseList.f kj2 t485).bind fun bt487 => (if bt487.2 = true then ((laws_mwAddresses.f kj2 bt487.1 t482).bind fun t491 => (if t491 = true then (laws_FnListText.j1 kj2 l1) else (some false))) else (some false)))) else (some false))) = some r := H
    have A7 := Aside0.mk A70
    clear A70
    replace H := Option.bind_eq_some_iff.mp H
    obtain ⟨t486, A80, H⟩ := H
    replace H : (if t485.toList = t486.toList then (if t485.toList = ([] : List UInt8) then (laws_FnListText.j1 kj2 l1) else ((impl_ParseList.f kj2 t485).bind fun bt487 => (if bt487.2 = true then ((laws_mwAddresses.f kj2 bt487.1 t482).bind fun t491 => (if t491 = true then (laws_FnListText.j1 kj2 l1) else (some false))) else (some false)))) else (some false)) = some r := H
    have A8 := Aside0.mk A80
    clear A80
    by_cases c9 : t485.toList = t486.toList
    ·rw [if_pos c9] at H
     have c9b0 : (t485.toList == t486.toList) = true := beq_iff_eq.mpr c9
     have c9b1 : (t485.toList != t486.toList) = false := bne_eq_false_iff_eq.mpr c9
     clear c9
     have HC10 := Aside0.mk H
     clear H
     go_upto_if 34 with (first | ((with_reducible refine gate_callee (f := 4) rfl ?_); refine goesL_ (some 26) rfl rfl Tryz.func4 (by kernel_rfl) rfl #[.slice A0 l0.length c0] rfl tA ?_; (with_reducible refine (spec_DrawFormatList.calls kj2 _ _ l0 t482 _ ?side1 ?side2 A6.out).mono ?_); (case side1 => repeat (first | exact (Kd.C_below HR0.out HB.out) | (with_reducible refine Kd.C_alloc ?_ _) | (with_reducible refine Kd.C_drewN ?_ _) | (with_reducible refine Kd.C_drew ?_))); (case side2 => exact HC0.out); rintro e w11 ⟨v483, rfl, ho0, hb⟩; refine ⟨_, rfl, ?_⟩; have n0_ := Aside0.mk (Kd.R_lower ho0 (below_size tB)); have n1_ := Aside0.mk (below_step tB hb); clear HB; have HO484 := n0_; have HB := n1_; clear n0_ n1_; (try clear hb); (try clear hb2); (try clear hk); (try clear hi); (try clear ho0); obtain ⟨Ao12, co12, eo12⟩ := Kd.R_slice HO484.out; subst eo12) | ((with_reducible refine gate_callee (f := 5) rfl ?_); refine goesL_ (some 28) rfl rfl Tryz.func5 (by kernel_rfl) rfl #[.slice Ao12 t482.length co12] rfl tA ?_; (with_reducible refine (impl_FormatList.calls kj2 _ _ t482 t485 _ ?side1 ?side2 A7.out).mono ?_); (case side1 => repeat (first | exact (Kd.R_reads' HO484.out).2.2 | (with_reducible refine Kd.C_alloc ?_ _) | (with_reducible refine Kd.C_drewN ?_ _) | (with_reducible refine Kd.C_drew ?_))); (case side2 => exact (Kd.R_reads' HO484.out).2.1); rintro e w13 ⟨rfl, hb⟩; refine ⟨_, rfl, ?_⟩; have n0_ := Aside0.mk (Kd.R_below (by (with_reducible repeat (first | apply Kd.R_alloc | apply Kd.R_drewN | apply Kd.R_drew)); exact HO484.out) hb); have n1_ := Aside0.mk (below_step tB hb); clear HO484; clear HB; have HO484 := n0_; have HB := n1_; clear n0_ n1_; (try clear hb); (try clear hb2); (try clear hk); (try clear hi)) | ((with_reducible refine gate_callee (f := 6) rfl ?_); refine goesL_ (some 31) rfl rfl Tryz.func6 (by kernel_rfl) rfl #[.slice Ao12 t482.length co12] rfl tA ?_; (with_reducible refine (spec_FormatList.calls kj2 _ _ t482 t486 _ ?side1 ?side2 A8.out).mono ?_); (case side1 => repeat (first | exact (Kd.R_reads' HO484.out).2.2 | (with_reducible refine Kd.C_alloc ?_ _) | (with_reducible refine Kd.C_drewN ?_ _) | (with_reducible refine Kd.C_drew ?_))); (case side2 => exact (Kd.R_reads' HO484.out).2.1); rintro e w14 ⟨rfl, hb⟩; refine ⟨_, rfl, ?_⟩; have n0_ := Aside0.mk (Kd.R_below (by (with_reducible repeat (first | apply Kd.R_alloc | apply Kd.R_drewN | apply Kd.R_drew)); exact HO484.out) hb); have n1_ := Aside0.mk (below_step tB hb); clear HO484; clear HB; have HO484 := n0_; have HB := n1_; clear n0_ n1_; (try clear hb); (try clear hb2); (try clear hk); (try clear hi)))
     (try simp only [Act.put, List.setIfInBounds_toArray, List.set_cons_zero, List.set_cons_succ])
     go_cut [] (fun wc => ∃ (kq : Nat), Aside0 (laws_FnListText.j1 kq l1 = some r) ∧ Aside0 (kq ≤ kj2) ∧ Aside0 (Below w.heap.size w wc))
     case first =>
      have H := HC10.out
      clear HC10
      by_cases c15 : t485.toList = ([] : List UInt8)
      ·rw [if_pos c15] at H
       have c15b0 : (t485.toList == ([] : List UInt8)) = true := beq_iff_eq.mpr c15
       have c15e0 : t485.toList.isEmpty = true := by simpa using c15b0
       have c15e1 : (!t485.toList.isEmpty) = false := by rw [c15e0]; rfl
       have c15b1 : (t485.toList != ([] : List UInt8)) = false := bne_eq_false_iff_eq.mpr c15
       clear c15
       (first | rw [c15b0] | (simp only [i64_w, i32_w]; rw [c15b0]) | skip)
       have H' := Aside0.mk H
       clear H
       go_wp2
       all_goals try (exfalso; exact absurd ‹(!t485.toList.isEmpty) = true› (by rw [c15e1]; decide))
       go_meet
       case rel => exact ⟨_, H', ⟨by have := HJ2.out; first | omega | exact Nat.le_refl _⟩, ⟨by repeat (first | (with_reducible first | exact HB.out | apply below_alloc | apply pw_below_drewN | apply below_drew1) | exact HB.out)⟩⟩
      ·rw [if_neg c15] at H
       have c15b0 : (t485.toList == ([] : List UInt8)) = false := beq_eq_false_iff_ne.mpr c15
       have c15e0 : t485.toList.isEmpty = false := by simpa using c15b0
       have c15e1 : (!t485.toList.isEmpty) = true := by rw [c15e0]; rfl
       have c15b1 : (t485.toList != ([] : List UInt8)) = true := bne_iff_ne.mpr c15
       (first | rw [c15b0] | (simp only [i64_w, i32_w]; rw [c15b0]) | skip)
       replace H := Option.bind_eq_some_iff.mp H
       obtain ⟨⟨t487, t488⟩, A160, H⟩ := H
       replace H : (if t488 = true then ((laws_mwAddresses.f kj2 t487 t482).bind fun t491 => (if t491 = true then (laws_FnListText.j1 kj2 l1) else (some false))) else (some false)) = some r := H
       have A16 := Aside0.mk A160
       clear A160
       by_cases c17 : t488 = true
       ·subst c17
        rw [if_pos rfl] at H
        replace H := Option.bind_eq_some_iff.mp H
        obtain ⟨t491, A180, H⟩ := H
        replace H : (if t491 = true then (laws_FnListText.j1 kj2 l1) else (some false)) = some r := H
        have A18 := Aside0.mk A180
        clear A180
        by_cases c19 : t491 = true
        ·subst c19
         rw [if_pos rfl] at H
         have H' := Aside0.mk H
         clear H
         go_wp2_with (first | ((with_reducible refine gate_callee (f := 7) rfl ?_); refine goesL_ (some 37) rfl rfl Tryz.func7 (by kernel_rfl) rfl #[.string t485] rfl tA ?_; (with_reducible refine (impl_ParseList.calls kj2 t485 t487 true _ A16.out).mono ?_); rintro e w20 ⟨v489, rfl, ho0, hb⟩; refine ⟨_, rfl, ?_⟩; have n0_ := Aside0.mk (Kd.R_elder' (by (with_reducible repeat (first | apply Kd.R_alloc | apply Kd.R_drewN | apply Kd.R_drew)); exact HO484.out) (Kd.R_base ho0) hb); have n1_ := Aside0.mk (Kd.R_lower (Kd.R_new' ho0 (Kd.R_lt (by (with_reducible repeat (first | apply Kd.R_alloc | apply Kd.R_drewN | apply Kd.R_drew)); exact HO484.out))) (below_size tB)); have n2_ := Aside0.mk (below_step tB hb); clear HO484; clear HB; have HO484 := n0_; have HO490 := n1_; have HB := n2_; clear n0_ n1_ n2_; (try clear hb); (try clear hb2); (try clear hk); (try clear hi); (try clear ho0); obtain ⟨Ao21, co21, eo21⟩ := Kd.R_slice HO490.out; subst eo21) | (go_at_call 8; (with_reducible refine (laws_mwAddresses.calls kj2 _ _ t487 _ _ t482 true _ ?side1 ?side2 ?side3 ?side4 A18.out).mono ?_); (case side1 => repeat (first | exact (Kd.R_reads' HO490.out).2.2 | (with_reducible refine Kd.C_alloc ?_ _) | (with_reducible refine Kd.C_drewN ?_ _) | (with_reducible refine Kd.C_drew ?_))); (case side2 => exact (Kd.R_reads' HO490.out).2.1); (case side3 => repeat (first | exact (Kd.R_reads' HO484.out).2.2 | (with_reducible refine Kd.C_alloc ?_ _) | (with_reducible refine Kd.C_drewN ?_ _) | (with_reducible refine Kd.C_drew ?_))); (case side4 => exact (Kd.R_reads' HO484.out).2.1); rintro e w' ⟨rfl, ⟨nd, rfl⟩⟩))
         all_goals try (exfalso; exact absurd ‹(!t485.toList.isEmpty) = true› (by rw [c15e1]; decide))
         all_goals try (exfalso; exact absurd ‹(!t485.toList.isEmpty) = false› (by rw [c15e1]; decide))
         go_meet
         case rel => exact ⟨_, H', ⟨by have := HJ2.out; first | omega | exact Nat.le_refl _⟩, ⟨by repeat (first | (with_reducible first | exact HB.out | apply below_alloc | apply pw_below_drewN | apply below_drew1) | exact HB.out)⟩⟩
        ·replace c19 := Bool.eq_false_iff.mpr c19
         subst c19
         rw [if_neg (show ¬ (false = true) by decide)] at H
         obtain rfl := Option.some.inj H
         go_wp2_with (first | ((with_reducible refine gate_callee (f := 7) rfl ?_); refine goesL_ (some 37) rfl rfl Tryz.func7 (by kernel_rfl) rfl #[.string t485] rfl tA ?_; (with_reducible refine (impl_ParseList.calls kj2 t485 t487 true _ A16.out).mono ?_); rintro e w22 ⟨v489, rfl, ho0, hb⟩; refine ⟨_, rfl, ?_⟩; have n0_ := Aside0.mk (Kd.R_elder' (by (with_reducible repeat (first | apply Kd.R_alloc | apply Kd.R_drewN | apply Kd.R_drew)); exact HO484.out) (Kd.R_base ho0) hb); have n1_ := Aside0.mk (Kd.R_lower (Kd.R_new' ho0 (Kd.R_lt (by (with_reducible repeat (first | apply Kd.R_alloc | apply Kd.R_drewN | apply Kd.R_drew)); exact HO484.out))) (below_size tB)); have n2_ := Aside0.mk (below_step tB hb); clear HO484; clear HB; have HO484 := n0_; have HO490 := n1_; have HB := n2_; clear n0_ n1_ n2_; (try clear hb); (try clear hb2); (try clear hk); (try clear hi); (try clear ho0); obtain ⟨Ao23, co23, eo23⟩ := Kd.R_slice HO490.out; subst eo23) | (go_at_call 8; (with_reducible refine (laws_mwAddresses.calls kj2 _ _ t487 _ _ t482 false _ ?side1 ?side2 ?side3 ?side4 A18.out).mono ?_); (case side1 => repeat (first | exact (Kd.R_reads' HO490.out).2.2 | (with_reducible refine Kd.C_alloc ?_ _) | (with_reducible refine Kd.C_drewN ?_ _) | (with_reducible refine Kd.C_drew ?_))); (case side2 => exact (Kd.R_reads' HO490.out).2.1); (case side3 => repeat (first | exact (Kd.R_reads' HO484.out).2.2 | (with_reducible refine Kd.C_alloc ?_ _) | (with_reducible refine Kd.C_drewN ?_ _) | (with_reducible refine Kd.C_drew ?_))); (case side4 => exact (Kd.R_reads' HO484.out).2.1); rintro e w' ⟨rfl, ⟨nd, rfl⟩⟩))
         all_goals try (exfalso; exact absurd ‹(!t485.toList.isEmpty) = true› (by rw [c15e1]; decide))
         all_goals try (exfalso; exact absurd ‹(!t485.toList.isEmpty) = false› (by rw [c15e1]; decide))
         go_ret
         exact ⟨tE, tB⟩
       ·replace c17 := Bool.eq_false_iff.mpr c17
        subst c17
        rw [if_neg (show ¬ (false = true) by decide)] at H
        obtain rfl := Option.some.inj H
        go_wp2_with (first | ((with_reducible refine gate_callee (f := 7) rfl ?_); refine goesL_ (some 37) rfl rfl Tryz.func7 (by kernel_rfl) rfl #[.string t485] rfl tA ?_; (with_reducible refine (impl_ParseList.calls kj2 t485 t487 false _ A16.out).mono ?_); rintro e w24 ⟨v489, rfl, ho0, hb⟩; refine ⟨_, rfl, ?_⟩; have n0_ := Aside0.mk (Kd.R_elder' (by (with_reducible repeat (first | apply Kd.R_alloc | apply Kd.R_drewN | apply Kd.R_drew)); exact HO484.out) (Kd.R_base ho0) hb); have n1_ := Aside0.mk (Kd.R_lower (Kd.R_new' ho0 (Kd.R_lt (by (with_reducible repeat (first | apply Kd.R_alloc | apply Kd.R_drewN | apply Kd.R_drew)); exact HO484.out))) (below_size tB)); have n2_ := Aside0.mk (below_step tB hb); clear HO484; clear HB; have HO484 := n0_; have HO490 := n1_; have HB := n2_; clear n0_ n1_ n2_; (try clear hb); (try clear hb2); (try clear hk); (try clear hi); (try clear ho0)))
        all_goals try (exfalso; exact absurd ‹(!t485.toList.isEmpty) = true› (by rw [c15e1]; decide))
        all_goals try (exfalso; exact absurd ‹(!t485.toList.isEmpty) = false› (by rw [c15e1]; decide))
        go_ret
        exact ⟨tE, tB⟩
     case rest =>
      clear HC10
      try clear c1
      try clear p2
      try clear c3
      try clear c4
      try clear c4b0
      try clear c4b1
      try clear c5
      try clear c6
      try clear c7
      try clear c9
      try clear c9b0
      try clear c9b1
      try clear c15
      try clear c15b0
      try clear c15b1
      try clear c17
      try clear c19
      try clear p2
      obtain ⟨kq, HA, HJ9, HB⟩ := hcut
      cases kq with
      | zero => exact absurd HA.out (by simp [laws_FnListText.j1])
      | succ kj9 =>
       have H := HA.out
       clear HA
       simp only [laws_FnListText.j1] at H
       replace H := Option.bind_eq_some_iff.mp H
       obtain ⟨t492, A250, H⟩ := H
       replace H : ((impl_ParseList.f kj9 t492).bind fun bt493 => ((spec_ParseList.f kj9 t492).bind fun bt497 => ((laws_mwAddresses.f kj9 bt493.1 bt497.1).bind fun t501 => (if t501 = true then (laws_FnListText.j2 kj9 bt493.1 bt493.2 (bt493.2 != bt497.2)) else (laws_FnListText.j2 kj9 bt493.1 bt493.2 true))))) = some r := H
       have A25 := Aside0.mk A250
       clear A250
       replace H := Option.bind_eq_some_iff.mp H
       obtain ⟨⟨t493, t494⟩, A260, H⟩ := H
       replace H : ((spec_ParseList.f kj9 t492).bind fun bt497 => ((laws_mwAddresses.f kj9 t493 bt497.1).bind fun t501 => (if t501 = true then (laws_FnListText.j2 kj9 t493 t494 (t494 != bt497.2)) else (laws_FnListText.j2 kj9 t493 t494 true)))) = some r := H
       have A26 := Aside0.mk A260
       clear A260
       replace H := Option.bind_eq_some_iff.mp H
       obtain ⟨⟨t497, t498⟩, A270, H⟩ := H
       replace H : ((laws_mwAddresses.f kj9 t493 t497).bind fun t501 => (if t501 = true then (laws_FnListText.j2 kj9 t493 t494 (t494 != t498)) else (laws_FnListText.j2 kj9 t493 t494 true))) = some r := H
       have A27 := Aside0.mk A270
       clear A270
       have HC28 := Aside0.mk H
       clear H
       go_upto_region 14 with (first | ((with_reducible refine gate_callee (f := 9) rfl ?_); refine goesL_ (some 49) rfl rfl Tryz.func9 (by kernel_rfl) rfl #[.slice A1 l1.length c1] rfl tA ?_; (with_reducible refine (spec_DrawParseList.calls kj9 _ _ l1 t492 _ ?side1 ?side2 A25.out).mono ?_); (case side1 => repeat (first | exact (Kd.C_below HR1.out HB.out) | (with_reducible refine Kd.C_alloc ?_ _) | (with_reducible refine Kd.C_drewN ?_ _) | (with_reducible refine Kd.C_drew ?_))); (case side2 => exact HC1.out); rintro e w29 ⟨rfl, hb⟩; refine ⟨_, rfl, ?_⟩; have n0_ := Aside0.mk (below_step tB hb); clear HB; have HB := n0_; clear n0_; (try clear hb); (try clear hb2); (try clear hk); (try clear hi)) | ((with_reducible refine gate_callee (f := 7) rfl ?_); refine goesL_ (some 52) rfl rfl Tryz.func7 (by kernel_rfl) rfl #[.string t492] rfl tA ?_; (with_reducible refine (impl_ParseList.calls kj9 t492 t493 t494 _ A26.out).mono ?_); rintro e w30 ⟨v495, rfl, ho0, hb⟩; refine ⟨_, rfl, ?_⟩; have n0_ := Aside0.mk (Kd.R_lower ho0 (below_size tB)); have n1_ := Aside0.mk (below_step tB hb); clear HB; have HO496 := n0_; have HB := n1_; clear n0_ n1_; (try clear hb); (try clear hb2); (try clear hk); (try clear hi); (try clear ho0)) | ((with_reducible refine gate_callee (f := 10) rfl ?_); refine goesL_ (some 57) rfl rfl Tryz.func10 (by kernel_rfl) rfl #[.string t492] rfl tA ?_; (with_reducible refine (spec_ParseList.calls kj9 t492 t497 t498 _ A27.out).mono ?_); rintro e w31 ⟨v499, rfl, ho0, hb⟩; refine ⟨_, rfl, ?_⟩; have n0_ := Aside0.mk (Kd.R_elder' (by (with_reducible repeat (first | apply Kd.R_alloc | apply Kd.R_drewN | apply Kd.R_drew)); exact HO496.out) (Kd.R_base ho0) hb); have n1_ := Aside0.mk (Kd.R_lower (Kd.R_new' ho0 (Kd.R_lt (by (with_reducible repeat (first | apply Kd.R_alloc | apply Kd.R_drewN | apply Kd.R_drew)); exact HO496.out))) (below_size tB)); have n2_ := Aside0.mk (below_step tB hb); clear HO496; clear HB; have HO496 := n0_; have HO500 := n1_; have HB := n2_; clear n0_ n1_ n2_; (try clear hb); (try clear hb2); (try clear hk); (try clear hi); (try clear ho0)))
       (try simp only [Act.put, List.setIfInBounds_toArray, List.set_cons_zero, List.set_cons_succ])
       go_cut [68] (fun v68 wc => ∃ (kq : Nat) (x68_27 : Bool), v68 = .bool x68_27 ∧ Aside0 (laws_FnListText.j2 kq t493 t494 x68_27 = some r) ∧ Aside0 (kq ≤ kj9) ∧ Aside0 (Kd.R k36 36 wc w.heap.size (fun _ => True) v495 t493) ∧ Aside0 (Below w.heap.size w wc))
       case first =>
        have H := HC28.out
        clear HC28
        replace H := Option.bind_eq_some_iff.mp H
        obtain ⟨t501, A320, H⟩ := H
        replace H : (if t501 = true then (laws_FnListText.j2 kj9 t493 t494 (t494 != t498)) else (laws_FnListText.j2 kj9 t493 t494 true)) = some r := H
        have A32 := Aside0.mk A320
        clear A320
        by_cases c33 : t501 = true
        ·subst c33
         rw [if_pos rfl] at H
         have H' := Aside0.mk H
         clear H
         obtain ⟨Ao34, co34, eo34⟩ := Kd.R_slice HO496.out
         subst eo34
         obtain ⟨Ao35, co35, eo35⟩ := Kd.R_slice HO500.out
         subst eo35
         go_wp2_with (first | ((with_reducible refine gate_callee (f := 8) rfl ?_); refine goesL_ (some 62) rfl rfl Tryz.func8 (by kernel_rfl) rfl #[.slice Ao34 t493.length co34, .slice Ao35 t497.length co35] rfl tA ?_; (with_reducible refine (laws_mwAddresses.calls kj9 _ _ t493 _ _ t497 true _ ?side1 ?side2 ?side3 ?side4 A32.out).mono ?_); (case side1 => repeat (first | exact (Kd.R_reads' HO496.out).2.2 | (with_reducible refine Kd.C_alloc ?_ _) | (with_reducible refine Kd.C_drewN ?_ _) | (with_reducible refine Kd.C_drew ?_))); (case side2 => exact (Kd.R_reads' HO496.out).2.1); (case side3 => repeat (first | exact (Kd.R_reads' HO500.out).2.2 | (with_reducible refine Kd.C_alloc ?_ _) | (with_reducible refine Kd.C_drewN ?_ _) | (with_reducible refine Kd.C_drew ?_))); (case side4 => exact (Kd.R_reads' HO500.out).2.1); rintro e w' ⟨rfl, ⟨nd, rfl⟩⟩; refine ⟨_, rfl, ?_⟩))
         go_meet
         case rel => exact ⟨_, ((t494 != t498)), tS, H', ⟨by have := HJ2.out; have := HJ9.out; first | omega | exact Nat.le_refl _⟩, ⟨by (with_reducible repeat (first | apply Kd.R_alloc | apply Kd.R_drewN | apply Kd.R_drew)); exact Kd.R_mono HO496.out (fun _ hk => trivial)⟩, ⟨by repeat (first | (with_reducible first | exact HB.out | apply below_alloc | apply pw_below_drewN | apply below_drew1) | exact HB.out)⟩⟩
        ·replace c33 := Bool.eq_false_iff.mpr c33
         subst c33
         rw [if_neg (show ¬ (false = true) by decide)] at H
         have H' := Aside0.mk H
         clear H
         obtain ⟨Ao36, co36, eo36⟩ := Kd.R_slice HO496.out
         subst eo36
         obtain ⟨Ao37, co37, eo37⟩ := Kd.R_slice HO500.out
         subst eo37
         go_wp2_with (first | ((with_reducible refine gate_callee (f := 8) rfl ?_); refine goesL_ (some 62) rfl rfl Tryz.func8 (by kernel_rfl) rfl #[.slice Ao36 t493.length co36, .slice Ao37 t497.length co37] rfl tA ?_; (with_reducible refine (laws_mwAddresses.calls kj9 _ _ t493 _ _ t497 false _ ?side1 ?side2 ?side3 ?side4 A32.out).mono ?_); (case side1 => repeat (first | exact (Kd.R_reads' HO496.out).2.2 | (with_reducible refine Kd.C_alloc ?_ _) | (with_reducible refine Kd.C_drewN ?_ _) | (with_reducible refine Kd.C_drew ?_))); (case side2 => exact (Kd.R_reads' HO496.out).2.1); (case side3 => repeat (first | exact (Kd.R_reads' HO500.out).2.2 | (with_reducible refine Kd.C_alloc ?_ _) | (with_reducible refine Kd.C_drewN ?_ _) | (with_reducible refine Kd.C_drew ?_))); (case side4 => exact (Kd.R_reads' HO500.out).2.1); rintro e w' ⟨rfl, ⟨nd, rfl⟩⟩; refine ⟨_, rfl, ?_⟩))
         go_meet
         case rel => exact ⟨_, (true), tS, H', ⟨by have := HJ2.out; have := HJ9.out; first | omega | exact Nat.le_refl _⟩, ⟨by (with_reducible repeat (first | apply Kd.R_alloc | apply Kd.R_drewN | apply Kd.R_drew)); exact Kd.R_mono HO496.out (fun _ hk => trivial)⟩, ⟨by repeat (first | (with_reducible first | exact HB.out | apply below_alloc | apply pw_below_drewN | apply below_drew1) | exact HB.out)⟩⟩
       case rest =>
        clear HC28
        try clear c1
        try clear p2
        try clear c3
        try clear c4
        try clear c4b0
        try clear c4b1
        try clear c5
        try clear c6
        try clear c7
        try clear c8
        try clear c9
        try clear c9b0
        try clear c9b1
        try clear c10
        try clear c15
        try clear c15b0
        try clear c15b1
        try clear c17
        try clear c19
        try clear c33
        try clear p2
        obtain ⟨kq, x68_27, rfl, HA, HJ27, HO_10, HB⟩ := hcut
        cases kq with
        | zero => exact absurd HA.out (by simp [laws_FnListText.j2])
        | succ kj27 =>
         have H := HA.out
         clear HA
         simp only [laws_FnListText.j2] at H
         by_cases c38 : x68_27 = true
         ·subst c38
          rw [if_pos rfl] at H
          obtain rfl := Option.some.inj H
          go_wp2
          go_ret
          exact ⟨tE, tB⟩
         ·replace c38 := Bool.eq_false_iff.mpr c38
          subst c38
          rw [if_neg (show ¬ (false = true) by decide)] at H
          replace H := Option.bind_eq_some_iff.mp H
          obtain ⟨t502, A390, H⟩ := H
          replace H : ((impl_ParseList.f kj27 t502).bind fun bt503 => (if t494 = true then (if t502.toList = ([] : List UInt8) then (some true) else (if bt503.2 = true then ((laws_mwAddresses.f kj27 bt503.1 t493).bind fun t507 => (some t507)) else (some false))) else (some true))) = some r := H
          have A39 := Aside0.mk A390
          clear A390
          replace H := Option.bind_eq_some_iff.mp H
          obtain ⟨⟨t503, t504⟩, A400, H⟩ := H
          replace H : (if t494 = true then (if t502.toList = ([] : List UInt8) then (some true) else (if t504 = true then ((laws_mwAddresses.f kj27 t503 t493).bind fun t507 => (some t507)) else (some false))) else (some true)) = some r := H
          have A40 := Aside0.mk A400
          clear A400
          by_cases c41 : t494 = true
          ·subst c41
           rw [if_pos rfl] at H
           by_cases c42 : t502.toList = ([] : List UInt8)
           ·rw [if_pos c42] at H
            have c42b0 : (t502.toList == ([] : List UInt8)) = true := beq_iff_eq.mpr c42
            have c42e0 : t502.toList.isEmpty = true := by simpa using c42b0
            have c42e1 : (!t502.toList.isEmpty) = false := by rw [c42e0]; rfl
            have c42b1 : (t502.toList != ([] : List UInt8)) = false := bne_eq_false_iff_eq.mpr c42
            clear c42
            obtain rfl := Option.some.inj H
            obtain ⟨Ao43, co43, eo43⟩ := Kd.R_slice HO_10.out
            subst eo43
            go_wp2_with (first | ((with_reducible refine gate_callee (f := 5) rfl ?_); refine goesL_ (some 70) rfl rfl Tryz.func5 (by kernel_rfl) rfl #[.slice Ao43 t493.length co43] rfl tA ?_; (with_reducible refine (impl_FormatList.calls kj27 _ _ t493 t502 _ ?side1 ?side2 A39.out).mono ?_); (case side1 => repeat (first | exact (Kd.R_reads' HO_10.out).2.2 | (with_reducible refine Kd.C_alloc ?_ _) | (with_reducible refine Kd.C_drewN ?_ _) | (with_reducible refine Kd.C_drew ?_))); (case side2 => exact (Kd.R_reads' HO_10.out).2.1); rintro e w44 ⟨rfl, hb⟩; refine ⟨_, rfl, ?_⟩; have n0_ := Aside0.mk (Kd.R_below (by (with_reducible repeat (first | apply Kd.R_alloc | apply Kd.R_drewN | apply Kd.R_drew)); exact HO_10.out) hb); have n1_ := Aside0.mk (below_step tB hb); clear HO_10; clear HB; have HO_10 := n0_; have HB := n1_; clear n0_ n1_; (try clear hb); (try clear hb2); (try clear hk); (try clear hi)) | ((with_reducible refine gate_callee (f := 7) rfl ?_); refine goesL_ (some 73) rfl rfl Tryz.func7 (by kernel_rfl) rfl #[.string t502] rfl tA ?_; (with_reducible refine (impl_ParseList.calls kj27 t502 t503 t504 _ A40.out).mono ?_); rintro e w45 ⟨v505, rfl, ho0, hb⟩; refine ⟨_, rfl, ?_⟩; have n0_ := Aside0.mk (Kd.R_elder' (by (with_reducible repeat (first | apply Kd.R_alloc | apply Kd.R_drewN | apply Kd.R_drew)); exact HO_10.out) (Kd.R_base ho0) hb); have n1_ := Aside0.mk (Kd.R_lower (Kd.R_new' ho0 (Kd.R_lt (by (with_reducible repeat (first | apply Kd.R_alloc | apply Kd.R_drewN | apply Kd.R_drew)); exact HO_10.out))) (below_size tB)); have n2_ := Aside0.mk (below_step tB hb); clear HO_10; clear HB; have HO_10 := n0_; have HO506 := n1_; have HB := n2_; clear n0_ n1_ n2_; (try clear hb); (try clear hb2); (try clear hk); (try clear hi); (try clear ho0)))
            all_goals try (exfalso; exact absurd ‹(!t502.toList.isEmpty) = true› (by rw [c42e1]; decide))
            go_ret
            exact ⟨tE, tB⟩
           ·rw [if_neg c42] at H
            have c42b0 : (t502.toList == ([] : List UInt8)) = false := beq_eq_false_iff_ne.mpr c42
            have c42e0 : t502.toList.isEmpty = false := by simpa using c42b0
            have c42e1 : (!t502.toList.isEmpty) = true := by rw [c42e0]; rfl
            have c42b1 : (t502.toList != ([] : List UInt8)) = true := bne_iff_ne.mpr c42
            by_cases c46 : t504 = true
            ·subst c46
             rw [if_pos rfl] at H
             replace H := Option.bind_eq_some_iff.mp H
             obtain ⟨t507, A470, H⟩ := H
             replace H : (some t507) = some r := H
             have A47 := Aside0.mk A470
             clear A470
             obtain rfl := Option.some.inj H
             obtain ⟨Ao48, co48, eo48⟩ := Kd.R_slice HO_10.out
             subst eo48
             go_wp2_with (first | ((with_reducible refine gate_callee (f := 5) rfl ?_); refine goesL_ (some 70) rfl rfl Tryz.func5 (by kernel_rfl) rfl #[.slice Ao48 t493.length co48] rfl tA ?_; (with_reducible refine (impl_FormatList.calls kj27 _ _ t493 t502 _ ?side1 ?side2 A39.out).mono ?_); (case side1 => repeat (first | exact (Kd.R_reads' HO_10.out).2.2 | (with_reducible refine Kd.C_alloc ?_ _) | (with_reducible refine Kd.C_drewN ?_ _) | (with_reducible refine Kd.C_drew ?_))); (case side2 => exact (Kd.R_reads' HO_10.out).2.1); rintro e w49 ⟨rfl, hb⟩; refine ⟨_, rfl, ?_⟩; have n0_ := Aside0.mk (Kd.R_below (by (with_reducible repeat (first | apply Kd.R_alloc | apply Kd.R_drewN | apply Kd.R_drew)); exact HO_10.out) hb); have n1_ := Aside0.mk (below_step tB hb); clear HO_10; clear HB; have HO_10 := n0_; have HB := n1_; clear n0_ n1_; (try clear hb); (try clear hb2); (try clear hk); (try clear hi)) | ((with_reducible refine gate_callee (f := 7) rfl ?_); refine goesL_ (some 73) rfl rfl Tryz.func7 (by kernel_rfl) rfl #[.string t502] rfl tA ?_; (with_reducible refine (impl_ParseList.calls kj27 t502 t503 true _ A40.out).mono ?_); rintro e w50 ⟨v505, rfl, ho0, hb⟩; refine ⟨_, rfl, ?_⟩; have n0_ := Aside0.mk (Kd.R_elder' (by (with_reducible repeat (first | apply Kd.R_alloc | apply Kd.R_drewN | apply Kd.R_drew)); exact HO_10.out) (Kd.R_base ho0) hb); have n1_ := Aside0.mk (Kd.R_lower (Kd.R_new' ho0 (Kd.R_lt (by (with_reducible repeat (first | apply Kd.R_alloc | apply Kd.R_drewN | apply Kd.R_drew)); exact HO_10.out))) (below_size tB)); have n2_ := Aside0.mk (below_step tB hb); clear HO_10; clear HB; have HO_10 := n0_; have HO506 := n1_; have HB := n2_; clear n0_ n1_ n2_; (try clear hb); (try clear hb2); (try clear hk); (try clear hi); (try clear ho0); obtain ⟨Ao51, co51, eo51⟩ := Kd.R_slice HO506.out; subst eo51) | (go_at_call 8; (with_reducible refine (laws_mwAddresses.calls kj27 _ _ t503 _ _ t493 t507 _ ?side1 ?side2 ?side3 ?side4 A47.out).mono ?_); (case side1 => repeat (first | exact (Kd.R_reads' HO506.out).2.2 | (with_reducible refine Kd.C_alloc ?_ _) | (with_reducible refine Kd.C_drewN ?_ _) | (with_reducible refine Kd.C_drew ?_))); (case side2 => exact (Kd.R_reads' HO506.out).2.1); (case side3 => repeat (first | exact (Kd.R_reads' HO_10.out).2.2 | (with_reducible refine Kd.C_alloc ?_ _) | (with_reducible refine Kd.C_drewN ?_ _) | (with_reducible refine Kd.C_drew ?_))); (case side4 => exact (Kd.R_reads' HO_10.out).2.1); rintro e w' ⟨rfl, ⟨nd, rfl⟩⟩))
             all_goals try (exfalso; exact absurd ‹(!t502.toList.isEmpty) = true› (by rw [c42e1]; decide))
             all_goals try (exfalso; exact absurd ‹(!t502.toList.isEmpty) = false› (by rw [c42e1]; decide))
             go_ret
             exact ⟨tE, tB⟩
            ·replace c46 := Bool.eq_false_iff.mpr c46
             subst c46
             rw [if_neg (show ¬ (false = true) by decide)] at H
             obtain rfl := Option.some.inj H
             obtain ⟨Ao52, co52, eo52⟩ := Kd.R_slice HO_10.out
             subst eo52
             go_wp2_with (first | ((with_reducible refine gate_callee (f := 5) rfl ?_); refine goesL_ (some 70) rfl rfl Tryz.func5 (by kernel_rfl) rfl #[.slice Ao52 t493.length co52] rfl tA ?_; (with_reducible refine (impl_FormatList.calls kj27 _ _ t493 t502 _ ?side1 ?side2 A39.out).mono ?_); (case side1 => repeat (first | exact (Kd.R_reads' HO_10.out).2.2 | (with_reducible refine Kd.C_alloc ?_ _) | (with_reducible refine Kd.C_drewN ?_ _) | (with_reducible refine Kd.C_drew ?_))); (case side2 => exact (Kd.R_reads' HO_10.out).2.1); rintro e w53 ⟨rfl, hb⟩; refine ⟨_, rfl, ?_⟩; have n0_ := Aside0.mk (Kd.R_below (by (with_reducible repeat (first | apply Kd.R_alloc | apply Kd.R_drewN | apply Kd.R_drew)); exact HO_10.out) hb); have n1_ := Aside0.mk (below_step tB hb); clear HO_10; clear HB; have HO_10 := n0_; have HB := n1_; clear n0_ n1_; (try clear hb); (try clear hb2); (try clear hk); (try clear hi)) | ((with_reducible refine gate_callee (f := 7) rfl ?_); refine goesL_ (some 73) rfl rfl Tryz.func7 (by kernel_rfl) rfl #[.string t502] rfl tA ?_; (with_reducible refine (impl_ParseList.calls kj27 t502 t503 false _ A40.out).mono ?_); rintro e w54 ⟨v505, rfl, ho0, hb⟩; refine ⟨_, rfl, ?_⟩; have n0_ := Aside0.mk (Kd.R_elder' (by (with_reducible repeat (first | apply Kd.R_alloc | apply Kd.R_drewN | apply Kd.R_drew)); exact HO_10.out) (Kd.R_base ho0) hb); have n1_ := Aside0.mk (Kd.R_lower (Kd.R_new' ho0 (Kd.R_lt (by (with_reducible repeat (first | apply Kd.R_alloc | apply Kd.R_drewN | apply Kd.R_drew)); exact HO_10.out))) (below_size tB)); have n2_ := Aside0.mk (below_step tB hb); clear HO_10; clear HB; have HO_10 := n0_; have HO506 := n1_; have HB := n2_; clear n0_ n1_ n2_; (try clear hb); (try clear hb2); (try clear hk); (try clear hi); (try clear ho0)))
             all_goals try (exfalso; exact absurd ‹(!t502.toList.isEmpty) = true› (by rw [c42e1]; decide))
             all_goals try (exfalso; exact absurd ‹(!t502.toList.isEmpty) = false› (by rw [c42e1]; decide))
             go_ret
             exact ⟨tE, tB⟩
          ·replace c41 := Bool.eq_false_iff.mpr c41
           subst c41
           rw [if_neg (show ¬ (false = true) by decide)] at H
           obtain rfl := Option.some.inj H
           obtain ⟨Ao55, co55, eo55⟩ := Kd.R_slice HO_10.out
           subst eo55
           go_wp2_with (first | ((with_reducible refine gate_callee (f := 5) rfl ?_); refine goesL_ (some 70) rfl rfl Tryz.func5 (by kernel_rfl) rfl #[.slice Ao55 t493.length co55] rfl tA ?_; (with_reducible refine (impl_FormatList.calls kj27 _ _ t493 t502 _ ?side1 ?side2 A39.out).mono ?_); (case side1 => repeat (first | exact (Kd.R_reads' HO_10.out).2.2 | (with_reducible refine Kd.C_alloc ?_ _) | (with_reducible refine Kd.C_drewN ?_ _) | (with_reducible refine Kd.C_drew ?_))); (case side2 => exact (Kd.R_reads' HO_10.out).2.1); rintro e w56 ⟨rfl, hb⟩; refine ⟨_, rfl, ?_⟩; have n0_ := Aside0.mk (Kd.R_below (by (with_reducible repeat (first | apply Kd.R_alloc | apply Kd.R_drewN | apply Kd.R_drew)); exact HO_10.out) hb); have n1_ := Aside0.mk (below_step tB hb); clear HO_10; clear HB; have HO_10 := n0_; have HB := n1_; clear n0_ n1_; (try clear hb); (try clear hb2); (try clear hk); (try clear hi)) | ((with_reducible refine gate_callee (f := 7) rfl ?_); refine goesL_ (some 73) rfl rfl Tryz.func7 (by kernel_rfl) rfl #[.string t502] rfl tA ?_; (with_reducible refine (impl_ParseList.calls kj27 t502 t503 t504 _ A40.out).mono ?_); rintro e w57 ⟨v505, rfl, ho0, hb⟩; refine ⟨_, rfl, ?_⟩; have n0_ := Aside0.mk (Kd.R_elder' (by (with_reducible repeat (first | apply Kd.R_alloc | apply Kd.R_drewN | apply Kd.R_drew)); exact HO_10.out) (Kd.R_base ho0) hb); have n1_ := Aside0.mk (Kd.R_lower (Kd.R_new' ho0 (Kd.R_lt (by (with_reducible repeat (first | apply Kd.R_alloc | apply Kd.R_drewN | apply Kd.R_drew)); exact HO_10.out))) (below_size tB)); have n2_ := Aside0.mk (below_step tB hb); clear HO_10; clear HB; have HO_10 := n0_; have HO506 := n1_; have HB := n2_; clear n0_ n1_ n2_; (try clear hb); (try clear hb2); (try clear hk); (try clear hi); (try clear ho0)))
           go_ret
           exact ⟨tE, tB⟩
    ·rw [if_neg c9] at H
     have c9b0 : (t485.toList == t486.toList) = false := beq_eq_false_iff_ne.mpr c9
     have c9b1 : (t485.toList != t486.toList) = true := bne_iff_ne.mpr c9
     obtain rfl := Option.some.inj H
     go_wp2_with (first | ((with_reducible refine gate_callee (f := 4) rfl ?_); refine goesL_ (some 26) rfl rfl Tryz.func4 (by kernel_rfl) rfl #[.slice A0 l0.length c0] rfl tA ?_; (with_reducible refine (spec_DrawFormatList.calls kj2 _ _ l0 t482 _ ?side1 ?side2 A6.out).mono ?_); (case side1 => repeat (first | exact (Kd.C_below HR0.out HB.out) | (with_reducible refine Kd.C_alloc ?_ _) | (with_reducible refine Kd.C_drewN ?_ _) | (with_reducible refine Kd.C_drew ?_))); (case side2 => exact HC0.out); rintro e w58 ⟨v483, rfl, ho0, hb⟩; refine ⟨_, rfl, ?_⟩; have n0_ := Aside0.mk (Kd.R_lower ho0 (below_size tB)); have n1_ := Aside0.mk (below_step tB hb); clear HB; have HO484 := n0_; have HB := n1_; clear n0_ n1_; (try clear hb); (try clear hb2); (try clear hk); (try clear hi); (try clear ho0); obtain ⟨Ao59, co59, eo59⟩ := Kd.R_slice HO484.out; subst eo59) | ((with_reducible refine gate_callee (f := 5) rfl ?_); refine goesL_ (some 28) rfl rfl Tryz.func5 (by kernel_rfl) rfl #[.slice Ao59 t482.length co59] rfl tA ?_; (with_reducible refine (impl_FormatList.calls kj2 _ _ t482 t485 _ ?side1 ?side2 A7.out).mono ?_); (case side1 => repeat (first | exact (Kd.R_reads' HO484.out).2.2 | (with_reducible refine Kd.C_alloc ?_ _) | (with_reducible refine Kd.C_drewN ?_ _) | (with_reducible refine Kd.C_drew ?_))); (case side2 => exact (Kd.R_reads' HO484.out).2.1); rintro e w60 ⟨rfl, hb⟩; refine ⟨_, rfl, ?_⟩; have n0_ := Aside0.mk (Kd.R_below (by (with_reducible repeat (first | apply Kd.R_alloc | apply Kd.R_drewN | apply Kd.R_drew)); exact HO484.out) hb); have n1_ := Aside0.mk (below_step tB hb); clear HO484; clear HB; have HO484 := n0_; have HB := n1_; clear n0_ n1_; (try clear hb); (try clear hb2); (try clear hk); (try clear hi)) | ((with_reducible refine gate_callee (f := 6) rfl ?_); refine goesL_ (some 31) rfl rfl Tryz.func6 (by kernel_rfl) rfl #[.slice Ao59 t482.length co59] rfl tA ?_; (with_reducible refine (spec_FormatList.calls kj2 _ _ t482 t486 _ ?side1 ?side2 A8.out).mono ?_); (case side1 => repeat (first | exact (Kd.R_reads' HO484.out).2.2 | (with_reducible refine Kd.C_alloc ?_ _) | (with_reducible refine Kd.C_drewN ?_ _) | (with_reducible refine Kd.C_drew ?_))); (case side2 => exact (Kd.R_reads' HO484.out).2.1); rintro e w61 ⟨rfl, hb⟩; refine ⟨_, rfl, ?_⟩; have n0_ := Aside0.mk (Kd.R_below (by (with_reducible repeat (first | apply Kd.R_alloc | apply Kd.R_drewN | apply Kd.R_drew)); exact HO484.out) hb); have n1_ := Aside0.mk (below_step tB hb); clear HO484; clear HB; have HO484 := n0_; have HB := n1_; clear n0_ n1_; (try clear hb); (try clear hb2); (try clear hk); (try clear hi)))
     go_ret
     exact ⟨tE, tB⟩

/-- THE ONE PURE STATEMENT of laws_FnListText: yours. -/
def laws_FnListText.Pure : Prop := ∀ (l0 : List Int) (l1 : List Int), l0.length ≤ maxLen → l0.length * 1 ≤ 140737488351232 → (∀ x ∈ l0, (Lit.int .u8 x).wf = true) → l1.length ≤ maxLen → l1.length * 1 ≤ 140737488351232 → (∀ x ∈ l1, (Lit.int .u8 x).wf = true) → ∃ k, laws_FnListText.f k l0 l1 = some true
theorem laws_FnListText.walk (P : laws_FnListText.Pure) (a0 : Option Addr) (len0 cap0 : Nat) (z0 : List Int) (a1 : Option Addr) (len1 cap1 : Nat) (z1 : List Int) (w : World) (w0 : (a0 = none ∧ len0 = 0 ∧ cap0 = 0 ∧ z0 = []) ∨ ∃ x, a0 = some x ∧ len0 ≤ cap0 ∧ cap0 ≤ maxLen ∧ z0.length = cap0 ∧ (∀ i, i < z0.length → w.cell? (x.add i) = some (.int .u8 (z0.getD i 0))) ∧ ∀ n ∈ z0, (Lit.int .u8 n).wf = true) (y0 : len0 * 1 ≤ 140737488351232) (w1 : (a1 = none ∧ len1 = 0 ∧ cap1 = 0 ∧ z1 = []) ∨ ∃ x, a1 = some x ∧ len1 ≤ cap1 ∧ cap1 ≤ maxLen ∧ z1.length = cap1 ∧ (∀ i, i < z1.length → w.cell? (x.add i) = some (.int .u8 (z1.getD i 0))) ∧ ∀ n ∈ z1, (Lit.int .u8 n).wf = true) (y1 : len1 * 1 ≤ 140737488351232) :
  Calls Tryz.prog 3 #[.slice a0 len0 cap0, .slice a1 len1 cap1] w fun e w' => e = .returned (.bool true) ∧ Below w.heap.size w w' := by
 obtain ⟨l0, rfl, hr0, hm0, hw0, hc0⟩ := ReadsInt.ofRowC w0
 obtain ⟨l1, rfl, hr1, hm1, hw1, hc1⟩ := ReadsInt.ofRowC w1
 obtain ⟨k, h⟩ := P l0 l1 hm0 y0 hw0 hm1 y1 hw1
 refine (laws_FnListText.calls k _ _ l0 _ _ l1 true w (Kd.C_of_reads (d := (0 : Int)) (h1 := fun _ => rfl) hr0) hc0 (Kd.C_of_reads (d := (0 : Int)) (h1 := fun _ => rfl) hr1) hc1 h).mono ?_
 rintro e w' ⟨rfl, hd⟩
 exact ⟨rfl, hd⟩

end Go.Proofs.YtmehlmhpgbjddaaGreatDoor.Q
