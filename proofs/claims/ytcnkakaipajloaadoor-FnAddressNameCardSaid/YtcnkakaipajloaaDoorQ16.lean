/- What functions of the program come to, written by a program of this session (mwprint.py); no condition. -/
import Derived.Test.YtcnkakaipajloaaDoorQ0
import Derived.Test.YtcnkakaipajloaaDoorQ6
import Derived.Test.YtcnkakaipajloaaDoorQ7
import Derived.Test.YtcnkakaipajloaaDoorQ9
namespace Go.Proofs.YtcnkakaipajloaaDoor.Q
open Go.RowKit Go.Proofs.YtcnkakaipajloaaDoorV.PrintWords Go.Proofs.YtcnkakaipajloaaDoorV.PrintLast Go.Proofs.YtcnkakaipajloaaDoorV.PrintMore
attribute [local go_sem] max2_int min2_int max_two min_two max_three min_three max_four min_four   -- for this text's walks alone
set_option linter.unusedVariables false
set_option linter.unusedSimpArgs false

/-! ### laws_FnAddressName: function 8 -/
def laws_FnAddressName.j0 : Nat → ByteArray → Bool → ByteArray → ByteArray → ByteArray → Option (Bool)
  | 0, _, _, _, _, _ => none
  | k + 1, x4, x21, x448000, x448001, x448002 => if x21 = true then ((spec_FormatAddress.f k x448000 x448001 x448002).bind fun t450 => (some (x4.toList == t450.toList))) else ((impl_FormatAddress.f k (⟨#[]⟩ : ByteArray) x448001 x448002).bind fun t452 => (if x448001.size + 1 ≤ 9223372036854775807 then (if (x448001 ++ (⟨#[64]⟩ : ByteArray)).size + x448002.size ≤ 9223372036854775807 then (if t452.toList = ((x448001 ++ (⟨#[64]⟩ : ByteArray)) ++ x448002).toList then ((impl_SameBox.f x448000 x448001 x448002 (⟨#[]⟩ : ByteArray) x448001 x448002).bind fun t453 => (if t453 = true then (some (decide ((x4.size : Int) ≥ (t452.size : Int)))) else (some false))) else (some false)) else (none)) else (none)))
def laws_FnAddressName.f (k : Nat) (l0 : List Int) : Option (Bool) := if (l0.length : Int) > 1048576 then (some true) else ((spec_DrawFormatAddress.f k l0).bind fun bt444 => ((impl_FormatAddress.f k bt444.1 bt444.2.1 bt444.2.2).bind fun t448 => ((spec_FormatAddress.f k bt444.1 bt444.2.1 bt444.2.2).bind fun t449 => (if t448.toList = t449.toList then (laws_FnAddressName.j0 k t448 (t448.toList == ([] : List UInt8)) bt444.1 bt444.2.1 bt444.2.2) else (laws_FnAddressName.j0 k t448 true bt444.1 bt444.2.1 bt444.2.2)))))
theorem laws_FnAddressName.mono_l : ∀ k, (∀ y0 y1 y2 y3 y4, LeO (laws_FnAddressName.j0 k y0 y1 y2 y3 y4) (laws_FnAddressName.j0 (k + 1) y0 y1 y2 y3 y4))
  | 0 => fun _ _ _ _ _ r h => by simp [laws_FnAddressName.j0] at h
  | k + 1 => by
    have ih0 := laws_FnAddressName.mono_l k
    · intro y0 y1 y2 y3 y4
      unfold laws_FnAddressName.j0
      repeat' first
      | (with_reducible exact ih0 _ _ _ _ _)
      | (with_reducible exact impl_FormatAddress.mono _ _ _ _)
      | (with_reducible exact spec_DrawFormatAddress.mono _ _)
      | (with_reducible exact spec_FormatAddress.mono _ _ _ _)
      | (with_reducible exact LeO.refl _)
      | (with_reducible exact LeO.none _)
      | (with_reducible refine LeO.ite ?_ ?_)
      | (with_reducible refine LeO.bind ?_ (fun _ => ?_))
      | exact ih0 _ _ _ _ _
      | exact impl_FormatAddress.mono _ _ _ _
      | exact spec_DrawFormatAddress.mono _ _
      | exact spec_FormatAddress.mono _ _ _ _
      | exact LeO.none _
      | refine LeO.ite ?_ ?_
      | refine LeO.bind ?_ (fun _ => ?_)
theorem laws_FnAddressName.mono : ∀ a0 k, LeO (laws_FnAddressName.f k a0) (laws_FnAddressName.f (k + 1) a0) := by
  intro a0 k
  have ih0 := laws_FnAddressName.mono_l k
  unfold laws_FnAddressName.f
  repeat' first
      | (with_reducible exact ih0 _ _ _ _ _)
      | (with_reducible exact impl_FormatAddress.mono _ _ _ _)
      | (with_reducible exact spec_DrawFormatAddress.mono _ _)
      | (with_reducible exact spec_FormatAddress.mono _ _ _ _)
      | (with_reducible exact LeO.refl _)
      | (with_reducible exact LeO.none _)
      | (with_reducible refine LeO.ite ?_ ?_)
      | (with_reducible refine LeO.bind ?_ (fun _ => ?_))
      | exact ih0 _ _ _ _ _
      | exact impl_FormatAddress.mono _ _ _ _
      | exact spec_DrawFormatAddress.mono _ _
      | exact spec_FormatAddress.mono _ _ _ _
      | exact LeO.none _
      | refine LeO.ite ?_ ?_
      | refine LeO.bind ?_ (fun _ => ?_)
set_option maxHeartbeats 8000000 in
set_option maxRecDepth 100000 in
theorem laws_FnAddressName.calls (k : Nat) (A0 : Option Addr) (c0 : Nat) (l0 : List Int) (r : Bool) (w : World) (hr0 : Kd.C (Kd.int .u8) w A0 l0.length l0) (hc0 : l0.length ≤ c0) (h : laws_FnAddressName.f k l0 = some r) :
    Calls Tryd.prog 8 #[.slice A0 l0.length c0] w fun e w' => e = .returned (.bool r) ∧ Below w.heap.size w w' := by
  have hu39 := Tryd.underlying39
  have HR0 := Aside0.mk hr0
  have HC0 := Aside0.mk hc0
  clear hr0 hc0
  have HB := Aside0.mk (Below.refl w.heap.size w)
  have H : (if (l0.length : Int) > 1048576 then (some true) else ((spec_DrawFormatAddress.f k l0).bind fun bt444 => ((impl_FormatAddress.f k bt444.1 bt444.2.1 bt444.2.2).bind fun t448 => ((spec_FormatAddress.f k bt444.1 bt444.2.1 bt444.2.2).bind fun t449 => (if t448.toList = t449.toList then (laws_FnAddressName.j0 k t448 (t448.toList == ([] : List UInt8)) bt444.1 bt444.2.1 bt444.2.2) else (laws_FnAddressName.j0 k t448 true bt444.1 bt444.2.1 bt444.2.2)))))) = some r := h
  clear h
  by_cases c2 : (l0.length : Int) > 1048576
  · rw [if_pos c2] at H
    have c2b0 : decide (1048576 < (l0.length : Int)) = true := decide_eq_true c2
    have c2b1 : decide (1048576 < l0.length) = true := decide_eq_true (by omega)
    clear c2
    obtain rfl := Option.some.inj H
    go_enter Tryd.func8, Tryd.ntmps8
    go_wp2
    go_ret
    exact ⟨by first | rfl | (simp [errW_none, errW_some] <;> rfl) | (simp [*, errW_none, errW_some] <;> rfl), by repeat (first | (with_reducible first | exact HB.out | apply below_alloc | apply pw_below_drewN | apply below_drew1) | exact HB.out)⟩
  · rw [if_neg c2] at H
    have c2b0 : decide (1048576 < (l0.length : Int)) = false := decide_eq_false c2
    have c2b1 : decide (1048576 < l0.length) = false := decide_eq_false (by omega)
    clear c2
    replace H := Option.bind_eq_some_iff.mp H
    obtain ⟨⟨t444, t445, t446⟩, A30, H⟩ := H
    replace H : ((impl_FormatAddress.f k t444 t445 t446).bind fun t448 => ((spec_FormatAddress.f k t444 t445 t446).bind fun t449 => (if t448.toList = t449.toList then (laws_FnAddressName.j0 k t448 (t448.toList == ([] : List UInt8)) t444 t445 t446) else (laws_FnAddressName.j0 k t448 true t444 t445 t446)))) = some r := H
    have A3 := Aside0.mk A30
    clear A30
    replace H := Option.bind_eq_some_iff.mp H
    obtain ⟨t448, A40, H⟩ := H
    replace H : ((spec_FormatAddress.f k t444 t445 t446).bind fun t449 => (if t448.toList = t449.toList then (laws_FnAddressName.j0 k t448 (t448.toList == ([] : List UInt8)) t444 t445 t446) else (laws_FnAddressName.j0 k t448 true t444 t445 t446))) = some r := H
    have A4 := Aside0.mk A40
    clear A40
    have HC5 := Aside0.mk H
    clear H
    go_enter Tryd.func8, Tryd.ntmps8
    go_upto_region 5 with (first | ((with_reducible refine gate_callee (f := 26) rfl ?_); refine goesL_ (some 11) rfl rfl Tryd.func26 (by kernel_rfl) rfl #[.slice A0 l0.length c0] rfl (by (try simp only [List.map_toArray, List.map_cons, List.map_nil]); first | done | rfl | (simp only [List.length_drop, List.length_take]; rfl)) ?_; (with_reducible refine (spec_DrawFormatAddress.calls k _ _ l0 t444 t445 t446 _ ?side1 ?side2 A3.out).mono ?_); (case side1 => repeat (first | exact HR0.out | (with_reducible refine Kd.C_alloc ?_ _) | (with_reducible refine Kd.C_drewN ?_ _) | (with_reducible refine Kd.C_drew ?_))); (case side2 => exact HC0.out); rintro e w6 ⟨rfl, hb⟩; refine ⟨_, rfl, ?_⟩; have n0_ := Aside0.mk (below_step (by repeat (first | (with_reducible first | exact HB.out | apply below_alloc | apply pw_below_drewN | apply below_drew1) | exact HB.out)) hb); clear HB; have HB := n0_; clear n0_; (try clear hb); (try clear hb2); (try clear hk); (try clear hi)) | ((with_reducible refine gate_dst (N := 3) rfl ?_); refine box_event ?hg (N := 3) ?hd (cs := #[.string (⟨#[]⟩ : ByteArray), .string (⟨#[]⟩ : ByteArray), .string (⟨#[]⟩ : ByteArray)]) (t := 39) ?hr ?_; (case hd => rfl); (case hg => rfl); (case hr => first | (go_simp; done) | (go_simp; rfl)); intro gb447 hg w7 hbox hb; have n0_ := Aside0.mk (below_step (by repeat (first | (with_reducible first | exact HB.out | apply below_alloc | apply pw_below_drewN | apply below_drew1) | exact HB.out)) hb); have n1_ := Aside0.mk (hbox); have n2_ := Aside0.mk ((by rw [hg]; exact (below_size (by repeat (first | (with_reducible first | exact HB.out | apply below_alloc | apply pw_below_drewN | apply below_drew1) | exact HB.out))) : w.heap.size ≤ gb447)); have n3_ := Aside0.mk ((by rw [hg]; exact (below_size (by repeat (first | (with_reducible first | exact HB.out | apply below_alloc | apply pw_below_drewN | apply below_drew1) | exact HB.out))) : w.heap.size ≤ gb447)); clear HB; have HB := n0_; have BK447 := n1_; have GW447 := n2_; have GE447 := n3_; clear n0_ n1_ n2_ n3_; clear hb hbox hg; have hcz8_0 : w7.cell? ⟨gb447, 0, none⟩ = some (.string (⟨#[]⟩ : ByteArray)) := (blk_cell BK447.out 0).trans rfl; have hcz8_1 : w7.cell? ⟨gb447, 1, none⟩ = some (.string (⟨#[]⟩ : ByteArray)) := (blk_cell BK447.out 1).trans rfl; have hcz8_2 : w7.cell? ⟨gb447, 2, none⟩ = some (.string (⟨#[]⟩ : ByteArray)) := (blk_cell BK447.out 2).trans rfl; have hfz8_0 := blk_frozen BK447.out 0; have hfz8_1 := blk_frozen BK447.out 1; have hfz8_2 := blk_frozen BK447.out 2) | ((with_reducible refine gate_callee (f := 24) rfl ?_); refine goesL_ (some 13) rfl rfl Tryd.func24 (by kernel_rfl) rfl #[.agg #[.string t444, .string t445, .string t446]] rfl (by (try simp only [List.map_toArray, List.map_cons, List.map_nil]); first | done | rfl | (simp only [List.length_drop, List.length_take]; rfl)) ?_; (with_reducible refine (impl_FormatAddress.calls k t444 t445 t446 t448 _ A4.out).mono ?_); rintro e w9 ⟨rfl, hb⟩; refine ⟨_, rfl, ?_⟩; have n0_ := Aside0.mk (blk_below (g := gb447) (o := .cells #[.string t444, .string t445, .string t446] 39 (0, 0)) (by (with_reducible repeat (first | refine blk_drewN ?_ _ | refine blk_drew ?_ | refine blk_alloc ?_ _)); refine blk_put (cs := #[.string t444, .string t445, .string (⟨#[]⟩ : ByteArray)]) ?_ 2 _ rfl; (with_reducible repeat (first | refine blk_drewN ?_ _ | refine blk_drew ?_ | refine blk_alloc ?_ _)); refine blk_put (cs := #[.string t444, .string (⟨#[]⟩ : ByteArray), .string (⟨#[]⟩ : ByteArray)]) ?_ 1 _ rfl; (with_reducible repeat (first | refine blk_drewN ?_ _ | refine blk_drew ?_ | refine blk_alloc ?_ _)); refine blk_put (cs := #[.string (⟨#[]⟩ : ByteArray), .string (⟨#[]⟩ : ByteArray), .string (⟨#[]⟩ : ByteArray)]) ?_ 0 _ rfl; (with_reducible repeat (first | refine blk_drewN ?_ _ | refine blk_drew ?_ | refine blk_alloc ?_ _)); exact BK447.out) hb); have n1_ := Aside0.mk (below_step (by repeat (first | (with_reducible first | exact HB.out | apply below_alloc | apply pw_below_drewN | apply below_drew1 | refine below_set ?_ GE447.out) | exact HB.out)) hb); clear BK447; clear HB; have BK447 := n0_; have HB := n1_; clear n0_ n1_; (try clear hb); (try clear hb2); (try clear hk); (try clear hi)))
    (try simp only [Act.put, List.setIfInBounds_toArray, List.set_cons_zero, List.set_cons_succ])
    go_cut [21] (fun v21 wc => ∃ (kq : Nat) (x21_4 : Bool), v21 = .bool x21_4 ∧ Aside0 (laws_FnAddressName.j0 kq t448 x21_4 t444 t445 t446 = some r) ∧ Aside0 (kq ≤ k) ∧ Aside0 (wc.heap[gb447]? = some (.cells #[.string t444, .string t445, .string t446] 39 (0, 0))) ∧ Aside0 (Below w.heap.size w wc))
    case first =>
      have H := HC5.out
      clear HC5
      replace H := Option.bind_eq_some_iff.mp H
      obtain ⟨t449, A100, H⟩ := H
      replace H : (if t448.toList = t449.toList then (laws_FnAddressName.j0 k t448 (t448.toList == ([] : List UInt8)) t444 t445 t446) else (laws_FnAddressName.j0 k t448 true t444 t445 t446)) = some r := H
      have A10 := Aside0.mk A100
      clear A100
      by_cases c11 : t448.toList = t449.toList
      · rw [if_pos c11] at H
        have c11b0 : (t448.toList == t449.toList) = true := beq_iff_eq.mpr c11
        have c11b1 : (t448.toList != t449.toList) = false := bne_eq_false_iff_eq.mpr c11
        clear c11
        (first | rw [c11b0] | (simp only [i64_w, i32_w]; rw [c11b0]) | skip)
        have H' := Aside0.mk H
        clear H
        have hcz12_0 : w9.cell? ⟨gb447, 0, none⟩ = some (.string t444) := (blk_cell BK447.out 0).trans rfl
        have hcz12_1 : w9.cell? ⟨gb447, 1, none⟩ = some (.string t445) := (blk_cell BK447.out 1).trans rfl
        have hcz12_2 : w9.cell? ⟨gb447, 2, none⟩ = some (.string t446) := (blk_cell BK447.out 2).trans rfl
        have hfz12_0 := blk_frozen BK447.out 0
        have hfz12_1 := blk_frozen BK447.out 1
        have hfz12_2 := blk_frozen BK447.out 2
        go_wp2_with (first | ((with_reducible refine gate_callee (f := 25) rfl ?_); refine goesL_ (some 16) rfl rfl Tryd.func25 (by kernel_rfl) rfl #[.agg #[.string t444, .string t445, .string t446]] rfl (by (try simp only [List.map_toArray, List.map_cons, List.map_nil]); first | done | rfl | (simp only [List.length_drop, List.length_take]; rfl)) ?_; (with_reducible refine (spec_FormatAddress.calls k t444 t445 t446 t449 _ A10.out).mono ?_); rintro e w13 ⟨rfl, hb⟩; refine ⟨_, rfl, ?_⟩; have n0_ := Aside0.mk (blk_below (g := gb447) (o := .cells #[.string t444, .string t445, .string t446] 39 (0, 0)) (by (with_reducible repeat (first | refine blk_drewN ?_ _ | refine blk_drew ?_ | refine blk_alloc ?_ _)); exact BK447.out) hb); have n1_ := Aside0.mk (below_step (by repeat (first | (with_reducible first | exact HB.out | apply below_alloc | apply pw_below_drewN | apply below_drew1 | refine below_set ?_ GE447.out) | exact HB.out)) hb); clear BK447; clear HB; have BK447 := n0_; have HB := n1_; clear n0_ n1_; (try clear hb); (try clear hb2); (try clear hk); (try clear hi)))
        go_meet
        case rel => exact ⟨_, ((t448.toList == ([] : List UInt8))), (by first | rfl | (simp; done) | (simp [*]; done)), H', ⟨by first | omega | exact Nat.le_refl _⟩, ⟨by (with_reducible repeat (first | refine blk_drewN ?_ _ | refine blk_drew ?_ | refine blk_alloc ?_ _)); exact BK447.out⟩, ⟨by repeat (first | (with_reducible first | exact HB.out | apply below_alloc | apply pw_below_drewN | apply below_drew1 | refine below_set ?_ GE447.out) | exact HB.out)⟩⟩
      · rw [if_neg c11] at H
        have c11b0 : (t448.toList == t449.toList) = false := beq_eq_false_iff_ne.mpr c11
        have c11b1 : (t448.toList != t449.toList) = true := bne_iff_ne.mpr c11
        (first | rw [c11b0] | (simp only [i64_w, i32_w]; rw [c11b0]) | skip)
        have H' := Aside0.mk H
        clear H
        have hcz14_0 : w9.cell? ⟨gb447, 0, none⟩ = some (.string t444) := (blk_cell BK447.out 0).trans rfl
        have hcz14_1 : w9.cell? ⟨gb447, 1, none⟩ = some (.string t445) := (blk_cell BK447.out 1).trans rfl
        have hcz14_2 : w9.cell? ⟨gb447, 2, none⟩ = some (.string t446) := (blk_cell BK447.out 2).trans rfl
        have hfz14_0 := blk_frozen BK447.out 0
        have hfz14_1 := blk_frozen BK447.out 1
        have hfz14_2 := blk_frozen BK447.out 2
        go_wp2_with (first | ((with_reducible refine gate_callee (f := 25) rfl ?_); refine goesL_ (some 16) rfl rfl Tryd.func25 (by kernel_rfl) rfl #[.agg #[.string t444, .string t445, .string t446]] rfl (by (try simp only [List.map_toArray, List.map_cons, List.map_nil]); first | done | rfl | (simp only [List.length_drop, List.length_take]; rfl)) ?_; (with_reducible refine (spec_FormatAddress.calls k t444 t445 t446 t449 _ A10.out).mono ?_); rintro e w15 ⟨rfl, hb⟩; refine ⟨_, rfl, ?_⟩; have n0_ := Aside0.mk (blk_below (g := gb447) (o := .cells #[.string t444, .string t445, .string t446] 39 (0, 0)) (by (with_reducible repeat (first | refine blk_drewN ?_ _ | refine blk_drew ?_ | refine blk_alloc ?_ _)); exact BK447.out) hb); have n1_ := Aside0.mk (below_step (by repeat (first | (with_reducible first | exact HB.out | apply below_alloc | apply pw_below_drewN | apply below_drew1 | refine below_set ?_ GE447.out) | exact HB.out)) hb); clear BK447; clear HB; have BK447 := n0_; have HB := n1_; clear n0_ n1_; (try clear hb); (try clear hb2); (try clear hk); (try clear hi)))
        go_meet
        case rel => exact ⟨_, (true), (by first | rfl | (simp; done) | (simp [*]; done)), H', ⟨by first | omega | exact Nat.le_refl _⟩, ⟨by (with_reducible repeat (first | refine blk_drewN ?_ _ | refine blk_drew ?_ | refine blk_alloc ?_ _)); exact BK447.out⟩, ⟨by repeat (first | (with_reducible first | exact HB.out | apply below_alloc | apply pw_below_drewN | apply below_drew1 | refine below_set ?_ GE447.out) | exact HB.out)⟩⟩
    case rest =>
      clear HC5
      try clear c1
      try clear c2
      try clear c2b0
      try clear c2b1
      try clear p2
      try clear c8
      try clear c11
      try clear c11b0
      try clear c11b1
      try clear hcz12_0
      try clear hcz12_1
      try clear hcz12_2
      try clear hcz14_0
      try clear hcz14_1
      try clear hcz14_2
      try clear hcz8_0
      try clear hcz8_1
      try clear hcz8_2
      try clear hfz12_0
      try clear hfz12_1
      try clear hfz12_2
      try clear hfz14_0
      try clear hfz14_1
      try clear hfz14_2
      try clear hfz8_0
      try clear hfz8_1
      try clear hfz8_2
      obtain ⟨kq, x21_4, rfl, HA, HJ4, BK447, HB⟩ := hcut
      cases kq with
      | zero => exact absurd HA.out (by simp [laws_FnAddressName.j0])
      | succ kj4 =>
        have H := HA.out
        clear HA
        simp only [laws_FnAddressName.j0] at H
        by_cases c16 : x21_4 = true
        · subst c16
          have H1 : ((spec_FormatAddress.f kj4 t444 t445 t446).bind fun t450 => (some (t448.toList == t450.toList))) = some r := by rw [if_pos rfl] at H; exact H
          clear H
          have H := H1
          clear H1
          replace H := Option.bind_eq_some_iff.mp H
          obtain ⟨t450, A170, H⟩ := H
          replace H : (some (t448.toList == t450.toList)) = some r := H
          have A17 := Aside0.mk A170
          clear A170
          obtain rfl := Option.some.inj H
          have hcz18_0 : wc.cell? ⟨gb447, 0, none⟩ = some (.string t444) := (blk_cell BK447.out 0).trans rfl
          have hcz18_1 : wc.cell? ⟨gb447, 1, none⟩ = some (.string t445) := (blk_cell BK447.out 1).trans rfl
          have hcz18_2 : wc.cell? ⟨gb447, 2, none⟩ = some (.string t446) := (blk_cell BK447.out 2).trans rfl
          have hfz18_0 := blk_frozen BK447.out 0
          have hfz18_1 := blk_frozen BK447.out 1
          have hfz18_2 := blk_frozen BK447.out 2
          go_wp2_with (first | ((with_reducible refine gate_callee (f := 25) rfl ?_); refine goesL_ (some 24) rfl rfl Tryd.func25 (by kernel_rfl) rfl #[.agg #[.string t444, .string t445, .string t446]] rfl (by (try simp only [List.map_toArray, List.map_cons, List.map_nil]); first | done | rfl | (simp only [List.length_drop, List.length_take]; rfl)) ?_; (with_reducible refine (spec_FormatAddress.calls kj4 t444 t445 t446 t450 _ A17.out).mono ?_); rintro e w19 ⟨rfl, hb⟩; refine ⟨_, rfl, ?_⟩; have n0_ := Aside0.mk (blk_below (g := gb447) (o := .cells #[.string t444, .string t445, .string t446] 39 (0, 0)) (by (with_reducible repeat (first | refine blk_drewN ?_ _ | refine blk_drew ?_ | refine blk_alloc ?_ _)); exact BK447.out) hb); have n1_ := Aside0.mk (below_step (by repeat (first | (with_reducible first | exact HB.out | apply below_alloc | apply pw_below_drewN | apply below_drew1 | refine below_set ?_ GE447.out) | exact HB.out)) hb); clear BK447; clear HB; have BK447 := n0_; have HB := n1_; clear n0_ n1_; (try clear hb); (try clear hb2); (try clear hk); (try clear hi)))
          go_ret
          exact ⟨by first | rfl | (simp [errW_none, errW_some] <;> rfl) | (simp [*, errW_none, errW_some] <;> rfl), by repeat (first | (with_reducible first | exact HB.out | apply below_alloc | apply pw_below_drewN | apply below_drew1 | refine below_set ?_ GE447.out) | exact HB.out)⟩
        · replace c16 := Bool.eq_false_iff.mpr c16
          subst c16
          have H1 : ((impl_FormatAddress.f kj4 (⟨#[]⟩ : ByteArray) t445 t446).bind fun t452 => (if t445.size + 1 ≤ 9223372036854775807 then (if (t445 ++ (⟨#[64]⟩ : ByteArray)).size + t446.size ≤ 9223372036854775807 then (if t452.toList = ((t445 ++ (⟨#[64]⟩ : ByteArray)) ++ t446).toList then ((impl_SameBox.f t444 t445 t446 (⟨#[]⟩ : ByteArray) t445 t446).bind fun t453 => (if t453 = true then (some (decide ((t448.size : Int) ≥ (t452.size : Int)))) else (some false))) else (some false)) else (none)) else (none))) = some r := by rw [if_neg (show ¬ (false = true) by decide)] at H; exact H
          clear H
          have H := H1
          clear H1
          replace H := Option.bind_eq_some_iff.mp H
          obtain ⟨t452, A200, H⟩ := H
          replace H : (if t445.size + 1 ≤ 9223372036854775807 then (if (t445 ++ (⟨#[64]⟩ : ByteArray)).size + t446.size ≤ 9223372036854775807 then (if t452.toList = ((t445 ++ (⟨#[64]⟩ : ByteArray)) ++ t446).toList then ((impl_SameBox.f t444 t445 t446 (⟨#[]⟩ : ByteArray) t445 t446).bind fun t453 => (if t453 = true then (some (decide ((t448.size : Int) ≥ (t452.size : Int)))) else (some false))) else (some false)) else (none)) else (none)) = some r := H
          have A20 := Aside0.mk A200
          clear A200
          by_cases c21 : t445.size + 1 ≤ 9223372036854775807
          · rw [if_pos c21] at H
            have c21b0 := eq_true c21
            have c21b1 : decide (t445.size + 1 ≤ 9223372036854775807) = true := decide_eq_true c21
            try have c21b2 : (9223372036854775807 < t445.size + 1) = False := eq_false (Nat.not_lt.2 c21)
            by_cases c22 : (t445 ++ (⟨#[64]⟩ : ByteArray)).size + t446.size ≤ 9223372036854775807
            · rw [if_pos c22] at H
              have c22b0 := eq_true c22
              have c22b1 : decide ((t445 ++ (⟨#[64]⟩ : ByteArray)).size + t446.size ≤ 9223372036854775807) = true := decide_eq_true c22
              try (have c22b1s := c22b1; simp only [ByteArray.size_append, size_lit1, size_lit2, size_lit3, Int.natCast_add, Int.natCast_one, Int.cast_ofNat_Int] at c22b1s)
              try have c22b2 : (9223372036854775807 < (t445 ++ (⟨#[64]⟩ : ByteArray)).size + t446.size) = False := eq_false (Nat.not_lt.2 c22)
              try (have c22b2s := c22b2; simp only [ByteArray.size_append, size_lit1, size_lit2, size_lit3, Int.natCast_add, Int.natCast_one, Int.cast_ofNat_Int] at c22b2s)
              by_cases c23 : t452.toList = ((t445 ++ (⟨#[64]⟩ : ByteArray)) ++ t446).toList
              · rw [if_pos c23] at H
                have c23b0 : (t452.toList == ((t445 ++ (⟨#[64]⟩ : ByteArray)) ++ t446).toList) = true := beq_iff_eq.mpr c23
                have c23b1 : (t452.toList != ((t445 ++ (⟨#[64]⟩ : ByteArray)) ++ t446).toList) = false := bne_eq_false_iff_eq.mpr c23
                clear c23
                replace H := Option.bind_eq_some_iff.mp H
                obtain ⟨t453, A240, H⟩ := H
                replace H : (if t453 = true then (some (decide ((t448.size : Int) ≥ (t452.size : Int)))) else (some false)) = some r := H
                have A24 := Aside0.mk A240
                clear A240
                by_cases c25 : t453 = true
                · subst c25
                  have H1 : (some (decide ((t448.size : Int) ≥ (t452.size : Int)))) = some r := by rw [if_pos rfl] at H; exact H
                  clear H
                  have H := H1
                  clear H1
                  obtain rfl := Option.some.inj H
                  have hcz26_0 : wc.cell? ⟨gb447, 0, none⟩ = some (.string t444) := (blk_cell BK447.out 0).trans rfl
                  have hcz26_1 : wc.cell? ⟨gb447, 1, none⟩ = some (.string t445) := (blk_cell BK447.out 1).trans rfl
                  have hcz26_2 : wc.cell? ⟨gb447, 2, none⟩ = some (.string t446) := (blk_cell BK447.out 2).trans rfl
                  have hfz26_0 := blk_frozen BK447.out 0
                  have hfz26_1 := blk_frozen BK447.out 1
                  have hfz26_2 := blk_frozen BK447.out 2
                  go_wp2_with (first | ((with_reducible refine gate_dst (N := 5) rfl ?_); refine box_event ?hg (N := 5) ?hd (cs := #[.string (⟨#[]⟩ : ByteArray), .string (⟨#[]⟩ : ByteArray), .string (⟨#[]⟩ : ByteArray)]) (t := 39) ?hr ?_; (case hd => rfl); (case hg => rfl); (case hr => first | (go_simp; done) | (go_simp; rfl)); intro gb451 hg w27 hbox hb; have n0_ := Aside0.mk (blk_below (g := gb447) (o := .cells #[.string t444, .string t445, .string t446] 39 (0, 0)) (by (with_reducible repeat (first | refine blk_drewN ?_ _ | refine blk_drew ?_ | refine blk_alloc ?_ _)); exact BK447.out) hb); have n1_ := Aside0.mk (below_step (by repeat (first | (with_reducible first | exact HB.out | apply below_alloc | apply pw_below_drewN | apply below_drew1 | refine below_set ?_ GE447.out) | exact HB.out)) hb); have n2_ := Aside0.mk (hbox); have n3_ := Aside0.mk ((by rw [hg]; exact (below_size (by repeat (first | (with_reducible first | exact HB.out | apply below_alloc | apply pw_below_drewN | apply below_drew1 | refine below_set ?_ GE447.out) | exact HB.out))) : w.heap.size ≤ gb451)); have n4_ := Aside0.mk ((by rw [hg]; exact (below_size (by repeat (first | (with_reducible first | exact HB.out | apply below_alloc | apply pw_below_drewN | apply below_drew1 | refine below_set ?_ GE447.out) | exact HB.out))) : w.heap.size ≤ gb451)); have n5_ := Aside0.mk ((by rw [hg]; exact Nat.ne_of_lt (blk_lt (g := gb447) (o := .cells #[.string t444, .string t445, .string t446] 39 (0, 0)) (by (with_reducible repeat (first | refine blk_drewN ?_ _ | refine blk_drew ?_ | refine blk_alloc ?_ _)); exact BK447.out)) : gb447 ≠ gb451)); have n6_ := Aside0.mk ((by rw [hg]; exact Nat.ne_of_gt (blk_lt (g := gb447) (o := .cells #[.string t444, .string t445, .string t446] 39 (0, 0)) (by (with_reducible repeat (first | refine blk_drewN ?_ _ | refine blk_drew ?_ | refine blk_alloc ?_ _)); exact BK447.out)) : gb451 ≠ gb447)); clear BK447; clear HB; have BK447 := n0_; have HB := n1_; have BK451 := n2_; have GW451 := n3_; have GE451 := n4_; have NB447_451 := n5_; have NB451_447 := n6_; clear n0_ n1_ n2_ n3_ n4_ n5_ n6_; clear hb hbox hg; have hnb28 := NB451_447.out; have hnc28 := NB447_451.out; have hcz29_0 : w27.cell? ⟨gb451, 0, none⟩ = some (.string (⟨#[]⟩ : ByteArray)) := (blk_cell BK451.out 0).trans rfl; have hcz29_1 : w27.cell? ⟨gb451, 1, none⟩ = some (.string (⟨#[]⟩ : ByteArray)) := (blk_cell BK451.out 1).trans rfl; have hcz29_2 : w27.cell? ⟨gb451, 2, none⟩ = some (.string (⟨#[]⟩ : ByteArray)) := (blk_cell BK451.out 2).trans rfl; have hfz29_0 := blk_frozen BK451.out 0; have hfz29_1 := blk_frozen BK451.out 1; have hfz29_2 := blk_frozen BK451.out 2) | ((with_reducible refine gate_callee (f := 24) rfl ?_); refine goesL_ (some 29) rfl rfl Tryd.func24 (by kernel_rfl) rfl #[.agg #[.string (⟨#[]⟩ : ByteArray), .string t445, .string t446]] rfl (by (try simp only [List.map_toArray, List.map_cons, List.map_nil]); first | done | rfl | (simp only [List.length_drop, List.length_take]; rfl)) ?_; (with_reducible refine (impl_FormatAddress.calls kj4 (⟨#[]⟩ : ByteArray) t445 t446 t452 _ A20.out).mono ?_); rintro e w30 ⟨rfl, hb⟩; refine ⟨_, rfl, ?_⟩; have n0_ := Aside0.mk (blk_below (g := gb447) (o := .cells #[.string t444, .string t445, .string t446] 39 (0, 0)) (by (with_reducible repeat (first | refine blk_drewN ?_ _ | refine blk_drew ?_ | refine blk_alloc ?_ _)); refine blk_far ?_ NB447_451.out _; (with_reducible repeat (first | refine blk_drewN ?_ _ | refine blk_drew ?_ | refine blk_alloc ?_ _)); refine blk_far ?_ NB447_451.out _; (with_reducible repeat (first | refine blk_drewN ?_ _ | refine blk_drew ?_ | refine blk_alloc ?_ _)); refine blk_far ?_ NB447_451.out _; (with_reducible repeat (first | refine blk_drewN ?_ _ | refine blk_drew ?_ | refine blk_alloc ?_ _)); refine blk_far ?_ NB447_451.out _; (with_reducible repeat (first | refine blk_drewN ?_ _ | refine blk_drew ?_ | refine blk_alloc ?_ _)); exact BK447.out) hb); have n1_ := Aside0.mk (blk_below (g := gb451) (o := .cells #[.string (⟨#[]⟩ : ByteArray), .string t445, .string t446] 39 (0, 0)) (by (with_reducible repeat (first | refine blk_drewN ?_ _ | refine blk_drew ?_ | refine blk_alloc ?_ _)); refine blk_put (cs := #[.string t444, .string t445, .string t446]) ?_ 0 _ rfl; (with_reducible repeat (first | refine blk_drewN ?_ _ | refine blk_drew ?_ | refine blk_alloc ?_ _)); refine blk_put (cs := #[.string t444, .string t445, .string (⟨#[]⟩ : ByteArray)]) ?_ 2 _ rfl; (with_reducible repeat (first | refine blk_drewN ?_ _ | refine blk_drew ?_ | refine blk_alloc ?_ _)); refine blk_put (cs := #[.string t444, .string (⟨#[]⟩ : ByteArray), .string (⟨#[]⟩ : ByteArray)]) ?_ 1 _ rfl; (with_reducible repeat (first | refine blk_drewN ?_ _ | refine blk_drew ?_ | refine blk_alloc ?_ _)); refine blk_put (cs := #[.string (⟨#[]⟩ : ByteArray), .string (⟨#[]⟩ : ByteArray), .string (⟨#[]⟩ : ByteArray)]) ?_ 0 _ rfl; (with_reducible repeat (first | refine blk_drewN ?_ _ | refine blk_drew ?_ | refine blk_alloc ?_ _)); exact BK451.out) hb); have n2_ := Aside0.mk (below_step (by repeat (first | (with_reducible first | exact HB.out | apply below_alloc | apply pw_below_drewN | apply below_drew1 | refine below_set ?_ GE447.out | refine below_set ?_ GE451.out) | exact HB.out)) hb); clear BK447; clear BK451; clear HB; have BK447 := n0_; have BK451 := n1_; have HB := n2_; clear n0_ n1_ n2_; (try clear hb); (try clear hb2); (try clear hk); (try clear hi); have hcz31_0 : w30.cell? ⟨gb447, 0, none⟩ = some (.string t444) := (blk_cell BK447.out 0).trans rfl; have hcz31_1 : w30.cell? ⟨gb447, 1, none⟩ = some (.string t445) := (blk_cell BK447.out 1).trans rfl; have hcz31_2 : w30.cell? ⟨gb447, 2, none⟩ = some (.string t446) := (blk_cell BK447.out 2).trans rfl; have hfz31_0 := blk_frozen BK447.out 0; have hfz31_1 := blk_frozen BK447.out 1; have hfz31_2 := blk_frozen BK447.out 2; have hcz32_0 : w30.cell? ⟨gb451, 0, none⟩ = some (.string (⟨#[]⟩ : ByteArray)) := (blk_cell BK451.out 0).trans rfl; have hcz32_1 : w30.cell? ⟨gb451, 1, none⟩ = some (.string t445) := (blk_cell BK451.out 1).trans rfl; have hcz32_2 : w30.cell? ⟨gb451, 2, none⟩ = some (.string t446) := (blk_cell BK451.out 2).trans rfl; have hfz32_0 := blk_frozen BK451.out 0; have hfz32_1 := blk_frozen BK451.out 1; have hfz32_2 := blk_frozen BK451.out 2) | (go_at_call 27; (with_reducible refine (impl_SameBox.calls t444 t445 t446 (⟨#[]⟩ : ByteArray) t445 t446 true _ A24.out).mono ?_); rintro e w33 ⟨rfl, hb⟩; have n0_ := Aside0.mk (blk_below (g := gb447) (o := .cells #[.string t444, .string t445, .string t446] 39 (0, 0)) (by (with_reducible repeat (first | refine blk_drewN ?_ _ | refine blk_drew ?_ | refine blk_alloc ?_ _)); exact BK447.out) hb); have n1_ := Aside0.mk (blk_below (g := gb451) (o := .cells #[.string (⟨#[]⟩ : ByteArray), .string t445, .string t446] 39 (0, 0)) (by (with_reducible repeat (first | refine blk_drewN ?_ _ | refine blk_drew ?_ | refine blk_alloc ?_ _)); exact BK451.out) hb); have n2_ := Aside0.mk (below_step (by repeat (first | (with_reducible first | exact HB.out | apply below_alloc | apply pw_below_drewN | apply below_drew1 | refine below_set ?_ GE447.out | refine below_set ?_ GE451.out) | exact HB.out)) hb); clear BK447; clear BK451; clear HB; have BK447 := n0_; have BK451 := n1_; have HB := n2_; clear n0_ n1_ n2_; (try clear hb); (try clear hb2); (try clear hk); (try clear hi)))
                  go_ret
                  exact ⟨by first | rfl | (simp [errW_none, errW_some] <;> rfl) | (simp [*, errW_none, errW_some] <;> rfl), by repeat (first | (with_reducible first | exact HB.out | apply below_alloc | apply pw_below_drewN | apply below_drew1 | refine below_set ?_ GE447.out | refine below_set ?_ GE451.out) | exact HB.out)⟩
                · replace c25 := Bool.eq_false_iff.mpr c25
                  subst c25
                  have H1 : (some false) = some r := by rw [if_neg (show ¬ (false = true) by decide)] at H; exact H
                  clear H
                  have H := H1
                  clear H1
                  obtain rfl := Option.some.inj H
                  have hcz34_0 : wc.cell? ⟨gb447, 0, none⟩ = some (.string t444) := (blk_cell BK447.out 0).trans rfl
                  have hcz34_1 : wc.cell? ⟨gb447, 1, none⟩ = some (.string t445) := (blk_cell BK447.out 1).trans rfl
                  have hcz34_2 : wc.cell? ⟨gb447, 2, none⟩ = some (.string t446) := (blk_cell BK447.out 2).trans rfl
                  have hfz34_0 := blk_frozen BK447.out 0
                  have hfz34_1 := blk_frozen BK447.out 1
                  have hfz34_2 := blk_frozen BK447.out 2
                  go_wp2_with (first | ((with_reducible refine gate_dst (N := 5) rfl ?_); refine box_event ?hg (N := 5) ?hd (cs := #[.string (⟨#[]⟩ : ByteArray), .string (⟨#[]⟩ : ByteArray), .string (⟨#[]⟩ : ByteArray)]) (t := 39) ?hr ?_; (case hd => rfl); (case hg => rfl); (case hr => first | (go_simp; done) | (go_simp; rfl)); intro gb451 hg w35 hbox hb; have n0_ := Aside0.mk (blk_below (g := gb447) (o := .cells #[.string t444, .string t445, .string t446] 39 (0, 0)) (by (with_reducible repeat (first | refine blk_drewN ?_ _ | refine blk_drew ?_ | refine blk_alloc ?_ _)); exact BK447.out) hb); have n1_ := Aside0.mk (below_step (by repeat (first | (with_reducible first | exact HB.out | apply below_alloc | apply pw_below_drewN | apply below_drew1 | refine below_set ?_ GE447.out) | exact HB.out)) hb); have n2_ := Aside0.mk (hbox); have n3_ := Aside0.mk ((by rw [hg]; exact (below_size (by repeat (first | (with_reducible first | exact HB.out | apply below_alloc | apply pw_below_drewN | apply below_drew1 | refine below_set ?_ GE447.out) | exact HB.out))) : w.heap.size ≤ gb451)); have n4_ := Aside0.mk ((by rw [hg]; exact (below_size (by repeat (first | (with_reducible first | exact HB.out | apply below_alloc | apply pw_below_drewN | apply below_drew1 | refine below_set ?_ GE447.out) | exact HB.out))) : w.heap.size ≤ gb451)); have n5_ := Aside0.mk ((by rw [hg]; exact Nat.ne_of_lt (blk_lt (g := gb447) (o := .cells #[.string t444, .string t445, .string t446] 39 (0, 0)) (by (with_reducible repeat (first | refine blk_drewN ?_ _ | refine blk_drew ?_ | refine blk_alloc ?_ _)); exact BK447.out)) : gb447 ≠ gb451)); have n6_ := Aside0.mk ((by rw [hg]; exact Nat.ne_of_gt (blk_lt (g := gb447) (o := .cells #[.string t444, .string t445, .string t446] 39 (0, 0)) (by (with_reducible repeat (first | refine blk_drewN ?_ _ | refine blk_drew ?_ | refine blk_alloc ?_ _)); exact BK447.out)) : gb451 ≠ gb447)); clear BK447; clear HB; have BK447 := n0_; have HB := n1_; have BK451 := n2_; have GW451 := n3_; have GE451 := n4_; have NB447_451 := n5_; have NB451_447 := n6_; clear n0_ n1_ n2_ n3_ n4_ n5_ n6_; clear hb hbox hg; have hnb36 := NB451_447.out; have hnc36 := NB447_451.out; have hcz37_0 : w35.cell? ⟨gb451, 0, none⟩ = some (.string (⟨#[]⟩ : ByteArray)) := (blk_cell BK451.out 0).trans rfl; have hcz37_1 : w35.cell? ⟨gb451, 1, none⟩ = some (.string (⟨#[]⟩ : ByteArray)) := (blk_cell BK451.out 1).trans rfl; have hcz37_2 : w35.cell? ⟨gb451, 2, none⟩ = some (.string (⟨#[]⟩ : ByteArray)) := (blk_cell BK451.out 2).trans rfl; have hfz37_0 := blk_frozen BK451.out 0; have hfz37_1 := blk_frozen BK451.out 1; have hfz37_2 := blk_frozen BK451.out 2) | ((with_reducible refine gate_callee (f := 24) rfl ?_); refine goesL_ (some 29) rfl rfl Tryd.func24 (by kernel_rfl) rfl #[.agg #[.string (⟨#[]⟩ : ByteArray), .string t445, .string t446]] rfl (by (try simp only [List.map_toArray, List.map_cons, List.map_nil]); first | done | rfl | (simp only [List.length_drop, List.length_take]; rfl)) ?_; (with_reducible refine (impl_FormatAddress.calls kj4 (⟨#[]⟩ : ByteArray) t445 t446 t452 _ A20.out).mono ?_); rintro e w38 ⟨rfl, hb⟩; refine ⟨_, rfl, ?_⟩; have n0_ := Aside0.mk (blk_below (g := gb447) (o := .cells #[.string t444, .string t445, .string t446] 39 (0, 0)) (by (with_reducible repeat (first | refine blk_drewN ?_ _ | refine blk_drew ?_ | refine blk_alloc ?_ _)); refine blk_far ?_ NB447_451.out _; (with_reducible repeat (first | refine blk_drewN ?_ _ | refine blk_drew ?_ | refine blk_alloc ?_ _)); refine blk_far ?_ NB447_451.out _; (with_reducible repeat (first | refine blk_drewN ?_ _ | refine blk_drew ?_ | refine blk_alloc ?_ _)); refine blk_far ?_ NB447_451.out _; (with_reducible repeat (first | refine blk_drewN ?_ _ | refine blk_drew ?_ | refine blk_alloc ?_ _)); refine blk_far ?_ NB447_451.out _; (with_reducible repeat (first | refine blk_drewN ?_ _ | refine blk_drew ?_ | refine blk_alloc ?_ _)); exact BK447.out) hb); have n1_ := Aside0.mk (blk_below (g := gb451) (o := .cells #[.string (⟨#[]⟩ : ByteArray), .string t445, .string t446] 39 (0, 0)) (by (with_reducible repeat (first | refine blk_drewN ?_ _ | refine blk_drew ?_ | refine blk_alloc ?_ _)); refine blk_put (cs := #[.string t444, .string t445, .string t446]) ?_ 0 _ rfl; (with_reducible repeat (first | refine blk_drewN ?_ _ | refine blk_drew ?_ | refine blk_alloc ?_ _)); refine blk_put (cs := #[.string t444, .string t445, .string (⟨#[]⟩ : ByteArray)]) ?_ 2 _ rfl; (with_reducible repeat (first | refine blk_drewN ?_ _ | refine blk_drew ?_ | refine blk_alloc ?_ _)); refine blk_put (cs := #[.string t444, .string (⟨#[]⟩ : ByteArray), .string (⟨#[]⟩ : ByteArray)]) ?_ 1 _ rfl; (with_reducible repeat (first | refine blk_drewN ?_ _ | refine blk_drew ?_ | refine blk_alloc ?_ _)); refine blk_put (cs := #[.string (⟨#[]⟩ : ByteArray), .string (⟨#[]⟩ : ByteArray), .string (⟨#[]⟩ : ByteArray)]) ?_ 0 _ rfl; (with_reducible repeat (first | refine blk_drewN ?_ _ | refine blk_drew ?_ | refine blk_alloc ?_ _)); exact BK451.out) hb); have n2_ := Aside0.mk (below_step (by repeat (first | (with_reducible first | exact HB.out | apply below_alloc | apply pw_below_drewN | apply below_drew1 | refine below_set ?_ GE447.out | refine below_set ?_ GE451.out) | exact HB.out)) hb); clear BK447; clear BK451; clear HB; have BK447 := n0_; have BK451 := n1_; have HB := n2_; clear n0_ n1_ n2_; (try clear hb); (try clear hb2); (try clear hk); (try clear hi); have hcz39_0 : w38.cell? ⟨gb447, 0, none⟩ = some (.string t444) := (blk_cell BK447.out 0).trans rfl; have hcz39_1 : w38.cell? ⟨gb447, 1, none⟩ = some (.string t445) := (blk_cell BK447.out 1).trans rfl; have hcz39_2 : w38.cell? ⟨gb447, 2, none⟩ = some (.string t446) := (blk_cell BK447.out 2).trans rfl; have hfz39_0 := blk_frozen BK447.out 0; have hfz39_1 := blk_frozen BK447.out 1; have hfz39_2 := blk_frozen BK447.out 2; have hcz40_0 : w38.cell? ⟨gb451, 0, none⟩ = some (.string (⟨#[]⟩ : ByteArray)) := (blk_cell BK451.out 0).trans rfl; have hcz40_1 : w38.cell? ⟨gb451, 1, none⟩ = some (.string t445) := (blk_cell BK451.out 1).trans rfl; have hcz40_2 : w38.cell? ⟨gb451, 2, none⟩ = some (.string t446) := (blk_cell BK451.out 2).trans rfl; have hfz40_0 := blk_frozen BK451.out 0; have hfz40_1 := blk_frozen BK451.out 1; have hfz40_2 := blk_frozen BK451.out 2) | (go_at_call 27; (with_reducible refine (impl_SameBox.calls t444 t445 t446 (⟨#[]⟩ : ByteArray) t445 t446 false _ A24.out).mono ?_); rintro e w41 ⟨rfl, hb⟩; have n0_ := Aside0.mk (blk_below (g := gb447) (o := .cells #[.string t444, .string t445, .string t446] 39 (0, 0)) (by (with_reducible repeat (first | refine blk_drewN ?_ _ | refine blk_drew ?_ | refine blk_alloc ?_ _)); exact BK447.out) hb); have n1_ := Aside0.mk (blk_below (g := gb451) (o := .cells #[.string (⟨#[]⟩ : ByteArray), .string t445, .string t446] 39 (0, 0)) (by (with_reducible repeat (first | refine blk_drewN ?_ _ | refine blk_drew ?_ | refine blk_alloc ?_ _)); exact BK451.out) hb); have n2_ := Aside0.mk (below_step (by repeat (first | (with_reducible first | exact HB.out | apply below_alloc | apply pw_below_drewN | apply below_drew1 | refine below_set ?_ GE447.out | refine below_set ?_ GE451.out) | exact HB.out)) hb); clear BK447; clear BK451; clear HB; have BK447 := n0_; have BK451 := n1_; have HB := n2_; clear n0_ n1_ n2_; (try clear hb); (try clear hb2); (try clear hk); (try clear hi)))
                  go_ret
                  exact ⟨by first | rfl | (simp [errW_none, errW_some] <;> rfl) | (simp [*, errW_none, errW_some] <;> rfl), by repeat (first | (with_reducible first | exact HB.out | apply below_alloc | apply pw_below_drewN | apply below_drew1 | refine below_set ?_ GE447.out | refine below_set ?_ GE451.out) | exact HB.out)⟩
              · rw [if_neg c23] at H
                have c23b0 : (t452.toList == ((t445 ++ (⟨#[64]⟩ : ByteArray)) ++ t446).toList) = false := beq_eq_false_iff_ne.mpr c23
                have c23b1 : (t452.toList != ((t445 ++ (⟨#[64]⟩ : ByteArray)) ++ t446).toList) = true := bne_iff_ne.mpr c23
                obtain rfl := Option.some.inj H
                have hcz42_0 : wc.cell? ⟨gb447, 0, none⟩ = some (.string t444) := (blk_cell BK447.out 0).trans rfl
                have hcz42_1 : wc.cell? ⟨gb447, 1, none⟩ = some (.string t445) := (blk_cell BK447.out 1).trans rfl
                have hcz42_2 : wc.cell? ⟨gb447, 2, none⟩ = some (.string t446) := (blk_cell BK447.out 2).trans rfl
                have hfz42_0 := blk_frozen BK447.out 0
                have hfz42_1 := blk_frozen BK447.out 1
                have hfz42_2 := blk_frozen BK447.out 2
                go_wp2_with (first | ((with_reducible refine gate_dst (N := 5) rfl ?_); refine box_event ?hg (N := 5) ?hd (cs := #[.string (⟨#[]⟩ : ByteArray), .string (⟨#[]⟩ : ByteArray), .string (⟨#[]⟩ : ByteArray)]) (t := 39) ?hr ?_; (case hd => rfl); (case hg => rfl); (case hr => first | (go_simp; done) | (go_simp; rfl)); intro gb451 hg w43 hbox hb; have n0_ := Aside0.mk (blk_below (g := gb447) (o := .cells #[.string t444, .string t445, .string t446] 39 (0, 0)) (by (with_reducible repeat (first | refine blk_drewN ?_ _ | refine blk_drew ?_ | refine blk_alloc ?_ _)); exact BK447.out) hb); have n1_ := Aside0.mk (below_step (by repeat (first | (with_reducible first | exact HB.out | apply below_alloc | apply pw_below_drewN | apply below_drew1 | refine below_set ?_ GE447.out) | exact HB.out)) hb); have n2_ := Aside0.mk (hbox); have n3_ := Aside0.mk ((by rw [hg]; exact (below_size (by repeat (first | (with_reducible first | exact HB.out | apply below_alloc | apply pw_below_drewN | apply below_drew1 | refine below_set ?_ GE447.out) | exact HB.out))) : w.heap.size ≤ gb451)); have n4_ := Aside0.mk ((by rw [hg]; exact (below_size (by repeat (first | (with_reducible first | exact HB.out | apply below_alloc | apply pw_below_drewN | apply below_drew1 | refine below_set ?_ GE447.out) | exact HB.out))) : w.heap.size ≤ gb451)); have n5_ := Aside0.mk ((by rw [hg]; exact Nat.ne_of_lt (blk_lt (g := gb447) (o := .cells #[.string t444, .string t445, .string t446] 39 (0, 0)) (by (with_reducible repeat (first | refine blk_drewN ?_ _ | refine blk_drew ?_ | refine blk_alloc ?_ _)); exact BK447.out)) : gb447 ≠ gb451)); have n6_ := Aside0.mk ((by rw [hg]; exact Nat.ne_of_gt (blk_lt (g := gb447) (o := .cells #[.string t444, .string t445, .string t446] 39 (0, 0)) (by (with_reducible repeat (first | refine blk_drewN ?_ _ | refine blk_drew ?_ | refine blk_alloc ?_ _)); exact BK447.out)) : gb451 ≠ gb447)); clear BK447; clear HB; have BK447 := n0_; have HB := n1_; have BK451 := n2_; have GW451 := n3_; have GE451 := n4_; have NB447_451 := n5_; have NB451_447 := n6_; clear n0_ n1_ n2_ n3_ n4_ n5_ n6_; clear hb hbox hg; have hnb44 := NB451_447.out; have hnc44 := NB447_451.out; have hcz45_0 : w43.cell? ⟨gb451, 0, none⟩ = some (.string (⟨#[]⟩ : ByteArray)) := (blk_cell BK451.out 0).trans rfl; have hcz45_1 : w43.cell? ⟨gb451, 1, none⟩ = some (.string (⟨#[]⟩ : ByteArray)) := (blk_cell BK451.out 1).trans rfl; have hcz45_2 : w43.cell? ⟨gb451, 2, none⟩ = some (.string (⟨#[]⟩ : ByteArray)) := (blk_cell BK451.out 2).trans rfl; have hfz45_0 := blk_frozen BK451.out 0; have hfz45_1 := blk_frozen BK451.out 1; have hfz45_2 := blk_frozen BK451.out 2) | ((with_reducible refine gate_callee (f := 24) rfl ?_); refine goesL_ (some 29) rfl rfl Tryd.func24 (by kernel_rfl) rfl #[.agg #[.string (⟨#[]⟩ : ByteArray), .string t445, .string t446]] rfl (by (try simp only [List.map_toArray, List.map_cons, List.map_nil]); first | done | rfl | (simp only [List.length_drop, List.length_take]; rfl)) ?_; (with_reducible refine (impl_FormatAddress.calls kj4 (⟨#[]⟩ : ByteArray) t445 t446 t452 _ A20.out).mono ?_); rintro e w46 ⟨rfl, hb⟩; refine ⟨_, rfl, ?_⟩; have n0_ := Aside0.mk (blk_below (g := gb447) (o := .cells #[.string t444, .string t445, .string t446] 39 (0, 0)) (by (with_reducible repeat (first | refine blk_drewN ?_ _ | refine blk_drew ?_ | refine blk_alloc ?_ _)); refine blk_far ?_ NB447_451.out _; (with_reducible repeat (first | refine blk_drewN ?_ _ | refine blk_drew ?_ | refine blk_alloc ?_ _)); refine blk_far ?_ NB447_451.out _; (with_reducible repeat (first | refine blk_drewN ?_ _ | refine blk_drew ?_ | refine blk_alloc ?_ _)); refine blk_far ?_ NB447_451.out _; (with_reducible repeat (first | refine blk_drewN ?_ _ | refine blk_drew ?_ | refine blk_alloc ?_ _)); refine blk_far ?_ NB447_451.out _; (with_reducible repeat (first | refine blk_drewN ?_ _ | refine blk_drew ?_ | refine blk_alloc ?_ _)); exact BK447.out) hb); have n1_ := Aside0.mk (blk_below (g := gb451) (o := .cells #[.string (⟨#[]⟩ : ByteArray), .string t445, .string t446] 39 (0, 0)) (by (with_reducible repeat (first | refine blk_drewN ?_ _ | refine blk_drew ?_ | refine blk_alloc ?_ _)); refine blk_put (cs := #[.string t444, .string t445, .string t446]) ?_ 0 _ rfl; (with_reducible repeat (first | refine blk_drewN ?_ _ | refine blk_drew ?_ | refine blk_alloc ?_ _)); refine blk_put (cs := #[.string t444, .string t445, .string (⟨#[]⟩ : ByteArray)]) ?_ 2 _ rfl; (with_reducible repeat (first | refine blk_drewN ?_ _ | refine blk_drew ?_ | refine blk_alloc ?_ _)); refine blk_put (cs := #[.string t444, .string (⟨#[]⟩ : ByteArray), .string (⟨#[]⟩ : ByteArray)]) ?_ 1 _ rfl; (with_reducible repeat (first | refine blk_drewN ?_ _ | refine blk_drew ?_ | refine blk_alloc ?_ _)); refine blk_put (cs := #[.string (⟨#[]⟩ : ByteArray), .string (⟨#[]⟩ : ByteArray), .string (⟨#[]⟩ : ByteArray)]) ?_ 0 _ rfl; (with_reducible repeat (first | refine blk_drewN ?_ _ | refine blk_drew ?_ | refine blk_alloc ?_ _)); exact BK451.out) hb); have n2_ := Aside0.mk (below_step (by repeat (first | (with_reducible first | exact HB.out | apply below_alloc | apply pw_below_drewN | apply below_drew1 | refine below_set ?_ GE447.out | refine below_set ?_ GE451.out) | exact HB.out)) hb); clear BK447; clear BK451; clear HB; have BK447 := n0_; have BK451 := n1_; have HB := n2_; clear n0_ n1_ n2_; (try clear hb); (try clear hb2); (try clear hk); (try clear hi); have hcz47_0 : w46.cell? ⟨gb447, 0, none⟩ = some (.string t444) := (blk_cell BK447.out 0).trans rfl; have hcz47_1 : w46.cell? ⟨gb447, 1, none⟩ = some (.string t445) := (blk_cell BK447.out 1).trans rfl; have hcz47_2 : w46.cell? ⟨gb447, 2, none⟩ = some (.string t446) := (blk_cell BK447.out 2).trans rfl; have hfz47_0 := blk_frozen BK447.out 0; have hfz47_1 := blk_frozen BK447.out 1; have hfz47_2 := blk_frozen BK447.out 2))
                go_ret
                exact ⟨by first | rfl | (simp [errW_none, errW_some] <;> rfl) | (simp [*, errW_none, errW_some] <;> rfl), by repeat (first | (with_reducible first | exact HB.out | apply below_alloc | apply pw_below_drewN | apply below_drew1 | refine below_set ?_ GE447.out | refine below_set ?_ GE451.out) | exact HB.out)⟩
            · rw [if_neg c22] at H
              exact absurd H (by simp)
          · rw [if_neg c21] at H
            exact absurd H (by simp)

/-- THE ONE PURE STATEMENT of laws_FnAddressName: yours. -/
def laws_FnAddressName.Pure : Prop := ∀ (l0 : List Int), l0.length ≤ maxLen → l0.length * 1 ≤ 140737488351232 → (∀ x ∈ l0, (Lit.int .u8 x).wf = true) → ∃ k, laws_FnAddressName.f k l0 = some true
theorem laws_FnAddressName.walk (P : laws_FnAddressName.Pure) (a0 : Option Addr) (len0 cap0 : Nat) (z0 : List Int) (w : World) (w0 : (a0 = none ∧ len0 = 0 ∧ cap0 = 0 ∧ z0 = []) ∨ ∃ x, a0 = some x ∧ len0 ≤ cap0 ∧ cap0 ≤ maxLen ∧ z0.length = cap0 ∧ (∀ i, i < z0.length → w.cell? (x.add i) = some (.int .u8 (z0.getD i 0))) ∧ ∀ n ∈ z0, (Lit.int .u8 n).wf = true) (y0 : len0 * 1 ≤ 140737488351232) :
    Calls Tryd.prog 8 #[.slice a0 len0 cap0] w fun e w' => e = .returned (.bool true) ∧ Below w.heap.size w w' := by
  obtain ⟨l0, rfl, hr0, hm0, hw0, hc0⟩ := ReadsInt.ofRowC w0
  obtain ⟨k, h⟩ := P l0 hm0 y0 hw0
  refine (laws_FnAddressName.calls k _ _ l0 true w (Kd.C_of_reads (d := (0 : Int)) (h1 := fun _ => rfl) hr0) hc0 h).mono ?_
  rintro e w' ⟨rfl, hd⟩
  exact ⟨rfl, hd⟩

end Go.Proofs.YtcnkakaipajloaaDoor.Q
