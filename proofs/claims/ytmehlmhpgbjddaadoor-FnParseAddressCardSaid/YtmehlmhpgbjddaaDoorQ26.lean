/- What functions of the program come to, written by a program of this session (mwprint.py); no condition. -/
import Derived.Test.YtmehlmhpgbjddaaDoorQ0
import Derived.Test.YtmehlmhpgbjddaaDoorQ1
import Derived.Test.YtmehlmhpgbjddaaDoorQ2
import Derived.Test.YtmehlmhpgbjddaaDoorQ3
import Derived.Test.YtmehlmhpgbjddaaDoorQ7
import Derived.Test.YtmehlmhpgbjddaaDoorQ9
import Derived.Test.YtmehlmhpgbjddaaDoorQ15
namespace Go.Proofs.YtmehlmhpgbjddaaDoor.Q
open Go.RowKit Go.Proofs.YtmehlmhpgbjddaaDoorV.PrintWords Go.Proofs.YtmehlmhpgbjddaaDoorV.PrintLast Go.Proofs.YtmehlmhpgbjddaaDoorV.PrintMore
attribute [local go_sem] max2_int min2_int max_two min_two max_three min_three max_four min_four   -- for this text's walks alone
set_option linter.unusedVariables false
set_option linter.unusedSimpArgs false
attribute [local go_sem high] eqA31
/-! ### laws_FnParseAddress: function 8 -/
def laws_FnParseAddress.j0 : Nat → Bool → Bool → Bool → ByteArray → ByteArray → ByteArray → ByteArray → ByteArray → ByteArray → Option (Bool)
 | 0, _, _, _, _, _, _, _, _, _ => none
 | k + 1, x5, x7, x36, x650000, x650001, x650002, x655000, x655001, x655002 => if x36 = true then (if (x650000.toList == x655000.toList && (x650001.toList == x655001.toList && (x650002.toList == x655002.toList))) = true then (some (x5 == x7)) else (some false)) else ((impl_FormatAddress.f k x650000 x650001 x650002).bind fun t655 => ((impl_ParseAddress.f k t655).bind fun bt656 => ((impl_AddressValid.f k x650000 x650001 x650002).bind fun t661 => (if t661 = true then (if bt656.2.2.2 = true then (some (bt656.1.toList == x650000.toList && (bt656.2.1.toList == x650001.toList && (bt656.2.2.1.toList == x650002.toList)))) else (some false)) else (some false)))))
def laws_FnParseAddress.f (k : Nat) (l0 : List Int) : Option (Bool) := if (l0.length : Int) > 1048576 then (some true) else ((spec_DrawParseAddress.f k l0).bind fun t644 => ((impl_ParseAddress.f k t644).bind fun bt645 => ((spec_ParseAddress.f k t644).bind fun bt650 => (if (!(bt645.1.toList == bt650.1.toList) || (!(bt645.2.1.toList == bt650.2.1.toList) || (!(bt645.2.2.1.toList == bt650.2.2.1.toList)))) = true then (laws_FnParseAddress.j0 k bt645.2.2.2 bt650.2.2.2 true bt645.1 bt645.2.1 bt645.2.2.1 bt650.1 bt650.2.1 bt650.2.2.1) else (if (bt645.2.2.2 != bt650.2.2.2) = true then (laws_FnParseAddress.j0 k bt645.2.2.2 bt650.2.2.2 true bt645.1 bt645.2.1 bt645.2.2.1 bt650.1 bt650.2.1 bt650.2.2.1) else (laws_FnParseAddress.j0 k bt645.2.2.2 bt650.2.2.2 (!bt645.2.2.2) bt645.1 bt645.2.1 bt645.2.2.1 bt650.1 bt650.2.1 bt650.2.2.1))))))
theorem laws_FnParseAddress.mono_l : ∀ k, (∀ y0 y1 y2 y3 y4 y5 y6 y7 y8, LeO (laws_FnParseAddress.j0 k y0 y1 y2 y3 y4 y5 y6 y7 y8) (laws_FnParseAddress.j0 (k + 1) y0 y1 y2 y3 y4 y5 y6 y7 y8))
 | 0 => fun _ _ _ _ _ _ _ _ _ r h => by simp [laws_FnParseAddress.j0] at h
 | k + 1 => by
  have ih0 := laws_FnParseAddress.mono_l k
  ·intro y0 y1 y2 y3 y4 y5 y6 y7 y8
   unfold laws_FnParseAddress.j0
   repeat' first
   | (with_reducible first | exact ih0 _ _ _ _ _ _ _ _ _ | exact impl_AddressValid.mono _ _ _ _ | exact impl_FormatAddress.mono _ _ _ _ | exact impl_ParseAddress.mono _ _ | exact spec_DrawParseAddress.mono _ _ | exact spec_ParseAddress.mono _ _ | exact LeO.refl _ | exact LeO.none _ | refine LeO.ite ?_ ?_ | refine LeO.bind ?_ (fun _ => ?_)) | exact ih0 _ _ _ _ _ _ _ _ _ | exact impl_AddressValid.mono _ _ _ _ | exact impl_FormatAddress.mono _ _ _ _ | exact impl_ParseAddress.mono _ _ | exact spec_DrawParseAddress.mono _ _ | exact spec_ParseAddress.mono _ _ | exact LeO.none _ | refine LeO.ite ?_ ?_ | refine LeO.bind ?_ (fun _ => ?_)
theorem laws_FnParseAddress.mono : ∀ a0 k, LeO (laws_FnParseAddress.f k a0) (laws_FnParseAddress.f (k + 1) a0) := by
 intro a0 k
 have ih0 := laws_FnParseAddress.mono_l k
 unfold laws_FnParseAddress.f
 repeat' first
   | (with_reducible first | exact ih0 _ _ _ _ _ _ _ _ _ | exact impl_AddressValid.mono _ _ _ _ | exact impl_FormatAddress.mono _ _ _ _ | exact impl_ParseAddress.mono _ _ | exact spec_DrawParseAddress.mono _ _ | exact spec_ParseAddress.mono _ _ | exact LeO.refl _ | exact LeO.none _ | refine LeO.ite ?_ ?_ | refine LeO.bind ?_ (fun _ => ?_)) | exact ih0 _ _ _ _ _ _ _ _ _ | exact impl_AddressValid.mono _ _ _ _ | exact impl_FormatAddress.mono _ _ _ _ | exact impl_ParseAddress.mono _ _ | exact spec_DrawParseAddress.mono _ _ | exact spec_ParseAddress.mono _ _ | exact LeO.none _ | refine LeO.ite ?_ ?_ | refine LeO.bind ?_ (fun _ => ?_)
set_option maxHeartbeats 8000000 in
set_option maxRecDepth 100000 in
theorem laws_FnParseAddress.calls (k : Nat) (A0 : Option Addr) (c0 : Nat) (l0 : List Int) (r : Bool) (w : World) (hr0 : Kd.C (Kd.int .u8) w A0 l0.length l0) (hc0 : l0.length ≤ c0) (h : laws_FnParseAddress.f k l0 = some r) :
  Calls Tryd.prog 8 #[.slice A0 l0.length c0] w fun e w' => e = .returned (.bool r) ∧ Below w.heap.size w w' := by
 have hu31 := Tryd.underlying31
 have HR0 := Aside0.mk hr0
 have HC0 := Aside0.mk hc0
 clear hr0 hc0
 have HB := Aside0.mk (Below.refl w.heap.size w)
 have H : (if (l0.length : Int) > 1048576 then (some true) else ((spec_DrawParseAddress.f k l0).bind fun t644 => ((impl_ParseAddress.f k t644).bind fun bt645 => ((spec_ParseAddress.f k t644).bind fun bt650 => (if (!(bt645.1.toList == bt650.1.toList) || (!(bt645.2.1.toList == bt650.2.1.toList) || (!(bt645.2.2.1.toList == bt650.2.2.1.toList)))) = true then (laws_FnParseAddress.j0 k bt645.2.2.2 bt650.2.2.2 true bt645.1 bt645.2.1 bt645.2.2.1 bt650.1 bt650.2.1 bt650.2.2.1) else (if (bt645.2.2.2 != bt650.2.2.2) = true then (laws_FnParseAddress.j0 k bt645.2.2.2 bt650.2.2.2 true bt645.1 bt645.2.1 bt645.2.2.1 bt650.1 bt650.2.1 bt650.2.2.1) else (laws_FnParseAddress.j0 k bt645.2.2.2 bt650.2.2.2 (!bt645.2.2.2) bt645.1 bt645.2.1 bt645.2.2.1 bt650.1 bt650.2.1 bt650.2.2.1))))))) = some r := h
 clear h
 by_cases c2 : (l0.length : Int) > 1048576
 ·rw [if_pos c2] at H
  have c2b0 : decide (1048576 < (l0.length : Int)) = true := decide_eq_true c2
  have c2b1 : decide (1048576 < l0.length) = true := decide_eq_true (by omega)
  clear c2
  obtain rfl := Option.some.inj H
  go_enter Tryd.func8, Tryd.ntmps8
  go_wp2
  go_ret
  exact ⟨by first | rfl | (simp [errW_none, errW_some] <;> rfl) | (simp [*, errW_none, errW_some] <;> rfl), by repeat (first | (with_reducible first | exact HB.out | apply below_alloc | apply pw_below_drewN | apply below_drew1) | exact HB.out)⟩
 ·rw [if_neg c2] at H
  have c2b0 : decide (1048576 < (l0.length : Int)) = false := decide_eq_false c2
  have c2b1 : decide (1048576 < l0.length) = false := decide_eq_false (by omega)
  clear c2
  replace H := Option.bind_eq_some_iff.mp H
  obtain ⟨t644, A30, H⟩ := H
  replace H : ((impl_ParseAddress.f k t644).bind fun bt645 => ((spec_ParseAddress.f k t644).bind fun bt650 => (if (!(bt645.1.toList == bt650.1.toList) || (!(bt645.2.1.toList == bt650.2.1.toList) || (!(bt645.2.2.1.toList == bt650.2.2.1.toList)))) = true then (laws_FnParseAddress.j0 k bt645.2.2.2 bt650.2.2.2 true bt645.1 bt645.2.1 bt645.2.2.1 bt650.1 bt650.2.1 bt650.2.2.1) else (if (bt645.2.2.2 != bt650.2.2.2) = true then (laws_FnParseAddress.j0 k bt645.2.2.2 bt650.2.2.2 true bt645.1 bt645.2.1 bt645.2.2.1 bt650.1 bt650.2.1 bt650.2.2.1) else (laws_FnParseAddress.j0 k bt645.2.2.2 bt650.2.2.2 (!bt645.2.2.2) bt645.1 bt645.2.1 bt645.2.2.1 bt650.1 bt650.2.1 bt650.2.2.1))))) = some r := H
  have A3 := Aside0.mk A30
  clear A30
  replace H := Option.bind_eq_some_iff.mp H
  obtain ⟨⟨t645, t646, t647, t648⟩, A40, H⟩ := H
  replace H : ((spec_ParseAddress.f k t644).bind fun bt650 => (if (!(t645.toList == bt650.1.toList) || (!(t646.toList == bt650.2.1.toList) || (!(t647.toList == bt650.2.2.1.toList)))) = true then (laws_FnParseAddress.j0 k t648 bt650.2.2.2 true t645 t646 t647 bt650.1 bt650.2.1 bt650.2.2.1) else (if (t648 != bt650.2.2.2) = true then (laws_FnParseAddress.j0 k t648 bt650.2.2.2 true t645 t646 t647 bt650.1 bt650.2.1 bt650.2.2.1) else (laws_FnParseAddress.j0 k t648 bt650.2.2.2 (!t648) t645 t646 t647 bt650.1 bt650.2.1 bt650.2.2.1)))) = some r := H
  have A4 := Aside0.mk A40
  clear A40
  replace H := Option.bind_eq_some_iff.mp H
  obtain ⟨⟨t650, t651, t652, t653⟩, A50, H⟩ := H
  replace H : (if (!(t645.toList == t650.toList) || (!(t646.toList == t651.toList) || (!(t647.toList == t652.toList)))) = true then (laws_FnParseAddress.j0 k t648 t653 true t645 t646 t647 t650 t651 t652) else (if (t648 != t653) = true then (laws_FnParseAddress.j0 k t648 t653 true t645 t646 t647 t650 t651 t652) else (laws_FnParseAddress.j0 k t648 t653 (!t648) t645 t646 t647 t650 t651 t652))) = some r := H
  have A5 := Aside0.mk A50
  clear A50
  have HC6 := Aside0.mk H
  clear H
  go_enter Tryd.func8, Tryd.ntmps8
  go_upto_region 6 with (first | ((with_reducible refine gate_callee (f := 16) rfl ?_); refine goesL_ (some 14) rfl rfl Tryd.func16 (by kernel_rfl) rfl #[.slice A0 l0.length c0] rfl (by (try simp only [List.map_toArray, List.map_cons, List.map_nil]); first | done | rfl | (simp only [List.length_drop, List.length_take]; rfl)) ?_; (with_reducible refine (spec_DrawParseAddress.calls k _ _ l0 t644 _ ?side1 ?side2 A3.out).mono ?_); (case side1 => repeat (first | exact HR0.out | (with_reducible refine Kd.C_alloc ?_ _) | (with_reducible refine Kd.C_drewN ?_ _) | (with_reducible refine Kd.C_drew ?_))); (case side2 => exact HC0.out); rintro e w7 ⟨rfl, hb⟩; refine ⟨_, rfl, ?_⟩; have n0_ := Aside0.mk (below_step (by repeat (first | (with_reducible first | exact HB.out | apply below_alloc | apply pw_below_drewN | apply below_drew1) | exact HB.out)) hb); clear HB; have HB := n0_; clear n0_; (try clear hb); (try clear hb2); (try clear hk); (try clear hi)) | ((with_reducible refine gate_callee (f := 17) rfl ?_); refine goesL_ (some 17) rfl rfl Tryd.func17 (by kernel_rfl) rfl #[.string t644] rfl (by (try simp only [List.map_toArray, List.map_cons, List.map_nil]); first | done | rfl | (simp only [List.length_drop, List.length_take]; rfl)) ?_; (with_reducible refine (impl_ParseAddress.calls k t644 t645 t646 t647 t648 _ A4.out).mono ?_); rintro e w8 ⟨rfl, hb⟩; refine ⟨_, rfl, ?_⟩; have n0_ := Aside0.mk (below_step (by repeat (first | (with_reducible first | exact HB.out | apply below_alloc | apply pw_below_drewN | apply below_drew1) | exact HB.out)) hb); clear HB; have HB := n0_; clear n0_; (try clear hb); (try clear hb2); (try clear hk); (try clear hi)) | ((with_reducible refine gate_dst (N := 4) rfl ?_); refine box_event ?hg (N := 4) ?hd (cs := #[.string (⟨#[]⟩ : ByteArray), .string (⟨#[]⟩ : ByteArray), .string (⟨#[]⟩ : ByteArray)]) (t := 31) ?hr ?_; (case hd => rfl); (case hg => rfl); (case hr => first | (go_simp; done) | (go_simp; rfl)); intro gb649 hg w9 hbox hb; have n0_ := Aside0.mk (below_step (by repeat (first | (with_reducible first | exact HB.out | apply below_alloc | apply pw_below_drewN | apply below_drew1) | exact HB.out)) hb); have n1_ := Aside0.mk (hbox); have n2_ := Aside0.mk ((by rw [hg]; exact (below_size (by repeat (first | (with_reducible first | exact HB.out | apply below_alloc | apply pw_below_drewN | apply below_drew1) | exact HB.out))) : w.heap.size ≤ gb649)); have n3_ := Aside0.mk ((by rw [hg]; exact (below_size (by repeat (first | (with_reducible first | exact HB.out | apply below_alloc | apply pw_below_drewN | apply below_drew1) | exact HB.out))) : w.heap.size ≤ gb649)); clear HB; have HB := n0_; have BK649 := n1_; have GW649 := n2_; have GE649 := n3_; clear n0_ n1_ n2_ n3_; clear hb hbox hg; have hcz10_0 : w9.cell? ⟨gb649, 0, none⟩ = some (.string (⟨#[]⟩ : ByteArray)) := (blk_cell BK649.out 0).trans rfl; have hcz10_1 : w9.cell? ⟨gb649, 1, none⟩ = some (.string (⟨#[]⟩ : ByteArray)) := (blk_cell BK649.out 1).trans rfl; have hcz10_2 : w9.cell? ⟨gb649, 2, none⟩ = some (.string (⟨#[]⟩ : ByteArray)) := (blk_cell BK649.out 2).trans rfl; have hfz10_0 := blk_frozen BK649.out 0; have hfz10_1 := blk_frozen BK649.out 1; have hfz10_2 := blk_frozen BK649.out 2) | ((with_reducible refine gate_callee (f := 18) rfl ?_); refine goesL_ (some 22) rfl rfl Tryd.func18 (by kernel_rfl) rfl #[.string t644] rfl (by (try simp only [List.map_toArray, List.map_cons, List.map_nil]); first | done | rfl | (simp only [List.length_drop, List.length_take]; rfl)) ?_; (with_reducible refine (spec_ParseAddress.calls k t644 t650 t651 t652 t653 _ A5.out).mono ?_); rintro e w11 ⟨rfl, hb⟩; refine ⟨_, rfl, ?_⟩; have n0_ := Aside0.mk (blk_below (g := gb649) (o := .cells #[.string t645, .string t646, .string t647] 31 (0, 0)) (by (with_reducible repeat (first | refine blk_drewN ?_ _ | refine blk_drew ?_ | refine blk_alloc ?_ _)); refine blk_put (cs := #[.string t645, .string t646, .string (⟨#[]⟩ : ByteArray)]) ?_ 2 _ rfl; (with_reducible repeat (first | refine blk_drewN ?_ _ | refine blk_drew ?_ | refine blk_alloc ?_ _)); refine blk_put (cs := #[.string t645, .string (⟨#[]⟩ : ByteArray), .string (⟨#[]⟩ : ByteArray)]) ?_ 1 _ rfl; (with_reducible repeat (first | refine blk_drewN ?_ _ | refine blk_drew ?_ | refine blk_alloc ?_ _)); refine blk_put (cs := #[.string (⟨#[]⟩ : ByteArray), .string (⟨#[]⟩ : ByteArray), .string (⟨#[]⟩ : ByteArray)]) ?_ 0 _ rfl; (with_reducible repeat (first | refine blk_drewN ?_ _ | refine blk_drew ?_ | refine blk_alloc ?_ _)); exact BK649.out) hb); have n1_ := Aside0.mk (below_step (by repeat (first | (with_reducible first | exact HB.out | apply below_alloc | apply pw_below_drewN | apply below_drew1 | refine below_set ?_ GE649.out) | exact HB.out)) hb); clear BK649; clear HB; have BK649 := n0_; have HB := n1_; clear n0_ n1_; (try clear hb); (try clear hb2); (try clear hk); (try clear hi)) | ((with_reducible refine gate_dst (N := 6) rfl ?_); refine box_event ?hg (N := 6) ?hd (cs := #[.string (⟨#[]⟩ : ByteArray), .string (⟨#[]⟩ : ByteArray), .string (⟨#[]⟩ : ByteArray)]) (t := 31) ?hr ?_; (case hd => rfl); (case hg => rfl); (case hr => first | (go_simp; done) | (go_simp; rfl)); intro gb654 hg w12 hbox hb; have n0_ := Aside0.mk (blk_below (g := gb649) (o := .cells #[.string t645, .string t646, .string t647] 31 (0, 0)) (by (with_reducible repeat (first | refine blk_drewN ?_ _ | refine blk_drew ?_ | refine blk_alloc ?_ _)); exact BK649.out) hb); have n1_ := Aside0.mk (below_step (by repeat (first | (with_reducible first | exact HB.out | apply below_alloc | apply pw_below_drewN | apply below_drew1 | refine below_set ?_ GE649.out) | exact HB.out)) hb); have n2_ := Aside0.mk (hbox); have n3_ := Aside0.mk ((by rw [hg]; exact (below_size (by repeat (first | (with_reducible first | exact HB.out | apply below_alloc | apply pw_below_drewN | apply below_drew1 | refine below_set ?_ GE649.out) | exact HB.out))) : w.heap.size ≤ gb654)); have n4_ := Aside0.mk ((by rw [hg]; exact (below_size (by repeat (first | (with_reducible first | exact HB.out | apply below_alloc | apply pw_below_drewN | apply below_drew1 | refine below_set ?_ GE649.out) | exact HB.out))) : w.heap.size ≤ gb654)); have n5_ := Aside0.mk ((by rw [hg]; exact Nat.ne_of_lt (blk_lt (g := gb649) (o := .cells #[.string t645, .string t646, .string t647] 31 (0, 0)) (by (with_reducible repeat (first | refine blk_drewN ?_ _ | refine blk_drew ?_ | refine blk_alloc ?_ _)); exact BK649.out)) : gb649 ≠ gb654)); have n6_ := Aside0.mk ((by rw [hg]; exact Nat.ne_of_gt (blk_lt (g := gb649) (o := .cells #[.string t645, .string t646, .string t647] 31 (0, 0)) (by (with_reducible repeat (first | refine blk_drewN ?_ _ | refine blk_drew ?_ | refine blk_alloc ?_ _)); exact BK649.out)) : gb654 ≠ gb649)); clear BK649; clear HB; have BK649 := n0_; have HB := n1_; have BK654 := n2_; have GW654 := n3_; have GE654 := n4_; have NB649_654 := n5_; have NB654_649 := n6_; clear n0_ n1_ n2_ n3_ n4_ n5_ n6_; clear hb hbox hg; have hnb13 := NB654_649.out; have hnc13 := NB649_654.out; have hcz14_0 : w12.cell? ⟨gb654, 0, none⟩ = some (.string (⟨#[]⟩ : ByteArray)) := (blk_cell BK654.out 0).trans rfl; have hcz14_1 : w12.cell? ⟨gb654, 1, none⟩ = some (.string (⟨#[]⟩ : ByteArray)) := (blk_cell BK654.out 1).trans rfl; have hcz14_2 : w12.cell? ⟨gb654, 2, none⟩ = some (.string (⟨#[]⟩ : ByteArray)) := (blk_cell BK654.out 2).trans rfl; have hfz14_0 := blk_frozen BK654.out 0; have hfz14_1 := blk_frozen BK654.out 1; have hfz14_2 := blk_frozen BK654.out 2))
  (try simp only [Act.put, List.setIfInBounds_toArray, List.set_cons_zero, List.set_cons_succ])
  go_cut [36] (fun v36 wc => ∃ (kq : Nat) (x36_5 : Bool), v36 = .bool x36_5 ∧ Aside0 (laws_FnParseAddress.j0 kq t648 t653 x36_5 t645 t646 t647 t650 t651 t652 = some r) ∧ Aside0 (kq ≤ k) ∧ Aside0 (wc.heap[gb649]? = some (.cells #[.string t645, .string t646, .string t647] 31 (0, 0))) ∧ Aside0 (wc.heap[gb654]? = some (.cells #[.string t650, .string t651, .string t652] 31 (0, 0))) ∧ Aside0 (Below w.heap.size w wc))
  case first =>
   have H := HC6.out
   clear HC6
   by_cases c15 : (!(t645.toList == t650.toList) || (!(t646.toList == t651.toList) || (!(t647.toList == t652.toList)))) = true
   ·rw [if_pos c15] at H
    have c15b0 : (!(t645.toList == t650.toList) || (!(t646.toList == t651.toList) || (!(t647.toList == t652.toList)))) = true := c15
    clear c15
    (first | rw [c15b0] | (simp only [i64_w, i32_w]; rw [c15b0]) | skip)
    have H' := Aside0.mk H
    clear H
    have hnb16 := NB649_654.out
    have hnc16 := NB654_649.out
    have hcz17_0 : w12.cell? ⟨gb649, 0, none⟩ = some (.string t645) := (blk_cell BK649.out 0).trans rfl
    have hcz17_1 : w12.cell? ⟨gb649, 1, none⟩ = some (.string t646) := (blk_cell BK649.out 1).trans rfl
    have hcz17_2 : w12.cell? ⟨gb649, 2, none⟩ = some (.string t647) := (blk_cell BK649.out 2).trans rfl
    have hfz17_0 := blk_frozen BK649.out 0
    have hfz17_1 := blk_frozen BK649.out 1
    have hfz17_2 := blk_frozen BK649.out 2
    have hcz18_0 : w12.cell? ⟨gb654, 0, none⟩ = some (.string (⟨#[]⟩ : ByteArray)) := (blk_cell BK654.out 0).trans rfl
    have hcz18_1 : w12.cell? ⟨gb654, 1, none⟩ = some (.string (⟨#[]⟩ : ByteArray)) := (blk_cell BK654.out 1).trans rfl
    have hcz18_2 : w12.cell? ⟨gb654, 2, none⟩ = some (.string (⟨#[]⟩ : ByteArray)) := (blk_cell BK654.out 2).trans rfl
    have hfz18_0 := blk_frozen BK654.out 0
    have hfz18_1 := blk_frozen BK654.out 1
    have hfz18_2 := blk_frozen BK654.out 2
    go_wp2
    go_meet
    case rel => exact ⟨_, (true), (by first | rfl | (simp; done) | (simp [*]; done)), H', ⟨by first | omega | exact Nat.le_refl _⟩, ⟨by (with_reducible repeat (first | refine blk_drewN ?_ _ | refine blk_drew ?_ | refine blk_alloc ?_ _)); refine blk_far ?_ NB649_654.out _; (with_reducible repeat (first | refine blk_drewN ?_ _ | refine blk_drew ?_ | refine blk_alloc ?_ _)); refine blk_far ?_ NB649_654.out _; (with_reducible repeat (first | refine blk_drewN ?_ _ | refine blk_drew ?_ | refine blk_alloc ?_ _)); refine blk_far ?_ NB649_654.out _; (with_reducible repeat (first | refine blk_drewN ?_ _ | refine blk_drew ?_ | refine blk_alloc ?_ _)); exact BK649.out⟩, ⟨by (with_reducible repeat (first | refine blk_drewN ?_ _ | refine blk_drew ?_ | refine blk_alloc ?_ _)); refine blk_put (cs := #[.string t650, .string t651, .string (⟨#[]⟩ : ByteArray)]) ?_ 2 _ rfl; (with_reducible repeat (first | refine blk_drewN ?_ _ | refine blk_drew ?_ | refine blk_alloc ?_ _)); refine blk_put (cs := #[.string t650, .string (⟨#[]⟩ : ByteArray), .string (⟨#[]⟩ : ByteArray)]) ?_ 1 _ rfl; (with_reducible repeat (first | refine blk_drewN ?_ _ | refine blk_drew ?_ | refine blk_alloc ?_ _)); refine blk_put (cs := #[.string (⟨#[]⟩ : ByteArray), .string (⟨#[]⟩ : ByteArray), .string (⟨#[]⟩ : ByteArray)]) ?_ 0 _ rfl; (with_reducible repeat (first | refine blk_drewN ?_ _ | refine blk_drew ?_ | refine blk_alloc ?_ _)); exact BK654.out⟩, ⟨by repeat (first | (with_reducible first | exact HB.out | apply below_alloc | apply pw_below_drewN | apply below_drew1 | refine below_set ?_ GE649.out | refine below_set ?_ GE654.out) | exact HB.out)⟩⟩
   ·rw [if_neg c15] at H
    have c15b0 : (!(t645.toList == t650.toList) || (!(t646.toList == t651.toList) || (!(t647.toList == t652.toList)))) = false := by simpa using c15
    clear c15
    (first | rw [c15b0] | (simp only [i64_w, i32_w]; rw [c15b0]) | skip)
    by_cases c19 : (t648 != t653) = true
    ·rw [if_pos c19] at H
     have c19b0 : (t648 != t653) = true := c19
     (try (have c19b1 : decide (t648 = t653) = false := by simpa using c19))
     (try (have c19b2 : (t648 == t653) = false := by simpa using c19))
     (try (have c19b3 : ¬ (t648 = t653) := by simpa using c19))
     clear c19
     have H' := Aside0.mk H
     clear H
     have hnb20 := NB649_654.out
     have hnc20 := NB654_649.out
     have hcz21_0 : w12.cell? ⟨gb649, 0, none⟩ = some (.string t645) := (blk_cell BK649.out 0).trans rfl
     have hcz21_1 : w12.cell? ⟨gb649, 1, none⟩ = some (.string t646) := (blk_cell BK649.out 1).trans rfl
     have hcz21_2 : w12.cell? ⟨gb649, 2, none⟩ = some (.string t647) := (blk_cell BK649.out 2).trans rfl
     have hfz21_0 := blk_frozen BK649.out 0
     have hfz21_1 := blk_frozen BK649.out 1
     have hfz21_2 := blk_frozen BK649.out 2
     have hcz22_0 : w12.cell? ⟨gb654, 0, none⟩ = some (.string (⟨#[]⟩ : ByteArray)) := (blk_cell BK654.out 0).trans rfl
     have hcz22_1 : w12.cell? ⟨gb654, 1, none⟩ = some (.string (⟨#[]⟩ : ByteArray)) := (blk_cell BK654.out 1).trans rfl
     have hcz22_2 : w12.cell? ⟨gb654, 2, none⟩ = some (.string (⟨#[]⟩ : ByteArray)) := (blk_cell BK654.out 2).trans rfl
     have hfz22_0 := blk_frozen BK654.out 0
     have hfz22_1 := blk_frozen BK654.out 1
     have hfz22_2 := blk_frozen BK654.out 2
     go_wp2
     go_meet
     case rel => exact ⟨_, (true), (by first | rfl | (simp; done) | (simp [*]; done)), H', ⟨by first | omega | exact Nat.le_refl _⟩, ⟨by (with_reducible repeat (first | refine blk_drewN ?_ _ | refine blk_drew ?_ | refine blk_alloc ?_ _)); refine blk_far ?_ NB649_654.out _; (with_reducible repeat (first | refine blk_drewN ?_ _ | refine blk_drew ?_ | refine blk_alloc ?_ _)); refine blk_far ?_ NB649_654.out _; (with_reducible repeat (first | refine blk_drewN ?_ _ | refine blk_drew ?_ | refine blk_alloc ?_ _)); refine blk_far ?_ NB649_654.out _; (with_reducible repeat (first | refine blk_drewN ?_ _ | refine blk_drew ?_ | refine blk_alloc ?_ _)); exact BK649.out⟩, ⟨by (with_reducible repeat (first | refine blk_drewN ?_ _ | refine blk_drew ?_ | refine blk_alloc ?_ _)); refine blk_put (cs := #[.string t650, .string t651, .string (⟨#[]⟩ : ByteArray)]) ?_ 2 _ rfl; (with_reducible repeat (first | refine blk_drewN ?_ _ | refine blk_drew ?_ | refine blk_alloc ?_ _)); refine blk_put (cs := #[.string t650, .string (⟨#[]⟩ : ByteArray), .string (⟨#[]⟩ : ByteArray)]) ?_ 1 _ rfl; (with_reducible repeat (first | refine blk_drewN ?_ _ | refine blk_drew ?_ | refine blk_alloc ?_ _)); refine blk_put (cs := #[.string (⟨#[]⟩ : ByteArray), .string (⟨#[]⟩ : ByteArray), .string (⟨#[]⟩ : ByteArray)]) ?_ 0 _ rfl; (with_reducible repeat (first | refine blk_drewN ?_ _ | refine blk_drew ?_ | refine blk_alloc ?_ _)); exact BK654.out⟩, ⟨by repeat (first | (with_reducible first | exact HB.out | apply below_alloc | apply pw_below_drewN | apply below_drew1 | refine below_set ?_ GE649.out | refine below_set ?_ GE654.out) | exact HB.out)⟩⟩
    ·rw [if_neg c19] at H
     have c19b0 : (t648 != t653) = false := by simpa using c19
     (try (have c19b1 : decide (t648 = t653) = true := by simpa using c19))
     (try (have c19b2 : (t648 == t653) = true := by simpa using c19))
     clear c19
     have H' := Aside0.mk H
     clear H
     have hnb23 := NB649_654.out
     have hnc23 := NB654_649.out
     have hcz24_0 : w12.cell? ⟨gb649, 0, none⟩ = some (.string t645) := (blk_cell BK649.out 0).trans rfl
     have hcz24_1 : w12.cell? ⟨gb649, 1, none⟩ = some (.string t646) := (blk_cell BK649.out 1).trans rfl
     have hcz24_2 : w12.cell? ⟨gb649, 2, none⟩ = some (.string t647) := (blk_cell BK649.out 2).trans rfl
     have hfz24_0 := blk_frozen BK649.out 0
     have hfz24_1 := blk_frozen BK649.out 1
     have hfz24_2 := blk_frozen BK649.out 2
     have hcz25_0 : w12.cell? ⟨gb654, 0, none⟩ = some (.string (⟨#[]⟩ : ByteArray)) := (blk_cell BK654.out 0).trans rfl
     have hcz25_1 : w12.cell? ⟨gb654, 1, none⟩ = some (.string (⟨#[]⟩ : ByteArray)) := (blk_cell BK654.out 1).trans rfl
     have hcz25_2 : w12.cell? ⟨gb654, 2, none⟩ = some (.string (⟨#[]⟩ : ByteArray)) := (blk_cell BK654.out 2).trans rfl
     have hfz25_0 := blk_frozen BK654.out 0
     have hfz25_1 := blk_frozen BK654.out 1
     have hfz25_2 := blk_frozen BK654.out 2
     go_wp2
     go_meet
     case rel => exact ⟨_, (!t648), (by first | rfl | (simp; done) | (simp [*]; done)), H', ⟨by first | omega | exact Nat.le_refl _⟩, ⟨by (with_reducible repeat (first | refine blk_drewN ?_ _ | refine blk_drew ?_ | refine blk_alloc ?_ _)); refine blk_far ?_ NB649_654.out _; (with_reducible repeat (first | refine blk_drewN ?_ _ | refine blk_drew ?_ | refine blk_alloc ?_ _)); refine blk_far ?_ NB649_654.out _; (with_reducible repeat (first | refine blk_drewN ?_ _ | refine blk_drew ?_ | refine blk_alloc ?_ _)); refine blk_far ?_ NB649_654.out _; (with_reducible repeat (first | refine blk_drewN ?_ _ | refine blk_drew ?_ | refine blk_alloc ?_ _)); exact BK649.out⟩, ⟨by (with_reducible repeat (first | refine blk_drewN ?_ _ | refine blk_drew ?_ | refine blk_alloc ?_ _)); refine blk_put (cs := #[.string t650, .string t651, .string (⟨#[]⟩ : ByteArray)]) ?_ 2 _ rfl; (with_reducible repeat (first | refine blk_drewN ?_ _ | refine blk_drew ?_ | refine blk_alloc ?_ _)); refine blk_put (cs := #[.string t650, .string (⟨#[]⟩ : ByteArray), .string (⟨#[]⟩ : ByteArray)]) ?_ 1 _ rfl; (with_reducible repeat (first | refine blk_drewN ?_ _ | refine blk_drew ?_ | refine blk_alloc ?_ _)); refine blk_put (cs := #[.string (⟨#[]⟩ : ByteArray), .string (⟨#[]⟩ : ByteArray), .string (⟨#[]⟩ : ByteArray)]) ?_ 0 _ rfl; (with_reducible repeat (first | refine blk_drewN ?_ _ | refine blk_drew ?_ | refine blk_alloc ?_ _)); exact BK654.out⟩, ⟨by repeat (first | (with_reducible first | exact HB.out | apply below_alloc | apply pw_below_drewN | apply below_drew1 | refine below_set ?_ GE649.out | refine below_set ?_ GE654.out) | exact HB.out)⟩⟩
  case rest =>
   clear HC6
   try clear c1
   try clear c2
   try clear c2b0
   try clear c2b1
   try clear p2
   try clear c8
   try clear c13
   try clear c15
   try clear c15b0
   try clear c16
   try clear c17
   try clear c18
   try clear c19
   try clear c19b0
   try clear c19b1
   try clear c19b2
   try clear c20
   try clear c23
   try clear hcz10_0
   try clear hcz10_1
   try clear hcz10_2
   try clear hcz14_0
   try clear hcz14_1
   try clear hcz14_2
   try clear hcz17_0
   try clear hcz17_1
   try clear hcz17_2
   try clear hcz18_0
   try clear hcz18_1
   try clear hcz18_2
   try clear hcz21_0
   try clear hcz21_1
   try clear hcz21_2
   try clear hcz22_0
   try clear hcz22_1
   try clear hcz22_2
   try clear hcz24_0
   try clear hcz24_1
   try clear hcz24_2
   try clear hcz25_0
   try clear hcz25_1
   try clear hcz25_2
   try clear hfz10_0
   try clear hfz10_1
   try clear hfz10_2
   try clear hfz14_0
   try clear hfz14_1
   try clear hfz14_2
   try clear hfz17_0
   try clear hfz17_1
   try clear hfz17_2
   try clear hfz18_0
   try clear hfz18_1
   try clear hfz18_2
   try clear hfz21_0
   try clear hfz21_1
   try clear hfz21_2
   try clear hfz22_0
   try clear hfz22_1
   try clear hfz22_2
   try clear hfz24_0
   try clear hfz24_1
   try clear hfz24_2
   try clear hfz25_0
   try clear hfz25_1
   try clear hfz25_2
   obtain ⟨kq, x36_5, rfl, HA, HJ5, BK649, BK654, HB⟩ := hcut
   cases kq with
   | zero => exact absurd HA.out (by simp [laws_FnParseAddress.j0])
   | succ kj5 =>
    have H := HA.out
    clear HA
    simp only [laws_FnParseAddress.j0] at H
    by_cases c26 : x36_5 = true
    ·subst c26
     have H1 : (if (t645.toList == t650.toList && (t646.toList == t651.toList && (t647.toList == t652.toList))) = true then (some (t648 == t653)) else (some false)) = some r := by rw [if_pos rfl] at H; exact H
     clear H
     have H := H1
     clear H1
     by_cases c27 : (t645.toList == t650.toList && (t646.toList == t651.toList && (t647.toList == t652.toList))) = true
     ·rw [if_pos c27] at H
      have c27b0 : (t645.toList == t650.toList && (t646.toList == t651.toList && (t647.toList == t652.toList))) = true := c27
      (try (have c27b1 : decide (t645.toList = t650.toList && (t646.toList == t651.toList && (t647.toList == t652.toList))) = true := by simpa using c27))
      (try (have c27b2 : (t645.toList == t650.toList && (t646.toList == t651.toList && (t647.toList == t652.toList))) = true := by simpa using c27))
      clear c27
      obtain rfl := Option.some.inj H
      have hnb28 := NB649_654.out
      have hnc28 := NB654_649.out
      have hcz29_0 : wc.cell? ⟨gb649, 0, none⟩ = some (.string t645) := (blk_cell BK649.out 0).trans rfl
      have hcz29_1 : wc.cell? ⟨gb649, 1, none⟩ = some (.string t646) := (blk_cell BK649.out 1).trans rfl
      have hcz29_2 : wc.cell? ⟨gb649, 2, none⟩ = some (.string t647) := (blk_cell BK649.out 2).trans rfl
      have hfz29_0 := blk_frozen BK649.out 0
      have hfz29_1 := blk_frozen BK649.out 1
      have hfz29_2 := blk_frozen BK649.out 2
      have hcz30_0 : wc.cell? ⟨gb654, 0, none⟩ = some (.string t650) := (blk_cell BK654.out 0).trans rfl
      have hcz30_1 : wc.cell? ⟨gb654, 1, none⟩ = some (.string t651) := (blk_cell BK654.out 1).trans rfl
      have hcz30_2 : wc.cell? ⟨gb654, 2, none⟩ = some (.string t652) := (blk_cell BK654.out 2).trans rfl
      have hfz30_0 := blk_frozen BK654.out 0
      have hfz30_1 := blk_frozen BK654.out 1
      have hfz30_2 := blk_frozen BK654.out 2
      go_wp2
      go_ret
      exact ⟨by first | rfl | (simp [errW_none, errW_some] <;> rfl) | (simp [*, errW_none, errW_some] <;> rfl), by repeat (first | (with_reducible first | exact HB.out | apply below_alloc | apply pw_below_drewN | apply below_drew1 | refine below_set ?_ GE649.out | refine below_set ?_ GE654.out) | exact HB.out)⟩
     ·rw [if_neg c27] at H
      have c27b0 : (t645.toList == t650.toList && (t646.toList == t651.toList && (t647.toList == t652.toList))) = false := by simpa using c27
      (try (have c27b1 : decide (t645.toList = t650.toList && (t646.toList == t651.toList && (t647.toList == t652.toList))) = false := by simpa using c27))
      (try (have c27b2 : (t645.toList == t650.toList && (t646.toList == t651.toList && (t647.toList == t652.toList))) = false := by simpa using c27))
      (try (have c27b3 : ¬ (t645.toList = t650.toList && (t646.toList == t651.toList && (t647.toList == t652.toList))) := by simpa using c27))
      clear c27
      obtain rfl := Option.some.inj H
      have hnb31 := NB649_654.out
      have hnc31 := NB654_649.out
      have hcz32_0 : wc.cell? ⟨gb649, 0, none⟩ = some (.string t645) := (blk_cell BK649.out 0).trans rfl
      have hcz32_1 : wc.cell? ⟨gb649, 1, none⟩ = some (.string t646) := (blk_cell BK649.out 1).trans rfl
      have hcz32_2 : wc.cell? ⟨gb649, 2, none⟩ = some (.string t647) := (blk_cell BK649.out 2).trans rfl
      have hfz32_0 := blk_frozen BK649.out 0
      have hfz32_1 := blk_frozen BK649.out 1
      have hfz32_2 := blk_frozen BK649.out 2
      have hcz33_0 : wc.cell? ⟨gb654, 0, none⟩ = some (.string t650) := (blk_cell BK654.out 0).trans rfl
      have hcz33_1 : wc.cell? ⟨gb654, 1, none⟩ = some (.string t651) := (blk_cell BK654.out 1).trans rfl
      have hcz33_2 : wc.cell? ⟨gb654, 2, none⟩ = some (.string t652) := (blk_cell BK654.out 2).trans rfl
      have hfz33_0 := blk_frozen BK654.out 0
      have hfz33_1 := blk_frozen BK654.out 1
      have hfz33_2 := blk_frozen BK654.out 2
      go_wp2
      go_ret
      exact ⟨by first | rfl | (simp [errW_none, errW_some] <;> rfl) | (simp [*, errW_none, errW_some] <;> rfl), by repeat (first | (with_reducible first | exact HB.out | apply below_alloc | apply pw_below_drewN | apply below_drew1 | refine below_set ?_ GE649.out | refine below_set ?_ GE654.out) | exact HB.out)⟩
    ·replace c26 := Bool.eq_false_iff.mpr c26
     subst c26
     have H1 : ((impl_FormatAddress.f kj5 t645 t646 t647).bind fun t655 => ((impl_ParseAddress.f kj5 t655).bind fun bt656 => ((impl_AddressValid.f kj5 t645 t646 t647).bind fun t661 => (if t661 = true then (if bt656.2.2.2 = true then (some (bt656.1.toList == t645.toList && (bt656.2.1.toList == t646.toList && (bt656.2.2.1.toList == t647.toList)))) else (some false)) else (some false))))) = some r := by rw [if_neg (show ¬ (false = true) by decide)] at H; exact H
     clear H
     have H := H1
     clear H1
     replace H := Option.bind_eq_some_iff.mp H
     obtain ⟨t655, A340, H⟩ := H
     replace H : ((impl_ParseAddress.f kj5 t655).bind fun bt656 => ((impl_AddressValid.f kj5 t645 t646 t647).bind fun t661 => (if t661 = true then (if bt656.2.2.2 = true then (some (bt656.1.toList == t645.toList && (bt656.2.1.toList == t646.toList && (bt656.2.2.1.toList == t647.toList)))) else (some false)) else (some false)))) = some r := H
     have A34 := Aside0.mk A340
     clear A340
     replace H := Option.bind_eq_some_iff.mp H
     obtain ⟨⟨t656, t657, t658, t659⟩, A350, H⟩ := H
     replace H : ((impl_AddressValid.f kj5 t645 t646 t647).bind fun t661 => (if t661 = true then (if t659 = true then (some (t656.toList == t645.toList && (t657.toList == t646.toList && (t658.toList == t647.toList)))) else (some false)) else (some false))) = some r := H
     have A35 := Aside0.mk A350
     clear A350
     replace H := Option.bind_eq_some_iff.mp H
     obtain ⟨t661, A360, H⟩ := H
     replace H : (if t661 = true then (if t659 = true then (some (t656.toList == t645.toList && (t657.toList == t646.toList && (t658.toList == t647.toList)))) else (some false)) else (some false)) = some r := H
     have A36 := Aside0.mk A360
     clear A360
     by_cases c37 : t661 = true
     ·subst c37
      have H1 : (if t659 = true then (some (t656.toList == t645.toList && (t657.toList == t646.toList && (t658.toList == t647.toList)))) else (some false)) = some r := by rw [if_pos rfl] at H; exact H
      clear H
      have H := H1
      clear H1
      by_cases c38 : t659 = true
      ·subst c38
       have H1 : (some (t656.toList == t645.toList && (t657.toList == t646.toList && (t658.toList == t647.toList)))) = some r := by rw [if_pos rfl] at H; exact H
       clear H
       have H := H1
       clear H1
       obtain rfl := Option.some.inj H
       have hnb39 := NB649_654.out
       have hnc39 := NB654_649.out
       have hcz40_0 : wc.cell? ⟨gb649, 0, none⟩ = some (.string t645) := (blk_cell BK649.out 0).trans rfl
       have hcz40_1 : wc.cell? ⟨gb649, 1, none⟩ = some (.string t646) := (blk_cell BK649.out 1).trans rfl
       have hcz40_2 : wc.cell? ⟨gb649, 2, none⟩ = some (.string t647) := (blk_cell BK649.out 2).trans rfl
       have hfz40_0 := blk_frozen BK649.out 0
       have hfz40_1 := blk_frozen BK649.out 1
       have hfz40_2 := blk_frozen BK649.out 2
       go_wp2_with (first | ((with_reducible refine gate_callee (f := 19) rfl ?_); refine goesL_ (some 47) rfl rfl Tryd.func19 (by kernel_rfl) rfl #[.agg #[.string t645, .string t646, .string t647]] rfl (by (try simp only [List.map_toArray, List.map_cons, List.map_nil]); first | done | rfl | (simp only [List.length_drop, List.length_take]; rfl)) ?_; (with_reducible refine (impl_FormatAddress.calls kj5 t645 t646 t647 t655 _ A34.out).mono ?_); rintro e w41 ⟨rfl, hb⟩; refine ⟨_, rfl, ?_⟩; have n0_ := Aside0.mk (blk_below (g := gb649) (o := .cells #[.string t645, .string t646, .string t647] 31 (0, 0)) (by (with_reducible repeat (first | refine blk_drewN ?_ _ | refine blk_drew ?_ | refine blk_alloc ?_ _)); exact BK649.out) hb); have n1_ := Aside0.mk (blk_below (g := gb654) (o := .cells #[.string t650, .string t651, .string t652] 31 (0, 0)) (by (with_reducible repeat (first | refine blk_drewN ?_ _ | refine blk_drew ?_ | refine blk_alloc ?_ _)); exact BK654.out) hb); have n2_ := Aside0.mk (below_step (by repeat (first | (with_reducible first | exact HB.out | apply below_alloc | apply pw_below_drewN | apply below_drew1 | refine below_set ?_ GE649.out | refine below_set ?_ GE654.out) | exact HB.out)) hb); clear BK649; clear BK654; clear HB; have BK649 := n0_; have BK654 := n1_; have HB := n2_; clear n0_ n1_ n2_; (try clear hb); (try clear hb2); (try clear hk); (try clear hi)) | ((with_reducible refine gate_callee (f := 17) rfl ?_); refine goesL_ (some 48) rfl rfl Tryd.func17 (by kernel_rfl) rfl #[.string t655] rfl (by (try simp only [List.map_toArray, List.map_cons, List.map_nil]); first | done | rfl | (simp only [List.length_drop, List.length_take]; rfl)) ?_; (with_reducible refine (impl_ParseAddress.calls kj5 t655 t656 t657 t658 true _ A35.out).mono ?_); rintro e w42 ⟨rfl, hb⟩; refine ⟨_, rfl, ?_⟩; have n0_ := Aside0.mk (blk_below (g := gb649) (o := .cells #[.string t645, .string t646, .string t647] 31 (0, 0)) (by (with_reducible repeat (first | refine blk_drewN ?_ _ | refine blk_drew ?_ | refine blk_alloc ?_ _)); exact BK649.out) hb); have n1_ := Aside0.mk (blk_below (g := gb654) (o := .cells #[.string t650, .string t651, .string t652] 31 (0, 0)) (by (with_reducible repeat (first | refine blk_drewN ?_ _ | refine blk_drew ?_ | refine blk_alloc ?_ _)); exact BK654.out) hb); have n2_ := Aside0.mk (below_step (by repeat (first | (with_reducible first | exact HB.out | apply below_alloc | apply pw_below_drewN | apply below_drew1 | refine below_set ?_ GE649.out | refine below_set ?_ GE654.out) | exact HB.out)) hb); clear BK649; clear BK654; clear HB; have BK649 := n0_; have BK654 := n1_; have HB := n2_; clear n0_ n1_ n2_; (try clear hb); (try clear hb2); (try clear hk); (try clear hi)) | ((with_reducible refine gate_dst (N := 8) rfl ?_); refine box_event ?hg (N := 8) ?hd (cs := #[.string (⟨#[]⟩ : ByteArray), .string (⟨#[]⟩ : ByteArray), .string (⟨#[]⟩ : ByteArray)]) (t := 31) ?hr ?_; (case hd => rfl); (case hg => rfl); (case hr => first | (go_simp; done) | (go_simp; rfl)); intro gb660 hg w43 hbox hb; have n0_ := Aside0.mk (blk_below (g := gb649) (o := .cells #[.string t645, .string t646, .string t647] 31 (0, 0)) (by (with_reducible repeat (first | refine blk_drewN ?_ _ | refine blk_drew ?_ | refine blk_alloc ?_ _)); exact BK649.out) hb); have n1_ := Aside0.mk (blk_below (g := gb654) (o := .cells #[.string t650, .string t651, .string t652] 31 (0, 0)) (by (with_reducible repeat (first | refine blk_drewN ?_ _ | refine blk_drew ?_ | refine blk_alloc ?_ _)); exact BK654.out) hb); have n2_ := Aside0.mk (below_step (by repeat (first | (with_reducible first | exact HB.out | apply below_alloc | apply pw_below_drewN | apply below_drew1 | refine below_set ?_ GE649.out | refine below_set ?_ GE654.out) | exact HB.out)) hb); have n3_ := Aside0.mk (hbox); have n4_ := Aside0.mk ((by rw [hg]; exact (below_size (by repeat (first | (with_reducible first | exact HB.out | apply below_alloc | apply pw_below_drewN | apply below_drew1 | refine below_set ?_ GE649.out | refine below_set ?_ GE654.out) | exact HB.out))) : w.heap.size ≤ gb660)); have n5_ := Aside0.mk ((by rw [hg]; exact (below_size (by repeat (first | (with_reducible first | exact HB.out | apply below_alloc | apply pw_below_drewN | apply below_drew1 | refine below_set ?_ GE649.out | refine below_set ?_ GE654.out) | exact HB.out))) : w.heap.size ≤ gb660)); have n6_ := Aside0.mk ((by rw [hg]; exact Nat.ne_of_lt (blk_lt (g := gb649) (o := .cells #[.string t645, .string t646, .string t647] 31 (0, 0)) (by (with_reducible repeat (first | refine blk_drewN ?_ _ | refine blk_drew ?_ | refine blk_alloc ?_ _)); exact BK649.out)) : gb649 ≠ gb660)); have n7_ := Aside0.mk ((by rw [hg]; exact Nat.ne_of_gt (blk_lt (g := gb649) (o := .cells #[.string t645, .string t646, .string t647] 31 (0, 0)) (by (with_reducible repeat (first | refine blk_drewN ?_ _ | refine blk_drew ?_ | refine blk_alloc ?_ _)); exact BK649.out)) : gb660 ≠ gb649)); have n8_ := Aside0.mk ((by rw [hg]; exact Nat.ne_of_lt (blk_lt (g := gb654) (o := .cells #[.string t650, .string t651, .string t652] 31 (0, 0)) (by (with_reducible repeat (first | refine blk_drewN ?_ _ | refine blk_drew ?_ | refine blk_alloc ?_ _)); exact BK654.out)) : gb654 ≠ gb660)); have n9_ := Aside0.mk ((by rw [hg]; exact Nat.ne_of_gt (blk_lt (g := gb654) (o := .cells #[.string t650, .string t651, .string t652] 31 (0, 0)) (by (with_reducible repeat (first | refine blk_drewN ?_ _ | refine blk_drew ?_ | refine blk_alloc ?_ _)); exact BK654.out)) : gb660 ≠ gb654)); clear BK649; clear BK654; clear HB; have BK649 := n0_; have BK654 := n1_; have HB := n2_; have BK660 := n3_; have GW660 := n4_; have GE660 := n5_; have NB649_660 := n6_; have NB660_649 := n7_; have NB654_660 := n8_; have NB660_654 := n9_; clear n0_ n1_ n2_ n3_ n4_ n5_ n6_ n7_ n8_ n9_; clear hb hbox hg; have hnb44 := NB660_649.out; have hnc44 := NB649_660.out; have hnb45 := NB660_654.out; have hnc45 := NB654_660.out; have hcz46_0 : w43.cell? ⟨gb660, 0, none⟩ = some (.string (⟨#[]⟩ : ByteArray)) := (blk_cell BK660.out 0).trans rfl; have hcz46_1 : w43.cell? ⟨gb660, 1, none⟩ = some (.string (⟨#[]⟩ : ByteArray)) := (blk_cell BK660.out 1).trans rfl; have hcz46_2 : w43.cell? ⟨gb660, 2, none⟩ = some (.string (⟨#[]⟩ : ByteArray)) := (blk_cell BK660.out 2).trans rfl; have hfz46_0 := blk_frozen BK660.out 0; have hfz46_1 := blk_frozen BK660.out 1; have hfz46_2 := blk_frozen BK660.out 2; have hcz47_0 : w43.cell? ⟨gb649, 0, none⟩ = some (.string t645) := (blk_cell BK649.out 0).trans rfl; have hcz47_1 : w43.cell? ⟨gb649, 1, none⟩ = some (.string t646) := (blk_cell BK649.out 1).trans rfl; have hcz47_2 : w43.cell? ⟨gb649, 2, none⟩ = some (.string t647) := (blk_cell BK649.out 2).trans rfl; have hfz47_0 := blk_frozen BK649.out 0; have hfz47_1 := blk_frozen BK649.out 1; have hfz47_2 := blk_frozen BK649.out 2) | ((with_reducible refine gate_callee (f := 23) rfl ?_); refine goesL_ (some 52) rfl rfl Tryd.func23 (by kernel_rfl) rfl #[.agg #[.string t645, .string t646, .string t647]] rfl (by (try simp only [List.map_toArray, List.map_cons, List.map_nil]); first | done | rfl | (simp only [List.length_drop, List.length_take]; rfl)) ?_; (with_reducible refine (impl_AddressValid.calls kj5 t645 t646 t647 true _ A36.out).mono ?_); rintro e w48 ⟨rfl, hb⟩; refine ⟨_, rfl, ?_⟩; have n0_ := Aside0.mk (blk_below (g := gb649) (o := .cells #[.string t645, .string t646, .string t647] 31 (0, 0)) (by (with_reducible repeat (first | refine blk_drewN ?_ _ | refine blk_drew ?_ | refine blk_alloc ?_ _)); refine blk_far ?_ NB649_660.out _; (with_reducible repeat (first | refine blk_drewN ?_ _ | refine blk_drew ?_ | refine blk_alloc ?_ _)); refine blk_far ?_ NB649_660.out _; (with_reducible repeat (first | refine blk_drewN ?_ _ | refine blk_drew ?_ | refine blk_alloc ?_ _)); refine blk_far ?_ NB649_660.out _; (with_reducible repeat (first | refine blk_drewN ?_ _ | refine blk_drew ?_ | refine blk_alloc ?_ _)); exact BK649.out) hb); have n1_ := Aside0.mk (blk_below (g := gb654) (o := .cells #[.string t650, .string t651, .string t652] 31 (0, 0)) (by (with_reducible repeat (first | refine blk_drewN ?_ _ | refine blk_drew ?_ | refine blk_alloc ?_ _)); refine blk_far ?_ NB654_660.out _; (with_reducible repeat (first | refine blk_drewN ?_ _ | refine blk_drew ?_ | refine blk_alloc ?_ _)); refine blk_far ?_ NB654_660.out _; (with_reducible repeat (first | refine blk_drewN ?_ _ | refine blk_drew ?_ | refine blk_alloc ?_ _)); refine blk_far ?_ NB654_660.out _; (with_reducible repeat (first | refine blk_drewN ?_ _ | refine blk_drew ?_ | refine blk_alloc ?_ _)); exact BK654.out) hb); have n2_ := Aside0.mk (blk_below (g := gb660) (o := .cells #[.string t656, .string t657, .string t658] 31 (0, 0)) (by (with_reducible repeat (first | refine blk_drewN ?_ _ | refine blk_drew ?_ | refine blk_alloc ?_ _)); refine blk_put (cs := #[.string t656, .string t657, .string (⟨#[]⟩ : ByteArray)]) ?_ 2 _ rfl; (with_reducible repeat (first | refine blk_drewN ?_ _ | refine blk_drew ?_ | refine blk_alloc ?_ _)); refine blk_put (cs := #[.string t656, .string (⟨#[]⟩ : ByteArray), .string (⟨#[]⟩ : ByteArray)]) ?_ 1 _ rfl; (with_reducible repeat (first | refine blk_drewN ?_ _ | refine blk_drew ?_ | refine blk_alloc ?_ _)); refine blk_put (cs := #[.string (⟨#[]⟩ : ByteArray), .string (⟨#[]⟩ : ByteArray), .string (⟨#[]⟩ : ByteArray)]) ?_ 0 _ rfl; (with_reducible repeat (first | refine blk_drewN ?_ _ | refine blk_drew ?_ | refine blk_alloc ?_ _)); exact BK660.out) hb); have n3_ := Aside0.mk (below_step (by repeat (first | (with_reducible first | exact HB.out | apply below_alloc | apply pw_below_drewN | apply below_drew1 | refine below_set ?_ GE649.out | refine below_set ?_ GE654.out | refine below_set ?_ GE660.out) | exact HB.out)) hb); clear BK649; clear BK654; clear BK660; clear HB; have BK649 := n0_; have BK654 := n1_; have BK660 := n2_; have HB := n3_; clear n0_ n1_ n2_ n3_; (try clear hb); (try clear hb2); (try clear hk); (try clear hi); have hcz49_0 : w48.cell? ⟨gb660, 0, none⟩ = some (.string t656) := (blk_cell BK660.out 0).trans rfl; have hcz49_1 : w48.cell? ⟨gb660, 1, none⟩ = some (.string t657) := (blk_cell BK660.out 1).trans rfl; have hcz49_2 : w48.cell? ⟨gb660, 2, none⟩ = some (.string t658) := (blk_cell BK660.out 2).trans rfl; have hfz49_0 := blk_frozen BK660.out 0; have hfz49_1 := blk_frozen BK660.out 1; have hfz49_2 := blk_frozen BK660.out 2; have hcz50_0 : w48.cell? ⟨gb649, 0, none⟩ = some (.string t645) := (blk_cell BK649.out 0).trans rfl; have hcz50_1 : w48.cell? ⟨gb649, 1, none⟩ = some (.string t646) := (blk_cell BK649.out 1).trans rfl; have hcz50_2 : w48.cell? ⟨gb649, 2, none⟩ = some (.string t647) := (blk_cell BK649.out 2).trans rfl; have hfz50_0 := blk_frozen BK649.out 0; have hfz50_1 := blk_frozen BK649.out 1; have hfz50_2 := blk_frozen BK649.out 2))
       go_ret
       exact ⟨by first | rfl | (simp [errW_none, errW_some] <;> rfl) | (simp [*, errW_none, errW_some] <;> rfl), by repeat (first | (with_reducible first | exact HB.out | apply below_alloc | apply pw_below_drewN | apply below_drew1 | refine below_set ?_ GE649.out | refine below_set ?_ GE654.out | refine below_set ?_ GE660.out) | exact HB.out)⟩
      ·replace c38 := Bool.eq_false_iff.mpr c38
       subst c38
       have H1 : (some false) = some r := by rw [if_neg (show ¬ (false = true) by decide)] at H; exact H
       clear H
       have H := H1
       clear H1
       obtain rfl := Option.some.inj H
       have hnb51 := NB649_654.out
       have hnc51 := NB654_649.out
       have hcz52_0 : wc.cell? ⟨gb649, 0, none⟩ = some (.string t645) := (blk_cell BK649.out 0).trans rfl
       have hcz52_1 : wc.cell? ⟨gb649, 1, none⟩ = some (.string t646) := (blk_cell BK649.out 1).trans rfl
       have hcz52_2 : wc.cell? ⟨gb649, 2, none⟩ = some (.string t647) := (blk_cell BK649.out 2).trans rfl
       have hfz52_0 := blk_frozen BK649.out 0
       have hfz52_1 := blk_frozen BK649.out 1
       have hfz52_2 := blk_frozen BK649.out 2
       go_wp2_with (first | ((with_reducible refine gate_callee (f := 19) rfl ?_); refine goesL_ (some 47) rfl rfl Tryd.func19 (by kernel_rfl) rfl #[.agg #[.string t645, .string t646, .string t647]] rfl (by (try simp only [List.map_toArray, List.map_cons, List.map_nil]); first | done | rfl | (simp only [List.length_drop, List.length_take]; rfl)) ?_; (with_reducible refine (impl_FormatAddress.calls kj5 t645 t646 t647 t655 _ A34.out).mono ?_); rintro e w53 ⟨rfl, hb⟩; refine ⟨_, rfl, ?_⟩; have n0_ := Aside0.mk (blk_below (g := gb649) (o := .cells #[.string t645, .string t646, .string t647] 31 (0, 0)) (by (with_reducible repeat (first | refine blk_drewN ?_ _ | refine blk_drew ?_ | refine blk_alloc ?_ _)); exact BK649.out) hb); have n1_ := Aside0.mk (blk_below (g := gb654) (o := .cells #[.string t650, .string t651, .string t652] 31 (0, 0)) (by (with_reducible repeat (first | refine blk_drewN ?_ _ | refine blk_drew ?_ | refine blk_alloc ?_ _)); exact BK654.out) hb); have n2_ := Aside0.mk (below_step (by repeat (first | (with_reducible first | exact HB.out | apply below_alloc | apply pw_below_drewN | apply below_drew1 | refine below_set ?_ GE649.out | refine below_set ?_ GE654.out) | exact HB.out)) hb); clear BK649; clear BK654; clear HB; have BK649 := n0_; have BK654 := n1_; have HB := n2_; clear n0_ n1_ n2_; (try clear hb); (try clear hb2); (try clear hk); (try clear hi)) | ((with_reducible refine gate_callee (f := 17) rfl ?_); refine goesL_ (some 48) rfl rfl Tryd.func17 (by kernel_rfl) rfl #[.string t655] rfl (by (try simp only [List.map_toArray, List.map_cons, List.map_nil]); first | done | rfl | (simp only [List.length_drop, List.length_take]; rfl)) ?_; (with_reducible refine (impl_ParseAddress.calls kj5 t655 t656 t657 t658 false _ A35.out).mono ?_); rintro e w54 ⟨rfl, hb⟩; refine ⟨_, rfl, ?_⟩; have n0_ := Aside0.mk (blk_below (g := gb649) (o := .cells #[.string t645, .string t646, .string t647] 31 (0, 0)) (by (with_reducible repeat (first | refine blk_drewN ?_ _ | refine blk_drew ?_ | refine blk_alloc ?_ _)); exact BK649.out) hb); have n1_ := Aside0.mk (blk_below (g := gb654) (o := .cells #[.string t650, .string t651, .string t652] 31 (0, 0)) (by (with_reducible repeat (first | refine blk_drewN ?_ _ | refine blk_drew ?_ | refine blk_alloc ?_ _)); exact BK654.out) hb); have n2_ := Aside0.mk (below_step (by repeat (first | (with_reducible first | exact HB.out | apply below_alloc | apply pw_below_drewN | apply below_drew1 | refine below_set ?_ GE649.out | refine below_set ?_ GE654.out) | exact HB.out)) hb); clear BK649; clear BK654; clear HB; have BK649 := n0_; have BK654 := n1_; have HB := n2_; clear n0_ n1_ n2_; (try clear hb); (try clear hb2); (try clear hk); (try clear hi)) | ((with_reducible refine gate_dst (N := 8) rfl ?_); refine box_event ?hg (N := 8) ?hd (cs := #[.string (⟨#[]⟩ : ByteArray), .string (⟨#[]⟩ : ByteArray), .string (⟨#[]⟩ : ByteArray)]) (t := 31) ?hr ?_; (case hd => rfl); (case hg => rfl); (case hr => first | (go_simp; done) | (go_simp; rfl)); intro gb660 hg w55 hbox hb; have n0_ := Aside0.mk (blk_below (g := gb649) (o := .cells #[.string t645, .string t646, .string t647] 31 (0, 0)) (by (with_reducible repeat (first | refine blk_drewN ?_ _ | refine blk_drew ?_ | refine blk_alloc ?_ _)); exact BK649.out) hb); have n1_ := Aside0.mk (blk_below (g := gb654) (o := .cells #[.string t650, .string t651, .string t652] 31 (0, 0)) (by (with_reducible repeat (first | refine blk_drewN ?_ _ | refine blk_drew ?_ | refine blk_alloc ?_ _)); exact BK654.out) hb); have n2_ := Aside0.mk (below_step (by repeat (first | (with_reducible first | exact HB.out | apply below_alloc | apply pw_below_drewN | apply below_drew1 | refine below_set ?_ GE649.out | refine below_set ?_ GE654.out) | exact HB.out)) hb); have n3_ := Aside0.mk (hbox); have n4_ := Aside0.mk ((by rw [hg]; exact (below_size (by repeat (first | (with_reducible first | exact HB.out | apply below_alloc | apply pw_below_drewN | apply below_drew1 | refine below_set ?_ GE649.out | refine below_set ?_ GE654.out) | exact HB.out))) : w.heap.size ≤ gb660)); have n5_ := Aside0.mk ((by rw [hg]; exact (below_size (by repeat (first | (with_reducible first | exact HB.out | apply below_alloc | apply pw_below_drewN | apply below_drew1 | refine below_set ?_ GE649.out | refine below_set ?_ GE654.out) | exact HB.out))) : w.heap.size ≤ gb660)); have n6_ := Aside0.mk ((by rw [hg]; exact Nat.ne_of_lt (blk_lt (g := gb649) (o := .cells #[.string t645, .string t646, .string t647] 31 (0, 0)) (by (with_reducible repeat (first | refine blk_drewN ?_ _ | refine blk_drew ?_ | refine blk_alloc ?_ _)); exact BK649.out)) : gb649 ≠ gb660)); have n7_ := Aside0.mk ((by rw [hg]; exact Nat.ne_of_gt (blk_lt (g := gb649) (o := .cells #[.string t645, .string t646, .string t647] 31 (0, 0)) (by (with_reducible repeat (first | refine blk_drewN ?_ _ | refine blk_drew ?_ | refine blk_alloc ?_ _)); exact BK649.out)) : gb660 ≠ gb649)); have n8_ := Aside0.mk ((by rw [hg]; exact Nat.ne_of_lt (blk_lt (g := gb654) (o := .cells #[.string t650, .string t651, .string t652] 31 (0, 0)) (by (with_reducible repeat (first | refine blk_drewN ?_ _ | refine blk_drew ?_ | refine blk_alloc ?_ _)); exact BK654.out)) : gb654 ≠ gb660)); have n9_ := Aside0.mk ((by rw [hg]; exact Nat.ne_of_gt (blk_lt (g := gb654) (o := .cells #[.string t650, .string t651, .string t652] 31 (0, 0)) (by (with_reducible repeat (first | refine blk_drewN ?_ _ | refine blk_drew ?_ | refine blk_alloc ?_ _)); exact BK654.out)) : gb660 ≠ gb654)); clear BK649; clear BK654; clear HB; have BK649 := n0_; have BK654 := n1_; have HB := n2_; have BK660 := n3_; have GW660 := n4_; have GE660 := n5_; have NB649_660 := n6_; have NB660_649 := n7_; have NB654_660 := n8_; have NB660_654 := n9_; clear n0_ n1_ n2_ n3_ n4_ n5_ n6_ n7_ n8_ n9_; clear hb hbox hg; have hnb56 := NB660_649.out; have hnc56 := NB649_660.out; have hnb57 := NB660_654.out; have hnc57 := NB654_660.out; have hcz58_0 : w55.cell? ⟨gb660, 0, none⟩ = some (.string (⟨#[]⟩ : ByteArray)) := (blk_cell BK660.out 0).trans rfl; have hcz58_1 : w55.cell? ⟨gb660, 1, none⟩ = some (.string (⟨#[]⟩ : ByteArray)) := (blk_cell BK660.out 1).trans rfl; have hcz58_2 : w55.cell? ⟨gb660, 2, none⟩ = some (.string (⟨#[]⟩ : ByteArray)) := (blk_cell BK660.out 2).trans rfl; have hfz58_0 := blk_frozen BK660.out 0; have hfz58_1 := blk_frozen BK660.out 1; have hfz58_2 := blk_frozen BK660.out 2; have hcz59_0 : w55.cell? ⟨gb649, 0, none⟩ = some (.string t645) := (blk_cell BK649.out 0).trans rfl; have hcz59_1 : w55.cell? ⟨gb649, 1, none⟩ = some (.string t646) := (blk_cell BK649.out 1).trans rfl; have hcz59_2 : w55.cell? ⟨gb649, 2, none⟩ = some (.string t647) := (blk_cell BK649.out 2).trans rfl; have hfz59_0 := blk_frozen BK649.out 0; have hfz59_1 := blk_frozen BK649.out 1; have hfz59_2 := blk_frozen BK649.out 2) | ((with_reducible refine gate_callee (f := 23) rfl ?_); refine goesL_ (some 52) rfl rfl Tryd.func23 (by kernel_rfl) rfl #[.agg #[.string t645, .string t646, .string t647]] rfl (by (try simp only [List.map_toArray, List.map_cons, List.map_nil]); first | done | rfl | (simp only [List.length_drop, List.length_take]; rfl)) ?_; (with_reducible refine (impl_AddressValid.calls kj5 t645 t646 t647 true _ A36.out).mono ?_); rintro e w60 ⟨rfl, hb⟩; refine ⟨_, rfl, ?_⟩; have n0_ := Aside0.mk (blk_below (g := gb649) (o := .cells #[.string t645, .string t646, .string t647] 31 (0, 0)) (by (with_reducible repeat (first | refine blk_drewN ?_ _ | refine blk_drew ?_ | refine blk_alloc ?_ _)); refine blk_far ?_ NB649_660.out _; (with_reducible repeat (first | refine blk_drewN ?_ _ | refine blk_drew ?_ | refine blk_alloc ?_ _)); refine blk_far ?_ NB649_660.out _; (with_reducible repeat (first | refine blk_drewN ?_ _ | refine blk_drew ?_ | refine blk_alloc ?_ _)); refine blk_far ?_ NB649_660.out _; (with_reducible repeat (first | refine blk_drewN ?_ _ | refine blk_drew ?_ | refine blk_alloc ?_ _)); exact BK649.out) hb); have n1_ := Aside0.mk (blk_below (g := gb654) (o := .cells #[.string t650, .string t651, .string t652] 31 (0, 0)) (by (with_reducible repeat (first | refine blk_drewN ?_ _ | refine blk_drew ?_ | refine blk_alloc ?_ _)); refine blk_far ?_ NB654_660.out _; (with_reducible repeat (first | refine blk_drewN ?_ _ | refine blk_drew ?_ | refine blk_alloc ?_ _)); refine blk_far ?_ NB654_660.out _; (with_reducible repeat (first | refine blk_drewN ?_ _ | refine blk_drew ?_ | refine blk_alloc ?_ _)); refine blk_far ?_ NB654_660.out _; (with_reducible repeat (first | refine blk_drewN ?_ _ | refine blk_drew ?_ | refine blk_alloc ?_ _)); exact BK654.out) hb); have n2_ := Aside0.mk (blk_below (g := gb660) (o := .cells #[.string t656, .string t657, .string t658] 31 (0, 0)) (by (with_reducible repeat (first | refine blk_drewN ?_ _ | refine blk_drew ?_ | refine blk_alloc ?_ _)); refine blk_put (cs := #[.string t656, .string t657, .string (⟨#[]⟩ : ByteArray)]) ?_ 2 _ rfl; (with_reducible repeat (first | refine blk_drewN ?_ _ | refine blk_drew ?_ | refine blk_alloc ?_ _)); refine blk_put (cs := #[.string t656, .string (⟨#[]⟩ : ByteArray), .string (⟨#[]⟩ : ByteArray)]) ?_ 1 _ rfl; (with_reducible repeat (first | refine blk_drewN ?_ _ | refine blk_drew ?_ | refine blk_alloc ?_ _)); refine blk_put (cs := #[.string (⟨#[]⟩ : ByteArray), .string (⟨#[]⟩ : ByteArray), .string (⟨#[]⟩ : ByteArray)]) ?_ 0 _ rfl; (with_reducible repeat (first | refine blk_drewN ?_ _ | refine blk_drew ?_ | refine blk_alloc ?_ _)); exact BK660.out) hb); have n3_ := Aside0.mk (below_step (by repeat (first | (with_reducible first | exact HB.out | apply below_alloc | apply pw_below_drewN | apply below_drew1 | refine below_set ?_ GE649.out | refine below_set ?_ GE654.out | refine below_set ?_ GE660.out) | exact HB.out)) hb); clear BK649; clear BK654; clear BK660; clear HB; have BK649 := n0_; have BK654 := n1_; have BK660 := n2_; have HB := n3_; clear n0_ n1_ n2_ n3_; (try clear hb); (try clear hb2); (try clear hk); (try clear hi)))
       go_ret
       exact ⟨by first | rfl | (simp [errW_none, errW_some] <;> rfl) | (simp [*, errW_none, errW_some] <;> rfl), by repeat (first | (with_reducible first | exact HB.out | apply below_alloc | apply pw_below_drewN | apply below_drew1 | refine below_set ?_ GE649.out | refine below_set ?_ GE654.out | refine below_set ?_ GE660.out) | exact HB.out)⟩
     ·replace c37 := Bool.eq_false_iff.mpr c37
      subst c37
      have H1 : (some false) = some r := by rw [if_neg (show ¬ (false = true) by decide)] at H; exact H
      clear H
      have H := H1
      clear H1
      obtain rfl := Option.some.inj H
      have hnb61 := NB649_654.out
      have hnc61 := NB654_649.out
      have hcz62_0 : wc.cell? ⟨gb649, 0, none⟩ = some (.string t645) := (blk_cell BK649.out 0).trans rfl
      have hcz62_1 : wc.cell? ⟨gb649, 1, none⟩ = some (.string t646) := (blk_cell BK649.out 1).trans rfl
      have hcz62_2 : wc.cell? ⟨gb649, 2, none⟩ = some (.string t647) := (blk_cell BK649.out 2).trans rfl
      have hfz62_0 := blk_frozen BK649.out 0
      have hfz62_1 := blk_frozen BK649.out 1
      have hfz62_2 := blk_frozen BK649.out 2
      go_wp2_with (first | ((with_reducible refine gate_callee (f := 19) rfl ?_); refine goesL_ (some 47) rfl rfl Tryd.func19 (by kernel_rfl) rfl #[.agg #[.string t645, .string t646, .string t647]] rfl (by (try simp only [List.map_toArray, List.map_cons, List.map_nil]); first | done | rfl | (simp only [List.length_drop, List.length_take]; rfl)) ?_; (with_reducible refine (impl_FormatAddress.calls kj5 t645 t646 t647 t655 _ A34.out).mono ?_); rintro e w63 ⟨rfl, hb⟩; refine ⟨_, rfl, ?_⟩; have n0_ := Aside0.mk (blk_below (g := gb649) (o := .cells #[.string t645, .string t646, .string t647] 31 (0, 0)) (by (with_reducible repeat (first | refine blk_drewN ?_ _ | refine blk_drew ?_ | refine blk_alloc ?_ _)); exact BK649.out) hb); have n1_ := Aside0.mk (blk_below (g := gb654) (o := .cells #[.string t650, .string t651, .string t652] 31 (0, 0)) (by (with_reducible repeat (first | refine blk_drewN ?_ _ | refine blk_drew ?_ | refine blk_alloc ?_ _)); exact BK654.out) hb); have n2_ := Aside0.mk (below_step (by repeat (first | (with_reducible first | exact HB.out | apply below_alloc | apply pw_below_drewN | apply below_drew1 | refine below_set ?_ GE649.out | refine below_set ?_ GE654.out) | exact HB.out)) hb); clear BK649; clear BK654; clear HB; have BK649 := n0_; have BK654 := n1_; have HB := n2_; clear n0_ n1_ n2_; (try clear hb); (try clear hb2); (try clear hk); (try clear hi)) | ((with_reducible refine gate_callee (f := 17) rfl ?_); refine goesL_ (some 48) rfl rfl Tryd.func17 (by kernel_rfl) rfl #[.string t655] rfl (by (try simp only [List.map_toArray, List.map_cons, List.map_nil]); first | done | rfl | (simp only [List.length_drop, List.length_take]; rfl)) ?_; (with_reducible refine (impl_ParseAddress.calls kj5 t655 t656 t657 t658 t659 _ A35.out).mono ?_); rintro e w64 ⟨rfl, hb⟩; refine ⟨_, rfl, ?_⟩; have n0_ := Aside0.mk (blk_below (g := gb649) (o := .cells #[.string t645, .string t646, .string t647] 31 (0, 0)) (by (with_reducible repeat (first | refine blk_drewN ?_ _ | refine blk_drew ?_ | refine blk_alloc ?_ _)); exact BK649.out) hb); have n1_ := Aside0.mk (blk_below (g := gb654) (o := .cells #[.string t650, .string t651, .string t652] 31 (0, 0)) (by (with_reducible repeat (first | refine blk_drewN ?_ _ | refine blk_drew ?_ | refine blk_alloc ?_ _)); exact BK654.out) hb); have n2_ := Aside0.mk (below_step (by repeat (first | (with_reducible first | exact HB.out | apply below_alloc | apply pw_below_drewN | apply below_drew1 | refine below_set ?_ GE649.out | refine below_set ?_ GE654.out) | exact HB.out)) hb); clear BK649; clear BK654; clear HB; have BK649 := n0_; have BK654 := n1_; have HB := n2_; clear n0_ n1_ n2_; (try clear hb); (try clear hb2); (try clear hk); (try clear hi)) | ((with_reducible refine gate_dst (N := 8) rfl ?_); refine box_event ?hg (N := 8) ?hd (cs := #[.string (⟨#[]⟩ : ByteArray), .string (⟨#[]⟩ : ByteArray), .string (⟨#[]⟩ : ByteArray)]) (t := 31) ?hr ?_; (case hd => rfl); (case hg => rfl); (case hr => first | (go_simp; done) | (go_simp; rfl)); intro gb660 hg w65 hbox hb; have n0_ := Aside0.mk (blk_below (g := gb649) (o := .cells #[.string t645, .string t646, .string t647] 31 (0, 0)) (by (with_reducible repeat (first | refine blk_drewN ?_ _ | refine blk_drew ?_ | refine blk_alloc ?_ _)); exact BK649.out) hb); have n1_ := Aside0.mk (blk_below (g := gb654) (o := .cells #[.string t650, .string t651, .string t652] 31 (0, 0)) (by (with_reducible repeat (first | refine blk_drewN ?_ _ | refine blk_drew ?_ | refine blk_alloc ?_ _)); exact BK654.out) hb); have n2_ := Aside0.mk (below_step (by repeat (first | (with_reducible first | exact HB.out | apply below_alloc | apply pw_below_drewN | apply below_drew1 | refine below_set ?_ GE649.out | refine below_set ?_ GE654.out) | exact HB.out)) hb); have n3_ := Aside0.mk (hbox); have n4_ := Aside0.mk ((by rw [hg]; exact (below_size (by repeat (first | (with_reducible first | exact HB.out | apply below_alloc | apply pw_below_drewN | apply below_drew1 | refine below_set ?_ GE649.out | refine below_set ?_ GE654.out) | exact HB.out))) : w.heap.size ≤ gb660)); have n5_ := Aside0.mk ((by rw [hg]; exact (below_size (by repeat (first | (with_reducible first | exact HB.out | apply below_alloc | apply pw_below_drewN | apply below_drew1 | refine below_set ?_ GE649.out | refine below_set ?_ GE654.out) | exact HB.out))) : w.heap.size ≤ gb660)); have n6_ := Aside0.mk ((by rw [hg]; exact Nat.ne_of_lt (blk_lt (g := gb649) (o := .cells #[.string t645, .string t646, .string t647] 31 (0, 0)) (by (with_reducible repeat (first | refine blk_drewN ?_ _ | refine blk_drew ?_ | refine blk_alloc ?_ _)); exact BK649.out)) : gb649 ≠ gb660)); have n7_ := Aside0.mk ((by rw [hg]; exact Nat.ne_of_gt (blk_lt (g := gb649) (o := .cells #[.string t645, .string t646, .string t647] 31 (0, 0)) (by (with_reducible repeat (first | refine blk_drewN ?_ _ | refine blk_drew ?_ | refine blk_alloc ?_ _)); exact BK649.out)) : gb660 ≠ gb649)); have n8_ := Aside0.mk ((by rw [hg]; exact Nat.ne_of_lt (blk_lt (g := gb654) (o := .cells #[.string t650, .string t651, .string t652] 31 (0, 0)) (by (with_reducible repeat (first | refine blk_drewN ?_ _ | refine blk_drew ?_ | refine blk_alloc ?_ _)); exact BK654.out)) : gb654 ≠ gb660)); have n9_ := Aside0.mk ((by rw [hg]; exact Nat.ne_of_gt (blk_lt (g := gb654) (o := .cells #[.string t650, .string t651, .string t652] 31 (0, 0)) (by (with_reducible repeat (first | refine blk_drewN ?_ _ | refine blk_drew ?_ | refine blk_alloc ?_ _)); exact BK654.out)) : gb660 ≠ gb654)); clear BK649; clear BK654; clear HB; have BK649 := n0_; have BK654 := n1_; have HB := n2_; have BK660 := n3_; have GW660 := n4_; have GE660 := n5_; have NB649_660 := n6_; have NB660_649 := n7_; have NB654_660 := n8_; have NB660_654 := n9_; clear n0_ n1_ n2_ n3_ n4_ n5_ n6_ n7_ n8_ n9_; clear hb hbox hg; have hnb66 := NB660_649.out; have hnc66 := NB649_660.out; have hnb67 := NB660_654.out; have hnc67 := NB654_660.out; have hcz68_0 : w65.cell? ⟨gb660, 0, none⟩ = some (.string (⟨#[]⟩ : ByteArray)) := (blk_cell BK660.out 0).trans rfl; have hcz68_1 : w65.cell? ⟨gb660, 1, none⟩ = some (.string (⟨#[]⟩ : ByteArray)) := (blk_cell BK660.out 1).trans rfl; have hcz68_2 : w65.cell? ⟨gb660, 2, none⟩ = some (.string (⟨#[]⟩ : ByteArray)) := (blk_cell BK660.out 2).trans rfl; have hfz68_0 := blk_frozen BK660.out 0; have hfz68_1 := blk_frozen BK660.out 1; have hfz68_2 := blk_frozen BK660.out 2; have hcz69_0 : w65.cell? ⟨gb649, 0, none⟩ = some (.string t645) := (blk_cell BK649.out 0).trans rfl; have hcz69_1 : w65.cell? ⟨gb649, 1, none⟩ = some (.string t646) := (blk_cell BK649.out 1).trans rfl; have hcz69_2 : w65.cell? ⟨gb649, 2, none⟩ = some (.string t647) := (blk_cell BK649.out 2).trans rfl; have hfz69_0 := blk_frozen BK649.out 0; have hfz69_1 := blk_frozen BK649.out 1; have hfz69_2 := blk_frozen BK649.out 2) | ((with_reducible refine gate_callee (f := 23) rfl ?_); refine goesL_ (some 52) rfl rfl Tryd.func23 (by kernel_rfl) rfl #[.agg #[.string t645, .string t646, .string t647]] rfl (by (try simp only [List.map_toArray, List.map_cons, List.map_nil]); first | done | rfl | (simp only [List.length_drop, List.length_take]; rfl)) ?_; (with_reducible refine (impl_AddressValid.calls kj5 t645 t646 t647 false _ A36.out).mono ?_); rintro e w70 ⟨rfl, hb⟩; refine ⟨_, rfl, ?_⟩; have n0_ := Aside0.mk (blk_below (g := gb649) (o := .cells #[.string t645, .string t646, .string t647] 31 (0, 0)) (by (with_reducible repeat (first | refine blk_drewN ?_ _ | refine blk_drew ?_ | refine blk_alloc ?_ _)); refine blk_far ?_ NB649_660.out _; (with_reducible repeat (first | refine blk_drewN ?_ _ | refine blk_drew ?_ | refine blk_alloc ?_ _)); refine blk_far ?_ NB649_660.out _; (with_reducible repeat (first | refine blk_drewN ?_ _ | refine blk_drew ?_ | refine blk_alloc ?_ _)); refine blk_far ?_ NB649_660.out _; (with_reducible repeat (first | refine blk_drewN ?_ _ | refine blk_drew ?_ | refine blk_alloc ?_ _)); exact BK649.out) hb); have n1_ := Aside0.mk (blk_below (g := gb654) (o := .cells #[.string t650, .string t651, .string t652] 31 (0, 0)) (by (with_reducible repeat (first | refine blk_drewN ?_ _ | refine blk_drew ?_ | refine blk_alloc ?_ _)); refine blk_far ?_ NB654_660.out _; (with_reducible repeat (first | refine blk_drewN ?_ _ | refine blk_drew ?_ | refine blk_alloc ?_ _)); refine blk_far ?_ NB654_660.out _; (with_reducible repeat (first | refine blk_drewN ?_ _ | refine blk_drew ?_ | refine blk_alloc ?_ _)); refine blk_far ?_ NB654_660.out _; (with_reducible repeat (first | refine blk_drewN ?_ _ | refine blk_drew ?_ | refine blk_alloc ?_ _)); exact BK654.out) hb); have n2_ := Aside0.mk (blk_below (g := gb660) (o := .cells #[.string t656, .string t657, .string t658] 31 (0, 0)) (by (with_reducible repeat (first | refine blk_drewN ?_ _ | refine blk_drew ?_ | refine blk_alloc ?_ _)); refine blk_put (cs := #[.string t656, .string t657, .string (⟨#[]⟩ : ByteArray)]) ?_ 2 _ rfl; (with_reducible repeat (first | refine blk_drewN ?_ _ | refine blk_drew ?_ | refine blk_alloc ?_ _)); refine blk_put (cs := #[.string t656, .string (⟨#[]⟩ : ByteArray), .string (⟨#[]⟩ : ByteArray)]) ?_ 1 _ rfl; (with_reducible repeat (first | refine blk_drewN ?_ _ | refine blk_drew ?_ | refine blk_alloc ?_ _)); refine blk_put (cs := #[.string (⟨#[]⟩ : ByteArray), .string (⟨#[]⟩ : ByteArray), .string (⟨#[]⟩ : ByteArray)]) ?_ 0 _ rfl; (with_reducible repeat (first | refine blk_drewN ?_ _ | refine blk_drew ?_ | refine blk_alloc ?_ _)); exact BK660.out) hb); have n3_ := Aside0.mk (below_step (by repeat (first | (with_reducible first | exact HB.out | apply below_alloc | apply pw_below_drewN | apply below_drew1 | refine below_set ?_ GE649.out | refine below_set ?_ GE654.out | refine below_set ?_ GE660.out) | exact HB.out)) hb); clear BK649; clear BK654; clear BK660; clear HB; have BK649 := n0_; have BK654 := n1_; have BK660 := n2_; have HB := n3_; clear n0_ n1_ n2_ n3_; (try clear hb); (try clear hb2); (try clear hk); (try clear hi)))
      go_ret
      exact ⟨by first | rfl | (simp [errW_none, errW_some] <;> rfl) | (simp [*, errW_none, errW_some] <;> rfl), by repeat (first | (with_reducible first | exact HB.out | apply below_alloc | apply pw_below_drewN | apply below_drew1 | refine below_set ?_ GE649.out | refine below_set ?_ GE654.out | refine below_set ?_ GE660.out) | exact HB.out)⟩

/-- THE ONE PURE STATEMENT of laws_FnParseAddress: yours. -/
def laws_FnParseAddress.Pure : Prop := ∀ (l0 : List Int), l0.length ≤ maxLen → l0.length * 1 ≤ 140737488351232 → (∀ x ∈ l0, (Lit.int .u8 x).wf = true) → ∃ k, laws_FnParseAddress.f k l0 = some true
theorem laws_FnParseAddress.walk (P : laws_FnParseAddress.Pure) (a0 : Option Addr) (len0 cap0 : Nat) (z0 : List Int) (w : World) (w0 : (a0 = none ∧ len0 = 0 ∧ cap0 = 0 ∧ z0 = []) ∨ ∃ x, a0 = some x ∧ len0 ≤ cap0 ∧ cap0 ≤ maxLen ∧ z0.length = cap0 ∧ (∀ i, i < z0.length → w.cell? (x.add i) = some (.int .u8 (z0.getD i 0))) ∧ ∀ n ∈ z0, (Lit.int .u8 n).wf = true) (y0 : len0 * 1 ≤ 140737488351232) :
  Calls Tryd.prog 8 #[.slice a0 len0 cap0] w fun e w' => e = .returned (.bool true) ∧ Below w.heap.size w w' := by
 obtain ⟨l0, rfl, hr0, hm0, hw0, hc0⟩ := ReadsInt.ofRowC w0
 obtain ⟨k, h⟩ := P l0 hm0 y0 hw0
 refine (laws_FnParseAddress.calls k _ _ l0 true w (Kd.C_of_reads (d := (0 : Int)) (h1 := fun _ => rfl) hr0) hc0 h).mono ?_
 rintro e w' ⟨rfl, hd⟩
 exact ⟨rfl, hd⟩

end Go.Proofs.YtmehlmhpgbjddaaDoor.Q
