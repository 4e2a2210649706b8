/- What functions of the program come to, written by a program of this session (mwprint.py); no condition. -/
import Derived.Test.YtmehlmhpgbjddaaDoorQ0
import Derived.Test.YtmehlmhpgbjddaaDoorQ1
import Derived.Test.YtmehlmhpgbjddaaDoorQ3
import Derived.Test.YtmehlmhpgbjddaaDoorQ4
import Derived.Test.YtmehlmhpgbjddaaDoorQ7
import Derived.Test.YtmehlmhpgbjddaaDoorQ9
import Derived.Test.YtmehlmhpgbjddaaDoorQ15
import Derived.Test.YtmehlmhpgbjddaaDoorQ16
namespace Go.Proofs.YtmehlmhpgbjddaaDoor.Q
open Go.RowKit Go.Proofs.YtmehlmhpgbjddaaDoorV.PrintWords Go.Proofs.YtmehlmhpgbjddaaDoorV.PrintLast Go.Proofs.YtmehlmhpgbjddaaDoorV.PrintMore
attribute [local go_sem] max2_int min2_int max_two min_two max_three min_three max_four min_four   -- for this text's walks alone
set_option linter.unusedVariables false
set_option linter.unusedSimpArgs false
attribute [local go_sem high] eqA31
/-! ### laws_FnListOne: function 4 -/
def laws_FnListOne.j0 : Nat → Bool → Bool → Bool → ByteArray → ByteArray → ByteArray → ByteArray → ByteArray → ByteArray → Option (Bool)
 | 0, _, _, _, _, _, _, _, _, _ => none
 | k + 1, x5, x7, x36, x620000, x620001, x620002, x625000, x625001, x625002 => if x36 = true then (if (x620000.toList == x625000.toList && (x620001.toList == x625001.toList && (x620002.toList == x625002.toList))) = true then (some (x5 == x7)) else (some false)) else ((impl_FormatAddress.f k x620000 x620001 x620002).bind fun t625 => ((impl_ParseList.f k t625).bind fun bt626 => (if bt626.2 = true then (if (bt626.1.length : Int) = 1 then (if 0 < (bt626.1.length : Int) then (if ((((rd_T31 bt626.1 0).f0).toList) == x620000.toList && ((((rd_T31 bt626.1 0).f1).toList) == x620001.toList && ((((rd_T31 bt626.1 0).f2).toList) == x620002.toList))) = true then ((impl_FormatList.f k bt626.1).bind fun t631 => ((impl_FormatAddress.f k x620000 x620001 x620002).bind fun t632 => (some (t631.toList == t632.toList)))) else (some false)) else (none)) else (some false)) else (some false))))
def laws_FnListOne.f (k : Nat) (l0 : List Int) : Option (Bool) := if (l0.length : Int) > 1048576 then (some true) else ((spec_DrawParseAddress.f k l0).bind fun t614 => ((impl_ParseAddress.f k t614).bind fun bt615 => ((spec_ParseAddress.f k t614).bind fun bt620 => (if (!(bt615.1.toList == bt620.1.toList) || (!(bt615.2.1.toList == bt620.2.1.toList) || (!(bt615.2.2.1.toList == bt620.2.2.1.toList)))) = true then (laws_FnListOne.j0 k bt615.2.2.2 bt620.2.2.2 true bt615.1 bt615.2.1 bt615.2.2.1 bt620.1 bt620.2.1 bt620.2.2.1) else (if (bt615.2.2.2 != bt620.2.2.2) = true then (laws_FnListOne.j0 k bt615.2.2.2 bt620.2.2.2 true bt615.1 bt615.2.1 bt615.2.2.1 bt620.1 bt620.2.1 bt620.2.2.1) else (laws_FnListOne.j0 k bt615.2.2.2 bt620.2.2.2 (!bt615.2.2.2) bt615.1 bt615.2.1 bt615.2.2.1 bt620.1 bt620.2.1 bt620.2.2.1))))))
theorem laws_FnListOne.mono_l : ∀ k, (∀ y0 y1 y2 y3 y4 y5 y6 y7 y8, LeO (laws_FnListOne.j0 k y0 y1 y2 y3 y4 y5 y6 y7 y8) (laws_FnListOne.j0 (k + 1) y0 y1 y2 y3 y4 y5 y6 y7 y8))
 | 0 => fun _ _ _ _ _ _ _ _ _ r h => by simp [laws_FnListOne.j0] at h
 | k + 1 => by
  have ih0 := laws_FnListOne.mono_l k
  ·intro y0 y1 y2 y3 y4 y5 y6 y7 y8
   unfold laws_FnListOne.j0
   repeat' first
   | (with_reducible first | exact ih0 _ _ _ _ _ _ _ _ _ | exact impl_FormatAddress.mono _ _ _ _ | exact impl_FormatList.mono _ _ | exact impl_ParseAddress.mono _ _ | exact impl_ParseList.mono _ _ | exact spec_DrawParseAddress.mono _ _ | exact spec_ParseAddress.mono _ _ | exact LeO.refl _ | exact LeO.none _ | refine LeO.ite ?_ ?_ | refine LeO.bind ?_ (fun _ => ?_)) | exact ih0 _ _ _ _ _ _ _ _ _ | exact impl_FormatAddress.mono _ _ _ _ | exact impl_FormatList.mono _ _ | exact impl_ParseAddress.mono _ _ | exact impl_ParseList.mono _ _ | exact spec_DrawParseAddress.mono _ _ | exact spec_ParseAddress.mono _ _ | exact LeO.none _ | refine LeO.ite ?_ ?_ | refine LeO.bind ?_ (fun _ => ?_)
theorem laws_FnListOne.mono : ∀ a0 k, LeO (laws_FnListOne.f k a0) (laws_FnListOne.f (k + 1) a0) := by
 intro a0 k
 have ih0 := laws_FnListOne.mono_l k
 unfold laws_FnListOne.f
 repeat' first
   | (with_reducible first | exact ih0 _ _ _ _ _ _ _ _ _ | exact impl_FormatAddress.mono _ _ _ _ | exact impl_FormatList.mono _ _ | exact impl_ParseAddress.mono _ _ | exact impl_ParseList.mono _ _ | exact spec_DrawParseAddress.mono _ _ | exact spec_ParseAddress.mono _ _ | exact LeO.refl _ | exact LeO.none _ | refine LeO.ite ?_ ?_ | refine LeO.bind ?_ (fun _ => ?_)) | exact ih0 _ _ _ _ _ _ _ _ _ | exact impl_FormatAddress.mono _ _ _ _ | exact impl_FormatList.mono _ _ | exact impl_ParseAddress.mono _ _ | exact impl_ParseList.mono _ _ | exact spec_DrawParseAddress.mono _ _ | exact spec_ParseAddress.mono _ _ | exact LeO.none _ | refine LeO.ite ?_ ?_ | refine LeO.bind ?_ (fun _ => ?_)
def laws_FnListOne.T9 : Bool × List (List Nat × List Nat) := (true, [([], []), ([0], [0]), ([1], [1]), ([2, 1], [1, 2]), ([3, 1], [1, 3]), ([1, 4], [1, 4]), ([5, 1], [5]), ([6], [6]), ([7, 6], [6, 7]), ([8, 6], [6, 8]), ([6], [6]), ([9, 10, 6], [6, 9, 10]), ([6, 11], [6, 11]), ([12, 6], [12]), ([13], [13]), ([14, 13, 13], [13, 14]), ([13], [13]), ([16, 15, 13], [13, 16]), ([15, 17, 13], [13, 15, 17]), ([13, 18], [13, 18]), ([19, 17, 0, 1, 2, 3, 4, 5, 6, 7, 8, 9, 10, 11, 12, 13, 14, 15, 16, 17, 18, 19], [19])])
def laws_FnListOne.B9 : List Nat := [0, 1, 3, 7, 15, 31, 63, 127, 255, 511, 127, 2047, 4095, 8191, 16383, 32767, 16383, 131071, 262143, 524287, 1048575]
theorem laws_FnListOne.tab9 : rtab .any (opsOf Tryd.f4 9) = laws_FnListOne.T9 := by kernel_rfl
theorem laws_FnListOne.bits9 : waitsOk laws_FnListOne.T9.2 laws_FnListOne.B9 = true := by kernel_rfl
set_option maxHeartbeats 8000000 in
set_option maxRecDepth 100000 in
theorem laws_FnListOne.calls (k : Nat) (A0 : Option Addr) (c0 : Nat) (l0 : List Int) (r : Bool) (w : World) (hr0 : Kd.C (Kd.int .u8) w A0 l0.length l0) (hc0 : l0.length ≤ c0) (h : laws_FnListOne.f k l0 = some r) :
  Calls Tryd.prog 4 #[.slice A0 l0.length c0] w fun e w' => e = .returned (.bool r) ∧ Below w.heap.size w w' := by
 have hu31 := Tryd.underlying31
 have HR0 := Aside0.mk hr0
 have HC0 := Aside0.mk hc0
 clear hr0 hc0
 have HB := Aside0.mk (Below.refl w.heap.size w)
 have H : (if (l0.length : Int) > 1048576 then (some true) else ((spec_DrawParseAddress.f k l0).bind fun t614 => ((impl_ParseAddress.f k t614).bind fun bt615 => ((spec_ParseAddress.f k t614).bind fun bt620 => (if (!(bt615.1.toList == bt620.1.toList) || (!(bt615.2.1.toList == bt620.2.1.toList) || (!(bt615.2.2.1.toList == bt620.2.2.1.toList)))) = true then (laws_FnListOne.j0 k bt615.2.2.2 bt620.2.2.2 true bt615.1 bt615.2.1 bt615.2.2.1 bt620.1 bt620.2.1 bt620.2.2.1) else (if (bt615.2.2.2 != bt620.2.2.2) = true then (laws_FnListOne.j0 k bt615.2.2.2 bt620.2.2.2 true bt615.1 bt615.2.1 bt615.2.2.1 bt620.1 bt620.2.1 bt620.2.2.1) else (laws_FnListOne.j0 k bt615.2.2.2 bt620.2.2.2 (!bt615.2.2.2) bt615.1 bt615.2.1 bt615.2.2.1 bt620.1 bt620.2.1 bt620.2.2.1))))))) = some r := h
 clear h
 by_cases c2 : (l0.length : Int) > 1048576
 ·rw [if_pos c2] at H
  have c2b0 : decide (1048576 < (l0.length : Int)) = true := decide_eq_true c2
  have c2b1 : decide (1048576 < l0.length) = true := decide_eq_true (by omega)
  clear c2
  obtain rfl := Option.some.inj H
  go_enter Tryd.func4, Tryd.ntmps4
  go_wp2
  go_ret
  exact ⟨tE, tB⟩
 ·rw [if_neg c2] at H
  have c2b0 : decide (1048576 < (l0.length : Int)) = false := decide_eq_false c2
  have c2b1 : decide (1048576 < l0.length) = false := decide_eq_false (by omega)
  clear c2
  replace H := Option.bind_eq_some_iff.mp H
  obtain ⟨t614, A30, H⟩ := H
  replace H : ((impl_ParseAddress.f k t614).bind fun bt615 => ((spec_ParseAddress.f k t614).bind fun bt620 => (if (!(bt615.1.toList == bt620.1.toList) || (!(bt615.2.1.toList == bt620.2.1.toList) || (!(bt615.2.2.1.toList == bt620.2.2.1.toList)))) = true then (laws_FnListOne.j0 k bt615.2.2.2 bt620.2.2.2 true bt615.1 bt615.2.1 bt615.2.2.1 bt620.1 bt620.2.1 bt620.2.2.1) else (if (bt615.2.2.2 != bt620.2.2.2) = true then (laws_FnListOne.j0 k bt615.2.2.2 bt620.2.2.2 true bt615.1 bt615.2.1 bt615.2.2.1 bt620.1 bt620.2.1 bt620.2.2.1) else (laws_FnListOne.j0 k bt615.2.2.2 bt620.2.2.2 (!bt615.2.2.2) bt615.1 bt615.2.1 bt615.2.2.1 bt620.1 bt620.2.1 bt620.2.2.1))))) = some r := H
  have A3 := Aside0.mk A30
  clear A30
  replace H := Option.bind_eq_some_iff.mp H
  obtain ⟨⟨t615, t616, t617, t618⟩, A40, H⟩ := H
  replace H : ((spec_ParseAddress.f k t614).bind fun bt620 => (if (!(t615.toList == bt620.1.toList) || (!(t616.toList == bt620.2.1.toList) || (!(t617.toList == bt620.2.2.1.toList)))) = true then (laws_FnListOne.j0 k t618 bt620.2.2.2 true t615 t616 t617 bt620.1 bt620.2.1 bt620.2.2.1) else (if (t618 != bt620.2.2.2) = true then (laws_FnListOne.j0 k t618 bt620.2.2.2 true t615 t616 t617 bt620.1 bt620.2.1 bt620.2.2.1) else (laws_FnListOne.j0 k t618 bt620.2.2.2 (!t618) t615 t616 t617 bt620.1 bt620.2.1 bt620.2.2.1)))) = some r := H
  have A4 := Aside0.mk A40
  clear A40
  replace H := Option.bind_eq_some_iff.mp H
  obtain ⟨⟨t620, t621, t622, t623⟩, A50, H⟩ := H
  replace H : (if (!(t615.toList == t620.toList) || (!(t616.toList == t621.toList) || (!(t617.toList == t622.toList)))) = true then (laws_FnListOne.j0 k t618 t623 true t615 t616 t617 t620 t621 t622) else (if (t618 != t623) = true then (laws_FnListOne.j0 k t618 t623 true t615 t616 t617 t620 t621 t622) else (laws_FnListOne.j0 k t618 t623 (!t618) t615 t616 t617 t620 t621 t622))) = some r := H
  have A5 := Aside0.mk A50
  clear A50
  have HC6 := Aside0.mk H
  clear H
  go_enter Tryd.func4, Tryd.ntmps4
  go_upto_region 6 with (first | ((with_reducible refine gate_callee (f := 16) rfl ?_); refine goesL_ (some 14) rfl rfl Tryd.func16 (by kernel_rfl) rfl #[.slice A0 l0.length c0] rfl tA ?_; (with_reducible refine (spec_DrawParseAddress.calls k _ _ l0 t614 _ ?side1 ?side2 A3.out).mono ?_); (case side1 => repeat (first | exact HR0.out | (with_reducible refine Kd.C_alloc ?_ _) | (with_reducible refine Kd.C_drewN ?_ _) | (with_reducible refine Kd.C_drew ?_))); (case side2 => exact HC0.out); rintro e w7 ⟨rfl, hb⟩; refine ⟨_, rfl, ?_⟩; have n0_ := Aside0.mk (below_step tB hb); clear HB; have HB := n0_; clear n0_; (try clear hb); (try clear hb2); (try clear hk); (try clear hi)) | ((with_reducible refine gate_callee (f := 17) rfl ?_); refine goesL_ (some 17) rfl rfl Tryd.func17 (by kernel_rfl) rfl #[.string t614] rfl tA ?_; (with_reducible refine (impl_ParseAddress.calls k t614 t615 t616 t617 t618 _ A4.out).mono ?_); rintro e w8 ⟨rfl, hb⟩; refine ⟨_, rfl, ?_⟩; have n0_ := Aside0.mk (below_step tB hb); clear HB; have HB := n0_; clear n0_; (try clear hb); (try clear hb2); (try clear hk); (try clear hi)) | ((with_reducible refine gate_dst (N := 4) rfl ?_); refine box_event ?hg (N := 4) ?hd (cs := #[.string (⟨#[]⟩ : ByteArray), .string (⟨#[]⟩ : ByteArray), .string (⟨#[]⟩ : ByteArray)]) (t := 31) ?hr ?_; (case hd => rfl); (case hg => rfl); (case hr => first | (go_simp; done) | (go_simp; rfl)); intro gb619 hg w9 hbox hb; have n0_ := Aside0.mk (below_step tB hb); have n1_ := Aside0.mk (hbox); have n2_ := Aside0.mk ((by rw [hg]; exact (below_size tB) : w.heap.size ≤ gb619)); have n3_ := Aside0.mk ((by rw [hg]; exact (below_size tB) : w.heap.size ≤ gb619)); clear HB; have HB := n0_; have BK619 := n1_; have GW619 := n2_; have GE619 := n3_; clear n0_ n1_ n2_ n3_; clear hb hbox hg; have hcz10_0 : w9.cell? ⟨gb619, 0, none⟩ = some (.string (⟨#[]⟩ : ByteArray)) := (blk_cell BK619.out 0).trans rfl; have hcz10_1 : w9.cell? ⟨gb619, 1, none⟩ = some (.string (⟨#[]⟩ : ByteArray)) := (blk_cell BK619.out 1).trans rfl; have hcz10_2 : w9.cell? ⟨gb619, 2, none⟩ = some (.string (⟨#[]⟩ : ByteArray)) := (blk_cell BK619.out 2).trans rfl; have hfz10_0 := blk_frozen BK619.out 0; have hfz10_1 := blk_frozen BK619.out 1; have hfz10_2 := blk_frozen BK619.out 2) | ((with_reducible refine gate_callee (f := 18) rfl ?_); refine goesL_ (some 22) rfl rfl Tryd.func18 (by kernel_rfl) rfl #[.string t614] rfl tA ?_; (with_reducible refine (spec_ParseAddress.calls k t614 t620 t621 t622 t623 _ A5.out).mono ?_); rintro e w11 ⟨rfl, hb⟩; refine ⟨_, rfl, ?_⟩; have n0_ := Aside0.mk (blk_below (g := gb619) (o := .cells #[.string t615, .string t616, .string t617] 31 (0, 0)) (by (with_reducible repeat (first | refine blk_drewN ?_ _ | refine blk_drew ?_ | refine blk_alloc ?_ _)); refine blk_put (cs := #[.string t615, .string t616, .string (⟨#[]⟩ : ByteArray)]) ?_ 2 _ rfl; (with_reducible repeat (first | refine blk_drewN ?_ _ | refine blk_drew ?_ | refine blk_alloc ?_ _)); refine blk_put (cs := #[.string t615, .string (⟨#[]⟩ : ByteArray), .string (⟨#[]⟩ : ByteArray)]) ?_ 1 _ rfl; (with_reducible repeat (first | refine blk_drewN ?_ _ | refine blk_drew ?_ | refine blk_alloc ?_ _)); refine blk_put (cs := #[.string (⟨#[]⟩ : ByteArray), .string (⟨#[]⟩ : ByteArray), .string (⟨#[]⟩ : ByteArray)]) ?_ 0 _ rfl; (with_reducible repeat (first | refine blk_drewN ?_ _ | refine blk_drew ?_ | refine blk_alloc ?_ _)); exact BK619.out) hb); have n1_ := Aside0.mk (below_step tG hb); clear BK619; clear HB; have BK619 := n0_; have HB := n1_; clear n0_ n1_; (try clear hb); (try clear hb2); (try clear hk); (try clear hi)) | ((with_reducible refine gate_dst (N := 6) rfl ?_); refine box_event ?hg (N := 6) ?hd (cs := #[.string (⟨#[]⟩ : ByteArray), .string (⟨#[]⟩ : ByteArray), .string (⟨#[]⟩ : ByteArray)]) (t := 31) ?hr ?_; (case hd => rfl); (case hg => rfl); (case hr => first | (go_simp; done) | (go_simp; rfl)); intro gb624 hg w12 hbox hb; have n0_ := Aside0.mk (blk_below (g := gb619) (o := .cells #[.string t615, .string t616, .string t617] 31 (0, 0)) tK hb); have n1_ := Aside0.mk (below_step tG hb); have n2_ := Aside0.mk (hbox); have n3_ := Aside0.mk ((by rw [hg]; exact (below_size tG) : w.heap.size ≤ gb624)); have n4_ := Aside0.mk ((by rw [hg]; exact (below_size tG) : w.heap.size ≤ gb624)); have n5_ := Aside0.mk ((by rw [hg]; exact Nat.ne_of_lt (blk_lt (g := gb619) (o := .cells #[.string t615, .string t616, .string t617] 31 (0, 0)) tK) : gb619 ≠ gb624)); have n6_ := Aside0.mk ((by rw [hg]; exact Nat.ne_of_gt (blk_lt (g := gb619) (o := .cells #[.string t615, .string t616, .string t617] 31 (0, 0)) tK) : gb624 ≠ gb619)); clear BK619; clear HB; have BK619 := n0_; have HB := n1_; have BK624 := n2_; have GW624 := n3_; have GE624 := n4_; have NB619_624 := n5_; have NB624_619 := n6_; clear n0_ n1_ n2_ n3_ n4_ n5_ n6_; clear hb hbox hg; have hnb13 := NB624_619.out; have hnc13 := NB619_624.out; have hcz14_0 : w12.cell? ⟨gb624, 0, none⟩ = some (.string (⟨#[]⟩ : ByteArray)) := (blk_cell BK624.out 0).trans rfl; have hcz14_1 : w12.cell? ⟨gb624, 1, none⟩ = some (.string (⟨#[]⟩ : ByteArray)) := (blk_cell BK624.out 1).trans rfl; have hcz14_2 : w12.cell? ⟨gb624, 2, none⟩ = some (.string (⟨#[]⟩ : ByteArray)) := (blk_cell BK624.out 2).trans rfl; have hfz14_0 := blk_frozen BK624.out 0; have hfz14_1 := blk_frozen BK624.out 1; have hfz14_2 := blk_frozen BK624.out 2))
  (try simp only [Act.put, List.setIfInBounds_toArray, List.set_cons_zero, List.set_cons_succ])
  go_cut [36] (fun v36 wc => ∃ (kq : Nat) (x36_5 : Bool), v36 = .bool x36_5 ∧ Aside0 (laws_FnListOne.j0 kq t618 t623 x36_5 t615 t616 t617 t620 t621 t622 = some r) ∧ Aside0 (kq ≤ k) ∧ Aside0 (wc.heap[gb619]? = some (.cells #[.string t615, .string t616, .string t617] 31 (0, 0))) ∧ Aside0 (wc.heap[gb624]? = some (.cells #[.string t620, .string t621, .string t622] 31 (0, 0))) ∧ Aside0 (Below w.heap.size w wc))
  case first =>
   have H := HC6.out
   clear HC6
   by_cases c15 : (!(t615.toList == t620.toList) || (!(t616.toList == t621.toList) || (!(t617.toList == t622.toList)))) = true
   ·rw [if_pos c15] at H
    have c15b0 : (!(t615.toList == t620.toList) || (!(t616.toList == t621.toList) || (!(t617.toList == t622.toList)))) = true := c15
    clear c15
    (first | rw [c15b0] | (simp only [i64_w, i32_w]; rw [c15b0]) | skip)
    have H' := Aside0.mk H
    clear H
    have hnb16 := NB619_624.out
    have hnc16 := NB624_619.out
    have hcz17_0 : w12.cell? ⟨gb619, 0, none⟩ = some (.string t615) := (blk_cell BK619.out 0).trans rfl
    have hcz17_1 : w12.cell? ⟨gb619, 1, none⟩ = some (.string t616) := (blk_cell BK619.out 1).trans rfl
    have hcz17_2 : w12.cell? ⟨gb619, 2, none⟩ = some (.string t617) := (blk_cell BK619.out 2).trans rfl
    have hfz17_0 := blk_frozen BK619.out 0
    have hfz17_1 := blk_frozen BK619.out 1
    have hfz17_2 := blk_frozen BK619.out 2
    have hcz18_0 : w12.cell? ⟨gb624, 0, none⟩ = some (.string (⟨#[]⟩ : ByteArray)) := (blk_cell BK624.out 0).trans rfl
    have hcz18_1 : w12.cell? ⟨gb624, 1, none⟩ = some (.string (⟨#[]⟩ : ByteArray)) := (blk_cell BK624.out 1).trans rfl
    have hcz18_2 : w12.cell? ⟨gb624, 2, none⟩ = some (.string (⟨#[]⟩ : ByteArray)) := (blk_cell BK624.out 2).trans rfl
    have hfz18_0 := blk_frozen BK624.out 0
    have hfz18_1 := blk_frozen BK624.out 1
    have hfz18_2 := blk_frozen BK624.out 2
    go_wp2
    go_meet
    case rel => exact ⟨_, (true), tS, H', ⟨by first | omega | exact Nat.le_refl _⟩, ⟨by (with_reducible repeat (first | refine blk_drewN ?_ _ | refine blk_drew ?_ | refine blk_alloc ?_ _)); refine blk_far ?_ NB619_624.out _; (with_reducible repeat (first | refine blk_drewN ?_ _ | refine blk_drew ?_ | refine blk_alloc ?_ _)); refine blk_far ?_ NB619_624.out _; (with_reducible repeat (first | refine blk_drewN ?_ _ | refine blk_drew ?_ | refine blk_alloc ?_ _)); refine blk_far ?_ NB619_624.out _; (with_reducible repeat (first | refine blk_drewN ?_ _ | refine blk_drew ?_ | refine blk_alloc ?_ _)); exact BK619.out⟩, ⟨by (with_reducible repeat (first | refine blk_drewN ?_ _ | refine blk_drew ?_ | refine blk_alloc ?_ _)); refine blk_put (cs := #[.string t620, .string t621, .string (⟨#[]⟩ : ByteArray)]) ?_ 2 _ rfl; (with_reducible repeat (first | refine blk_drewN ?_ _ | refine blk_drew ?_ | refine blk_alloc ?_ _)); refine blk_put (cs := #[.string t620, .string (⟨#[]⟩ : ByteArray), .string (⟨#[]⟩ : ByteArray)]) ?_ 1 _ rfl; (with_reducible repeat (first | refine blk_drewN ?_ _ | refine blk_drew ?_ | refine blk_alloc ?_ _)); refine blk_put (cs := #[.string (⟨#[]⟩ : ByteArray), .string (⟨#[]⟩ : ByteArray), .string (⟨#[]⟩ : ByteArray)]) ?_ 0 _ rfl; (with_reducible repeat (first | refine blk_drewN ?_ _ | refine blk_drew ?_ | refine blk_alloc ?_ _)); exact BK624.out⟩, ⟨by repeat (first | (with_reducible first | exact HB.out | apply below_alloc | apply pw_below_drewN | apply below_drew1 | refine below_set ?_ GE619.out | refine below_set ?_ GE624.out) | exact HB.out)⟩⟩
   ·rw [if_neg c15] at H
    have c15b0 : (!(t615.toList == t620.toList) || (!(t616.toList == t621.toList) || (!(t617.toList == t622.toList)))) = false := by simpa using c15
    clear c15
    (first | rw [c15b0] | (simp only [i64_w, i32_w]; rw [c15b0]) | skip)
    by_cases c19 : (t618 != t623) = true
    ·rw [if_pos c19] at H
     have c19b0 : (t618 != t623) = true := c19
     (try (have c19b1 : decide (t618 = t623) = false := by simpa using c19))
     (try (have c19b2 : (t618 == t623) = false := by simpa using c19))
     (try (have c19b3 : ¬ (t618 = t623) := by simpa using c19))
     clear c19
     have H' := Aside0.mk H
     clear H
     have hnb20 := NB619_624.out
     have hnc20 := NB624_619.out
     have hcz21_0 : w12.cell? ⟨gb619, 0, none⟩ = some (.string t615) := (blk_cell BK619.out 0).trans rfl
     have hcz21_1 : w12.cell? ⟨gb619, 1, none⟩ = some (.string t616) := (blk_cell BK619.out 1).trans rfl
     have hcz21_2 : w12.cell? ⟨gb619, 2, none⟩ = some (.string t617) := (blk_cell BK619.out 2).trans rfl
     have hfz21_0 := blk_frozen BK619.out 0
     have hfz21_1 := blk_frozen BK619.out 1
     have hfz21_2 := blk_frozen BK619.out 2
     have hcz22_0 : w12.cell? ⟨gb624, 0, none⟩ = some (.string (⟨#[]⟩ : ByteArray)) := (blk_cell BK624.out 0).trans rfl
     have hcz22_1 : w12.cell? ⟨gb624, 1, none⟩ = some (.string (⟨#[]⟩ : ByteArray)) := (blk_cell BK624.out 1).trans rfl
     have hcz22_2 : w12.cell? ⟨gb624, 2, none⟩ = some (.string (⟨#[]⟩ : ByteArray)) := (blk_cell BK624.out 2).trans rfl
     have hfz22_0 := blk_frozen BK624.out 0
     have hfz22_1 := blk_frozen BK624.out 1
     have hfz22_2 := blk_frozen BK624.out 2
     go_wp2
     go_meet
     case rel => exact ⟨_, (true), tS, H', ⟨by first | omega | exact Nat.le_refl _⟩, ⟨by (with_reducible repeat (first | refine blk_drewN ?_ _ | refine blk_drew ?_ | refine blk_alloc ?_ _)); refine blk_far ?_ NB619_624.out _; (with_reducible repeat (first | refine blk_drewN ?_ _ | refine blk_drew ?_ | refine blk_alloc ?_ _)); refine blk_far ?_ NB619_624.out _; (with_reducible repeat (first | refine blk_drewN ?_ _ | refine blk_drew ?_ | refine blk_alloc ?_ _)); refine blk_far ?_ NB619_624.out _; (with_reducible repeat (first | refine blk_drewN ?_ _ | refine blk_drew ?_ | refine blk_alloc ?_ _)); exact BK619.out⟩, ⟨by (with_reducible repeat (first | refine blk_drewN ?_ _ | refine blk_drew ?_ | refine blk_alloc ?_ _)); refine blk_put (cs := #[.string t620, .string t621, .string (⟨#[]⟩ : ByteArray)]) ?_ 2 _ rfl; (with_reducible repeat (first | refine blk_drewN ?_ _ | refine blk_drew ?_ | refine blk_alloc ?_ _)); refine blk_put (cs := #[.string t620, .string (⟨#[]⟩ : ByteArray), .string (⟨#[]⟩ : ByteArray)]) ?_ 1 _ rfl; (with_reducible repeat (first | refine blk_drewN ?_ _ | refine blk_drew ?_ | refine blk_alloc ?_ _)); refine blk_put (cs := #[.string (⟨#[]⟩ : ByteArray), .string (⟨#[]⟩ : ByteArray), .string (⟨#[]⟩ : ByteArray)]) ?_ 0 _ rfl; (with_reducible repeat (first | refine blk_drewN ?_ _ | refine blk_drew ?_ | refine blk_alloc ?_ _)); exact BK624.out⟩, ⟨by repeat (first | (with_reducible first | exact HB.out | apply below_alloc | apply pw_below_drewN | apply below_drew1 | refine below_set ?_ GE619.out | refine below_set ?_ GE624.out) | exact HB.out)⟩⟩
    ·rw [if_neg c19] at H
     have c19b0 : (t618 != t623) = false := by simpa using c19
     (try (have c19b1 : decide (t618 = t623) = true := by simpa using c19))
     (try (have c19b2 : (t618 == t623) = true := by simpa using c19))
     clear c19
     have H' := Aside0.mk H
     clear H
     have hnb23 := NB619_624.out
     have hnc23 := NB624_619.out
     have hcz24_0 : w12.cell? ⟨gb619, 0, none⟩ = some (.string t615) := (blk_cell BK619.out 0).trans rfl
     have hcz24_1 : w12.cell? ⟨gb619, 1, none⟩ = some (.string t616) := (blk_cell BK619.out 1).trans rfl
     have hcz24_2 : w12.cell? ⟨gb619, 2, none⟩ = some (.string t617) := (blk_cell BK619.out 2).trans rfl
     have hfz24_0 := blk_frozen BK619.out 0
     have hfz24_1 := blk_frozen BK619.out 1
     have hfz24_2 := blk_frozen BK619.out 2
     have hcz25_0 : w12.cell? ⟨gb624, 0, none⟩ = some (.string (⟨#[]⟩ : ByteArray)) := (blk_cell BK624.out 0).trans rfl
     have hcz25_1 : w12.cell? ⟨gb624, 1, none⟩ = some (.string (⟨#[]⟩ : ByteArray)) := (blk_cell BK624.out 1).trans rfl
     have hcz25_2 : w12.cell? ⟨gb624, 2, none⟩ = some (.string (⟨#[]⟩ : ByteArray)) := (blk_cell BK624.out 2).trans rfl
     have hfz25_0 := blk_frozen BK624.out 0
     have hfz25_1 := blk_frozen BK624.out 1
     have hfz25_2 := blk_frozen BK624.out 2
     go_wp2
     go_meet
     case rel => exact ⟨_, (!t618), tS, H', ⟨by first | omega | exact Nat.le_refl _⟩, ⟨by (with_reducible repeat (first | refine blk_drewN ?_ _ | refine blk_drew ?_ | refine blk_alloc ?_ _)); refine blk_far ?_ NB619_624.out _; (with_reducible repeat (first | refine blk_drewN ?_ _ | refine blk_drew ?_ | refine blk_alloc ?_ _)); refine blk_far ?_ NB619_624.out _; (with_reducible repeat (first | refine blk_drewN ?_ _ | refine blk_drew ?_ | refine blk_alloc ?_ _)); refine blk_far ?_ NB619_624.out _; (with_reducible repeat (first | refine blk_drewN ?_ _ | refine blk_drew ?_ | refine blk_alloc ?_ _)); exact BK619.out⟩, ⟨by (with_reducible repeat (first | refine blk_drewN ?_ _ | refine blk_drew ?_ | refine blk_alloc ?_ _)); refine blk_put (cs := #[.string t620, .string t621, .string (⟨#[]⟩ : ByteArray)]) ?_ 2 _ rfl; (with_reducible repeat (first | refine blk_drewN ?_ _ | refine blk_drew ?_ | refine blk_alloc ?_ _)); refine blk_put (cs := #[.string t620, .string (⟨#[]⟩ : ByteArray), .string (⟨#[]⟩ : ByteArray)]) ?_ 1 _ rfl; (with_reducible repeat (first | refine blk_drewN ?_ _ | refine blk_drew ?_ | refine blk_alloc ?_ _)); refine blk_put (cs := #[.string (⟨#[]⟩ : ByteArray), .string (⟨#[]⟩ : ByteArray), .string (⟨#[]⟩ : ByteArray)]) ?_ 0 _ rfl; (with_reducible repeat (first | refine blk_drewN ?_ _ | refine blk_drew ?_ | refine blk_alloc ?_ _)); exact BK624.out⟩, ⟨by repeat (first | (with_reducible first | exact HB.out | apply below_alloc | apply pw_below_drewN | apply below_drew1 | refine below_set ?_ GE619.out | refine below_set ?_ GE624.out) | exact HB.out)⟩⟩
  case rest =>
   clear HC6
   try clear c1
   try clear c2
   try clear c2b0
   try clear c2b1
   try clear p2
   try clear c4
   try clear c13
   try clear c15
   try clear c15b0
   try clear c16
   try clear c17
   try clear c18
   try clear c19
   try clear c19b0
   try clear c19b1
   try clear c19b2
   try clear c20
   try clear c23
   try clear hcz10_0
   try clear hcz10_1
   try clear hcz10_2
   try clear hcz14_0
   try clear hcz14_1
   try clear hcz14_2
   try clear hcz17_0
   try clear hcz17_1
   try clear hcz17_2
   try clear hcz18_0
   try clear hcz18_1
   try clear hcz18_2
   try clear hcz21_0
   try clear hcz21_1
   try clear hcz21_2
   try clear hcz22_0
   try clear hcz22_1
   try clear hcz22_2
   try clear hcz24_0
   try clear hcz24_1
   try clear hcz24_2
   try clear hcz25_0
   try clear hcz25_1
   try clear hcz25_2
   try clear hfz10_0
   try clear hfz10_1
   try clear hfz10_2
   try clear hfz14_0
   try clear hfz14_1
   try clear hfz14_2
   try clear hfz17_0
   try clear hfz17_1
   try clear hfz17_2
   try clear hfz18_0
   try clear hfz18_1
   try clear hfz18_2
   try clear hfz21_0
   try clear hfz21_1
   try clear hfz21_2
   try clear hfz22_0
   try clear hfz22_1
   try clear hfz22_2
   try clear hfz24_0
   try clear hfz24_1
   try clear hfz24_2
   try clear hfz25_0
   try clear hfz25_1
   try clear hfz25_2
   obtain ⟨kq, x36_5, rfl, HA, HJ5, BK619, BK624, HB⟩ := hcut
   cases kq with
   | zero => exact absurd HA.out (by simp [laws_FnListOne.j0])
   | succ kj5 =>
    have H := HA.out
    clear HA
    simp only [laws_FnListOne.j0] at H
    by_cases c26 : x36_5 = true
    ·subst c26
     rw [if_pos rfl] at H
     by_cases c27 : (t615.toList == t620.toList && (t616.toList == t621.toList && (t617.toList == t622.toList))) = true
     ·rw [if_pos c27] at H
      have c27b0 : (t615.toList == t620.toList && (t616.toList == t621.toList && (t617.toList == t622.toList))) = true := c27
      (try (have c27b1 : decide (t615.toList = t620.toList && (t616.toList == t621.toList && (t617.toList == t622.toList))) = true := by simpa using c27))
      (try (have c27b2 : (t615.toList == t620.toList && (t616.toList == t621.toList && (t617.toList == t622.toList))) = true := by simpa using c27))
      clear c27
      obtain rfl := Option.some.inj H
      have hnb28 := NB619_624.out
      have hnc28 := NB624_619.out
      have hcz29_0 : wc.cell? ⟨gb619, 0, none⟩ = some (.string t615) := (blk_cell BK619.out 0).trans rfl
      have hcz29_1 : wc.cell? ⟨gb619, 1, none⟩ = some (.string t616) := (blk_cell BK619.out 1).trans rfl
      have hcz29_2 : wc.cell? ⟨gb619, 2, none⟩ = some (.string t617) := (blk_cell BK619.out 2).trans rfl
      have hfz29_0 := blk_frozen BK619.out 0
      have hfz29_1 := blk_frozen BK619.out 1
      have hfz29_2 := blk_frozen BK619.out 2
      have hcz30_0 : wc.cell? ⟨gb624, 0, none⟩ = some (.string t620) := (blk_cell BK624.out 0).trans rfl
      have hcz30_1 : wc.cell? ⟨gb624, 1, none⟩ = some (.string t621) := (blk_cell BK624.out 1).trans rfl
      have hcz30_2 : wc.cell? ⟨gb624, 2, none⟩ = some (.string t622) := (blk_cell BK624.out 2).trans rfl
      have hfz30_0 := blk_frozen BK624.out 0
      have hfz30_1 := blk_frozen BK624.out 1
      have hfz30_2 := blk_frozen BK624.out 2
      go_wp2
      go_ret
      exact ⟨tE, tG⟩
     ·rw [if_neg c27] at H
      have c27b0 : (t615.toList == t620.toList && (t616.toList == t621.toList && (t617.toList == t622.toList))) = false := by simpa using c27
      (try (have c27b1 : decide (t615.toList = t620.toList && (t616.toList == t621.toList && (t617.toList == t622.toList))) = false := by simpa using c27))
      (try (have c27b2 : (t615.toList == t620.toList && (t616.toList == t621.toList && (t617.toList == t622.toList))) = false := by simpa using c27))
      (try (have c27b3 : ¬ (t615.toList = t620.toList && (t616.toList == t621.toList && (t617.toList == t622.toList))) := by simpa using c27))
      clear c27
      obtain rfl := Option.some.inj H
      have hnb31 := NB619_624.out
      have hnc31 := NB624_619.out
      have hcz32_0 : wc.cell? ⟨gb619, 0, none⟩ = some (.string t615) := (blk_cell BK619.out 0).trans rfl
      have hcz32_1 : wc.cell? ⟨gb619, 1, none⟩ = some (.string t616) := (blk_cell BK619.out 1).trans rfl
      have hcz32_2 : wc.cell? ⟨gb619, 2, none⟩ = some (.string t617) := (blk_cell BK619.out 2).trans rfl
      have hfz32_0 := blk_frozen BK619.out 0
      have hfz32_1 := blk_frozen BK619.out 1
      have hfz32_2 := blk_frozen BK619.out 2
      have hcz33_0 : wc.cell? ⟨gb624, 0, none⟩ = some (.string t620) := (blk_cell BK624.out 0).trans rfl
      have hcz33_1 : wc.cell? ⟨gb624, 1, none⟩ = some (.string t621) := (blk_cell BK624.out 1).trans rfl
      have hcz33_2 : wc.cell? ⟨gb624, 2, none⟩ = some (.string t622) := (blk_cell BK624.out 2).trans rfl
      have hfz33_0 := blk_frozen BK624.out 0
      have hfz33_1 := blk_frozen BK624.out 1
      have hfz33_2 := blk_frozen BK624.out 2
      go_wp2
      go_ret
      exact ⟨tE, tG⟩
    ·replace c26 := Bool.eq_false_iff.mpr c26
     subst c26
     rw [if_neg (show ¬ (false = true) by decide)] at H
     replace H := Option.bind_eq_some_iff.mp H
     obtain ⟨t625, A340, H⟩ := H
     replace H : ((impl_ParseList.f kj5 t625).bind fun bt626 => (if bt626.2 = true then (if (bt626.1.length : Int) = 1 then (if 0 < (bt626.1.length : Int) then (if ((((rd_T31 bt626.1 0).f0).toList) == t615.toList && ((((rd_T31 bt626.1 0).f1).toList) == t616.toList && ((((rd_T31 bt626.1 0).f2).toList) == t617.toList))) = true then ((impl_FormatList.f kj5 bt626.1).bind fun t631 => ((impl_FormatAddress.f kj5 t615 t616 t617).bind fun t632 => (some (t631.toList == t632.toList)))) else (some false)) else (none)) else (some false)) else (some false))) = some r := H
     have A34 := Aside0.mk A340
     clear A340
     replace H := Option.bind_eq_some_iff.mp H
     obtain ⟨⟨t626, t627⟩, A350, H⟩ := H
     replace H : (if t627 = true then (if (t626.length : Int) = 1 then (if 0 < (t626.length : Int) then (if ((((rd_T31 t626 0).f0).toList) == t615.toList && ((((rd_T31 t626 0).f1).toList) == t616.toList && ((((rd_T31 t626 0).f2).toList) == t617.toList))) = true then ((impl_FormatList.f kj5 t626).bind fun t631 => ((impl_FormatAddress.f kj5 t615 t616 t617).bind fun t632 => (some (t631.toList == t632.toList)))) else (some false)) else (none)) else (some false)) else (some false)) = some r := H
     have A35 := Aside0.mk A350
     clear A350
     by_cases c36 : t627 = true
     ·subst c36
      rw [if_pos rfl] at H
      by_cases c37 : (t626.length : Int) = 1
      ·rw [if_pos c37] at H
       have c37b0 : ((t626.length : Int) == 1) = true := beq_iff_eq.mpr c37
       have c37b1 : ((t626.length : Int) != 1) = false := bne_eq_false_iff_eq.mpr c37
       clear c37
       by_cases c38 : 0 < (t626.length : Int)
       ·rw [if_pos c38] at H
        have c38b0 : decide (0 < (t626.length : Int)) = true := decide_eq_true c38
        have c38b1 : decide (0 < t626.length) = true := decide_eq_true (by omega)
        clear c38
        by_cases c39 : ((((rd_T31 t626 0).f0).toList) == t615.toList && ((((rd_T31 t626 0).f1).toList) == t616.toList && ((((rd_T31 t626 0).f2).toList) == t617.toList))) = true
        ·rw [if_pos c39] at H
         have c39b0 : ((((rd_T31 t626 0).f0).toList) == t615.toList && ((((rd_T31 t626 0).f1).toList) == t616.toList && ((((rd_T31 t626 0).f2).toList) == t617.toList))) = true := c39
         (try (have c39b1 : decide ((((rd_T31 t626 0).f0).toList) = t615.toList && ((((rd_T31 t626 0).f1).toList) == t616.toList && ((((rd_T31 t626 0).f2).toList) == t617.toList))) = true := by simpa using c39))
         (try (have c39b2 : ((((rd_T31 t626 0).f0).toList) == t615.toList && ((((rd_T31 t626 0).f1).toList) == t616.toList && ((((rd_T31 t626 0).f2).toList) == t617.toList))) = true := by simpa using c39))
         clear c39
         replace H := Option.bind_eq_some_iff.mp H
         obtain ⟨t631, A400, H⟩ := H
         replace H : ((impl_FormatAddress.f kj5 t615 t616 t617).bind fun t632 => (some (t631.toList == t632.toList))) = some r := H
         have A40 := Aside0.mk A400
         clear A400
         replace H := Option.bind_eq_some_iff.mp H
         obtain ⟨t632, A410, H⟩ := H
         replace H : (some (t631.toList == t632.toList)) = some r := H
         have A41 := Aside0.mk A410
         clear A410
         obtain rfl := Option.some.inj H
         have hnb42 := NB619_624.out
         have hnc42 := NB624_619.out
         have hcz43_0 : wc.cell? ⟨gb619, 0, none⟩ = some (.string t615) := (blk_cell BK619.out 0).trans rfl
         have hcz43_1 : wc.cell? ⟨gb619, 1, none⟩ = some (.string t616) := (blk_cell BK619.out 1).trans rfl
         have hcz43_2 : wc.cell? ⟨gb619, 2, none⟩ = some (.string t617) := (blk_cell BK619.out 2).trans rfl
         have hfz43_0 := blk_frozen BK619.out 0
         have hfz43_1 := blk_frozen BK619.out 1
         have hfz43_2 := blk_frozen BK619.out 2
         try go_wp2_with (first | ((with_reducible refine gate_callee (f := 19) rfl ?_); refine goesL_ (some 47) rfl rfl Tryd.func19 (by kernel_rfl) rfl #[.agg #[.string t615, .string t616, .string t617]] rfl tA ?_; (with_reducible refine (impl_FormatAddress.calls kj5 t615 t616 t617 t625 _ A34.out).mono ?_); rintro e w44 ⟨rfl, hb⟩; refine ⟨_, rfl, ?_⟩; have n0_ := Aside0.mk (blk_below (g := gb619) (o := .cells #[.string t615, .string t616, .string t617] 31 (0, 0)) tK hb); have n1_ := Aside0.mk (blk_below (g := gb624) (o := .cells #[.string t620, .string t621, .string t622] 31 (0, 0)) tK hb); have n2_ := Aside0.mk (below_step tG hb); clear BK619; clear BK624; clear HB; have BK619 := n0_; have BK624 := n1_; have HB := n2_; clear n0_ n1_ n2_; (try clear hb); (try clear hb2); (try clear hk); (try clear hi)) | ((with_reducible refine gate_callee (f := 12) rfl ?_); refine goesL_ (some 48) rfl rfl Tryd.func12 (by kernel_rfl) rfl #[.string t625] rfl tA ?_; (with_reducible refine (impl_ParseList.calls kj5 t625 t626 true _ A35.out).mono ?_); rintro e w45 ⟨v628, rfl, ho0, hb⟩; refine ⟨_, rfl, ?_⟩; have n0_ := Aside0.mk (Kd.R_lower (Kd.R_newB (Kd.R_newB ho0 (g := gb619) (o := .cells #[.string t615, .string t616, .string t617] 31 (0, 0)) tK) (g := gb624) (o := .cells #[.string t620, .string t621, .string t622] 31 (0, 0)) tK) (below_size tG)); have n1_ := Aside0.mk (blk_below (g := gb619) (o := .cells #[.string t615, .string t616, .string t617] 31 (0, 0)) tK hb); have n2_ := Aside0.mk (blk_below (g := gb624) (o := .cells #[.string t620, .string t621, .string t622] 31 (0, 0)) tK hb); have n3_ := Aside0.mk (below_step tG hb); clear BK619; clear BK624; clear HB; have HO629 := n0_; have BK619 := n1_; have BK624 := n2_; have HB := n3_; clear n0_ n1_ n2_ n3_; (try clear hb); (try clear hb2); (try clear hk); (try clear hi); (try clear ho0)))
         have n0_ := Aside0.mk (Kd.R_drew HO629.out)
         have n1_ := Aside0.mk (blk_drew BK619.out)
         have n2_ := Aside0.mk (blk_drew BK624.out)
         have n3_ := Aside0.mk (below_drew1 HB.out)
         clear HO629
         clear BK619
         clear BK624
         clear HB
         have HO629 := n0_
         have BK619 := n1_
         have BK624 := n2_
         have HB := n3_
         clear n0_ n1_ n2_ n3_
         obtain ⟨Ao47, co47, eo47⟩ := Kd.R_slice HO629.out
         (first | subst eo47 | (injection eo47 with f1_ f2_ f3_; have f4_ := f1_.symm; have f5_ := f3_.symm; clear f1_ f2_ f3_; subst f4_; subst f5_))
         have p630 : 0 ≤ (0 : Int) := (by omega)
         have q630 : 0 < (t626.length : Int) := of_decide_eq_true tF
         obtain ⟨ad630, e630, hx630_0, hx630_1, hx630_2⟩ := at_T31 (Kd.R_reads' HO629.out).2.2 0 p630 q630
         cases e630
         have qi630 : (0 < t626.length) = True := eq_true (by omega)
         (try rw [show ((0 : Int)).toNat = 0 from rfl] at hx630_0)
         (try rw [show 0 * 3 = 0 from rfl] at hx630_0)
         (try rw [Addr.add_zero'] at hx630_0)
         (try rw [show ((0 : Int)).toNat = 0 from rfl] at hx630_1)
         (try rw [show 0 * 3 = 0 from rfl] at hx630_1)
         (try rw [Addr.add_zero'] at hx630_1)
         (try rw [show ((0 : Int)).toNat = 0 from rfl] at hx630_2)
         (try rw [show 0 * 3 = 0 from rfl] at hx630_2)
         (try rw [Addr.add_zero'] at hx630_2)
         replace p630 := eq_true p630
         replace q630 := eq_true q630
         refine start_ (n := 21) (S := fun w' => w'.cell? ⟨gb619, 0, none⟩ = some (.string t615) ∧ w'.cell? ⟨gb619, 1, none⟩ = some (.string t616) ∧ w'.cell? ⟨gb619, 2, none⟩ = some (.string t617) ∧ w'.cell? ad630 = some (.string ((rd_T31 t626 0).f0)) ∧ w'.cell? ⟨ad630.block, ad630.off + 1, none⟩ = some (.string ((rd_T31 t626 0).f1)) ∧ w'.cell? ⟨ad630.block, ad630.off + 2, none⟩ = some (.string ((rd_T31 t626 0).f2))) (ds := []) #[false, false, false, false, false, false, false, false, false, false, false, false, false, false, false, false, false, false, false, false, false] (by kernel_rfl) rfl rfl ⟨(blk_cell BK619.out 0).trans rfl, (blk_cell BK619.out 1).trans rfl, (blk_cell BK619.out 2).trans rfl, hx630_0, hx630_1, hx630_2⟩ (fun hHeld => ?_); refine with_tabW laws_FnListOne.tab9 laws_FnListOne.bits9 (fun HT_ HW_ => ?_)
         generalize w45.drew = w46 at HO629 BK619 BK624 HB hx630_0 hx630_1 hx630_2 hHeld ⊢
         refine pure_ (i := 0) (N := some 51) (v := ?_) (a' := ?_) #[true, false, false, false, false, false, false, false, false, false, false, false, false, false, false, false, false, false, false, false, false] rfl rfl (any_of HT_.out (by kernel_rfl)) (fun _ _ _ h => h) (Or.inl ⟨by rfl, ?_⟩) ?_ ?_
         rotate_left
         ·intro w'
          go_simp
          with_reducible rfl
         rotate_left
         ·simp only [Act.put, List.setIfInBounds_toArray, List.set_cons_zero, List.set_cons_succ, i64_w, i32_w]
          rfl
         refine pure_ (i := 1) (N := some 52) (v := ?_) (a' := ?_) #[true, true, false, false, false, false, false, false, false, false, false, false, false, false, false, false, false, false, false, false, false] rfl rfl (any_of HT_.out (by kernel_rfl)) (fun _ _ _ h => h) (Or.inl ⟨by rfl, ?_⟩) ?_ ?_
         rotate_left
         ·intro w'
          go_simp
          with_reducible rfl
         rotate_left
         ·simp only [Act.put, List.setIfInBounds_toArray, List.set_cons_zero, List.set_cons_succ, i64_w, i32_w]
          rfl
         refine pure_ (i := 2) (N := some 53) (v := ?_) (a' := ?_) #[true, true, true, false, false, false, false, false, false, false, false, false, false, false, false, false, false, false, false, false, false] rfl rfl (any_of HT_.out (by kernel_rfl)) (fun _ _ _ h => h) (Or.inl ⟨by rfl, ?_⟩) ?_ ?_
         rotate_left
         ·intro w'
          go_simp
          with_reducible rfl
         rotate_left
         ·simp only [Act.put, List.setIfInBounds_toArray, List.set_cons_zero, List.set_cons_succ, i64_w, i32_w]
          rfl
         refine pure_ (i := 3) (N := some 54) (v := ?_) (a' := ?_) #[true, true, true, true, false, false, false, false, false, false, false, false, false, false, false, false, false, false, false, false, false] rfl rfl (any_of HT_.out (by kernel_rfl)) (fun _ _ _ h => h) (Or.inl ⟨by rfl, ?_⟩) ?_ ?_
         rotate_left
         ·intro w'
          go_simp
          with_reducible rfl
         rotate_left
         ·simp only [Act.put, List.setIfInBounds_toArray, List.set_cons_zero, List.set_cons_succ, i64_w, i32_w]
          rfl
         refine pure_ (i := 4) (N := some 55) (v := ?_) (a' := ?_) #[true, true, true, true, true, false, false, false, false, false, false, false, false, false, false, false, false, false, false, false, false] rfl rfl (any_of HT_.out (by kernel_rfl)) (fun _ _ _ h => h) (Or.inl ⟨by rfl, ?_⟩) ?_ ?_
         rotate_left
         ·intro w'
          go_simp
          with_reducible rfl
         rotate_left
         ·simp only [Act.put, List.setIfInBounds_toArray, List.set_cons_zero, List.set_cons_succ, i64_w, i32_w]
          rfl
         refine pure_ (i := 5) (N := some 56) (v := ?_) (a' := ?_) #[true, true, true, true, true, true, false, false, false, false, false, false, false, false, false, false, false, false, false, false, false] rfl rfl (any_of HT_.out (by kernel_rfl)) (fun _ _ _ h => h) (Or.inl ⟨by rfl, ?_⟩) ?_ ?_
         rotate_left
         ·intro w'
          go_simp
          with_reducible rfl
         rotate_left
         ·simp only [Act.put, List.setIfInBounds_toArray, List.set_cons_zero, List.set_cons_succ, i64_w, i32_w]
          rfl
         refine pure_ (i := 6) (N := some 57) (v := ?_) (a' := ?_) #[true, true, true, true, true, true, true, false, false, false, false, false, false, false, false, false, false, false, false, false, false] rfl rfl (any_of HT_.out (by kernel_rfl)) (fun _ _ _ h => h) (Or.inl ⟨by rfl, ?_⟩) ?_ ?_
         rotate_left
         ·intro w'
          go_simp
          with_reducible rfl
         rotate_left
         ·simp only [Act.put, List.setIfInBounds_toArray, List.set_cons_zero, List.set_cons_succ, i64_w, i32_w]
          rfl
         refine pure_ (i := 7) (N := some 58) (v := ?_) (a' := ?_) #[true, true, true, true, true, true, true, true, false, false, false, false, false, false, false, false, false, false, false, false, false] rfl rfl (any_of HT_.out (by kernel_rfl)) (fun _ _ _ h => h) (Or.inl ⟨by rfl, ?_⟩) ?_ ?_
         rotate_left
         ·intro w'
          go_simp
          with_reducible rfl
         rotate_left
         ·simp only [Act.put, List.setIfInBounds_toArray, List.set_cons_zero, List.set_cons_succ, i64_w, i32_w]
          rfl
         refine pure_ (i := 8) (N := some 59) (v := ?_) (a' := ?_) #[true, true, true, true, true, true, true, true, true, false, false, false, false, false, false, false, false, false, false, false, false] rfl rfl (any_of HT_.out (by kernel_rfl)) (fun _ _ _ h => h) (Or.inl ⟨by rfl, ?_⟩) ?_ ?_
         rotate_left
         ·intro w'
          go_simp
          with_reducible rfl
         rotate_left
         ·simp only [Act.put, List.setIfInBounds_toArray, List.set_cons_zero, List.set_cons_succ, i64_w, i32_w]
          rfl
         refine take_ (i := 9) (N := some 60) (v := ?_) (a' := ?_) #[true, true, true, true, true, true, true, true, true, true, false, false, false, false, false, false, false, false, false, false, false] rfl rfl (take_ofW HT_.out HW_.out (by kernel_rfl)) (fun _ _ _ h => h) (Or.inl ⟨by rfl, ?_⟩) hHeld ?_ ?_
         rotate_left
         ·rintro w' ⟨s0, s1, s2, s3, s4, s5⟩
          go_simp
          with_reducible rfl
         rotate_left
         ·simp only [Act.put, List.setIfInBounds_toArray, List.set_cons_zero, List.set_cons_succ, i64_w, i32_w]
          rfl
         refine take_ (i := 10) (N := some 61) (v := ?_) (a' := ?_) #[true, true, true, true, true, true, true, true, true, true, true, false, false, false, false, false, false, false, false, false, false] rfl rfl (take_ofW HT_.out HW_.out (by kernel_rfl)) (fun _ _ _ h => h) (Or.inl ⟨by rfl, ?_⟩) hHeld ?_ ?_
         rotate_left
         ·rintro w' ⟨s0, s1, s2, s3, s4, s5⟩
          go_simp
          with_reducible rfl
         rotate_left
         ·simp only [Act.put, List.setIfInBounds_toArray, List.set_cons_zero, List.set_cons_succ, i64_w, i32_w]
          rfl
         refine pure_ (i := 11) (N := some 62) (v := ?_) (a' := ?_) #[true, true, true, true, true, true, true, true, true, true, true, true, false, false, false, false, false, false, false, false, false] rfl rfl (any_of HT_.out (by kernel_rfl)) (fun _ _ _ h => h) (Or.inl ⟨by rfl, ?_⟩) ?_ ?_
         rotate_left
         ·intro w'
          go_simp
          with_reducible rfl
         rotate_left
         ·simp only [Act.put, List.setIfInBounds_toArray, List.set_cons_zero, List.set_cons_succ, i64_w, i32_w]
          rfl
         refine pure_ (i := 12) (N := some 63) (v := ?_) (a' := ?_) #[true, true, true, true, true, true, true, true, true, true, true, true, true, false, false, false, false, false, false, false, false] rfl rfl (any_of HT_.out (by kernel_rfl)) (fun _ _ _ h => h) (Or.inl ⟨by rfl, ?_⟩) ?_ ?_
         rotate_left
         ·intro w'
          go_simp
          with_reducible rfl
         rotate_left
         ·simp only [Act.put, List.setIfInBounds_toArray, List.set_cons_zero, List.set_cons_succ, i64_w, i32_w]
          rfl
         refine pure_ (i := 13) (N := some 64) (v := ?_) (a' := ?_) #[true, true, true, true, true, true, true, true, true, true, true, true, true, true, false, false, false, false, false, false, false] rfl rfl (any_of HT_.out (by kernel_rfl)) (fun _ _ _ h => h) (Or.inl ⟨by rfl, ?_⟩) ?_ ?_
         rotate_left
         ·intro w'
          go_simp
          with_reducible rfl
         rotate_left
         ·simp only [Act.put, List.setIfInBounds_toArray, List.set_cons_zero, List.set_cons_succ, i64_w, i32_w]
          rfl
         refine pure_ (i := 14) (N := some 65) (v := ?_) (a' := ?_) #[true, true, true, true, true, true, true, true, true, true, true, true, true, true, true, false, false, false, false, false, false] rfl rfl (any_of HT_.out (by kernel_rfl)) (fun _ _ _ h => h) (Or.inl ⟨by rfl, ?_⟩) ?_ ?_
         rotate_left
         ·intro w'
          go_simp
          with_reducible rfl
         rotate_left
         ·simp only [Act.put, List.setIfInBounds_toArray, List.set_cons_zero, List.set_cons_succ, i64_w, i32_w]
          rfl
         refine take_ (i := 16) (N := some 67) (v := ?_) (a' := ?_) #[true, true, true, true, true, true, true, true, true, true, true, true, true, true, true, false, true, false, false, false, false] rfl rfl (take_ofW HT_.out HW_.out (by kernel_rfl)) (fun _ _ _ h => h) (Or.inl ⟨by rfl, ?_⟩) hHeld ?_ ?_
         rotate_left
         ·rintro w' ⟨s0, s1, s2, s3, s4, s5⟩
          go_simp
          with_reducible rfl
         rotate_left
         ·simp only [Act.put, List.setIfInBounds_toArray, List.set_cons_zero, List.set_cons_succ, i64_w, i32_w]
          rfl
         refine one_ (i := 15) (N := some 66) #[true, true, true, true, true, true, true, true, true, true, true, true, true, true, true, true, true, false, false, false, false] rfl rfl (one_of HT_.out (by kernel_rfl)) (by decide) (fun K hK => ?_)
         refine goes_ Tryd.func20 (by kernel_rfl) rfl #[.slice (some ad630) t626.length co47] (by rfl) rfl rfl tA ?_
         with_reducible refine (impl_FormatList.calls kj5 _ _ t626 t631 _ ?side1 ?side2 A40.out).mono ?_
         (case side1 => repeat (first | exact (Kd.R_reads' HO629.out).2.2 | (with_reducible refine Kd.C_alloc ?_ _) | (with_reducible refine Kd.C_drewN ?_ _) | (with_reducible refine Kd.C_drew ?_)))
         (case side2 => exact (Kd.R_reads' HO629.out).2.1)
         rintro e w48 ⟨rfl, hb⟩
         have HS3_ := (hb.cell (World.block_lt_of_cell? _ _ (hHeld.2.2.2.1))).trans (hHeld.2.2.2.1)
         have HS4_ := (hb.cell (World.block_lt_of_cell? _ _ (hHeld.2.2.2.2.1))).trans (hHeld.2.2.2.2.1)
         have HS5_ := (hb.cell (World.block_lt_of_cell? _ _ (hHeld.2.2.2.2.2))).trans (hHeld.2.2.2.2.2)
         refine ⟨_, rfl, ?_⟩
         have n0_ := Aside0.mk (Kd.R_below (by (with_reducible repeat (first | apply Kd.R_alloc | apply Kd.R_drewN | apply Kd.R_drew)); exact HO629.out) hb)
         have n1_ := Aside0.mk (blk_below (g := gb619) (o := .cells #[.string t615, .string t616, .string t617] 31 (0, 0)) tK hb)
         have n2_ := Aside0.mk (blk_below (g := gb624) (o := .cells #[.string t620, .string t621, .string t622] 31 (0, 0)) tK hb)
         have n3_ := Aside0.mk (below_step tG hb)
         clear HO629
         clear BK619
         clear BK624
         clear HB
         have HO629 := n0_
         have BK619 := n1_
         have BK624 := n2_
         have HB := n3_
         clear n0_ n1_ n2_ n3_
         (try clear hb)
         (try clear hb2)
         (try clear hk)
         (try clear hi)
         refine hK.out _ _ ⟨(blk_cell BK619.out 0).trans rfl, (blk_cell BK619.out 1).trans rfl, (blk_cell BK619.out 2).trans rfl, HS3_, HS4_, HS5_⟩ (fun hHeld => ?_)
         clear hK K
         refine norm_ (a' := ?_) ?_ ?_
         rotate_left
         ·show Act.put _ (some 66) _ = _
          simp only [Act.put, List.setIfInBounds_toArray, List.set_cons_zero, List.set_cons_succ, i64_w, i32_w]
          rfl
         refine one_ (i := 17) (N := some 68) #[true, true, true, true, true, true, true, true, true, true, true, true, true, true, true, true, true, true, false, false, false] rfl rfl (one_of HT_.out (by kernel_rfl)) (by decide) (fun K hK => ?_)
         refine goes_ Tryd.func19 (by kernel_rfl) rfl #[.agg #[.string t615, .string t616, .string t617]] (by rfl) rfl rfl tA ?_
         with_reducible refine (impl_FormatAddress.calls kj5 t615 t616 t617 t632 _ A41.out).mono ?_
         rintro e w49 ⟨rfl, hb⟩
         have HS3_ := (hb.cell (World.block_lt_of_cell? _ _ (hHeld.2.2.2.1))).trans (hHeld.2.2.2.1)
         have HS4_ := (hb.cell (World.block_lt_of_cell? _ _ (hHeld.2.2.2.2.1))).trans (hHeld.2.2.2.2.1)
         have HS5_ := (hb.cell (World.block_lt_of_cell? _ _ (hHeld.2.2.2.2.2))).trans (hHeld.2.2.2.2.2)
         refine ⟨_, rfl, ?_⟩
         have n0_ := Aside0.mk (Kd.R_below (by (with_reducible repeat (first | apply Kd.R_alloc | apply Kd.R_drewN | apply Kd.R_drew)); exact HO629.out) hb)
         have n1_ := Aside0.mk (blk_below (g := gb619) (o := .cells #[.string t615, .string t616, .string t617] 31 (0, 0)) tK hb)
         have n2_ := Aside0.mk (blk_below (g := gb624) (o := .cells #[.string t620, .string t621, .string t622] 31 (0, 0)) tK hb)
         have n3_ := Aside0.mk (below_step tG hb)
         clear HO629
         clear BK619
         clear BK624
         clear HB
         have HO629 := n0_
         have BK619 := n1_
         have BK624 := n2_
         have HB := n3_
         clear n0_ n1_ n2_ n3_
         (try clear hb)
         (try clear hb2)
         (try clear hk)
         (try clear hi)
         refine hK.out _ _ ⟨(blk_cell BK619.out 0).trans rfl, (blk_cell BK619.out 1).trans rfl, (blk_cell BK619.out 2).trans rfl, HS3_, HS4_, HS5_⟩ (fun hHeld => ?_)
         clear hK K
         refine norm_ (a' := ?_) ?_ ?_
         rotate_left
         ·show Act.put _ (some 68) _ = _
          simp only [Act.put, List.setIfInBounds_toArray, List.set_cons_zero, List.set_cons_succ, i64_w, i32_w]
          rfl
         refine pure_ (i := 18) (N := some 69) (v := ?_) (a' := ?_) #[true, true, true, true, true, true, true, true, true, true, true, true, true, true, true, true, true, true, true, false, false] rfl rfl (any_of HT_.out (by kernel_rfl)) (fun _ _ _ h => h) (Or.inl ⟨by rfl, ?_⟩) ?_ ?_
         rotate_left
         ·intro w'
          go_simp
          with_reducible rfl
         rotate_left
         ·simp only [Act.put, List.setIfInBounds_toArray, List.set_cons_zero, List.set_cons_succ, i64_w, i32_w]
          rfl
         refine pure_ (i := 19) (N := some 70) (v := ?_) (a' := ?_) #[true, true, true, true, true, true, true, true, true, true, true, true, true, true, true, true, true, true, true, true, false] rfl rfl (any_of HT_.out (by kernel_rfl)) (fun _ _ _ h => h) (Or.inl ⟨by rfl, ?_⟩) ?_ ?_
         rotate_left
         ·intro w'
          go_simp
          with_reducible rfl
         rotate_left
         ·simp only [Act.put, List.setIfInBounds_toArray, List.set_cons_zero, List.set_cons_succ, i64_w, i32_w]
          rfl
         refine pure_ (i := 20) (N := some 2) (v := ?_) (a' := ?_) #[true, true, true, true, true, true, true, true, true, true, true, true, true, true, true, true, true, true, true, true, true] rfl rfl (any_of HT_.out (by kernel_rfl)) (fun _ _ _ h => h) (Or.inl ⟨by rfl, ?_⟩) ?_ ?_
         rotate_left
         ·intro w'
          go_simp
          with_reducible rfl
         rotate_left
         ·simp only [Act.put, List.setIfInBounds_toArray, List.set_cons_zero, List.set_cons_succ, i64_w, i32_w]
          rfl
         refine done_ (done_of HT_.out (by kernel_rfl)) ?_
         try go_wp2
         go_ret
         exact ⟨tE, tG⟩
        ·rw [if_neg c39] at H
         have c39b0 : ((((rd_T31 t626 0).f0).toList) == t615.toList && ((((rd_T31 t626 0).f1).toList) == t616.toList && ((((rd_T31 t626 0).f2).toList) == t617.toList))) = false := by simpa using c39
         (try (have c39b1 : decide ((((rd_T31 t626 0).f0).toList) = t615.toList && ((((rd_T31 t626 0).f1).toList) == t616.toList && ((((rd_T31 t626 0).f2).toList) == t617.toList))) = false := by simpa using c39))
         (try (have c39b2 : ((((rd_T31 t626 0).f0).toList) == t615.toList && ((((rd_T31 t626 0).f1).toList) == t616.toList && ((((rd_T31 t626 0).f2).toList) == t617.toList))) = false := by simpa using c39))
         (try (have c39b3 : ¬ ((((rd_T31 t626 0).f0).toList) = t615.toList && ((((rd_T31 t626 0).f1).toList) == t616.toList && ((((rd_T31 t626 0).f2).toList) == t617.toList))) := by simpa using c39))
         clear c39
         obtain rfl := Option.some.inj H
         have hnb50 := NB619_624.out
         have hnc50 := NB624_619.out
         have hcz51_0 : wc.cell? ⟨gb619, 0, none⟩ = some (.string t615) := (blk_cell BK619.out 0).trans rfl
         have hcz51_1 : wc.cell? ⟨gb619, 1, none⟩ = some (.string t616) := (blk_cell BK619.out 1).trans rfl
         have hcz51_2 : wc.cell? ⟨gb619, 2, none⟩ = some (.string t617) := (blk_cell BK619.out 2).trans rfl
         have hfz51_0 := blk_frozen BK619.out 0
         have hfz51_1 := blk_frozen BK619.out 1
         have hfz51_2 := blk_frozen BK619.out 2
         try go_wp2_with (first | ((with_reducible refine gate_callee (f := 19) rfl ?_); refine goesL_ (some 47) rfl rfl Tryd.func19 (by kernel_rfl) rfl #[.agg #[.string t615, .string t616, .string t617]] rfl tA ?_; (with_reducible refine (impl_FormatAddress.calls kj5 t615 t616 t617 t625 _ A34.out).mono ?_); rintro e w52 ⟨rfl, hb⟩; refine ⟨_, rfl, ?_⟩; have n0_ := Aside0.mk (blk_below (g := gb619) (o := .cells #[.string t615, .string t616, .string t617] 31 (0, 0)) tK hb); have n1_ := Aside0.mk (blk_below (g := gb624) (o := .cells #[.string t620, .string t621, .string t622] 31 (0, 0)) tK hb); have n2_ := Aside0.mk (below_step tG hb); clear BK619; clear BK624; clear HB; have BK619 := n0_; have BK624 := n1_; have HB := n2_; clear n0_ n1_ n2_; (try clear hb); (try clear hb2); (try clear hk); (try clear hi)) | ((with_reducible refine gate_callee (f := 12) rfl ?_); refine goesL_ (some 48) rfl rfl Tryd.func12 (by kernel_rfl) rfl #[.string t625] rfl tA ?_; (with_reducible refine (impl_ParseList.calls kj5 t625 t626 true _ A35.out).mono ?_); rintro e w53 ⟨v628, rfl, ho0, hb⟩; refine ⟨_, rfl, ?_⟩; have n0_ := Aside0.mk (Kd.R_lower (Kd.R_newB (Kd.R_newB ho0 (g := gb619) (o := .cells #[.string t615, .string t616, .string t617] 31 (0, 0)) tK) (g := gb624) (o := .cells #[.string t620, .string t621, .string t622] 31 (0, 0)) tK) (below_size tG)); have n1_ := Aside0.mk (blk_below (g := gb619) (o := .cells #[.string t615, .string t616, .string t617] 31 (0, 0)) tK hb); have n2_ := Aside0.mk (blk_below (g := gb624) (o := .cells #[.string t620, .string t621, .string t622] 31 (0, 0)) tK hb); have n3_ := Aside0.mk (below_step tG hb); clear BK619; clear BK624; clear HB; have HO629 := n0_; have BK619 := n1_; have BK624 := n2_; have HB := n3_; clear n0_ n1_ n2_ n3_; (try clear hb); (try clear hb2); (try clear hk); (try clear hi); (try clear ho0)))
         have n0_ := Aside0.mk (Kd.R_drew HO629.out)
         have n1_ := Aside0.mk (blk_drew BK619.out)
         have n2_ := Aside0.mk (blk_drew BK624.out)
         have n3_ := Aside0.mk (below_drew1 HB.out)
         clear HO629
         clear BK619
         clear BK624
         clear HB
         have HO629 := n0_
         have BK619 := n1_
         have BK624 := n2_
         have HB := n3_
         clear n0_ n1_ n2_ n3_
         obtain ⟨Ao55, co55, eo55⟩ := Kd.R_slice HO629.out
         (first | subst eo55 | (injection eo55 with f1_ f2_ f3_; have f4_ := f1_.symm; have f5_ := f3_.symm; clear f1_ f2_ f3_; subst f4_; subst f5_))
         have p630 : 0 ≤ (0 : Int) := (by omega)
         have q630 : 0 < (t626.length : Int) := of_decide_eq_true tF
         obtain ⟨ad630, e630, hx630_0, hx630_1, hx630_2⟩ := at_T31 (Kd.R_reads' HO629.out).2.2 0 p630 q630
         cases e630
         have qi630 : (0 < t626.length) = True := eq_true (by omega)
         (try rw [show ((0 : Int)).toNat = 0 from rfl] at hx630_0)
         (try rw [show 0 * 3 = 0 from rfl] at hx630_0)
         (try rw [Addr.add_zero'] at hx630_0)
         (try rw [show ((0 : Int)).toNat = 0 from rfl] at hx630_1)
         (try rw [show 0 * 3 = 0 from rfl] at hx630_1)
         (try rw [Addr.add_zero'] at hx630_1)
         (try rw [show ((0 : Int)).toNat = 0 from rfl] at hx630_2)
         (try rw [show 0 * 3 = 0 from rfl] at hx630_2)
         (try rw [Addr.add_zero'] at hx630_2)
         replace p630 := eq_true p630
         replace q630 := eq_true q630
         refine start_ (n := 21) (S := fun w' => w'.cell? ⟨gb619, 0, none⟩ = some (.string t615) ∧ w'.cell? ⟨gb619, 1, none⟩ = some (.string t616) ∧ w'.cell? ⟨gb619, 2, none⟩ = some (.string t617) ∧ w'.cell? ad630 = some (.string ((rd_T31 t626 0).f0)) ∧ w'.cell? ⟨ad630.block, ad630.off + 1, none⟩ = some (.string ((rd_T31 t626 0).f1)) ∧ w'.cell? ⟨ad630.block, ad630.off + 2, none⟩ = some (.string ((rd_T31 t626 0).f2))) (ds := []) #[false, false, false, false, false, false, false, false, false, false, false, false, false, false, false, false, false, false, false, false, false] (by kernel_rfl) rfl rfl ⟨(blk_cell BK619.out 0).trans rfl, (blk_cell BK619.out 1).trans rfl, (blk_cell BK619.out 2).trans rfl, hx630_0, hx630_1, hx630_2⟩ (fun hHeld => ?_); refine with_tabW laws_FnListOne.tab9 laws_FnListOne.bits9 (fun HT_ HW_ => ?_)
         generalize w53.drew = w54 at HO629 BK619 BK624 HB hx630_0 hx630_1 hx630_2 hHeld ⊢
         refine pure_ (i := 0) (N := some 51) (v := ?_) (a' := ?_) #[true, false, false, false, false, false, false, false, false, false, false, false, false, false, false, false, false, false, false, false, false] rfl rfl (any_of HT_.out (by kernel_rfl)) (fun _ _ _ h => h) (Or.inl ⟨by rfl, ?_⟩) ?_ ?_
         rotate_left
         ·intro w'
          go_simp
          with_reducible rfl
         rotate_left
         ·simp only [Act.put, List.setIfInBounds_toArray, List.set_cons_zero, List.set_cons_succ, i64_w, i32_w]
          rfl
         refine pure_ (i := 1) (N := some 52) (v := ?_) (a' := ?_) #[true, true, false, false, false, false, false, false, false, false, false, false, false, false, false, false, false, false, false, false, false] rfl rfl (any_of HT_.out (by kernel_rfl)) (fun _ _ _ h => h) (Or.inl ⟨by rfl, ?_⟩) ?_ ?_
         rotate_left
         ·intro w'
          go_simp
          with_reducible rfl
         rotate_left
         ·simp only [Act.put, List.setIfInBounds_toArray, List.set_cons_zero, List.set_cons_succ, i64_w, i32_w]
          rfl
         refine pure_ (i := 2) (N := some 53) (v := ?_) (a' := ?_) #[true, true, true, false, false, false, false, false, false, false, false, false, false, false, false, false, false, false, false, false, false] rfl rfl (any_of HT_.out (by kernel_rfl)) (fun _ _ _ h => h) (Or.inl ⟨by rfl, ?_⟩) ?_ ?_
         rotate_left
         ·intro w'
          go_simp
          with_reducible rfl
         rotate_left
         ·simp only [Act.put, List.setIfInBounds_toArray, List.set_cons_zero, List.set_cons_succ, i64_w, i32_w]
          rfl
         refine pure_ (i := 3) (N := some 54) (v := ?_) (a' := ?_) #[true, true, true, true, false, false, false, false, false, false, false, false, false, false, false, false, false, false, false, false, false] rfl rfl (any_of HT_.out (by kernel_rfl)) (fun _ _ _ h => h) (Or.inl ⟨by rfl, ?_⟩) ?_ ?_
         rotate_left
         ·intro w'
          go_simp
          with_reducible rfl
         rotate_left
         ·simp only [Act.put, List.setIfInBounds_toArray, List.set_cons_zero, List.set_cons_succ, i64_w, i32_w]
          rfl
         refine pure_ (i := 4) (N := some 55) (v := ?_) (a' := ?_) #[true, true, true, true, true, false, false, false, false, false, false, false, false, false, false, false, false, false, false, false, false] rfl rfl (any_of HT_.out (by kernel_rfl)) (fun _ _ _ h => h) (Or.inl ⟨by rfl, ?_⟩) ?_ ?_
         rotate_left
         ·intro w'
          go_simp
          with_reducible rfl
         rotate_left
         ·simp only [Act.put, List.setIfInBounds_toArray, List.set_cons_zero, List.set_cons_succ, i64_w, i32_w]
          rfl
         refine pure_ (i := 5) (N := some 56) (v := ?_) (a' := ?_) #[true, true, true, true, true, true, false, false, false, false, false, false, false, false, false, false, false, false, false, false, false] rfl rfl (any_of HT_.out (by kernel_rfl)) (fun _ _ _ h => h) (Or.inl ⟨by rfl, ?_⟩) ?_ ?_
         rotate_left
         ·intro w'
          go_simp
          with_reducible rfl
         rotate_left
         ·simp only [Act.put, List.setIfInBounds_toArray, List.set_cons_zero, List.set_cons_succ, i64_w, i32_w]
          rfl
         refine pure_ (i := 6) (N := some 57) (v := ?_) (a' := ?_) #[true, true, true, true, true, true, true, false, false, false, false, false, false, false, false, false, false, false, false, false, false] rfl rfl (any_of HT_.out (by kernel_rfl)) (fun _ _ _ h => h) (Or.inl ⟨by rfl, ?_⟩) ?_ ?_
         rotate_left
         ·intro w'
          go_simp
          with_reducible rfl
         rotate_left
         ·simp only [Act.put, List.setIfInBounds_toArray, List.set_cons_zero, List.set_cons_succ, i64_w, i32_w]
          rfl
         refine pure_ (i := 7) (N := some 58) (v := ?_) (a' := ?_) #[true, true, true, true, true, true, true, true, false, false, false, false, false, false, false, false, false, false, false, false, false] rfl rfl (any_of HT_.out (by kernel_rfl)) (fun _ _ _ h => h) (Or.inl ⟨by rfl, ?_⟩) ?_ ?_
         rotate_left
         ·intro w'
          go_simp
          with_reducible rfl
         rotate_left
         ·simp only [Act.put, List.setIfInBounds_toArray, List.set_cons_zero, List.set_cons_succ, i64_w, i32_w]
          rfl
         refine pure_ (i := 8) (N := some 59) (v := ?_) (a' := ?_) #[true, true, true, true, true, true, true, true, true, false, false, false, false, false, false, false, false, false, false, false, false] rfl rfl (any_of HT_.out (by kernel_rfl)) (fun _ _ _ h => h) (Or.inl ⟨by rfl, ?_⟩) ?_ ?_
         rotate_left
         ·intro w'
          go_simp
          with_reducible rfl
         rotate_left
         ·simp only [Act.put, List.setIfInBounds_toArray, List.set_cons_zero, List.set_cons_succ, i64_w, i32_w]
          rfl
         refine take_ (i := 9) (N := some 60) (v := ?_) (a' := ?_) #[true, true, true, true, true, true, true, true, true, true, false, false, false, false, false, false, false, false, false, false, false] rfl rfl (take_ofW HT_.out HW_.out (by kernel_rfl)) (fun _ _ _ h => h) (Or.inl ⟨by rfl, ?_⟩) hHeld ?_ ?_
         rotate_left
         ·rintro w' ⟨s0, s1, s2, s3, s4, s5⟩
          go_simp
          with_reducible rfl
         rotate_left
         ·simp only [Act.put, List.setIfInBounds_toArray, List.set_cons_zero, List.set_cons_succ, i64_w, i32_w]
          rfl
         refine take_ (i := 10) (N := some 61) (v := ?_) (a' := ?_) #[true, true, true, true, true, true, true, true, true, true, true, false, false, false, false, false, false, false, false, false, false] rfl rfl (take_ofW HT_.out HW_.out (by kernel_rfl)) (fun _ _ _ h => h) (Or.inl ⟨by rfl, ?_⟩) hHeld ?_ ?_
         rotate_left
         ·rintro w' ⟨s0, s1, s2, s3, s4, s5⟩
          go_simp
          with_reducible rfl
         rotate_left
         ·simp only [Act.put, List.setIfInBounds_toArray, List.set_cons_zero, List.set_cons_succ, i64_w, i32_w]
          rfl
         refine pure_ (i := 11) (N := some 62) (v := ?_) (a' := ?_) #[true, true, true, true, true, true, true, true, true, true, true, true, false, false, false, false, false, false, false, false, false] rfl rfl (any_of HT_.out (by kernel_rfl)) (fun _ _ _ h => h) (Or.inl ⟨by rfl, ?_⟩) ?_ ?_
         rotate_left
         ·intro w'
          go_simp
          with_reducible rfl
         rotate_left
         ·simp only [Act.put, List.setIfInBounds_toArray, List.set_cons_zero, List.set_cons_succ, i64_w, i32_w]
          rfl
         refine pure_ (i := 12) (N := some 63) (v := ?_) (a' := ?_) #[true, true, true, true, true, true, true, true, true, true, true, true, true, false, false, false, false, false, false, false, false] rfl rfl (any_of HT_.out (by kernel_rfl)) (fun _ _ _ h => h) (Or.inl ⟨by rfl, ?_⟩) ?_ ?_
         rotate_left
         ·intro w'
          go_simp
          with_reducible rfl
         rotate_left
         ·simp only [Act.put, List.setIfInBounds_toArray, List.set_cons_zero, List.set_cons_succ, i64_w, i32_w]
          rfl
         refine pure_ (i := 13) (N := some 64) (v := ?_) (a' := ?_) #[true, true, true, true, true, true, true, true, true, true, true, true, true, true, false, false, false, false, false, false, false] rfl rfl (any_of HT_.out (by kernel_rfl)) (fun _ _ _ h => h) (Or.inl ⟨by rfl, ?_⟩) ?_ ?_
         rotate_left
         ·intro w'
          go_simp
          with_reducible rfl
         rotate_left
         ·simp only [Act.put, List.setIfInBounds_toArray, List.set_cons_zero, List.set_cons_succ, i64_w, i32_w]
          rfl
         refine pure_ (i := 14) (N := some 65) (v := undef) (a' := ?_) #[true, true, true, true, true, true, true, true, true, true, true, true, true, true, true, false, false, false, false, false, false] rfl rfl (any_of HT_.out (by kernel_rfl)) (fun _ _ _ h => h) (Or.inr ⟨by rfl, rfl⟩) ?_ ?_
         rotate_left
         ·simp only [Act.put, List.setIfInBounds_toArray, List.set_cons_zero, List.set_cons_succ, i64_w, i32_w]
          rfl
         refine pure_ (i := 15) (N := some 66) (v := undef) (a' := ?_) #[true, true, true, true, true, true, true, true, true, true, true, true, true, true, true, true, false, false, false, false, false] rfl rfl (any_of HT_.out (by kernel_rfl)) (fun _ _ _ h => h) (Or.inr ⟨by rfl, rfl⟩) ?_ ?_
         rotate_left
         ·simp only [Act.put, List.setIfInBounds_toArray, List.set_cons_zero, List.set_cons_succ, i64_w, i32_w]
          rfl
         refine pure_ (i := 16) (N := some 67) (v := undef) (a' := ?_) #[true, true, true, true, true, true, true, true, true, true, true, true, true, true, true, true, true, false, false, false, false] rfl rfl (any_of HT_.out (by kernel_rfl)) (fun _ _ _ h => h) (Or.inr ⟨by rfl, rfl⟩) ?_ ?_
         rotate_left
         ·simp only [Act.put, List.setIfInBounds_toArray, List.set_cons_zero, List.set_cons_succ, i64_w, i32_w]
          rfl
         refine pure_ (i := 17) (N := some 68) (v := undef) (a' := ?_) #[true, true, true, true, true, true, true, true, true, true, true, true, true, true, true, true, true, true, false, false, false] rfl rfl (any_of HT_.out (by kernel_rfl)) (fun _ _ _ h => h) (Or.inr ⟨by rfl, rfl⟩) ?_ ?_
         rotate_left
         ·simp only [Act.put, List.setIfInBounds_toArray, List.set_cons_zero, List.set_cons_succ, i64_w, i32_w]
          rfl
         refine pure_ (i := 18) (N := some 69) (v := undef) (a' := ?_) #[true, true, true, true, true, true, true, true, true, true, true, true, true, true, true, true, true, true, true, false, false] rfl rfl (any_of HT_.out (by kernel_rfl)) (fun _ _ _ h => h) (Or.inr ⟨by rfl, rfl⟩) ?_ ?_
         rotate_left
         ·simp only [Act.put, List.setIfInBounds_toArray, List.set_cons_zero, List.set_cons_succ, i64_w, i32_w]
          rfl
         refine pure_ (i := 19) (N := some 70) (v := ?_) (a' := ?_) #[true, true, true, true, true, true, true, true, true, true, true, true, true, true, true, true, true, true, true, true, false] rfl rfl (any_of HT_.out (by kernel_rfl)) (fun _ _ _ h => h) (Or.inl ⟨by rfl, ?_⟩) ?_ ?_
         rotate_left
         ·intro w'
          go_simp
          with_reducible rfl
         rotate_left
         ·simp only [Act.put, List.setIfInBounds_toArray, List.set_cons_zero, List.set_cons_succ, i64_w, i32_w]
          rfl
         refine pure_ (i := 20) (N := some 2) (v := ?_) (a' := ?_) #[true, true, true, true, true, true, true, true, true, true, true, true, true, true, true, true, true, true, true, true, true] rfl rfl (any_of HT_.out (by kernel_rfl)) (fun _ _ _ h => h) (Or.inl ⟨by rfl, ?_⟩) ?_ ?_
         rotate_left
         ·intro w'
          go_simp
          with_reducible rfl
         rotate_left
         ·simp only [Act.put, List.setIfInBounds_toArray, List.set_cons_zero, List.set_cons_succ, i64_w, i32_w]
          rfl
         refine done_ (done_of HT_.out (by kernel_rfl)) ?_
         try go_wp2
         go_ret
         exact ⟨tE, tG⟩
       ·rw [if_neg c38] at H
        exact absurd H (by simp)
      ·rw [if_neg c37] at H
       have c37b0 : ((t626.length : Int) == 1) = false := beq_eq_false_iff_ne.mpr c37
       have c37b1 : ((t626.length : Int) != 1) = true := bne_iff_ne.mpr c37
       obtain rfl := Option.some.inj H
       have hnb56 := NB619_624.out
       have hnc56 := NB624_619.out
       have hcz57_0 : wc.cell? ⟨gb619, 0, none⟩ = some (.string t615) := (blk_cell BK619.out 0).trans rfl
       have hcz57_1 : wc.cell? ⟨gb619, 1, none⟩ = some (.string t616) := (blk_cell BK619.out 1).trans rfl
       have hcz57_2 : wc.cell? ⟨gb619, 2, none⟩ = some (.string t617) := (blk_cell BK619.out 2).trans rfl
       have hfz57_0 := blk_frozen BK619.out 0
       have hfz57_1 := blk_frozen BK619.out 1
       have hfz57_2 := blk_frozen BK619.out 2
       try go_wp2_with (first | ((with_reducible refine gate_callee (f := 19) rfl ?_); refine goesL_ (some 47) rfl rfl Tryd.func19 (by kernel_rfl) rfl #[.agg #[.string t615, .string t616, .string t617]] rfl tA ?_; (with_reducible refine (impl_FormatAddress.calls kj5 t615 t616 t617 t625 _ A34.out).mono ?_); rintro e w58 ⟨rfl, hb⟩; refine ⟨_, rfl, ?_⟩; have n0_ := Aside0.mk (blk_below (g := gb619) (o := .cells #[.string t615, .string t616, .string t617] 31 (0, 0)) tK hb); have n1_ := Aside0.mk (blk_below (g := gb624) (o := .cells #[.string t620, .string t621, .string t622] 31 (0, 0)) tK hb); have n2_ := Aside0.mk (below_step tG hb); clear BK619; clear BK624; clear HB; have BK619 := n0_; have BK624 := n1_; have HB := n2_; clear n0_ n1_ n2_; (try clear hb); (try clear hb2); (try clear hk); (try clear hi)) | ((with_reducible refine gate_callee (f := 12) rfl ?_); refine goesL_ (some 48) rfl rfl Tryd.func12 (by kernel_rfl) rfl #[.string t625] rfl tA ?_; (with_reducible refine (impl_ParseList.calls kj5 t625 t626 true _ A35.out).mono ?_); rintro e w59 ⟨v628, rfl, ho0, hb⟩; refine ⟨_, rfl, ?_⟩; have n0_ := Aside0.mk (Kd.R_lower (Kd.R_newB (Kd.R_newB ho0 (g := gb619) (o := .cells #[.string t615, .string t616, .string t617] 31 (0, 0)) tK) (g := gb624) (o := .cells #[.string t620, .string t621, .string t622] 31 (0, 0)) tK) (below_size tG)); have n1_ := Aside0.mk (blk_below (g := gb619) (o := .cells #[.string t615, .string t616, .string t617] 31 (0, 0)) tK hb); have n2_ := Aside0.mk (blk_below (g := gb624) (o := .cells #[.string t620, .string t621, .string t622] 31 (0, 0)) tK hb); have n3_ := Aside0.mk (below_step tG hb); clear BK619; clear BK624; clear HB; have HO629 := n0_; have BK619 := n1_; have BK624 := n2_; have HB := n3_; clear n0_ n1_ n2_ n3_; (try clear hb); (try clear hb2); (try clear hk); (try clear hi); (try clear ho0)))
       have n0_ := Aside0.mk (Kd.R_drew HO629.out)
       have n1_ := Aside0.mk (blk_drew BK619.out)
       have n2_ := Aside0.mk (blk_drew BK624.out)
       have n3_ := Aside0.mk (below_drew1 HB.out)
       clear HO629
       clear BK619
       clear BK624
       clear HB
       have HO629 := n0_
       have BK619 := n1_
       have BK624 := n2_
       have HB := n3_
       clear n0_ n1_ n2_ n3_
       obtain ⟨Ao61, co61, eo61⟩ := Kd.R_slice HO629.out
       (first | subst eo61 | (injection eo61 with f1_ f2_ f3_; have f4_ := f1_.symm; have f5_ := f3_.symm; clear f1_ f2_ f3_; subst f4_; subst f5_))
       refine start_ (n := 21) (S := fun w' => True) (ds := []) #[false, false, false, false, false, false, false, false, false, false, false, false, false, false, false, false, false, false, false, false, false] (by kernel_rfl) rfl rfl trivial (fun hHeld => ?_); refine with_tabW laws_FnListOne.tab9 laws_FnListOne.bits9 (fun HT_ HW_ => ?_)
       generalize w59.drew = w60 at HO629 BK619 BK624 HB hHeld ⊢
       refine pure_ (i := 0) (N := some 51) (v := ?_) (a' := ?_) #[true, false, false, false, false, false, false, false, false, false, false, false, false, false, false, false, false, false, false, false, false] rfl rfl (any_of HT_.out (by kernel_rfl)) (fun _ _ _ h => h) (Or.inl ⟨by rfl, ?_⟩) ?_ ?_
       rotate_left
       ·intro w'
        go_simp
        with_reducible rfl
       rotate_left
       ·simp only [Act.put, List.setIfInBounds_toArray, List.set_cons_zero, List.set_cons_succ, i64_w, i32_w]
        rfl
       refine pure_ (i := 1) (N := some 52) (v := ?_) (a' := ?_) #[true, true, false, false, false, false, false, false, false, false, false, false, false, false, false, false, false, false, false, false, false] rfl rfl (any_of HT_.out (by kernel_rfl)) (fun _ _ _ h => h) (Or.inl ⟨by rfl, ?_⟩) ?_ ?_
       rotate_left
       ·intro w'
        go_simp
        with_reducible rfl
       rotate_left
       ·simp only [Act.put, List.setIfInBounds_toArray, List.set_cons_zero, List.set_cons_succ, i64_w, i32_w]
        rfl
       refine pure_ (i := 2) (N := some 53) (v := ?_) (a' := ?_) #[true, true, true, false, false, false, false, false, false, false, false, false, false, false, false, false, false, false, false, false, false] rfl rfl (any_of HT_.out (by kernel_rfl)) (fun _ _ _ h => h) (Or.inl ⟨by rfl, ?_⟩) ?_ ?_
       rotate_left
       ·intro w'
        go_simp
        with_reducible rfl
       rotate_left
       ·simp only [Act.put, List.setIfInBounds_toArray, List.set_cons_zero, List.set_cons_succ, i64_w, i32_w]
        rfl
       refine pure_ (i := 3) (N := some 54) (v := ?_) (a' := ?_) #[true, true, true, true, false, false, false, false, false, false, false, false, false, false, false, false, false, false, false, false, false] rfl rfl (any_of HT_.out (by kernel_rfl)) (fun _ _ _ h => h) (Or.inl ⟨by rfl, ?_⟩) ?_ ?_
       rotate_left
       ·intro w'
        go_simp
        with_reducible rfl
       rotate_left
       ·simp only [Act.put, List.setIfInBounds_toArray, List.set_cons_zero, List.set_cons_succ, i64_w, i32_w]
        rfl
       refine pure_ (i := 4) (N := some 55) (v := ?_) (a' := ?_) #[true, true, true, true, true, false, false, false, false, false, false, false, false, false, false, false, false, false, false, false, false] rfl rfl (any_of HT_.out (by kernel_rfl)) (fun _ _ _ h => h) (Or.inl ⟨by rfl, ?_⟩) ?_ ?_
       rotate_left
       ·intro w'
        go_simp
        with_reducible rfl
       rotate_left
       ·simp only [Act.put, List.setIfInBounds_toArray, List.set_cons_zero, List.set_cons_succ, i64_w, i32_w]
        rfl
       refine pure_ (i := 5) (N := some 56) (v := ?_) (a' := ?_) #[true, true, true, true, true, true, false, false, false, false, false, false, false, false, false, false, false, false, false, false, false] rfl rfl (any_of HT_.out (by kernel_rfl)) (fun _ _ _ h => h) (Or.inl ⟨by rfl, ?_⟩) ?_ ?_
       rotate_left
       ·intro w'
        go_simp
        with_reducible rfl
       rotate_left
       ·simp only [Act.put, List.setIfInBounds_toArray, List.set_cons_zero, List.set_cons_succ, i64_w, i32_w]
        rfl
       refine pure_ (i := 6) (N := some 57) (v := ?_) (a' := ?_) #[true, true, true, true, true, true, true, false, false, false, false, false, false, false, false, false, false, false, false, false, false] rfl rfl (any_of HT_.out (by kernel_rfl)) (fun _ _ _ h => h) (Or.inl ⟨by rfl, ?_⟩) ?_ ?_
       rotate_left
       ·intro w'
        go_simp
        with_reducible rfl
       rotate_left
       ·simp only [Act.put, List.setIfInBounds_toArray, List.set_cons_zero, List.set_cons_succ, i64_w, i32_w]
        rfl
       refine pure_ (i := 7) (N := some 58) (v := undef) (a' := ?_) #[true, true, true, true, true, true, true, true, false, false, false, false, false, false, false, false, false, false, false, false, false] rfl rfl (any_of HT_.out (by kernel_rfl)) (fun _ _ _ h => h) (Or.inr ⟨by rfl, rfl⟩) ?_ ?_
       rotate_left
       ·simp only [Act.put, List.setIfInBounds_toArray, List.set_cons_zero, List.set_cons_succ, i64_w, i32_w]
        rfl
       refine pure_ (i := 8) (N := some 59) (v := undef) (a' := ?_) #[true, true, true, true, true, true, true, true, true, false, false, false, false, false, false, false, false, false, false, false, false] rfl rfl (any_of HT_.out (by kernel_rfl)) (fun _ _ _ h => h) (Or.inr ⟨by rfl, rfl⟩) ?_ ?_
       rotate_left
       ·simp only [Act.put, List.setIfInBounds_toArray, List.set_cons_zero, List.set_cons_succ, i64_w, i32_w]
        rfl
       refine pure_ (i := 9) (N := some 60) (v := undef) (a' := ?_) #[true, true, true, true, true, true, true, true, true, true, false, false, false, false, false, false, false, false, false, false, false] rfl rfl (any_of HT_.out (by kernel_rfl)) (fun _ _ _ h => h) (Or.inr ⟨by rfl, rfl⟩) ?_ ?_
       rotate_left
       ·simp only [Act.put, List.setIfInBounds_toArray, List.set_cons_zero, List.set_cons_succ, i64_w, i32_w]
        rfl
       refine pure_ (i := 10) (N := some 61) (v := undef) (a' := ?_) #[true, true, true, true, true, true, true, true, true, true, true, false, false, false, false, false, false, false, false, false, false] rfl rfl (any_of HT_.out (by kernel_rfl)) (fun _ _ _ h => h) (Or.inr ⟨by rfl, rfl⟩) ?_ ?_
       rotate_left
       ·simp only [Act.put, List.setIfInBounds_toArray, List.set_cons_zero, List.set_cons_succ, i64_w, i32_w]
        rfl
       refine pure_ (i := 11) (N := some 62) (v := undef) (a' := ?_) #[true, true, true, true, true, true, true, true, true, true, true, true, false, false, false, false, false, false, false, false, false] rfl rfl (any_of HT_.out (by kernel_rfl)) (fun _ _ _ h => h) (Or.inr ⟨by rfl, rfl⟩) ?_ ?_
       rotate_left
       ·simp only [Act.put, List.setIfInBounds_toArray, List.set_cons_zero, List.set_cons_succ, i64_w, i32_w]
        rfl
       refine pure_ (i := 12) (N := some 63) (v := ?_) (a' := ?_) #[true, true, true, true, true, true, true, true, true, true, true, true, true, false, false, false, false, false, false, false, false] rfl rfl (any_of HT_.out (by kernel_rfl)) (fun _ _ _ h => h) (Or.inl ⟨by rfl, ?_⟩) ?_ ?_
       rotate_left
       ·intro w'
        go_simp
        with_reducible rfl
       rotate_left
       ·simp only [Act.put, List.setIfInBounds_toArray, List.set_cons_zero, List.set_cons_succ, i64_w, i32_w]
        rfl
       refine pure_ (i := 13) (N := some 64) (v := ?_) (a' := ?_) #[true, true, true, true, true, true, true, true, true, true, true, true, true, true, false, false, false, false, false, false, false] rfl rfl (any_of HT_.out (by kernel_rfl)) (fun _ _ _ h => h) (Or.inl ⟨by rfl, ?_⟩) ?_ ?_
       rotate_left
       ·intro w'
        go_simp
        with_reducible rfl
       rotate_left
       ·simp only [Act.put, List.setIfInBounds_toArray, List.set_cons_zero, List.set_cons_succ, i64_w, i32_w]
        rfl
       refine pure_ (i := 14) (N := some 65) (v := undef) (a' := ?_) #[true, true, true, true, true, true, true, true, true, true, true, true, true, true, true, false, false, false, false, false, false] rfl rfl (any_of HT_.out (by kernel_rfl)) (fun _ _ _ h => h) (Or.inr ⟨by rfl, rfl⟩) ?_ ?_
       rotate_left
       ·simp only [Act.put, List.setIfInBounds_toArray, List.set_cons_zero, List.set_cons_succ, i64_w, i32_w]
        rfl
       refine pure_ (i := 15) (N := some 66) (v := undef) (a' := ?_) #[true, true, true, true, true, true, true, true, true, true, true, true, true, true, true, true, false, false, false, false, false] rfl rfl (any_of HT_.out (by kernel_rfl)) (fun _ _ _ h => h) (Or.inr ⟨by rfl, rfl⟩) ?_ ?_
       rotate_left
       ·simp only [Act.put, List.setIfInBounds_toArray, List.set_cons_zero, List.set_cons_succ, i64_w, i32_w]
        rfl
       refine pure_ (i := 16) (N := some 67) (v := undef) (a' := ?_) #[true, true, true, true, true, true, true, true, true, true, true, true, true, true, true, true, true, false, false, false, false] rfl rfl (any_of HT_.out (by kernel_rfl)) (fun _ _ _ h => h) (Or.inr ⟨by rfl, rfl⟩) ?_ ?_
       rotate_left
       ·simp only [Act.put, List.setIfInBounds_toArray, List.set_cons_zero, List.set_cons_succ, i64_w, i32_w]
        rfl
       refine pure_ (i := 17) (N := some 68) (v := undef) (a' := ?_) #[true, true, true, true, true, true, true, true, true, true, true, true, true, true, true, true, true, true, false, false, false] rfl rfl (any_of HT_.out (by kernel_rfl)) (fun _ _ _ h => h) (Or.inr ⟨by rfl, rfl⟩) ?_ ?_
       rotate_left
       ·simp only [Act.put, List.setIfInBounds_toArray, List.set_cons_zero, List.set_cons_succ, i64_w, i32_w]
        rfl
       refine pure_ (i := 18) (N := some 69) (v := undef) (a' := ?_) #[true, true, true, true, true, true, true, true, true, true, true, true, true, true, true, true, true, true, true, false, false] rfl rfl (any_of HT_.out (by kernel_rfl)) (fun _ _ _ h => h) (Or.inr ⟨by rfl, rfl⟩) ?_ ?_
       rotate_left
       ·simp only [Act.put, List.setIfInBounds_toArray, List.set_cons_zero, List.set_cons_succ, i64_w, i32_w]
        rfl
       refine pure_ (i := 19) (N := some 70) (v := ?_) (a' := ?_) #[true, true, true, true, true, true, true, true, true, true, true, true, true, true, true, true, true, true, true, true, false] rfl rfl (any_of HT_.out (by kernel_rfl)) (fun _ _ _ h => h) (Or.inl ⟨by rfl, ?_⟩) ?_ ?_
       rotate_left
       ·intro w'
        go_simp
        with_reducible rfl
       rotate_left
       ·simp only [Act.put, List.setIfInBounds_toArray, List.set_cons_zero, List.set_cons_succ, i64_w, i32_w]
        rfl
       refine pure_ (i := 20) (N := some 2) (v := ?_) (a' := ?_) #[true, true, true, true, true, true, true, true, true, true, true, true, true, true, true, true, true, true, true, true, true] rfl rfl (any_of HT_.out (by kernel_rfl)) (fun _ _ _ h => h) (Or.inl ⟨by rfl, ?_⟩) ?_ ?_
       rotate_left
       ·intro w'
        go_simp
        with_reducible rfl
       rotate_left
       ·simp only [Act.put, List.setIfInBounds_toArray, List.set_cons_zero, List.set_cons_succ, i64_w, i32_w]
        rfl
       refine done_ (done_of HT_.out (by kernel_rfl)) ?_
       try go_wp2
       go_ret
       exact ⟨tE, tG⟩
     ·replace c36 := Bool.eq_false_iff.mpr c36
      subst c36
      rw [if_neg (show ¬ (false = true) by decide)] at H
      obtain rfl := Option.some.inj H
      have hnb62 := NB619_624.out
      have hnc62 := NB624_619.out
      have hcz63_0 : wc.cell? ⟨gb619, 0, none⟩ = some (.string t615) := (blk_cell BK619.out 0).trans rfl
      have hcz63_1 : wc.cell? ⟨gb619, 1, none⟩ = some (.string t616) := (blk_cell BK619.out 1).trans rfl
      have hcz63_2 : wc.cell? ⟨gb619, 2, none⟩ = some (.string t617) := (blk_cell BK619.out 2).trans rfl
      have hfz63_0 := blk_frozen BK619.out 0
      have hfz63_1 := blk_frozen BK619.out 1
      have hfz63_2 := blk_frozen BK619.out 2
      try go_wp2_with (first | ((with_reducible refine gate_callee (f := 19) rfl ?_); refine goesL_ (some 47) rfl rfl Tryd.func19 (by kernel_rfl) rfl #[.agg #[.string t615, .string t616, .string t617]] rfl tA ?_; (with_reducible refine (impl_FormatAddress.calls kj5 t615 t616 t617 t625 _ A34.out).mono ?_); rintro e w64 ⟨rfl, hb⟩; refine ⟨_, rfl, ?_⟩; have n0_ := Aside0.mk (blk_below (g := gb619) (o := .cells #[.string t615, .string t616, .string t617] 31 (0, 0)) tK hb); have n1_ := Aside0.mk (blk_below (g := gb624) (o := .cells #[.string t620, .string t621, .string t622] 31 (0, 0)) tK hb); have n2_ := Aside0.mk (below_step tG hb); clear BK619; clear BK624; clear HB; have BK619 := n0_; have BK624 := n1_; have HB := n2_; clear n0_ n1_ n2_; (try clear hb); (try clear hb2); (try clear hk); (try clear hi)) | ((with_reducible refine gate_callee (f := 12) rfl ?_); refine goesL_ (some 48) rfl rfl Tryd.func12 (by kernel_rfl) rfl #[.string t625] rfl tA ?_; (with_reducible refine (impl_ParseList.calls kj5 t625 t626 false _ A35.out).mono ?_); rintro e w65 ⟨v628, rfl, ho0, hb⟩; refine ⟨_, rfl, ?_⟩; have n0_ := Aside0.mk (Kd.R_lower (Kd.R_newB (Kd.R_newB ho0 (g := gb619) (o := .cells #[.string t615, .string t616, .string t617] 31 (0, 0)) tK) (g := gb624) (o := .cells #[.string t620, .string t621, .string t622] 31 (0, 0)) tK) (below_size tG)); have n1_ := Aside0.mk (blk_below (g := gb619) (o := .cells #[.string t615, .string t616, .string t617] 31 (0, 0)) tK hb); have n2_ := Aside0.mk (blk_below (g := gb624) (o := .cells #[.string t620, .string t621, .string t622] 31 (0, 0)) tK hb); have n3_ := Aside0.mk (below_step tG hb); clear BK619; clear BK624; clear HB; have HO629 := n0_; have BK619 := n1_; have BK624 := n2_; have HB := n3_; clear n0_ n1_ n2_ n3_; (try clear hb); (try clear hb2); (try clear hk); (try clear hi); (try clear ho0)))
      have n0_ := Aside0.mk (Kd.R_drew HO629.out)
      have n1_ := Aside0.mk (blk_drew BK619.out)
      have n2_ := Aside0.mk (blk_drew BK624.out)
      have n3_ := Aside0.mk (below_drew1 HB.out)
      clear HO629
      clear BK619
      clear BK624
      clear HB
      have HO629 := n0_
      have BK619 := n1_
      have BK624 := n2_
      have HB := n3_
      clear n0_ n1_ n2_ n3_
      refine start_ (n := 21) (S := fun w' => True) (ds := []) #[false, false, false, false, false, false, false, false, false, false, false, false, false, false, false, false, false, false, false, false, false] (by kernel_rfl) rfl rfl trivial (fun hHeld => ?_); refine with_tabW laws_FnListOne.tab9 laws_FnListOne.bits9 (fun HT_ HW_ => ?_)
      generalize w65.drew = w66 at HO629 BK619 BK624 HB hHeld ⊢
      refine pure_ (i := 0) (N := some 51) (v := ?_) (a' := ?_) #[true, false, false, false, false, false, false, false, false, false, false, false, false, false, false, false, false, false, false, false, false] rfl rfl (any_of HT_.out (by kernel_rfl)) (fun _ _ _ h => h) (Or.inl ⟨by rfl, ?_⟩) ?_ ?_
      rotate_left
      ·intro w'
       go_simp
       with_reducible rfl
      rotate_left
      ·simp only [Act.put, List.setIfInBounds_toArray, List.set_cons_zero, List.set_cons_succ, i64_w, i32_w]
       rfl
      refine pure_ (i := 1) (N := some 52) (v := ?_) (a' := ?_) #[true, true, false, false, false, false, false, false, false, false, false, false, false, false, false, false, false, false, false, false, false] rfl rfl (any_of HT_.out (by kernel_rfl)) (fun _ _ _ h => h) (Or.inl ⟨by rfl, ?_⟩) ?_ ?_
      rotate_left
      ·intro w'
       go_simp
       with_reducible rfl
      rotate_left
      ·simp only [Act.put, List.setIfInBounds_toArray, List.set_cons_zero, List.set_cons_succ, i64_w, i32_w]
       rfl
      refine pure_ (i := 2) (N := some 53) (v := undef) (a' := ?_) #[true, true, true, false, false, false, false, false, false, false, false, false, false, false, false, false, false, false, false, false, false] rfl rfl (any_of HT_.out (by kernel_rfl)) (fun _ _ _ h => h) (Or.inr ⟨by rfl, rfl⟩) ?_ ?_
      rotate_left
      ·simp only [Act.put, List.setIfInBounds_toArray, List.set_cons_zero, List.set_cons_succ, i64_w, i32_w]
       rfl
      refine pure_ (i := 3) (N := some 54) (v := undef) (a' := ?_) #[true, true, true, true, false, false, false, false, false, false, false, false, false, false, false, false, false, false, false, false, false] rfl rfl (any_of HT_.out (by kernel_rfl)) (fun _ _ _ h => h) (Or.inr ⟨by rfl, rfl⟩) ?_ ?_
      rotate_left
      ·simp only [Act.put, List.setIfInBounds_toArray, List.set_cons_zero, List.set_cons_succ, i64_w, i32_w]
       rfl
      refine pure_ (i := 4) (N := some 55) (v := undef) (a' := ?_) #[true, true, true, true, true, false, false, false, false, false, false, false, false, false, false, false, false, false, false, false, false] rfl rfl (any_of HT_.out (by kernel_rfl)) (fun _ _ _ h => h) (Or.inr ⟨by rfl, rfl⟩) ?_ ?_
      rotate_left
      ·simp only [Act.put, List.setIfInBounds_toArray, List.set_cons_zero, List.set_cons_succ, i64_w, i32_w]
       rfl
      refine pure_ (i := 5) (N := some 56) (v := ?_) (a' := ?_) #[true, true, true, true, true, true, false, false, false, false, false, false, false, false, false, false, false, false, false, false, false] rfl rfl (any_of HT_.out (by kernel_rfl)) (fun _ _ _ h => h) (Or.inl ⟨by rfl, ?_⟩) ?_ ?_
      rotate_left
      ·intro w'
       go_simp
       with_reducible rfl
      rotate_left
      ·simp only [Act.put, List.setIfInBounds_toArray, List.set_cons_zero, List.set_cons_succ, i64_w, i32_w]
       rfl
      refine pure_ (i := 6) (N := some 57) (v := ?_) (a' := ?_) #[true, true, true, true, true, true, true, false, false, false, false, false, false, false, false, false, false, false, false, false, false] rfl rfl (any_of HT_.out (by kernel_rfl)) (fun _ _ _ h => h) (Or.inl ⟨by rfl, ?_⟩) ?_ ?_
      rotate_left
      ·intro w'
       go_simp
       with_reducible rfl
      rotate_left
      ·simp only [Act.put, List.setIfInBounds_toArray, List.set_cons_zero, List.set_cons_succ, i64_w, i32_w]
       rfl
      refine pure_ (i := 7) (N := some 58) (v := undef) (a' := ?_) #[true, true, true, true, true, true, true, true, false, false, false, false, false, false, false, false, false, false, false, false, false] rfl rfl (any_of HT_.out (by kernel_rfl)) (fun _ _ _ h => h) (Or.inr ⟨by rfl, rfl⟩) ?_ ?_
      rotate_left
      ·simp only [Act.put, List.setIfInBounds_toArray, List.set_cons_zero, List.set_cons_succ, i64_w, i32_w]
       rfl
      refine pure_ (i := 8) (N := some 59) (v := undef) (a' := ?_) #[true, true, true, true, true, true, true, true, true, false, false, false, false, false, false, false, false, false, false, false, false] rfl rfl (any_of HT_.out (by kernel_rfl)) (fun _ _ _ h => h) (Or.inr ⟨by rfl, rfl⟩) ?_ ?_
      rotate_left
      ·simp only [Act.put, List.setIfInBounds_toArray, List.set_cons_zero, List.set_cons_succ, i64_w, i32_w]
       rfl
      refine pure_ (i := 9) (N := some 60) (v := undef) (a' := ?_) #[true, true, true, true, true, true, true, true, true, true, false, false, false, false, false, false, false, false, false, false, false] rfl rfl (any_of HT_.out (by kernel_rfl)) (fun _ _ _ h => h) (Or.inr ⟨by rfl, rfl⟩) ?_ ?_
      rotate_left
      ·simp only [Act.put, List.setIfInBounds_toArray, List.set_cons_zero, List.set_cons_succ, i64_w, i32_w]
       rfl
      refine pure_ (i := 10) (N := some 61) (v := undef) (a' := ?_) #[true, true, true, true, true, true, true, true, true, true, true, false, false, false, false, false, false, false, false, false, false] rfl rfl (any_of HT_.out (by kernel_rfl)) (fun _ _ _ h => h) (Or.inr ⟨by rfl, rfl⟩) ?_ ?_
      rotate_left
      ·simp only [Act.put, List.setIfInBounds_toArray, List.set_cons_zero, List.set_cons_succ, i64_w, i32_w]
       rfl
      refine pure_ (i := 11) (N := some 62) (v := undef) (a' := ?_) #[true, true, true, true, true, true, true, true, true, true, true, true, false, false, false, false, false, false, false, false, false] rfl rfl (any_of HT_.out (by kernel_rfl)) (fun _ _ _ h => h) (Or.inr ⟨by rfl, rfl⟩) ?_ ?_
      rotate_left
      ·simp only [Act.put, List.setIfInBounds_toArray, List.set_cons_zero, List.set_cons_succ, i64_w, i32_w]
       rfl
      refine pure_ (i := 12) (N := some 63) (v := ?_) (a' := ?_) #[true, true, true, true, true, true, true, true, true, true, true, true, true, false, false, false, false, false, false, false, false] rfl rfl (any_of HT_.out (by kernel_rfl)) (fun _ _ _ h => h) (Or.inl ⟨by rfl, ?_⟩) ?_ ?_
      rotate_left
      ·intro w'
       go_simp
       with_reducible rfl
      rotate_left
      ·simp only [Act.put, List.setIfInBounds_toArray, List.set_cons_zero, List.set_cons_succ, i64_w, i32_w]
       rfl
      refine pure_ (i := 13) (N := some 64) (v := ?_) (a' := ?_) #[true, true, true, true, true, true, true, true, true, true, true, true, true, true, false, false, false, false, false, false, false] rfl rfl (any_of HT_.out (by kernel_rfl)) (fun _ _ _ h => h) (Or.inl ⟨by rfl, ?_⟩) ?_ ?_
      rotate_left
      ·intro w'
       go_simp
       with_reducible rfl
      rotate_left
      ·simp only [Act.put, List.setIfInBounds_toArray, List.set_cons_zero, List.set_cons_succ, i64_w, i32_w]
       rfl
      refine pure_ (i := 14) (N := some 65) (v := undef) (a' := ?_) #[true, true, true, true, true, true, true, true, true, true, true, true, true, true, true, false, false, false, false, false, false] rfl rfl (any_of HT_.out (by kernel_rfl)) (fun _ _ _ h => h) (Or.inr ⟨by rfl, rfl⟩) ?_ ?_
      rotate_left
      ·simp only [Act.put, List.setIfInBounds_toArray, List.set_cons_zero, List.set_cons_succ, i64_w, i32_w]
       rfl
      refine pure_ (i := 15) (N := some 66) (v := undef) (a' := ?_) #[true, true, true, true, true, true, true, true, true, true, true, true, true, true, true, true, false, false, false, false, false] rfl rfl (any_of HT_.out (by kernel_rfl)) (fun _ _ _ h => h) (Or.inr ⟨by rfl, rfl⟩) ?_ ?_
      rotate_left
      ·simp only [Act.put, List.setIfInBounds_toArray, List.set_cons_zero, List.set_cons_succ, i64_w, i32_w]
       rfl
      refine pure_ (i := 16) (N := some 67) (v := undef) (a' := ?_) #[true, true, true, true, true, true, true, true, true, true, true, true, true, true, true, true, true, false, false, false, false] rfl rfl (any_of HT_.out (by kernel_rfl)) (fun _ _ _ h => h) (Or.inr ⟨by rfl, rfl⟩) ?_ ?_
      rotate_left
      ·simp only [Act.put, List.setIfInBounds_toArray, List.set_cons_zero, List.set_cons_succ, i64_w, i32_w]
       rfl
      refine pure_ (i := 17) (N := some 68) (v := undef) (a' := ?_) #[true, true, true, true, true, true, true, true, true, true, true, true, true, true, true, true, true, true, false, false, false] rfl rfl (any_of HT_.out (by kernel_rfl)) (fun _ _ _ h => h) (Or.inr ⟨by rfl, rfl⟩) ?_ ?_
      rotate_left
      ·simp only [Act.put, List.setIfInBounds_toArray, List.set_cons_zero, List.set_cons_succ, i64_w, i32_w]
       rfl
      refine pure_ (i := 18) (N := some 69) (v := undef) (a' := ?_) #[true, true, true, true, true, true, true, true, true, true, true, true, true, true, true, true, true, true, true, false, false] rfl rfl (any_of HT_.out (by kernel_rfl)) (fun _ _ _ h => h) (Or.inr ⟨by rfl, rfl⟩) ?_ ?_
      rotate_left
      ·simp only [Act.put, List.setIfInBounds_toArray, List.set_cons_zero, List.set_cons_succ, i64_w, i32_w]
       rfl
      refine pure_ (i := 19) (N := some 70) (v := ?_) (a' := ?_) #[true, true, true, true, true, true, true, true, true, true, true, true, true, true, true, true, true, true, true, true, false] rfl rfl (any_of HT_.out (by kernel_rfl)) (fun _ _ _ h => h) (Or.inl ⟨by rfl, ?_⟩) ?_ ?_
      rotate_left
      ·intro w'
       go_simp
       with_reducible rfl
      rotate_left
      ·simp only [Act.put, List.setIfInBounds_toArray, List.set_cons_zero, List.set_cons_succ, i64_w, i32_w]
       rfl
      refine pure_ (i := 20) (N := some 2) (v := ?_) (a' := ?_) #[true, true, true, true, true, true, true, true, true, true, true, true, true, true, true, true, true, true, true, true, true] rfl rfl (any_of HT_.out (by kernel_rfl)) (fun _ _ _ h => h) (Or.inl ⟨by rfl, ?_⟩) ?_ ?_
      rotate_left
      ·intro w'
       go_simp
       with_reducible rfl
      rotate_left
      ·simp only [Act.put, List.setIfInBounds_toArray, List.set_cons_zero, List.set_cons_succ, i64_w, i32_w]
       rfl
      refine done_ (done_of HT_.out (by kernel_rfl)) ?_
      try go_wp2
      go_ret
      exact ⟨tE, tG⟩

/-- THE ONE PURE STATEMENT of laws_FnListOne: yours. -/
def laws_FnListOne.Pure : Prop := ∀ (l0 : List Int), l0.length ≤ maxLen → l0.length * 1 ≤ 140737488351232 → (∀ x ∈ l0, (Lit.int .u8 x).wf = true) → ∃ k, laws_FnListOne.f k l0 = some true
theorem laws_FnListOne.walk (P : laws_FnListOne.Pure) (a0 : Option Addr) (len0 cap0 : Nat) (z0 : List Int) (w : World) (w0 : (a0 = none ∧ len0 = 0 ∧ cap0 = 0 ∧ z0 = []) ∨ ∃ x, a0 = some x ∧ len0 ≤ cap0 ∧ cap0 ≤ maxLen ∧ z0.length = cap0 ∧ (∀ i, i < z0.length → w.cell? (x.add i) = some (.int .u8 (z0.getD i 0))) ∧ ∀ n ∈ z0, (Lit.int .u8 n).wf = true) (y0 : len0 * 1 ≤ 140737488351232) :
  Calls Tryd.prog 4 #[.slice a0 len0 cap0] w fun e w' => e = .returned (.bool true) ∧ Below w.heap.size w w' := by
 obtain ⟨l0, rfl, hr0, hm0, hw0, hc0⟩ := ReadsInt.ofRowC w0
 obtain ⟨k, h⟩ := P l0 hm0 y0 hw0
 refine (laws_FnListOne.calls k _ _ l0 true w (Kd.C_of_reads (d := (0 : Int)) (h1 := fun _ => rfl) hr0) hc0 h).mono ?_
 rintro e w' ⟨rfl, hd⟩
 exact ⟨rfl, hd⟩

end Go.Proofs.YtmehlmhpgbjddaaDoor.Q
