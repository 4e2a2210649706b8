/- What functions of the program come to, written by a program of this session (mwprint.py); no condition. -/
import Derived.Test.YtcnkakaipajloaaDoorQ0
import Derived.Test.YtcnkakaipajloaaDoorQ11
import Derived.Test.YtcnkakaipajloaaDoorQ13
import Derived.Test.YtcnkakaipajloaaDoorQ14
import Derived.Test.YtcnkakaipajloaaDoorQ15
namespace Go.Proofs.YtcnkakaipajloaaDoor.Q
open Go.RowKit Go.Proofs.YtcnkakaipajloaaDoorV.PrintWords Go.Proofs.YtcnkakaipajloaaDoorV.PrintLast Go.Proofs.YtcnkakaipajloaaDoorV.PrintMore
attribute [local go_sem] max2_int min2_int max_two min_two max_three min_three max_four min_four   -- for this text's walks alone
set_option linter.unusedVariables false
set_option linter.unusedSimpArgs false

/-! ### laws_FnFoldWidth: function 10 -/
mutual
def laws_FnFoldWidth.j0 : Nat → List ByteArray → Bool → ByteArray → ByteArray → Option (Bool)
  | 0, _, _, _, _ => none
  | k + 1, x4, x24, x546000, x546001 => if x24 = true then ((spec_FoldField.f k x546000 x546001).bind fun t553 => ((laws_mwTexts.f k x4 t553).bind fun t556 => (some t556))) else (laws_FnFoldWidth.l0 k x4 0 x546000 x546001)
def laws_FnFoldWidth.l0 : Nat → List ByteArray → Int → ByteArray → ByteArray → Option (Bool)
  | 0, _, _, _, _ => none
  | k + 1, x4, x5, x546000, x546001 => if x5 < (x4.length : Int) then (if x5 = 0 then (laws_FnFoldWidth.j2 k x4 x5 (wrap64 ((x546000.size : Int) + 3)) x546000 x546001) else (laws_FnFoldWidth.j2 k x4 x5 2 x546000 x546001)) else ((laws_mwJoin2.f k x4).bind fun t557 => ((laws_mwOne.f x546001).bind fun t558 => (some ((t557.size : Int) == (wrap64 ((wrap64 ((wrap64 ((x546000.size : Int) + 1)) + t558)) + (x546001.size : Int)))))))
def laws_FnFoldWidth.j2 : Nat → List ByteArray → Int → Int → ByteArray → ByteArray → Option (Bool)
  | 0, _, _, _, _, _ => none
  | k + 1, x4, x5, x6, x546000, x546001 => laws_FnFoldWidth.l1 k x4 x5 x6 x546000 x546001
def laws_FnFoldWidth.l1 : Nat → List ByteArray → Int → Int → ByteArray → ByteArray → Option (Bool)
  | 0, _, _, _, _, _ => none
  | k + 1, x4, x5, x7, x546000, x546001 => if 0 ≤ x5 then (if x5 < (x4.length : Int) then (if (wrap64 (x7 + 1)) < ((rdOf ByteArray.empty x4 x5).size : Int) then (laws_FnFoldWidth.j4 k x4 x5 x7 (decide (((rdOf ByteArray.empty x4 x5).size : Int) > 40)) x546000 x546001) else (laws_FnFoldWidth.j4 k x4 x5 x7 false x546000 x546001)) else (none)) else (none)
def laws_FnFoldWidth.j4 : Nat → List ByteArray → Int → Int → Bool → ByteArray → ByteArray → Option (Bool)
  | 0, _, _, _, _, _, _ => none
  | k + 1, x4, x5, x7, x57, x546000, x546001 => if x57 = true then (if 0 ≤ x5 then (if x5 < (x4.length : Int) then (if 0 ≤ x7 then (if x7 < ((rdOf ByteArray.empty x4 x5).size : Int) then (if (bt (rdOf ByteArray.empty x4 x5) x7) = 32 then (if 0 ≤ (wrap64 (x7 - 1)) then (if (wrap64 (x7 - 1)) < ((rdOf ByteArray.empty x4 x5).size : Int) then (if (bt (rdOf ByteArray.empty x4 x5) (wrap64 (x7 - 1))) = 32 then (laws_FnFoldWidth.l1 k x4 x5 (wrap64 (x7 + 1)) x546000 x546001) else (if 0 ≤ (wrap64 (x7 + 1)) then (if (wrap64 (x7 + 1)) < ((rdOf ByteArray.empty x4 x5).size : Int) then (if (bt (rdOf ByteArray.empty x4 x5) (wrap64 (x7 + 1))) = 32 then (laws_FnFoldWidth.l1 k x4 x5 (wrap64 (x7 + 1)) x546000 x546001) else (some false)) else (none)) else (none))) else (none)) else (none)) else (laws_FnFoldWidth.l1 k x4 x5 (wrap64 (x7 + 1)) x546000 x546001)) else (none)) else (none)) else (none)) else (none)) else (laws_FnFoldWidth.l0 k x4 (wrap64 (x5 + 1)) x546000 x546001)
end
def laws_FnFoldWidth.f (k : Nat) (l0 : List Int) : Option (Bool) := if (l0.length : Int) > 1048576 then (some true) else ((spec_DrawFoldField.f k l0).bind fun bt543 => ((impl_FoldField.f k bt543.1 bt543.2).bind fun t546 => ((spec_FoldField.f k bt543.1 bt543.2).bind fun t549 => ((laws_mwTexts.f k t546 t549).bind fun t552 => (if t552 = true then (laws_FnFoldWidth.j0 k t546 ((t546.length : Int) == 0) bt543.1 bt543.2) else (laws_FnFoldWidth.j0 k t546 true bt543.1 bt543.2))))))
theorem laws_FnFoldWidth.mono_l : ∀ k, (∀ y0 y1 y2 y3, LeO (laws_FnFoldWidth.j0 k y0 y1 y2 y3) (laws_FnFoldWidth.j0 (k + 1) y0 y1 y2 y3)) ∧ (∀ y0 y1 y2 y3, LeO (laws_FnFoldWidth.l0 k y0 y1 y2 y3) (laws_FnFoldWidth.l0 (k + 1) y0 y1 y2 y3)) ∧ (∀ y0 y1 y2 y3 y4, LeO (laws_FnFoldWidth.j2 k y0 y1 y2 y3 y4) (laws_FnFoldWidth.j2 (k + 1) y0 y1 y2 y3 y4)) ∧ (∀ y0 y1 y2 y3 y4, LeO (laws_FnFoldWidth.l1 k y0 y1 y2 y3 y4) (laws_FnFoldWidth.l1 (k + 1) y0 y1 y2 y3 y4)) ∧ (∀ y0 y1 y2 y3 y4 y5, LeO (laws_FnFoldWidth.j4 k y0 y1 y2 y3 y4 y5) (laws_FnFoldWidth.j4 (k + 1) y0 y1 y2 y3 y4 y5))
  | 0 => ⟨fun _ _ _ _ r h => by simp [laws_FnFoldWidth.j0] at h, fun _ _ _ _ r h => by simp [laws_FnFoldWidth.l0] at h, fun _ _ _ _ _ r h => by simp [laws_FnFoldWidth.j2] at h, fun _ _ _ _ _ r h => by simp [laws_FnFoldWidth.l1] at h, fun _ _ _ _ _ _ r h => by simp [laws_FnFoldWidth.j4] at h⟩
  | k + 1 => by
    obtain ⟨ih0, ih1, ih2, ih3, ih4⟩ := laws_FnFoldWidth.mono_l k
    refine ⟨?_, ?_, ?_, ?_, ?_⟩
    · intro y0 y1 y2 y3
      unfold laws_FnFoldWidth.j0
      repeat' first
      | (with_reducible exact ih0 _ _ _ _)
      | (with_reducible exact ih1 _ _ _ _)
      | (with_reducible exact ih2 _ _ _ _ _)
      | (with_reducible exact ih3 _ _ _ _ _)
      | (with_reducible exact ih4 _ _ _ _ _ _)
      | (with_reducible exact impl_FoldField.mono _ _ _)
      | (with_reducible exact laws_mwJoin2.mono _ _)
      | (with_reducible exact laws_mwTexts.mono _ _ _)
      | (with_reducible exact spec_DrawFoldField.mono _ _)
      | (with_reducible exact spec_FoldField.mono _ _ _)
      | (with_reducible exact LeO.refl _)
      | (with_reducible exact LeO.none _)
      | (with_reducible refine LeO.ite ?_ ?_)
      | (with_reducible refine LeO.bind ?_ (fun _ => ?_))
      | exact ih0 _ _ _ _
      | exact ih1 _ _ _ _
      | exact ih2 _ _ _ _ _
      | exact ih3 _ _ _ _ _
      | exact ih4 _ _ _ _ _ _
      | exact impl_FoldField.mono _ _ _
      | exact laws_mwJoin2.mono _ _
      | exact laws_mwTexts.mono _ _ _
      | exact spec_DrawFoldField.mono _ _
      | exact spec_FoldField.mono _ _ _
      | exact LeO.none _
      | refine LeO.ite ?_ ?_
      | refine LeO.bind ?_ (fun _ => ?_)
    · intro y0 y1 y2 y3
      unfold laws_FnFoldWidth.l0
      repeat' first
      | (with_reducible exact ih0 _ _ _ _)
      | (with_reducible exact ih1 _ _ _ _)
      | (with_reducible exact ih2 _ _ _ _ _)
      | (with_reducible exact ih3 _ _ _ _ _)
      | (with_reducible exact ih4 _ _ _ _ _ _)
      | (with_reducible exact impl_FoldField.mono _ _ _)
      | (with_reducible exact laws_mwJoin2.mono _ _)
      | (with_reducible exact laws_mwTexts.mono _ _ _)
      | (with_reducible exact spec_DrawFoldField.mono _ _)
      | (with_reducible exact spec_FoldField.mono _ _ _)
      | (with_reducible exact LeO.refl _)
      | (with_reducible exact LeO.none _)
      | (with_reducible refine LeO.ite ?_ ?_)
      | (with_reducible refine LeO.bind ?_ (fun _ => ?_))
      | exact ih0 _ _ _ _
      | exact ih1 _ _ _ _
      | exact ih2 _ _ _ _ _
      | exact ih3 _ _ _ _ _
      | exact ih4 _ _ _ _ _ _
      | exact impl_FoldField.mono _ _ _
      | exact laws_mwJoin2.mono _ _
      | exact laws_mwTexts.mono _ _ _
      | exact spec_DrawFoldField.mono _ _
      | exact spec_FoldField.mono _ _ _
      | exact LeO.none _
      | refine LeO.ite ?_ ?_
      | refine LeO.bind ?_ (fun _ => ?_)
    · intro y0 y1 y2 y3 y4
      unfold laws_FnFoldWidth.j2
      repeat' first
      | (with_reducible exact ih0 _ _ _ _)
      | (with_reducible exact ih1 _ _ _ _)
      | (with_reducible exact ih2 _ _ _ _ _)
      | (with_reducible exact ih3 _ _ _ _ _)
      | (with_reducible exact ih4 _ _ _ _ _ _)
      | (with_reducible exact impl_FoldField.mono _ _ _)
      | (with_reducible exact laws_mwJoin2.mono _ _)
      | (with_reducible exact laws_mwTexts.mono _ _ _)
      | (with_reducible exact spec_DrawFoldField.mono _ _)
      | (with_reducible exact spec_FoldField.mono _ _ _)
      | (with_reducible exact LeO.refl _)
      | (with_reducible exact LeO.none _)
      | (with_reducible refine LeO.ite ?_ ?_)
      | (with_reducible refine LeO.bind ?_ (fun _ => ?_))
      | exact ih0 _ _ _ _
      | exact ih1 _ _ _ _
      | exact ih2 _ _ _ _ _
      | exact ih3 _ _ _ _ _
      | exact ih4 _ _ _ _ _ _
      | exact impl_FoldField.mono _ _ _
      | exact laws_mwJoin2.mono _ _
      | exact laws_mwTexts.mono _ _ _
      | exact spec_DrawFoldField.mono _ _
      | exact spec_FoldField.mono _ _ _
      | exact LeO.none _
      | refine LeO.ite ?_ ?_
      | refine LeO.bind ?_ (fun _ => ?_)
    · intro y0 y1 y2 y3 y4
      unfold laws_FnFoldWidth.l1
      repeat' first
      | (with_reducible exact ih0 _ _ _ _)
      | (with_reducible exact ih1 _ _ _ _)
      | (with_reducible exact ih2 _ _ _ _ _)
      | (with_reducible exact ih3 _ _ _ _ _)
      | (with_reducible exact ih4 _ _ _ _ _ _)
      | (with_reducible exact impl_FoldField.mono _ _ _)
      | (with_reducible exact laws_mwJoin2.mono _ _)
      | (with_reducible exact laws_mwTexts.mono _ _ _)
      | (with_reducible exact spec_DrawFoldField.mono _ _)
      | (with_reducible exact spec_FoldField.mono _ _ _)
      | (with_reducible exact LeO.refl _)
      | (with_reducible exact LeO.none _)
      | (with_reducible refine LeO.ite ?_ ?_)
      | (with_reducible refine LeO.bind ?_ (fun _ => ?_))
      | exact ih0 _ _ _ _
      | exact ih1 _ _ _ _
      | exact ih2 _ _ _ _ _
      | exact ih3 _ _ _ _ _
      | exact ih4 _ _ _ _ _ _
      | exact impl_FoldField.mono _ _ _
      | exact laws_mwJoin2.mono _ _
      | exact laws_mwTexts.mono _ _ _
      | exact spec_DrawFoldField.mono _ _
      | exact spec_FoldField.mono _ _ _
      | exact LeO.none _
      | refine LeO.ite ?_ ?_
      | refine LeO.bind ?_ (fun _ => ?_)
    · intro y0 y1 y2 y3 y4 y5
      unfold laws_FnFoldWidth.j4
      repeat' first
      | (with_reducible exact ih0 _ _ _ _)
      | (with_reducible exact ih1 _ _ _ _)
      | (with_reducible exact ih2 _ _ _ _ _)
      | (with_reducible exact ih3 _ _ _ _ _)
      | (with_reducible exact ih4 _ _ _ _ _ _)
      | (with_reducible exact impl_FoldField.mono _ _ _)
      | (with_reducible exact laws_mwJoin2.mono _ _)
      | (with_reducible exact laws_mwTexts.mono _ _ _)
      | (with_reducible exact spec_DrawFoldField.mono _ _)
      | (with_reducible exact spec_FoldField.mono _ _ _)
      | (with_reducible exact LeO.refl _)
      | (with_reducible exact LeO.none _)
      | (with_reducible refine LeO.ite ?_ ?_)
      | (with_reducible refine LeO.bind ?_ (fun _ => ?_))
      | exact ih0 _ _ _ _
      | exact ih1 _ _ _ _
      | exact ih2 _ _ _ _ _
      | exact ih3 _ _ _ _ _
      | exact ih4 _ _ _ _ _ _
      | exact impl_FoldField.mono _ _ _
      | exact laws_mwJoin2.mono _ _
      | exact laws_mwTexts.mono _ _ _
      | exact spec_DrawFoldField.mono _ _
      | exact spec_FoldField.mono _ _ _
      | exact LeO.none _
      | refine LeO.ite ?_ ?_
      | refine LeO.bind ?_ (fun _ => ?_)
theorem laws_FnFoldWidth.mono : ∀ a0 k, LeO (laws_FnFoldWidth.f k a0) (laws_FnFoldWidth.f (k + 1) a0) := by
  intro a0 k
  obtain ⟨ih0, ih1, ih2, ih3, ih4⟩ := laws_FnFoldWidth.mono_l k
  unfold laws_FnFoldWidth.f
  repeat' first
      | (with_reducible exact ih0 _ _ _ _)
      | (with_reducible exact ih1 _ _ _ _)
      | (with_reducible exact ih2 _ _ _ _ _)
      | (with_reducible exact ih3 _ _ _ _ _)
      | (with_reducible exact ih4 _ _ _ _ _ _)
      | (with_reducible exact impl_FoldField.mono _ _ _)
      | (with_reducible exact laws_mwJoin2.mono _ _)
      | (with_reducible exact laws_mwTexts.mono _ _ _)
      | (with_reducible exact spec_DrawFoldField.mono _ _)
      | (with_reducible exact spec_FoldField.mono _ _ _)
      | (with_reducible exact LeO.refl _)
      | (with_reducible exact LeO.none _)
      | (with_reducible refine LeO.ite ?_ ?_)
      | (with_reducible refine LeO.bind ?_ (fun _ => ?_))
      | exact ih0 _ _ _ _
      | exact ih1 _ _ _ _
      | exact ih2 _ _ _ _ _
      | exact ih3 _ _ _ _ _
      | exact ih4 _ _ _ _ _ _
      | exact impl_FoldField.mono _ _ _
      | exact laws_mwJoin2.mono _ _
      | exact laws_mwTexts.mono _ _ _
      | exact spec_DrawFoldField.mono _ _
      | exact spec_FoldField.mono _ _ _
      | exact LeO.none _
      | refine LeO.ite ?_ ?_
      | refine LeO.bind ?_ (fun _ => ?_)
set_option maxHeartbeats 8000000 in
set_option maxRecDepth 100000 in
theorem laws_FnFoldWidth.calls (k : Nat) (A0 : Option Addr) (c0 : Nat) (l0 : List Int) (r : Bool) (w : World) (hr0 : Kd.C (Kd.int .u8) w A0 l0.length l0) (hc0 : l0.length ≤ c0) (h : laws_FnFoldWidth.f k l0 = some r) :
    Calls Tryd.prog 10 #[.slice A0 l0.length c0] w fun e w' => e = .returned (.bool r) ∧ Below w.heap.size w w' := by
  have hu26 := Tryd.underlying26
  have HR0 := Aside0.mk hr0
  have HC0 := Aside0.mk hc0
  clear hr0 hc0
  have HB := Aside0.mk (Below.refl w.heap.size w)
  have H : (if (l0.length : Int) > 1048576 then (some true) else ((spec_DrawFoldField.f k l0).bind fun bt543 => ((impl_FoldField.f k bt543.1 bt543.2).bind fun t546 => ((spec_FoldField.f k bt543.1 bt543.2).bind fun t549 => ((laws_mwTexts.f k t546 t549).bind fun t552 => (if t552 = true then (laws_FnFoldWidth.j0 k t546 ((t546.length : Int) == 0) bt543.1 bt543.2) else (laws_FnFoldWidth.j0 k t546 true bt543.1 bt543.2))))))) = some r := h
  clear h
  by_cases c2 : (l0.length : Int) > 1048576
  · rw [if_pos c2] at H
    have c2b0 : decide (1048576 < (l0.length : Int)) = true := decide_eq_true c2
    have c2b1 : decide (1048576 < l0.length) = true := decide_eq_true (by omega)
    clear c2
    obtain rfl := Option.some.inj H
    go_enter Tryd.func10, Tryd.ntmps10
    go_wp2
    repeat (go_quiet (fail); try go_wp2)
    go_ret
    exact ⟨by first | rfl | (simp only [i64_w]; first | done | rfl | (simp; done)) | (simp [errW_none, errW_some] <;> rfl) | (simp [*, errW_none, errW_some] <;> rfl), by repeat (first | (with_reducible first | exact HB.out | apply below_alloc | apply pw_below_drewN | apply below_drew1) | exact HB.out)⟩
  · rw [if_neg c2] at H
    have c2b0 : decide (1048576 < (l0.length : Int)) = false := decide_eq_false c2
    have c2b1 : decide (1048576 < l0.length) = false := decide_eq_false (by omega)
    clear c2
    replace H := Option.bind_eq_some_iff.mp H
    obtain ⟨⟨t543, t544⟩, A30, H⟩ := H
    replace H : ((impl_FoldField.f k t543 t544).bind fun t546 => ((spec_FoldField.f k t543 t544).bind fun t549 => ((laws_mwTexts.f k t546 t549).bind fun t552 => (if t552 = true then (laws_FnFoldWidth.j0 k t546 ((t546.length : Int) == 0) t543 t544) else (laws_FnFoldWidth.j0 k t546 true t543 t544))))) = some r := H
    have A3 := Aside0.mk A30
    clear A30
    replace H := Option.bind_eq_some_iff.mp H
    obtain ⟨t546, A40, H⟩ := H
    replace H : ((spec_FoldField.f k t543 t544).bind fun t549 => ((laws_mwTexts.f k t546 t549).bind fun t552 => (if t552 = true then (laws_FnFoldWidth.j0 k t546 ((t546.length : Int) == 0) t543 t544) else (laws_FnFoldWidth.j0 k t546 true t543 t544)))) = some r := H
    have A4 := Aside0.mk A40
    clear A40
    have HC5 := Aside0.mk H
    clear H
    go_enter Tryd.func10, Tryd.ntmps10
    go_upto_region 5 with (first | (go_at_call 32; (with_reducible refine (spec_DrawFoldField.calls k _ _ l0 t543 t544 _ ?side1 ?side2 A3.out).mono ?_); (case side1 => repeat (first | exact HR0.out | (with_reducible refine Kd.C_alloc ?_ _) | (with_reducible refine Kd.C_drewN ?_ _) | (with_reducible refine Kd.C_drew ?_))); (case side2 => exact HC0.out); rintro e w6 ⟨rfl, hb⟩; have n0_ := Aside0.mk (below_step (by repeat (first | (with_reducible first | exact HB.out | apply below_alloc | apply pw_below_drewN | apply below_drew1) | exact HB.out)) hb); clear HB; have HB := n0_; clear n0_; (try clear hb); (try clear hb2); (try clear hk); (try clear hi)) | ((with_reducible refine gate_dst (N := 3) rfl ?_); refine box_event ?hg (N := 3) ?hd (cs := #[.string (⟨#[]⟩ : ByteArray), .string (⟨#[]⟩ : ByteArray)]) (t := 26) ?hr ?_; (case hd => rfl); (case hg => rfl); (case hr => first | (go_simp; done) | (go_simp; rfl)); intro gb545 hg w7 hbox hb; have n0_ := Aside0.mk (below_step (by repeat (first | (with_reducible first | exact HB.out | apply below_alloc | apply pw_below_drewN | apply below_drew1) | exact HB.out)) hb); have n1_ := Aside0.mk (hbox); have n2_ := Aside0.mk ((by rw [hg]; exact (below_size (by repeat (first | (with_reducible first | exact HB.out | apply below_alloc | apply pw_below_drewN | apply below_drew1) | exact HB.out))) : w.heap.size ≤ gb545)); have n3_ := Aside0.mk ((by rw [hg]; exact (below_size (by repeat (first | (with_reducible first | exact HB.out | apply below_alloc | apply pw_below_drewN | apply below_drew1) | exact HB.out))) : w.heap.size ≤ gb545)); clear HB; have HB := n0_; have BK545 := n1_; have GW545 := n2_; have GE545 := n3_; clear n0_ n1_ n2_ n3_; clear hb hbox hg; have hcz8_0 : w7.cell? ⟨gb545, 0, none⟩ = some (.string (⟨#[]⟩ : ByteArray)) := (blk_cell BK545.out 0).trans rfl; have hcz8_1 : w7.cell? ⟨gb545, 1, none⟩ = some (.string (⟨#[]⟩ : ByteArray)) := (blk_cell BK545.out 1).trans rfl; have hfz8_0 := blk_frozen BK545.out 0; have hfz8_1 := blk_frozen BK545.out 1) | (go_at_call 18; (with_reducible refine (impl_FoldField.calls k t543 t544 t546 _ A4.out).mono ?_); rintro e w9 ⟨v547, rfl, ho0, hb⟩; have n0_ := Aside0.mk (Kd.R_lower ho0 (below_size (by repeat (first | (with_reducible first | exact HB.out | apply below_alloc | apply pw_below_drewN | apply below_drew1 | refine below_set ?_ GE545.out) | exact HB.out)))); have n1_ := Aside0.mk (blk_below (g := gb545) (o := .cells #[.string t543, .string t544] 26 (0, 0)) (by (with_reducible repeat (first | refine blk_drewN ?_ _ | refine blk_drew ?_ | refine blk_alloc ?_ _)); refine blk_put (cs := #[.string t543, .string (⟨#[]⟩ : ByteArray)]) ?_ 1 _ rfl; (with_reducible repeat (first | refine blk_drewN ?_ _ | refine blk_drew ?_ | refine blk_alloc ?_ _)); refine blk_put (cs := #[.string (⟨#[]⟩ : ByteArray), .string (⟨#[]⟩ : ByteArray)]) ?_ 0 _ rfl; (with_reducible repeat (first | refine blk_drewN ?_ _ | refine blk_drew ?_ | refine blk_alloc ?_ _)); exact BK545.out) hb); have n2_ := Aside0.mk (below_step (by repeat (first | (with_reducible first | exact HB.out | apply below_alloc | apply pw_below_drewN | apply below_drew1 | refine below_set ?_ GE545.out) | exact HB.out)) hb); clear BK545; clear HB; have HO548 := n0_; have BK545 := n1_; have HB := n2_; clear n0_ n1_ n2_; (try clear hb); (try clear hb2); (try clear hk); (try clear hi); (try clear ho0)))
    repeat (go_quiet (first | (go_at_call 32; (with_reducible refine (spec_DrawFoldField.calls k _ _ l0 t543 t544 _ ?side1 ?side2 A3.out).mono ?_); (case side1 => repeat (first | exact HR0.out | (with_reducible refine Kd.C_alloc ?_ _) | (with_reducible refine Kd.C_drewN ?_ _) | (with_reducible refine Kd.C_drew ?_))); (case side2 => exact HC0.out); rintro e w6 ⟨rfl, hb⟩; have n0_ := Aside0.mk (below_step (by repeat (first | (with_reducible first | exact HB.out | apply below_alloc | apply pw_below_drewN | apply below_drew1) | exact HB.out)) hb); clear HB; have HB := n0_; clear n0_; (try clear hb); (try clear hb2); (try clear hk); (try clear hi)) | ((with_reducible refine gate_dst (N := 3) rfl ?_); refine box_event ?hg (N := 3) ?hd (cs := #[.string (⟨#[]⟩ : ByteArray), .string (⟨#[]⟩ : ByteArray)]) (t := 26) ?hr ?_; (case hd => rfl); (case hg => rfl); (case hr => first | (go_simp; done) | (go_simp; rfl)); intro gb545 hg w7 hbox hb; have n0_ := Aside0.mk (below_step (by repeat (first | (with_reducible first | exact HB.out | apply below_alloc | apply pw_below_drewN | apply below_drew1) | exact HB.out)) hb); have n1_ := Aside0.mk (hbox); have n2_ := Aside0.mk ((by rw [hg]; exact (below_size (by repeat (first | (with_reducible first | exact HB.out | apply below_alloc | apply pw_below_drewN | apply below_drew1) | exact HB.out))) : w.heap.size ≤ gb545)); have n3_ := Aside0.mk ((by rw [hg]; exact (below_size (by repeat (first | (with_reducible first | exact HB.out | apply below_alloc | apply pw_below_drewN | apply below_drew1) | exact HB.out))) : w.heap.size ≤ gb545)); clear HB; have HB := n0_; have BK545 := n1_; have GW545 := n2_; have GE545 := n3_; clear n0_ n1_ n2_ n3_; clear hb hbox hg; have hcz8_0 : w7.cell? ⟨gb545, 0, none⟩ = some (.string (⟨#[]⟩ : ByteArray)) := (blk_cell BK545.out 0).trans rfl; have hcz8_1 : w7.cell? ⟨gb545, 1, none⟩ = some (.string (⟨#[]⟩ : ByteArray)) := (blk_cell BK545.out 1).trans rfl; have hfz8_0 := blk_frozen BK545.out 0; have hfz8_1 := blk_frozen BK545.out 1) | (go_at_call 18; (with_reducible refine (impl_FoldField.calls k t543 t544 t546 _ A4.out).mono ?_); rintro e w9 ⟨v547, rfl, ho0, hb⟩; have n0_ := Aside0.mk (Kd.R_lower ho0 (below_size (by repeat (first | (with_reducible first | exact HB.out | apply below_alloc | apply pw_below_drewN | apply below_drew1 | refine below_set ?_ GE545.out) | exact HB.out)))); have n1_ := Aside0.mk (blk_below (g := gb545) (o := .cells #[.string t543, .string t544] 26 (0, 0)) (by (with_reducible repeat (first | refine blk_drewN ?_ _ | refine blk_drew ?_ | refine blk_alloc ?_ _)); refine blk_put (cs := #[.string t543, .string (⟨#[]⟩ : ByteArray)]) ?_ 1 _ rfl; (with_reducible repeat (first | refine blk_drewN ?_ _ | refine blk_drew ?_ | refine blk_alloc ?_ _)); refine blk_put (cs := #[.string (⟨#[]⟩ : ByteArray), .string (⟨#[]⟩ : ByteArray)]) ?_ 0 _ rfl; (with_reducible repeat (first | refine blk_drewN ?_ _ | refine blk_drew ?_ | refine blk_alloc ?_ _)); exact BK545.out) hb); have n2_ := Aside0.mk (below_step (by repeat (first | (with_reducible first | exact HB.out | apply below_alloc | apply pw_below_drewN | apply below_drew1 | refine below_set ?_ GE545.out) | exact HB.out)) hb); clear BK545; clear HB; have HO548 := n0_; have BK545 := n1_; have HB := n2_; clear n0_ n1_ n2_; (try clear hb); (try clear hb2); (try clear hk); (try clear hi); (try clear ho0))); go_upto_region 5 with (first | (go_at_call 32; (with_reducible refine (spec_DrawFoldField.calls k _ _ l0 t543 t544 _ ?side1 ?side2 A3.out).mono ?_); (case side1 => repeat (first | exact HR0.out | (with_reducible refine Kd.C_alloc ?_ _) | (with_reducible refine Kd.C_drewN ?_ _) | (with_reducible refine Kd.C_drew ?_))); (case side2 => exact HC0.out); rintro e w6 ⟨rfl, hb⟩; have n0_ := Aside0.mk (below_step (by repeat (first | (with_reducible first | exact HB.out | apply below_alloc | apply pw_below_drewN | apply below_drew1) | exact HB.out)) hb); clear HB; have HB := n0_; clear n0_; (try clear hb); (try clear hb2); (try clear hk); (try clear hi)) | ((with_reducible refine gate_dst (N := 3) rfl ?_); refine box_event ?hg (N := 3) ?hd (cs := #[.string (⟨#[]⟩ : ByteArray), .string (⟨#[]⟩ : ByteArray)]) (t := 26) ?hr ?_; (case hd => rfl); (case hg => rfl); (case hr => first | (go_simp; done) | (go_simp; rfl)); intro gb545 hg w7 hbox hb; have n0_ := Aside0.mk (below_step (by repeat (first | (with_reducible first | exact HB.out | apply below_alloc | apply pw_below_drewN | apply below_drew1) | exact HB.out)) hb); have n1_ := Aside0.mk (hbox); have n2_ := Aside0.mk ((by rw [hg]; exact (below_size (by repeat (first | (with_reducible first | exact HB.out | apply below_alloc | apply pw_below_drewN | apply below_drew1) | exact HB.out))) : w.heap.size ≤ gb545)); have n3_ := Aside0.mk ((by rw [hg]; exact (below_size (by repeat (first | (with_reducible first | exact HB.out | apply below_alloc | apply pw_below_drewN | apply below_drew1) | exact HB.out))) : w.heap.size ≤ gb545)); clear HB; have HB := n0_; have BK545 := n1_; have GW545 := n2_; have GE545 := n3_; clear n0_ n1_ n2_ n3_; clear hb hbox hg; have hcz8_0 : w7.cell? ⟨gb545, 0, none⟩ = some (.string (⟨#[]⟩ : ByteArray)) := (blk_cell BK545.out 0).trans rfl; have hcz8_1 : w7.cell? ⟨gb545, 1, none⟩ = some (.string (⟨#[]⟩ : ByteArray)) := (blk_cell BK545.out 1).trans rfl; have hfz8_0 := blk_frozen BK545.out 0; have hfz8_1 := blk_frozen BK545.out 1) | (go_at_call 18; (with_reducible refine (impl_FoldField.calls k t543 t544 t546 _ A4.out).mono ?_); rintro e w9 ⟨v547, rfl, ho0, hb⟩; have n0_ := Aside0.mk (Kd.R_lower ho0 (below_size (by repeat (first | (with_reducible first | exact HB.out | apply below_alloc | apply pw_below_drewN | apply below_drew1 | refine below_set ?_ GE545.out) | exact HB.out)))); have n1_ := Aside0.mk (blk_below (g := gb545) (o := .cells #[.string t543, .string t544] 26 (0, 0)) (by (with_reducible repeat (first | refine blk_drewN ?_ _ | refine blk_drew ?_ | refine blk_alloc ?_ _)); refine blk_put (cs := #[.string t543, .string (⟨#[]⟩ : ByteArray)]) ?_ 1 _ rfl; (with_reducible repeat (first | refine blk_drewN ?_ _ | refine blk_drew ?_ | refine blk_alloc ?_ _)); refine blk_put (cs := #[.string (⟨#[]⟩ : ByteArray), .string (⟨#[]⟩ : ByteArray)]) ?_ 0 _ rfl; (with_reducible repeat (first | refine blk_drewN ?_ _ | refine blk_drew ?_ | refine blk_alloc ?_ _)); exact BK545.out) hb); have n2_ := Aside0.mk (below_step (by repeat (first | (with_reducible first | exact HB.out | apply below_alloc | apply pw_below_drewN | apply below_drew1 | refine below_set ?_ GE545.out) | exact HB.out)) hb); clear BK545; clear HB; have HO548 := n0_; have BK545 := n1_; have HB := n2_; clear n0_ n1_ n2_; (try clear hb); (try clear hb2); (try clear hk); (try clear hi); (try clear ho0))))
    (try simp only [Act.put, List.setIfInBounds_toArray, List.set_cons_zero, List.set_cons_succ])
    go_cut [24] (fun v24 wc => ∃ (kq : Nat) (x24_4 : Bool), v24 = .bool x24_4 ∧ Aside0 (laws_FnFoldWidth.j0 kq t546 x24_4 t543 t544 = some r) ∧ Aside0 (kq ≤ k) ∧ Aside0 (Kd.R Kd.string 9 wc w.heap.size (fun _ => True) v547 t546) ∧ Aside0 (wc.heap[gb545]? = some (.cells #[.string t543, .string t544] 26 (0, 0))) ∧ Aside0 (Below w.heap.size w wc))
    case first =>
      have H := HC5.out
      clear HC5
      replace H := Option.bind_eq_some_iff.mp H
      obtain ⟨t549, A100, H⟩ := H
      replace H : ((laws_mwTexts.f k t546 t549).bind fun t552 => (if t552 = true then (laws_FnFoldWidth.j0 k t546 ((t546.length : Int) == 0) t543 t544) else (laws_FnFoldWidth.j0 k t546 true t543 t544))) = some r := H
      have A10 := Aside0.mk A100
      clear A100
      replace H := Option.bind_eq_some_iff.mp H
      obtain ⟨t552, A110, H⟩ := H
      replace H : (if t552 = true then (laws_FnFoldWidth.j0 k t546 ((t546.length : Int) == 0) t543 t544) else (laws_FnFoldWidth.j0 k t546 true t543 t544)) = some r := H
      have A11 := Aside0.mk A110
      clear A110
      by_cases c12 : t552 = true
      · subst c12
        have H1 : (laws_FnFoldWidth.j0 k t546 ((t546.length : Int) == 0) t543 t544) = some r := by rw [if_pos rfl] at H; exact H
        clear H
        have H := H1
        clear H1
        have H' := Aside0.mk H
        clear H
        have hcz13_0 : w9.cell? ⟨gb545, 0, none⟩ = some (.string t543) := (blk_cell BK545.out 0).trans rfl
        have hcz13_1 : w9.cell? ⟨gb545, 1, none⟩ = some (.string t544) := (blk_cell BK545.out 1).trans rfl
        have hfz13_0 := blk_frozen BK545.out 0
        have hfz13_1 := blk_frozen BK545.out 1
        go_wp2_with (first | (go_at_call 28; (with_reducible refine (spec_FoldField.calls k t543 t544 t549 _ A10.out).mono ?_); rintro e w14 ⟨v550, rfl, ho0, hb⟩; have n0_ := Aside0.mk (Kd.R_elder' (by (with_reducible repeat (first | apply Kd.R_alloc | apply Kd.R_drewN | apply Kd.R_drew)); exact HO548.out) (Kd.R_base ho0) hb); have n1_ := Aside0.mk (Kd.R_lower (Kd.R_new' ho0 (Kd.R_lt (by (with_reducible repeat (first | apply Kd.R_alloc | apply Kd.R_drewN | apply Kd.R_drew)); exact HO548.out))) (below_size (by repeat (first | (with_reducible first | exact HB.out | apply below_alloc | apply pw_below_drewN | apply below_drew1 | refine below_set ?_ GE545.out) | exact HB.out)))); have n2_ := Aside0.mk (blk_below (g := gb545) (o := .cells #[.string t543, .string t544] 26 (0, 0)) (by (with_reducible repeat (first | refine blk_drewN ?_ _ | refine blk_drew ?_ | refine blk_alloc ?_ _)); exact BK545.out) hb); have n3_ := Aside0.mk (below_step (by repeat (first | (with_reducible first | exact HB.out | apply below_alloc | apply pw_below_drewN | apply below_drew1 | refine below_set ?_ GE545.out) | exact HB.out)) hb); clear HO548; clear BK545; clear HB; have HO548 := n0_; have HO551 := n1_; have BK545 := n2_; have HB := n3_; clear n0_ n1_ n2_ n3_; (try clear hb); (try clear hb2); (try clear hk); (try clear hi); (try clear ho0); obtain ⟨Ao15, co15, eo15⟩ := Kd.R_slice HO548.out; subst eo15; obtain ⟨Ao16, co16, eo16⟩ := Kd.R_slice HO551.out; subst eo16) | (go_at_call 33; (with_reducible refine (laws_mwTexts.calls k _ _ t546 _ _ t549 true _ ?side1 ?side2 ?side3 ?side4 A11.out).mono ?_); (case side1 => repeat (first | exact (Kd.R_reads' HO548.out).2.2 | (with_reducible refine Kd.C_alloc ?_ _) | (with_reducible refine Kd.C_drewN ?_ _) | (with_reducible refine Kd.C_drew ?_))); (case side2 => exact (Kd.R_reads' HO548.out).2.1); (case side3 => repeat (first | exact (Kd.R_reads' HO551.out).2.2 | (with_reducible refine Kd.C_alloc ?_ _) | (with_reducible refine Kd.C_drewN ?_ _) | (with_reducible refine Kd.C_drew ?_))); (case side4 => exact (Kd.R_reads' HO551.out).2.1); rintro e w' ⟨rfl, ⟨nd, rfl⟩⟩; (try first | exact ⟨rfl, _, World.drewN_drewN _ _ _⟩ | exact ⟨rfl, _, Eq.trans (World.drewN_drewN _ _ _) (congrArg (World.drewN _) (Nat.add_assoc _ _ _))⟩)))
        repeat (go_quiet (first | (go_at_call 28; (with_reducible refine (spec_FoldField.calls k t543 t544 t549 _ A10.out).mono ?_); rintro e w14 ⟨v550, rfl, ho0, hb⟩; have n0_ := Aside0.mk (Kd.R_elder' (by (with_reducible repeat (first | apply Kd.R_alloc | apply Kd.R_drewN | apply Kd.R_drew)); exact HO548.out) (Kd.R_base ho0) hb); have n1_ := Aside0.mk (Kd.R_lower (Kd.R_new' ho0 (Kd.R_lt (by (with_reducible repeat (first | apply Kd.R_alloc | apply Kd.R_drewN | apply Kd.R_drew)); exact HO548.out))) (below_size (by repeat (first | (with_reducible first | exact HB.out | apply below_alloc | apply pw_below_drewN | apply below_drew1 | refine below_set ?_ GE545.out) | exact HB.out)))); have n2_ := Aside0.mk (blk_below (g := gb545) (o := .cells #[.string t543, .string t544] 26 (0, 0)) (by (with_reducible repeat (first | refine blk_drewN ?_ _ | refine blk_drew ?_ | refine blk_alloc ?_ _)); exact BK545.out) hb); have n3_ := Aside0.mk (below_step (by repeat (first | (with_reducible first | exact HB.out | apply below_alloc | apply pw_below_drewN | apply below_drew1 | refine below_set ?_ GE545.out) | exact HB.out)) hb); clear HO548; clear BK545; clear HB; have HO548 := n0_; have HO551 := n1_; have BK545 := n2_; have HB := n3_; clear n0_ n1_ n2_ n3_; (try clear hb); (try clear hb2); (try clear hk); (try clear hi); (try clear ho0); obtain ⟨Ao15, co15, eo15⟩ := Kd.R_slice HO548.out; subst eo15; obtain ⟨Ao16, co16, eo16⟩ := Kd.R_slice HO551.out; subst eo16) | (go_at_call 33; (with_reducible refine (laws_mwTexts.calls k _ _ t546 _ _ t549 true _ ?side1 ?side2 ?side3 ?side4 A11.out).mono ?_); (case side1 => repeat (first | exact (Kd.R_reads' HO548.out).2.2 | (with_reducible refine Kd.C_alloc ?_ _) | (with_reducible refine Kd.C_drewN ?_ _) | (with_reducible refine Kd.C_drew ?_))); (case side2 => exact (Kd.R_reads' HO548.out).2.1); (case side3 => repeat (first | exact (Kd.R_reads' HO551.out).2.2 | (with_reducible refine Kd.C_alloc ?_ _) | (with_reducible refine Kd.C_drewN ?_ _) | (with_reducible refine Kd.C_drew ?_))); (case side4 => exact (Kd.R_reads' HO551.out).2.1); rintro e w' ⟨rfl, ⟨nd, rfl⟩⟩; (try first | exact ⟨rfl, _, World.drewN_drewN _ _ _⟩ | exact ⟨rfl, _, Eq.trans (World.drewN_drewN _ _ _) (congrArg (World.drewN _) (Nat.add_assoc _ _ _))⟩))); try go_wp2_with (first | (go_at_call 28; (with_reducible refine (spec_FoldField.calls k t543 t544 t549 _ A10.out).mono ?_); rintro e w14 ⟨v550, rfl, ho0, hb⟩; have n0_ := Aside0.mk (Kd.R_elder' (by (with_reducible repeat (first | apply Kd.R_alloc | apply Kd.R_drewN | apply Kd.R_drew)); exact HO548.out) (Kd.R_base ho0) hb); have n1_ := Aside0.mk (Kd.R_lower (Kd.R_new' ho0 (Kd.R_lt (by (with_reducible repeat (first | apply Kd.R_alloc | apply Kd.R_drewN | apply Kd.R_drew)); exact HO548.out))) (below_size (by repeat (first | (with_reducible first | exact HB.out | apply below_alloc | apply pw_below_drewN | apply below_drew1 | refine below_set ?_ GE545.out) | exact HB.out)))); have n2_ := Aside0.mk (blk_below (g := gb545) (o := .cells #[.string t543, .string t544] 26 (0, 0)) (by (with_reducible repeat (first | refine blk_drewN ?_ _ | refine blk_drew ?_ | refine blk_alloc ?_ _)); exact BK545.out) hb); have n3_ := Aside0.mk (below_step (by repeat (first | (with_reducible first | exact HB.out | apply below_alloc | apply pw_below_drewN | apply below_drew1 | refine below_set ?_ GE545.out) | exact HB.out)) hb); clear HO548; clear BK545; clear HB; have HO548 := n0_; have HO551 := n1_; have BK545 := n2_; have HB := n3_; clear n0_ n1_ n2_ n3_; (try clear hb); (try clear hb2); (try clear hk); (try clear hi); (try clear ho0); obtain ⟨Ao15, co15, eo15⟩ := Kd.R_slice HO548.out; subst eo15; obtain ⟨Ao16, co16, eo16⟩ := Kd.R_slice HO551.out; subst eo16) | (go_at_call 33; (with_reducible refine (laws_mwTexts.calls k _ _ t546 _ _ t549 true _ ?side1 ?side2 ?side3 ?side4 A11.out).mono ?_); (case side1 => repeat (first | exact (Kd.R_reads' HO548.out).2.2 | (with_reducible refine Kd.C_alloc ?_ _) | (with_reducible refine Kd.C_drewN ?_ _) | (with_reducible refine Kd.C_drew ?_))); (case side2 => exact (Kd.R_reads' HO548.out).2.1); (case side3 => repeat (first | exact (Kd.R_reads' HO551.out).2.2 | (with_reducible refine Kd.C_alloc ?_ _) | (with_reducible refine Kd.C_drewN ?_ _) | (with_reducible refine Kd.C_drew ?_))); (case side4 => exact (Kd.R_reads' HO551.out).2.1); rintro e w' ⟨rfl, ⟨nd, rfl⟩⟩; (try first | exact ⟨rfl, _, World.drewN_drewN _ _ _⟩ | exact ⟨rfl, _, Eq.trans (World.drewN_drewN _ _ _) (congrArg (World.drewN _) (Nat.add_assoc _ _ _))⟩))))
        go_meet
        case rel => exact ⟨_, (((t546.length : Int) == 0)), (by first | rfl | (simp; done) | (simp [*]; done)), H', ⟨by first | omega | exact Nat.le_refl _⟩, ⟨by (with_reducible repeat (first | apply Kd.R_alloc | apply Kd.R_drewN | apply Kd.R_drew)); exact Kd.R_mono HO548.out (fun _ hk => trivial)⟩, ⟨by (with_reducible repeat (first | refine blk_drewN ?_ _ | refine blk_drew ?_ | refine blk_alloc ?_ _)); exact BK545.out⟩, ⟨by repeat (first | (with_reducible first | exact HB.out | apply below_alloc | apply pw_below_drewN | apply below_drew1 | refine below_set ?_ GE545.out) | exact HB.out)⟩⟩
      · replace c12 := Bool.eq_false_iff.mpr c12
        subst c12
        have H1 : (laws_FnFoldWidth.j0 k t546 true t543 t544) = some r := by rw [if_neg (show ¬ (false = true) by decide)] at H; exact H
        clear H
        have H := H1
        clear H1
        have H' := Aside0.mk H
        clear H
        have hcz17_0 : w9.cell? ⟨gb545, 0, none⟩ = some (.string t543) := (blk_cell BK545.out 0).trans rfl
        have hcz17_1 : w9.cell? ⟨gb545, 1, none⟩ = some (.string t544) := (blk_cell BK545.out 1).trans rfl
        have hfz17_0 := blk_frozen BK545.out 0
        have hfz17_1 := blk_frozen BK545.out 1
        go_wp2_with (first | (go_at_call 28; (with_reducible refine (spec_FoldField.calls k t543 t544 t549 _ A10.out).mono ?_); rintro e w18 ⟨v550, rfl, ho0, hb⟩; have n0_ := Aside0.mk (Kd.R_elder' (by (with_reducible repeat (first | apply Kd.R_alloc | apply Kd.R_drewN | apply Kd.R_drew)); exact HO548.out) (Kd.R_base ho0) hb); have n1_ := Aside0.mk (Kd.R_lower (Kd.R_new' ho0 (Kd.R_lt (by (with_reducible repeat (first | apply Kd.R_alloc | apply Kd.R_drewN | apply Kd.R_drew)); exact HO548.out))) (below_size (by repeat (first | (with_reducible first | exact HB.out | apply below_alloc | apply pw_below_drewN | apply below_drew1 | refine below_set ?_ GE545.out) | exact HB.out)))); have n2_ := Aside0.mk (blk_below (g := gb545) (o := .cells #[.string t543, .string t544] 26 (0, 0)) (by (with_reducible repeat (first | refine blk_drewN ?_ _ | refine blk_drew ?_ | refine blk_alloc ?_ _)); exact BK545.out) hb); have n3_ := Aside0.mk (below_step (by repeat (first | (with_reducible first | exact HB.out | apply below_alloc | apply pw_below_drewN | apply below_drew1 | refine below_set ?_ GE545.out) | exact HB.out)) hb); clear HO548; clear BK545; clear HB; have HO548 := n0_; have HO551 := n1_; have BK545 := n2_; have HB := n3_; clear n0_ n1_ n2_ n3_; (try clear hb); (try clear hb2); (try clear hk); (try clear hi); (try clear ho0); obtain ⟨Ao19, co19, eo19⟩ := Kd.R_slice HO548.out; subst eo19; obtain ⟨Ao20, co20, eo20⟩ := Kd.R_slice HO551.out; subst eo20) | (go_at_call 33; (with_reducible refine (laws_mwTexts.calls k _ _ t546 _ _ t549 false _ ?side1 ?side2 ?side3 ?side4 A11.out).mono ?_); (case side1 => repeat (first | exact (Kd.R_reads' HO548.out).2.2 | (with_reducible refine Kd.C_alloc ?_ _) | (with_reducible refine Kd.C_drewN ?_ _) | (with_reducible refine Kd.C_drew ?_))); (case side2 => exact (Kd.R_reads' HO548.out).2.1); (case side3 => repeat (first | exact (Kd.R_reads' HO551.out).2.2 | (with_reducible refine Kd.C_alloc ?_ _) | (with_reducible refine Kd.C_drewN ?_ _) | (with_reducible refine Kd.C_drew ?_))); (case side4 => exact (Kd.R_reads' HO551.out).2.1); rintro e w' ⟨rfl, ⟨nd, rfl⟩⟩; (try first | exact ⟨rfl, _, World.drewN_drewN _ _ _⟩ | exact ⟨rfl, _, Eq.trans (World.drewN_drewN _ _ _) (congrArg (World.drewN _) (Nat.add_assoc _ _ _))⟩)))
        repeat (go_quiet (first | (go_at_call 28; (with_reducible refine (spec_FoldField.calls k t543 t544 t549 _ A10.out).mono ?_); rintro e w18 ⟨v550, rfl, ho0, hb⟩; have n0_ := Aside0.mk (Kd.R_elder' (by (with_reducible repeat (first | apply Kd.R_alloc | apply Kd.R_drewN | apply Kd.R_drew)); exact HO548.out) (Kd.R_base ho0) hb); have n1_ := Aside0.mk (Kd.R_lower (Kd.R_new' ho0 (Kd.R_lt (by (with_reducible repeat (first | apply Kd.R_alloc | apply Kd.R_drewN | apply Kd.R_drew)); exact HO548.out))) (below_size (by repeat (first | (with_reducible first | exact HB.out | apply below_alloc | apply pw_below_drewN | apply below_drew1 | refine below_set ?_ GE545.out) | exact HB.out)))); have n2_ := Aside0.mk (blk_below (g := gb545) (o := .cells #[.string t543, .string t544] 26 (0, 0)) (by (with_reducible repeat (first | refine blk_drewN ?_ _ | refine blk_drew ?_ | refine blk_alloc ?_ _)); exact BK545.out) hb); have n3_ := Aside0.mk (below_step (by repeat (first | (with_reducible first | exact HB.out | apply below_alloc | apply pw_below_drewN | apply below_drew1 | refine below_set ?_ GE545.out) | exact HB.out)) hb); clear HO548; clear BK545; clear HB; have HO548 := n0_; have HO551 := n1_; have BK545 := n2_; have HB := n3_; clear n0_ n1_ n2_ n3_; (try clear hb); (try clear hb2); (try clear hk); (try clear hi); (try clear ho0); obtain ⟨Ao19, co19, eo19⟩ := Kd.R_slice HO548.out; subst eo19; obtain ⟨Ao20, co20, eo20⟩ := Kd.R_slice HO551.out; subst eo20) | (go_at_call 33; (with_reducible refine (laws_mwTexts.calls k _ _ t546 _ _ t549 false _ ?side1 ?side2 ?side3 ?side4 A11.out).mono ?_); (case side1 => repeat (first | exact (Kd.R_reads' HO548.out).2.2 | (with_reducible refine Kd.C_alloc ?_ _) | (with_reducible refine Kd.C_drewN ?_ _) | (with_reducible refine Kd.C_drew ?_))); (case side2 => exact (Kd.R_reads' HO548.out).2.1); (case side3 => repeat (first | exact (Kd.R_reads' HO551.out).2.2 | (with_reducible refine Kd.C_alloc ?_ _) | (with_reducible refine Kd.C_drewN ?_ _) | (with_reducible refine Kd.C_drew ?_))); (case side4 => exact (Kd.R_reads' HO551.out).2.1); rintro e w' ⟨rfl, ⟨nd, rfl⟩⟩; (try first | exact ⟨rfl, _, World.drewN_drewN _ _ _⟩ | exact ⟨rfl, _, Eq.trans (World.drewN_drewN _ _ _) (congrArg (World.drewN _) (Nat.add_assoc _ _ _))⟩))); try go_wp2_with (first | (go_at_call 28; (with_reducible refine (spec_FoldField.calls k t543 t544 t549 _ A10.out).mono ?_); rintro e w18 ⟨v550, rfl, ho0, hb⟩; have n0_ := Aside0.mk (Kd.R_elder' (by (with_reducible repeat (first | apply Kd.R_alloc | apply Kd.R_drewN | apply Kd.R_drew)); exact HO548.out) (Kd.R_base ho0) hb); have n1_ := Aside0.mk (Kd.R_lower (Kd.R_new' ho0 (Kd.R_lt (by (with_reducible repeat (first | apply Kd.R_alloc | apply Kd.R_drewN | apply Kd.R_drew)); exact HO548.out))) (below_size (by repeat (first | (with_reducible first | exact HB.out | apply below_alloc | apply pw_below_drewN | apply below_drew1 | refine below_set ?_ GE545.out) | exact HB.out)))); have n2_ := Aside0.mk (blk_below (g := gb545) (o := .cells #[.string t543, .string t544] 26 (0, 0)) (by (with_reducible repeat (first | refine blk_drewN ?_ _ | refine blk_drew ?_ | refine blk_alloc ?_ _)); exact BK545.out) hb); have n3_ := Aside0.mk (below_step (by repeat (first | (with_reducible first | exact HB.out | apply below_alloc | apply pw_below_drewN | apply below_drew1 | refine below_set ?_ GE545.out) | exact HB.out)) hb); clear HO548; clear BK545; clear HB; have HO548 := n0_; have HO551 := n1_; have BK545 := n2_; have HB := n3_; clear n0_ n1_ n2_ n3_; (try clear hb); (try clear hb2); (try clear hk); (try clear hi); (try clear ho0); obtain ⟨Ao19, co19, eo19⟩ := Kd.R_slice HO548.out; subst eo19; obtain ⟨Ao20, co20, eo20⟩ := Kd.R_slice HO551.out; subst eo20) | (go_at_call 33; (with_reducible refine (laws_mwTexts.calls k _ _ t546 _ _ t549 false _ ?side1 ?side2 ?side3 ?side4 A11.out).mono ?_); (case side1 => repeat (first | exact (Kd.R_reads' HO548.out).2.2 | (with_reducible refine Kd.C_alloc ?_ _) | (with_reducible refine Kd.C_drewN ?_ _) | (with_reducible refine Kd.C_drew ?_))); (case side2 => exact (Kd.R_reads' HO548.out).2.1); (case side3 => repeat (first | exact (Kd.R_reads' HO551.out).2.2 | (with_reducible refine Kd.C_alloc ?_ _) | (with_reducible refine Kd.C_drewN ?_ _) | (with_reducible refine Kd.C_drew ?_))); (case side4 => exact (Kd.R_reads' HO551.out).2.1); rintro e w' ⟨rfl, ⟨nd, rfl⟩⟩; (try first | exact ⟨rfl, _, World.drewN_drewN _ _ _⟩ | exact ⟨rfl, _, Eq.trans (World.drewN_drewN _ _ _) (congrArg (World.drewN _) (Nat.add_assoc _ _ _))⟩))))
        go_meet
        case rel => exact ⟨_, (true), (by first | rfl | (simp; done) | (simp [*]; done)), H', ⟨by first | omega | exact Nat.le_refl _⟩, ⟨by (with_reducible repeat (first | apply Kd.R_alloc | apply Kd.R_drewN | apply Kd.R_drew)); exact Kd.R_mono HO548.out (fun _ hk => trivial)⟩, ⟨by (with_reducible repeat (first | refine blk_drewN ?_ _ | refine blk_drew ?_ | refine blk_alloc ?_ _)); exact BK545.out⟩, ⟨by repeat (first | (with_reducible first | exact HB.out | apply below_alloc | apply pw_below_drewN | apply below_drew1 | refine below_set ?_ GE545.out) | exact HB.out)⟩⟩
    case rest =>
      clear HC5
      try clear c1
      try clear c2
      try clear c2b0
      try clear c2b1
      try clear p2
      try clear c10
      try clear c12
      try clear hcz13_0
      try clear hcz13_1
      try clear hcz17_0
      try clear hcz17_1
      try clear hcz8_0
      try clear hcz8_1
      try clear hfz13_0
      try clear hfz13_1
      try clear hfz17_0
      try clear hfz17_1
      try clear hfz8_0
      try clear hfz8_1
      obtain ⟨kq, x24_4, rfl, HA, HJ4, HO_4, BK545, HB⟩ := hcut
      cases kq with
      | zero => exact absurd HA.out (by simp [laws_FnFoldWidth.j0])
      | succ kj4 =>
        have H := HA.out
        clear HA
        simp only [laws_FnFoldWidth.j0] at H
        by_cases c21 : x24_4 = true
        · subst c21
          have H1 : ((spec_FoldField.f kj4 t543 t544).bind fun t553 => ((laws_mwTexts.f kj4 t546 t553).bind fun t556 => (some t556))) = some r := by rw [if_pos rfl] at H; exact H
          clear H
          have H := H1
          clear H1
          replace H := Option.bind_eq_some_iff.mp H
          obtain ⟨t553, A220, H⟩ := H
          replace H : ((laws_mwTexts.f kj4 t546 t553).bind fun t556 => (some t556)) = some r := H
          have A22 := Aside0.mk A220
          clear A220
          replace H := Option.bind_eq_some_iff.mp H
          obtain ⟨t556, A230, H⟩ := H
          replace H : (some t556) = some r := H
          have A23 := Aside0.mk A230
          clear A230
          obtain rfl := Option.some.inj H
          have hcz24_0 : wc.cell? ⟨gb545, 0, none⟩ = some (.string t543) := (blk_cell BK545.out 0).trans rfl
          have hcz24_1 : wc.cell? ⟨gb545, 1, none⟩ = some (.string t544) := (blk_cell BK545.out 1).trans rfl
          have hfz24_0 := blk_frozen BK545.out 0
          have hfz24_1 := blk_frozen BK545.out 1
          go_wp2_with (first | (go_at_call 28; (with_reducible refine (spec_FoldField.calls kj4 t543 t544 t553 _ A22.out).mono ?_); rintro e w25 ⟨v554, rfl, ho0, hb⟩; have n0_ := Aside0.mk (Kd.R_elder' (by (with_reducible repeat (first | apply Kd.R_alloc | apply Kd.R_drewN | apply Kd.R_drew)); exact HO_4.out) (Kd.R_base ho0) hb); have n1_ := Aside0.mk (Kd.R_lower (Kd.R_new' ho0 (Kd.R_lt (by (with_reducible repeat (first | apply Kd.R_alloc | apply Kd.R_drewN | apply Kd.R_drew)); exact HO_4.out))) (below_size (by repeat (first | (with_reducible first | exact HB.out | apply below_alloc | apply pw_below_drewN | apply below_drew1 | refine below_set ?_ GE545.out) | exact HB.out)))); have n2_ := Aside0.mk (blk_below (g := gb545) (o := .cells #[.string t543, .string t544] 26 (0, 0)) (by (with_reducible repeat (first | refine blk_drewN ?_ _ | refine blk_drew ?_ | refine blk_alloc ?_ _)); exact BK545.out) hb); have n3_ := Aside0.mk (below_step (by repeat (first | (with_reducible first | exact HB.out | apply below_alloc | apply pw_below_drewN | apply below_drew1 | refine below_set ?_ GE545.out) | exact HB.out)) hb); clear HO_4; clear BK545; clear HB; have HO_4 := n0_; have HO555 := n1_; have BK545 := n2_; have HB := n3_; clear n0_ n1_ n2_ n3_; (try clear hb); (try clear hb2); (try clear hk); (try clear hi); (try clear ho0); obtain ⟨Ao26, co26, eo26⟩ := Kd.R_slice HO_4.out; subst eo26; obtain ⟨Ao27, co27, eo27⟩ := Kd.R_slice HO555.out; subst eo27) | (go_at_call 33; (with_reducible refine (laws_mwTexts.calls kj4 _ _ t546 _ _ t553 t556 _ ?side1 ?side2 ?side3 ?side4 A23.out).mono ?_); (case side1 => repeat (first | exact (Kd.R_reads' HO_4.out).2.2 | (with_reducible refine Kd.C_alloc ?_ _) | (with_reducible refine Kd.C_drewN ?_ _) | (with_reducible refine Kd.C_drew ?_))); (case side2 => exact (Kd.R_reads' HO_4.out).2.1); (case side3 => repeat (first | exact (Kd.R_reads' HO555.out).2.2 | (with_reducible refine Kd.C_alloc ?_ _) | (with_reducible refine Kd.C_drewN ?_ _) | (with_reducible refine Kd.C_drew ?_))); (case side4 => exact (Kd.R_reads' HO555.out).2.1); rintro e w' ⟨rfl, ⟨nd, rfl⟩⟩; (try first | exact ⟨rfl, _, World.drewN_drewN _ _ _⟩ | exact ⟨rfl, _, Eq.trans (World.drewN_drewN _ _ _) (congrArg (World.drewN _) (Nat.add_assoc _ _ _))⟩)))
          repeat (go_quiet (first | (go_at_call 28; (with_reducible refine (spec_FoldField.calls kj4 t543 t544 t553 _ A22.out).mono ?_); rintro e w25 ⟨v554, rfl, ho0, hb⟩; have n0_ := Aside0.mk (Kd.R_elder' (by (with_reducible repeat (first | apply Kd.R_alloc | apply Kd.R_drewN | apply Kd.R_drew)); exact HO_4.out) (Kd.R_base ho0) hb); have n1_ := Aside0.mk (Kd.R_lower (Kd.R_new' ho0 (Kd.R_lt (by (with_reducible repeat (first | apply Kd.R_alloc | apply Kd.R_drewN | apply Kd.R_drew)); exact HO_4.out))) (below_size (by repeat (first | (with_reducible first | exact HB.out | apply below_alloc | apply pw_below_drewN | apply below_drew1 | refine below_set ?_ GE545.out) | exact HB.out)))); have n2_ := Aside0.mk (blk_below (g := gb545) (o := .cells #[.string t543, .string t544] 26 (0, 0)) (by (with_reducible repeat (first | refine blk_drewN ?_ _ | refine blk_drew ?_ | refine blk_alloc ?_ _)); exact BK545.out) hb); have n3_ := Aside0.mk (below_step (by repeat (first | (with_reducible first | exact HB.out | apply below_alloc | apply pw_below_drewN | apply below_drew1 | refine below_set ?_ GE545.out) | exact HB.out)) hb); clear HO_4; clear BK545; clear HB; have HO_4 := n0_; have HO555 := n1_; have BK545 := n2_; have HB := n3_; clear n0_ n1_ n2_ n3_; (try clear hb); (try clear hb2); (try clear hk); (try clear hi); (try clear ho0); obtain ⟨Ao26, co26, eo26⟩ := Kd.R_slice HO_4.out; subst eo26; obtain ⟨Ao27, co27, eo27⟩ := Kd.R_slice HO555.out; subst eo27) | (go_at_call 33; (with_reducible refine (laws_mwTexts.calls kj4 _ _ t546 _ _ t553 t556 _ ?side1 ?side2 ?side3 ?side4 A23.out).mono ?_); (case side1 => repeat (first | exact (Kd.R_reads' HO_4.out).2.2 | (with_reducible refine Kd.C_alloc ?_ _) | (with_reducible refine Kd.C_drewN ?_ _) | (with_reducible refine Kd.C_drew ?_))); (case side2 => exact (Kd.R_reads' HO_4.out).2.1); (case side3 => repeat (first | exact (Kd.R_reads' HO555.out).2.2 | (with_reducible refine Kd.C_alloc ?_ _) | (with_reducible refine Kd.C_drewN ?_ _) | (with_reducible refine Kd.C_drew ?_))); (case side4 => exact (Kd.R_reads' HO555.out).2.1); rintro e w' ⟨rfl, ⟨nd, rfl⟩⟩; (try first | exact ⟨rfl, _, World.drewN_drewN _ _ _⟩ | exact ⟨rfl, _, Eq.trans (World.drewN_drewN _ _ _) (congrArg (World.drewN _) (Nat.add_assoc _ _ _))⟩))); try go_wp2_with (first | (go_at_call 28; (with_reducible refine (spec_FoldField.calls kj4 t543 t544 t553 _ A22.out).mono ?_); rintro e w25 ⟨v554, rfl, ho0, hb⟩; have n0_ := Aside0.mk (Kd.R_elder' (by (with_reducible repeat (first | apply Kd.R_alloc | apply Kd.R_drewN | apply Kd.R_drew)); exact HO_4.out) (Kd.R_base ho0) hb); have n1_ := Aside0.mk (Kd.R_lower (Kd.R_new' ho0 (Kd.R_lt (by (with_reducible repeat (first | apply Kd.R_alloc | apply Kd.R_drewN | apply Kd.R_drew)); exact HO_4.out))) (below_size (by repeat (first | (with_reducible first | exact HB.out | apply below_alloc | apply pw_below_drewN | apply below_drew1 | refine below_set ?_ GE545.out) | exact HB.out)))); have n2_ := Aside0.mk (blk_below (g := gb545) (o := .cells #[.string t543, .string t544] 26 (0, 0)) (by (with_reducible repeat (first | refine blk_drewN ?_ _ | refine blk_drew ?_ | refine blk_alloc ?_ _)); exact BK545.out) hb); have n3_ := Aside0.mk (below_step (by repeat (first | (with_reducible first | exact HB.out | apply below_alloc | apply pw_below_drewN | apply below_drew1 | refine below_set ?_ GE545.out) | exact HB.out)) hb); clear HO_4; clear BK545; clear HB; have HO_4 := n0_; have HO555 := n1_; have BK545 := n2_; have HB := n3_; clear n0_ n1_ n2_ n3_; (try clear hb); (try clear hb2); (try clear hk); (try clear hi); (try clear ho0); obtain ⟨Ao26, co26, eo26⟩ := Kd.R_slice HO_4.out; subst eo26; obtain ⟨Ao27, co27, eo27⟩ := Kd.R_slice HO555.out; subst eo27) | (go_at_call 33; (with_reducible refine (laws_mwTexts.calls kj4 _ _ t546 _ _ t553 t556 _ ?side1 ?side2 ?side3 ?side4 A23.out).mono ?_); (case side1 => repeat (first | exact (Kd.R_reads' HO_4.out).2.2 | (with_reducible refine Kd.C_alloc ?_ _) | (with_reducible refine Kd.C_drewN ?_ _) | (with_reducible refine Kd.C_drew ?_))); (case side2 => exact (Kd.R_reads' HO_4.out).2.1); (case side3 => repeat (first | exact (Kd.R_reads' HO555.out).2.2 | (with_reducible refine Kd.C_alloc ?_ _) | (with_reducible refine Kd.C_drewN ?_ _) | (with_reducible refine Kd.C_drew ?_))); (case side4 => exact (Kd.R_reads' HO555.out).2.1); rintro e w' ⟨rfl, ⟨nd, rfl⟩⟩; (try first | exact ⟨rfl, _, World.drewN_drewN _ _ _⟩ | exact ⟨rfl, _, Eq.trans (World.drewN_drewN _ _ _) (congrArg (World.drewN _) (Nat.add_assoc _ _ _))⟩))))
          go_ret
          exact ⟨by first | rfl | (simp only [i64_w]; first | done | rfl | (simp; done)) | (simp [errW_none, errW_some] <;> rfl) | (simp [*, errW_none, errW_some] <;> rfl), by repeat (first | (with_reducible first | exact HB.out | apply below_alloc | apply pw_below_drewN | apply below_drew1 | refine below_set ?_ GE545.out) | exact HB.out)⟩
        · replace c21 := Bool.eq_false_iff.mpr c21
          subst c21
          have H1 : (laws_FnFoldWidth.l0 kj4 t546 0 t543 t544) = some r := by rw [if_neg (show ¬ (false = true) by decide)] at H; exact H
          clear H
          have H := H1
          clear H1
          have H' := Aside0.mk H
          clear H
          go_wp2
          repeat (go_quiet (fail); try go_wp2)
          go_loopg [5] kj4 (fun kq v5 w' => ∃ (x5_2 : Int), v5 = .int .i64 x5_2 ∧ Aside0 (laws_FnFoldWidth.l0 kq t546 x5_2 t543 t544 = some r) ∧ Aside0 (kq ≤ kj4) ∧ Aside0 (Kd.R Kd.string 9 w' w.heap.size (fun _ => True) v547 t546) ∧ Aside0 (w'.heap[gb545]? = some (.cells #[.string t543, .string t544] 26 (0, 0))) ∧ Aside0 (Below w.heap.size w w'))
          case atStart => exact ⟨(0), (by first | rfl | (simp; done) | (simp [*]; done)), H', ⟨Nat.le_refl _⟩, ⟨by (with_reducible repeat (first | apply Kd.R_alloc | apply Kd.R_drewN | apply Kd.R_drew)); exact HO_4.out⟩, ⟨by (with_reducible repeat (first | refine blk_drewN ?_ _ | refine blk_drew ?_ | refine blk_alloc ?_ _)); exact BK545.out⟩, ⟨by repeat (first | (with_reducible first | exact HB.out | apply below_alloc | apply pw_below_drewN | apply below_drew1 | refine below_set ?_ GE545.out) | exact HB.out)⟩⟩
          case round =>
            clear H'
            try clear c1
            try clear c2
            try clear c2b0
            try clear c2b1
            try clear p2
            try clear c10
            try clear c12
            try clear c21
            try clear hcz13_0
            try clear hcz13_1
            try clear hcz17_0
            try clear hcz17_1
            try clear hcz24_0
            try clear hcz24_1
            try clear hcz8_0
            try clear hcz8_1
            try clear hfz13_0
            try clear hfz13_1
            try clear hfz17_0
            try clear hfz17_1
            try clear hfz24_0
            try clear hfz24_1
            try clear hfz8_0
            try clear hfz8_1
            try clear p2
            obtain ⟨x5_2, rfl, HA, HK2, HO_4, BK545, HB⟩ := hrel
            cases gk with
            | zero => exact absurd HA.out (by simp [laws_FnFoldWidth.l0])
            | succ k2 =>
              have H := HA.out
              clear HA
              simp only [laws_FnFoldWidth.l0] at H
              by_cases c28 : x5_2 < (t546.length : Int)
              · rw [if_pos c28] at H
                have c28b0 : decide (x5_2 < (t546.length : Int)) = true := decide_eq_true c28
                clear c28
                have HC29 := Aside0.mk H
                clear H
                obtain ⟨Ao30, co30, eo30⟩ := Kd.R_slice HO_4.out
                subst eo30
                go_upto_if 36 with (fail)
                repeat (go_quiet (fail); go_upto_if 36 with (fail))
                go_cut [6] (fun v6 wc => ∃ (kq : Nat) (x6_28 : Int), v6 = .int .i64 x6_28 ∧ Aside0 (laws_FnFoldWidth.j2 kq t546 x5_2 x6_28 t543 t544 = some r) ∧ Aside0 (kq ≤ k2) ∧ Aside0 (Kd.R Kd.string 9 wc w.heap.size (fun _ => True) (.slice Ao30 t546.length co30) t546) ∧ Aside0 (wc.heap[gb545]? = some (.cells #[.string t543, .string t544] 26 (0, 0))) ∧ Aside0 (Below w.heap.size w wc))
                case first =>
                  have H := HC29.out
                  clear HC29
                  by_cases c31 : x5_2 = 0
                  · rw [if_pos c31] at H
                    have c31b0 : (x5_2 == 0) = true := beq_iff_eq.mpr c31
                    have c31b1 : (x5_2 != 0) = false := bne_eq_false_iff_eq.mpr c31
                    clear c31
                    (first | rw [c31b0] | (simp only [i64_w, i32_w]; rw [c31b0]) | skip)
                    have H' := Aside0.mk H
                    clear H
                    have hcz32_0 : wr.cell? ⟨gb545, 0, none⟩ = some (.string t543) := (blk_cell BK545.out 0).trans rfl
                    have hcz32_1 : wr.cell? ⟨gb545, 1, none⟩ = some (.string t544) := (blk_cell BK545.out 1).trans rfl
                    have hfz32_0 := blk_frozen BK545.out 0
                    have hfz32_1 := blk_frozen BK545.out 1
                    go_wp2
                    repeat (go_quiet (fail); try go_wp2)
                    go_meet
                    case rel => exact ⟨_, (wrap64 ((t543.size : Int) + 3)), (by first | rfl | (simp; done) | (simp [*]; done)), H', ⟨by have := HJ4.out; have := HK2.out; first | omega | exact Nat.le_refl _⟩, ⟨by (with_reducible repeat (first | apply Kd.R_alloc | apply Kd.R_drewN | apply Kd.R_drew)); exact HO_4.out⟩, ⟨by (with_reducible repeat (first | refine blk_drewN ?_ _ | refine blk_drew ?_ | refine blk_alloc ?_ _)); exact BK545.out⟩, ⟨by repeat (first | (with_reducible first | exact HB.out | apply below_alloc | apply pw_below_drewN | apply below_drew1 | refine below_set ?_ GE545.out) | exact HB.out)⟩⟩
                  · rw [if_neg c31] at H
                    have c31b0 : (x5_2 == 0) = false := beq_eq_false_iff_ne.mpr c31
                    have c31b1 : (x5_2 != 0) = true := bne_iff_ne.mpr c31
                    (first | rw [c31b0] | (simp only [i64_w, i32_w]; rw [c31b0]) | skip)
                    have H' := Aside0.mk H
                    clear H
                    go_wp2
                    repeat (go_quiet (fail); try go_wp2)
                    go_meet
                    case rel => exact ⟨_, (2), (by first | rfl | (simp; done) | (simp [*]; done)), H', ⟨by have := HJ4.out; have := HK2.out; first | omega | exact Nat.le_refl _⟩, ⟨by (with_reducible repeat (first | apply Kd.R_alloc | apply Kd.R_drewN | apply Kd.R_drew)); exact HO_4.out⟩, ⟨by (with_reducible repeat (first | refine blk_drewN ?_ _ | refine blk_drew ?_ | refine blk_alloc ?_ _)); exact BK545.out⟩, ⟨by repeat (first | (with_reducible first | exact HB.out | apply below_alloc | apply pw_below_drewN | apply below_drew1 | refine below_set ?_ GE545.out) | exact HB.out)⟩⟩
                case rest =>
                  clear HC29
                  try clear c1
                  try clear c2
                  try clear c2b0
                  try clear c2b1
                  try clear p2
                  try clear c3
                  try clear p6
                  try clear c10
                  try clear c12
                  try clear c21
                  try clear c28
                  try clear c28b0
                  try clear c31
                  try clear c31b0
                  try clear c31b1
                  try clear hcz13_0
                  try clear hcz13_1
                  try clear hcz17_0
                  try clear hcz17_1
                  try clear hcz24_0
                  try clear hcz24_1
                  try clear hcz32_0
                  try clear hcz32_1
                  try clear hcz8_0
                  try clear hcz8_1
                  try clear hfz13_0
                  try clear hfz13_1
                  try clear hfz17_0
                  try clear hfz17_1
                  try clear hfz24_0
                  try clear hfz24_1
                  try clear hfz32_0
                  try clear hfz32_1
                  try clear hfz8_0
                  try clear hfz8_1
                  try clear p2
                  obtain ⟨kq, x6_28, rfl, HA, HJ28, HO_4, BK545, HB⟩ := hcut
                  cases kq with
                  | zero => exact absurd HA.out (by simp [laws_FnFoldWidth.j2])
                  | succ kj28 =>
                    have H := HA.out
                    clear HA
                    simp only [laws_FnFoldWidth.j2] at H
                    have H' := Aside0.mk H
                    clear H
                    go_wp2
                    repeat (go_quiet (fail); try go_wp2)
                    go_loopg [7] kj28 (fun kq v7 w' => ∃ (x7_4 : Int), v7 = .int .i64 x7_4 ∧ Aside0 (laws_FnFoldWidth.l1 kq t546 x5_2 x7_4 t543 t544 = some r) ∧ Aside0 (kq ≤ kj28) ∧ Aside0 (Kd.R Kd.string 9 w' w.heap.size (fun _ => True) (.slice Ao30 t546.length co30) t546) ∧ Aside0 (w'.heap[gb545]? = some (.cells #[.string t543, .string t544] 26 (0, 0))) ∧ Aside0 (Below w.heap.size w w'))
                    case atStart => exact ⟨(x6_28), (by first | rfl | (simp; done) | (simp [*]; done)), H', ⟨Nat.le_refl _⟩, ⟨by (with_reducible repeat (first | apply Kd.R_alloc | apply Kd.R_drewN | apply Kd.R_drew)); exact HO_4.out⟩, ⟨by (with_reducible repeat (first | refine blk_drewN ?_ _ | refine blk_drew ?_ | refine blk_alloc ?_ _)); exact BK545.out⟩, ⟨by repeat (first | (with_reducible first | exact HB.out | apply below_alloc | apply pw_below_drewN | apply below_drew1 | refine below_set ?_ GE545.out) | exact HB.out)⟩⟩
                    case round =>
                      clear H'
                      try clear c1
                      try clear c2
                      try clear c2b0
                      try clear c2b1
                      try clear p2
                      try clear c3
                      try clear p6
                      try clear c10
                      try clear c12
                      try clear c21
                      try clear c28
                      try clear c28b0
                      try clear c31
                      try clear c31b0
                      try clear c31b1
                      try clear hcz13_0
                      try clear hcz13_1
                      try clear hcz17_0
                      try clear hcz17_1
                      try clear hcz24_0
                      try clear hcz24_1
                      try clear hcz32_0
                      try clear hcz32_1
                      try clear hcz8_0
                      try clear hcz8_1
                      try clear hfz13_0
                      try clear hfz13_1
                      try clear hfz17_0
                      try clear hfz17_1
                      try clear hfz24_0
                      try clear hfz24_1
                      try clear hfz32_0
                      try clear hfz32_1
                      try clear hfz8_0
                      try clear hfz8_1
                      try clear p2
                      try clear p6
                      obtain ⟨x7_4, rfl, HA, HK4, HO_4, BK545, HB⟩ := hrel
                      cases gk with
                      | zero => exact absurd HA.out (by simp [laws_FnFoldWidth.l1])
                      | succ k4 =>
                        have H := HA.out
                        clear HA
                        simp only [laws_FnFoldWidth.l1] at H
                        have HC33 := Aside0.mk H
                        clear H
                        go_upto_region 14 with (fail)
                        repeat (go_quiet (fail); go_upto_region 14 with (fail))
                        go_cut [57] (fun v57 wc => ∃ (kq : Nat) (x57_32 : Bool), v57 = .bool x57_32 ∧ Aside0 (laws_FnFoldWidth.j4 kq t546 x5_2 x7_4 x57_32 t543 t544 = some r) ∧ Aside0 (kq ≤ k4) ∧ Aside0 (Kd.R Kd.string 9 wc w.heap.size (fun _ => True) (.slice Ao30 t546.length co30) t546) ∧ Aside0 (wc.heap[gb545]? = some (.cells #[.string t543, .string t544] 26 (0, 0))) ∧ Aside0 (Below w.heap.size w wc))
                        case first =>
                          have H := HC33.out
                          clear HC33
                          by_cases c34 : 0 ≤ x5_2
                          · rw [if_pos c34] at H
                            have c34b0 : decide (0 ≤ x5_2) = true := decide_eq_true c34
                            clear c34
                            (first | rw [c34b0] | (simp only [i64_w, i32_w]; rw [c34b0]) | skip)
                            by_cases c35 : x5_2 < (t546.length : Int)
                            · rw [if_pos c35] at H
                              have c35b0 : decide (x5_2 < (t546.length : Int)) = true := decide_eq_true c35
                              clear c35
                              by_cases c36 : (wrap64 (x7_4 + 1)) < ((rdOf ByteArray.empty t546 x5_2).size : Int)
                              · rw [if_pos c36] at H
                                have c36b0 : decide ((wrap64 (x7_4 + 1)) < ((rdOf ByteArray.empty t546 x5_2).size : Int)) = true := decide_eq_true c36
                                clear c36
                                have H' := Aside0.mk H
                                clear H
                                have p559 : 0 ≤ (x5_2 : Int) := of_decide_eq_true (by first | (with_reducible assumption) | assumption)
                                have q559 : x5_2 < (t546.length : Int) := of_decide_eq_true (by first | (with_reducible assumption) | assumption)
                                obtain ⟨ad559, e559, hx559_0⟩ := Kd.at_string (Kd.R_reads' HO_4.out).2.2 x5_2 p559 q559
                                cases e559
                                replace p559 := eq_true p559
                                replace q559 := eq_true q559
                                have p560 : 0 ≤ (x5_2 : Int) := of_decide_eq_true (by first | (with_reducible assumption) | assumption)
                                have q560 : x5_2 < (t546.length : Int) := of_decide_eq_true (by first | (with_reducible assumption) | assumption)
                                obtain ⟨ad560, e560, hx560_0⟩ := Kd.at_string (Kd.R_reads' HO_4.out).2.2 x5_2 p560 q560
                                obtain rfl : ad559 = ad560 := (by injection e560)
                                replace p560 := eq_true p560
                                replace q560 := eq_true q560
                                go_wp2
                                repeat (go_quiet (fail); try go_wp2)
                                go_meet
                                case rel => exact ⟨_, (decide (((rdOf ByteArray.empty t546 x5_2).size : Int) > 40)), (by first | rfl | (simp; done) | (simp [*]; done)), H', ⟨by have := HJ4.out; have := HK2.out; have := HJ28.out; have := HK4.out; first | omega | exact Nat.le_refl _⟩, ⟨by (with_reducible repeat (first | apply Kd.R_alloc | apply Kd.R_drewN | apply Kd.R_drew)); exact HO_4.out⟩, ⟨by (with_reducible repeat (first | refine blk_drewN ?_ _ | refine blk_drew ?_ | refine blk_alloc ?_ _)); exact BK545.out⟩, ⟨by repeat (first | (with_reducible first | exact HB.out | apply below_alloc | apply pw_below_drewN | apply below_drew1 | refine below_set ?_ GE545.out) | exact HB.out)⟩⟩
                              · rw [if_neg c36] at H
                                have c36b0 : decide ((wrap64 (x7_4 + 1)) < ((rdOf ByteArray.empty t546 x5_2).size : Int)) = false := decide_eq_false c36
                                clear c36
                                have H' := Aside0.mk H
                                clear H
                                have p559 : 0 ≤ (x5_2 : Int) := of_decide_eq_true (by first | (with_reducible assumption) | assumption)
                                have q559 : x5_2 < (t546.length : Int) := of_decide_eq_true (by first | (with_reducible assumption) | assumption)
                                obtain ⟨ad559, e559, hx559_0⟩ := Kd.at_string (Kd.R_reads' HO_4.out).2.2 x5_2 p559 q559
                                cases e559
                                replace p559 := eq_true p559
                                replace q559 := eq_true q559
                                go_wp2
                                repeat (go_quiet (fail); try go_wp2)
                                go_meet
                                case rel => exact ⟨_, (false), (by first | rfl | (simp; done) | (simp [*]; done)), H', ⟨by have := HJ4.out; have := HK2.out; have := HJ28.out; have := HK4.out; first | omega | exact Nat.le_refl _⟩, ⟨by (with_reducible repeat (first | apply Kd.R_alloc | apply Kd.R_drewN | apply Kd.R_drew)); exact HO_4.out⟩, ⟨by (with_reducible repeat (first | refine blk_drewN ?_ _ | refine blk_drew ?_ | refine blk_alloc ?_ _)); exact BK545.out⟩, ⟨by repeat (first | (with_reducible first | exact HB.out | apply below_alloc | apply pw_below_drewN | apply below_drew1 | refine below_set ?_ GE545.out) | exact HB.out)⟩⟩
                            · rw [if_neg c35] at H
                              exact absurd H (by simp)
                          · rw [if_neg c34] at H
                            exact absurd H (by simp)
                        case rest =>
                          clear HC33
                          try clear c1
                          try clear c2
                          try clear c2b0
                          try clear c2b1
                          try clear p2
                          try clear c3
                          try clear p5
                          try clear q5
                          try clear hx5
                          try clear p6
                          try clear c10
                          try clear c12
                          try clear c21
                          try clear c28
                          try clear c28b0
                          try clear c31
                          try clear c31b0
                          try clear c31b1
                          try clear c34
                          try clear c34b0
                          try clear c35
                          try clear c35b0
                          try clear c36
                          try clear c36b0
                          try clear hcz13_0
                          try clear hcz13_1
                          try clear hcz17_0
                          try clear hcz17_1
                          try clear hcz24_0
                          try clear hcz24_1
                          try clear hcz32_0
                          try clear hcz32_1
                          try clear hcz8_0
                          try clear hcz8_1
                          try clear hfz13_0
                          try clear hfz13_1
                          try clear hfz17_0
                          try clear hfz17_1
                          try clear hfz24_0
                          try clear hfz24_1
                          try clear hfz32_0
                          try clear hfz32_1
                          try clear hfz8_0
                          try clear hfz8_1
                          try clear hx559_0
                          try clear hx560_0
                          try clear p2
                          try clear p559
                          try clear p560
                          try clear p6
                          try clear q559
                          try clear q560
                          obtain ⟨kq, x57_32, rfl, HA, HJ32, HO_4, BK545, HB⟩ := hcut
                          cases kq with
                          | zero => exact absurd HA.out (by simp [laws_FnFoldWidth.j4])
                          | succ kj32 =>
                            have H := HA.out
                            clear HA
                            simp only [laws_FnFoldWidth.j4] at H
                            by_cases c37 : x57_32 = true
                            · subst c37
                              have H1 : (if 0 ≤ x5_2 then (if x5_2 < (t546.length : Int) then (if 0 ≤ x7_4 then (if x7_4 < ((rdOf ByteArray.empty t546 x5_2).size : Int) then (if (bt (rdOf ByteArray.empty t546 x5_2) x7_4) = 32 then (if 0 ≤ (wrap64 (x7_4 - 1)) then (if (wrap64 (x7_4 - 1)) < ((rdOf ByteArray.empty t546 x5_2).size : Int) then (if (bt (rdOf ByteArray.empty t546 x5_2) (wrap64 (x7_4 - 1))) = 32 then (laws_FnFoldWidth.l1 kj32 t546 x5_2 (wrap64 (x7_4 + 1)) t543 t544) else (if 0 ≤ (wrap64 (x7_4 + 1)) then (if (wrap64 (x7_4 + 1)) < ((rdOf ByteArray.empty t546 x5_2).size : Int) then (if (bt (rdOf ByteArray.empty t546 x5_2) (wrap64 (x7_4 + 1))) = 32 then (laws_FnFoldWidth.l1 kj32 t546 x5_2 (wrap64 (x7_4 + 1)) t543 t544) else (some false)) else (none)) else (none))) else (none)) else (none)) else (laws_FnFoldWidth.l1 kj32 t546 x5_2 (wrap64 (x7_4 + 1)) t543 t544)) else (none)) else (none)) else (none)) else (none)) = some r := by rw [if_pos rfl] at H; exact H
                              clear H
                              have H := H1
                              clear H1
                              by_cases c38 : 0 ≤ x5_2
                              · rw [if_pos c38] at H
                                have c38b0 : decide (0 ≤ x5_2) = true := decide_eq_true c38
                                clear c38
                                by_cases c39 : x5_2 < (t546.length : Int)
                                · rw [if_pos c39] at H
                                  have c39b0 : decide (x5_2 < (t546.length : Int)) = true := decide_eq_true c39
                                  clear c39
                                  by_cases c40 : 0 ≤ x7_4
                                  · rw [if_pos c40] at H
                                    have c40b0 : decide (0 ≤ x7_4) = true := decide_eq_true c40
                                    clear c40
                                    by_cases c41 : x7_4 < ((rdOf ByteArray.empty t546 x5_2).size : Int)
                                    · rw [if_pos c41] at H
                                      have c41b0 : decide (x7_4 < ((rdOf ByteArray.empty t546 x5_2).size : Int)) = true := decide_eq_true c41
                                      clear c41
                                      by_cases c43 : (bt (rdOf ByteArray.empty t546 x5_2) x7_4) = 32
                                      · rw [if_pos c43] at H
                                        have c43b0 : ((bt (rdOf ByteArray.empty t546 x5_2) x7_4) == 32) = true := beq_iff_eq.mpr c43
                                        have c43b1 : ((bt (rdOf ByteArray.empty t546 x5_2) x7_4) != 32) = false := bne_eq_false_iff_eq.mpr c43
                                        clear c43
                                        obtain ⟨ji44, hji44⟩ : ∃ j_ : Int, (wrap64 (x7_4 - 1)) = j_ := ⟨_, rfl⟩
                                        replace H : (if 0 ≤ (ji44) then (if (ji44) < ((rdOf ByteArray.empty t546 x5_2).size : Int) then (if (bt (rdOf ByteArray.empty t546 x5_2) (ji44)) = 32 then (laws_FnFoldWidth.l1 kj32 t546 x5_2 (wrap64 (x7_4 + 1)) t543 t544) else (if 0 ≤ (wrap64 (x7_4 + 1)) then (if (wrap64 (x7_4 + 1)) < ((rdOf ByteArray.empty t546 x5_2).size : Int) then (if (bt (rdOf ByteArray.empty t546 x5_2) (wrap64 (x7_4 + 1))) = 32 then (laws_FnFoldWidth.l1 kj32 t546 x5_2 (wrap64 (x7_4 + 1)) t543 t544) else (some false)) else (none)) else (none))) else (none)) else (none)) = some r := by first | (rw [hji44] at H; exact H) | (simp only [hji44] at H ⊢; exact H)
                                        have hji44w : (IntKind.i64.wrap (x7_4 - 1)) = ji44 := (i64_w _).trans hji44
                                        by_cases c45 : 0 ≤ (ji44)
                                        · rw [if_pos c45] at H
                                          have c45b0 : decide (0 ≤ (ji44)) = true := decide_eq_true c45
                                          clear c45
                                          by_cases c46 : (ji44) < ((rdOf ByteArray.empty t546 x5_2).size : Int)
                                          · rw [if_pos c46] at H
                                            have c46b0 : decide ((ji44) < ((rdOf ByteArray.empty t546 x5_2).size : Int)) = true := decide_eq_true c46
                                            clear c46
                                            by_cases c48 : (bt (rdOf ByteArray.empty t546 x5_2) (ji44)) = 32
                                            · rw [if_pos c48] at H
                                              have c48b0 : ((bt (rdOf ByteArray.empty t546 x5_2) (ji44)) == 32) = true := beq_iff_eq.mpr c48
                                              have c48b1 : ((bt (rdOf ByteArray.empty t546 x5_2) (ji44)) != 32) = false := bne_eq_false_iff_eq.mpr c48
                                              clear c48
                                              have H' := Aside0.mk H
                                              clear H
                                              have p561 : 0 ≤ (x5_2 : Int) := of_decide_eq_true (by first | (with_reducible assumption) | assumption)
                                              have q561 : x5_2 < (t546.length : Int) := of_decide_eq_true (by first | (with_reducible assumption) | assumption)
                                              obtain ⟨ad561, e561, hx561_0⟩ := Kd.at_string (Kd.R_reads' HO_4.out).2.2 x5_2 p561 q561
                                              cases e561
                                              replace p561 := eq_true p561
                                              replace q561 := eq_true q561
                                              have p42 : 0 ≤ (x7_4 : Int) := of_decide_eq_true (by first | (with_reducible assumption) | assumption)
                                              have q42 : x7_4 < ((rdOf ByteArray.empty t546 x5_2).size : Int) := of_decide_eq_true (by first | (with_reducible assumption) | assumption)
                                              have hx42 := bt_at (rdOf ByteArray.empty t546 x5_2) x7_4
                                              replace p42 := eq_true p42
                                              replace q42 := eq_true q42
                                              have p562 : 0 ≤ (x5_2 : Int) := of_decide_eq_true (by first | (with_reducible assumption) | assumption)
                                              have q562 : x5_2 < (t546.length : Int) := of_decide_eq_true (by first | (with_reducible assumption) | assumption)
                                              obtain ⟨ad562, e562, hx562_0⟩ := Kd.at_string (Kd.R_reads' HO_4.out).2.2 x5_2 p562 q562
                                              obtain rfl : ad561 = ad562 := (by injection e562)
                                              replace p562 := eq_true p562
                                              replace q562 := eq_true q562
                                              have p47 : 0 ≤ ((ji44) : Int) := of_decide_eq_true (by first | (with_reducible assumption) | assumption)
                                              have q47 : (ji44) < ((rdOf ByteArray.empty t546 x5_2).size : Int) := of_decide_eq_true (by first | (with_reducible assumption) | assumption)
                                              have hx47 := bt_at (rdOf ByteArray.empty t546 x5_2) (ji44)
                                              replace p47 := eq_true p47
                                              replace q47 := eq_true q47
                                              go_wp2
                                              repeat (go_quiet (fail); try go_wp2)
                                              go_roundg kj32
                                              case measure => have := HJ4.out; have := HK2.out; have := HJ28.out; have := HK4.out; have := HJ32.out; omega
                                              case rel => exact ⟨(wrap64 (x7_4 + 1)), (by first | rfl | (simp; done) | (simp [*]; done)), H', ⟨by have := HJ4.out; have := HK2.out; have := HJ28.out; have := HK4.out; have := HJ32.out; omega⟩, ⟨by (with_reducible repeat (first | apply Kd.R_alloc | apply Kd.R_drewN | apply Kd.R_drew)); exact HO_4.out⟩, ⟨by (with_reducible repeat (first | refine blk_drewN ?_ _ | refine blk_drew ?_ | refine blk_alloc ?_ _)); exact BK545.out⟩, ⟨by repeat (first | (with_reducible first | exact HB.out | apply below_alloc | apply pw_below_drewN | apply below_drew1 | refine below_set ?_ GE545.out) | exact HB.out)⟩⟩
                                            · rw [if_neg c48] at H
                                              have c48b0 : ((bt (rdOf ByteArray.empty t546 x5_2) (ji44)) == 32) = false := beq_eq_false_iff_ne.mpr c48
                                              have c48b1 : ((bt (rdOf ByteArray.empty t546 x5_2) (ji44)) != 32) = true := bne_iff_ne.mpr c48
                                              obtain ⟨ji49, hji49⟩ : ∃ j_ : Int, (wrap64 (x7_4 + 1)) = j_ := ⟨_, rfl⟩
                                              replace H : (if 0 ≤ (ji49) then (if (ji49) < ((rdOf ByteArray.empty t546 x5_2).size : Int) then (if (bt (rdOf ByteArray.empty t546 x5_2) (ji49)) = 32 then (laws_FnFoldWidth.l1 kj32 t546 x5_2 ji49 t543 t544) else (some false)) else (none)) else (none)) = some r := by first | (rw [hji49] at H; exact H) | (simp only [hji49] at H ⊢; exact H)
                                              have hji49w : (IntKind.i64.wrap (x7_4 + 1)) = ji49 := (i64_w _).trans hji49
                                              by_cases c50 : 0 ≤ (ji49)
                                              · rw [if_pos c50] at H
                                                have c50b0 : decide (0 ≤ (ji49)) = true := decide_eq_true c50
                                                clear c50
                                                by_cases c51 : (ji49) < ((rdOf ByteArray.empty t546 x5_2).size : Int)
                                                · rw [if_pos c51] at H
                                                  have c51b0 : decide ((ji49) < ((rdOf ByteArray.empty t546 x5_2).size : Int)) = true := decide_eq_true c51
                                                  clear c51
                                                  by_cases c53 : (bt (rdOf ByteArray.empty t546 x5_2) (ji49)) = 32
                                                  · rw [if_pos c53] at H
                                                    have c53b0 : ((bt (rdOf ByteArray.empty t546 x5_2) (ji49)) == 32) = true := beq_iff_eq.mpr c53
                                                    have c53b1 : ((bt (rdOf ByteArray.empty t546 x5_2) (ji49)) != 32) = false := bne_eq_false_iff_eq.mpr c53
                                                    clear c53
                                                    have H' := Aside0.mk H
                                                    clear H
                                                    have p561 : 0 ≤ (x5_2 : Int) := of_decide_eq_true (by first | (with_reducible assumption) | assumption)
                                                    have q561 : x5_2 < (t546.length : Int) := of_decide_eq_true (by first | (with_reducible assumption) | assumption)
                                                    obtain ⟨ad561, e561, hx561_0⟩ := Kd.at_string (Kd.R_reads' HO_4.out).2.2 x5_2 p561 q561
                                                    cases e561
                                                    replace p561 := eq_true p561
                                                    replace q561 := eq_true q561
                                                    have p42 : 0 ≤ (x7_4 : Int) := of_decide_eq_true (by first | (with_reducible assumption) | assumption)
                                                    have q42 : x7_4 < ((rdOf ByteArray.empty t546 x5_2).size : Int) := of_decide_eq_true (by first | (with_reducible assumption) | assumption)
                                                    have hx42 := bt_at (rdOf ByteArray.empty t546 x5_2) x7_4
                                                    replace p42 := eq_true p42
                                                    replace q42 := eq_true q42
                                                    have p562 : 0 ≤ (x5_2 : Int) := of_decide_eq_true (by first | (with_reducible assumption) | assumption)
                                                    have q562 : x5_2 < (t546.length : Int) := of_decide_eq_true (by first | (with_reducible assumption) | assumption)
                                                    obtain ⟨ad562, e562, hx562_0⟩ := Kd.at_string (Kd.R_reads' HO_4.out).2.2 x5_2 p562 q562
                                                    obtain rfl : ad561 = ad562 := (by injection e562)
                                                    replace p562 := eq_true p562
                                                    replace q562 := eq_true q562
                                                    have p47 : 0 ≤ ((ji44) : Int) := of_decide_eq_true (by first | (with_reducible assumption) | assumption)
                                                    have q47 : (ji44) < ((rdOf ByteArray.empty t546 x5_2).size : Int) := of_decide_eq_true (by first | (with_reducible assumption) | assumption)
                                                    have hx47 := bt_at (rdOf ByteArray.empty t546 x5_2) (ji44)
                                                    replace p47 := eq_true p47
                                                    replace q47 := eq_true q47
                                                    have p563 : 0 ≤ (x5_2 : Int) := of_decide_eq_true (by first | (with_reducible assumption) | assumption)
                                                    have q563 : x5_2 < (t546.length : Int) := of_decide_eq_true (by first | (with_reducible assumption) | assumption)
                                                    obtain ⟨ad563, e563, hx563_0⟩ := Kd.at_string (Kd.R_reads' HO_4.out).2.2 x5_2 p563 q563
                                                    obtain rfl : ad561 = ad563 := (by injection e563)
                                                    replace p563 := eq_true p563
                                                    replace q563 := eq_true q563
                                                    have p52 : 0 ≤ ((ji49) : Int) := of_decide_eq_true (by first | (with_reducible assumption) | assumption)
                                                    have q52 : (ji49) < ((rdOf ByteArray.empty t546 x5_2).size : Int) := of_decide_eq_true (by first | (with_reducible assumption) | assumption)
                                                    have hx52 := bt_at (rdOf ByteArray.empty t546 x5_2) (ji49)
                                                    replace p52 := eq_true p52
                                                    replace q52 := eq_true q52
                                                    go_wp2
                                                    repeat (go_quiet (fail); try go_wp2)
                                                    go_roundg kj32
                                                    case measure => have := HJ4.out; have := HK2.out; have := HJ28.out; have := HK4.out; have := HJ32.out; omega
                                                    case rel => exact ⟨(ji49), (by first | rfl | (simp; done) | (simp only [← hji49] <;> (first | rfl | simp)) | (simp [*]; done)), H', ⟨by have := HJ4.out; have := HK2.out; have := HJ28.out; have := HK4.out; have := HJ32.out; omega⟩, ⟨by (with_reducible repeat (first | apply Kd.R_alloc | apply Kd.R_drewN | apply Kd.R_drew)); exact HO_4.out⟩, ⟨by (with_reducible repeat (first | refine blk_drewN ?_ _ | refine blk_drew ?_ | refine blk_alloc ?_ _)); exact BK545.out⟩, ⟨by repeat (first | (with_reducible first | exact HB.out | apply below_alloc | apply pw_below_drewN | apply below_drew1 | refine below_set ?_ GE545.out) | exact HB.out)⟩⟩
                                                  · rw [if_neg c53] at H
                                                    have c53b0 : ((bt (rdOf ByteArray.empty t546 x5_2) (ji49)) == 32) = false := beq_eq_false_iff_ne.mpr c53
                                                    have c53b1 : ((bt (rdOf ByteArray.empty t546 x5_2) (ji49)) != 32) = true := bne_iff_ne.mpr c53
                                                    obtain rfl := Option.some.inj H
                                                    have p561 : 0 ≤ (x5_2 : Int) := of_decide_eq_true (by first | (with_reducible assumption) | assumption)
                                                    have q561 : x5_2 < (t546.length : Int) := of_decide_eq_true (by first | (with_reducible assumption) | assumption)
                                                    obtain ⟨ad561, e561, hx561_0⟩ := Kd.at_string (Kd.R_reads' HO_4.out).2.2 x5_2 p561 q561
                                                    cases e561
                                                    replace p561 := eq_true p561
                                                    replace q561 := eq_true q561
                                                    have p42 : 0 ≤ (x7_4 : Int) := of_decide_eq_true (by first | (with_reducible assumption) | assumption)
                                                    have q42 : x7_4 < ((rdOf ByteArray.empty t546 x5_2).size : Int) := of_decide_eq_true (by first | (with_reducible assumption) | assumption)
                                                    have hx42 := bt_at (rdOf ByteArray.empty t546 x5_2) x7_4
                                                    replace p42 := eq_true p42
                                                    replace q42 := eq_true q42
                                                    have p562 : 0 ≤ (x5_2 : Int) := of_decide_eq_true (by first | (with_reducible assumption) | assumption)
                                                    have q562 : x5_2 < (t546.length : Int) := of_decide_eq_true (by first | (with_reducible assumption) | assumption)
                                                    obtain ⟨ad562, e562, hx562_0⟩ := Kd.at_string (Kd.R_reads' HO_4.out).2.2 x5_2 p562 q562
                                                    obtain rfl : ad561 = ad562 := (by injection e562)
                                                    replace p562 := eq_true p562
                                                    replace q562 := eq_true q562
                                                    have p47 : 0 ≤ ((ji44) : Int) := of_decide_eq_true (by first | (with_reducible assumption) | assumption)
                                                    have q47 : (ji44) < ((rdOf ByteArray.empty t546 x5_2).size : Int) := of_decide_eq_true (by first | (with_reducible assumption) | assumption)
                                                    have hx47 := bt_at (rdOf ByteArray.empty t546 x5_2) (ji44)
                                                    replace p47 := eq_true p47
                                                    replace q47 := eq_true q47
                                                    have p563 : 0 ≤ (x5_2 : Int) := of_decide_eq_true (by first | (with_reducible assumption) | assumption)
                                                    have q563 : x5_2 < (t546.length : Int) := of_decide_eq_true (by first | (with_reducible assumption) | assumption)
                                                    obtain ⟨ad563, e563, hx563_0⟩ := Kd.at_string (Kd.R_reads' HO_4.out).2.2 x5_2 p563 q563
                                                    obtain rfl : ad561 = ad563 := (by injection e563)
                                                    replace p563 := eq_true p563
                                                    replace q563 := eq_true q563
                                                    have p52 : 0 ≤ ((ji49) : Int) := of_decide_eq_true (by first | (with_reducible assumption) | assumption)
                                                    have q52 : (ji49) < ((rdOf ByteArray.empty t546 x5_2).size : Int) := of_decide_eq_true (by first | (with_reducible assumption) | assumption)
                                                    have hx52 := bt_at (rdOf ByteArray.empty t546 x5_2) (ji49)
                                                    replace p52 := eq_true p52
                                                    replace q52 := eq_true q52
                                                    go_wp2
                                                    repeat (go_quiet (fail); try go_wp2)
                                                    go_ret
                                                    exact ⟨by first | rfl | (simp only [i64_w]; first | done | rfl | (simp; done)) | (simp [errW_none, errW_some] <;> rfl) | (simp only [← hji44, ← hji49]; first | rfl | (simp [errW_none, errW_some] <;> rfl)) | (simp [*, errW_none, errW_some] <;> rfl), by repeat (first | (with_reducible first | exact HB.out | apply below_alloc | apply pw_below_drewN | apply below_drew1 | refine below_set ?_ GE545.out) | exact HB.out)⟩
                                                · rw [if_neg c51] at H
                                                  exact absurd H (by simp)
                                              · rw [if_neg c50] at H
                                                exact absurd H (by simp)
                                          · rw [if_neg c46] at H
                                            exact absurd H (by simp)
                                        · rw [if_neg c45] at H
                                          exact absurd H (by simp)
                                      · rw [if_neg c43] at H
                                        have c43b0 : ((bt (rdOf ByteArray.empty t546 x5_2) x7_4) == 32) = false := beq_eq_false_iff_ne.mpr c43
                                        have c43b1 : ((bt (rdOf ByteArray.empty t546 x5_2) x7_4) != 32) = true := bne_iff_ne.mpr c43
                                        have H' := Aside0.mk H
                                        clear H
                                        have p561 : 0 ≤ (x5_2 : Int) := of_decide_eq_true (by first | (with_reducible assumption) | assumption)
                                        have q561 : x5_2 < (t546.length : Int) := of_decide_eq_true (by first | (with_reducible assumption) | assumption)
                                        obtain ⟨ad561, e561, hx561_0⟩ := Kd.at_string (Kd.R_reads' HO_4.out).2.2 x5_2 p561 q561
                                        cases e561
                                        replace p561 := eq_true p561
                                        replace q561 := eq_true q561
                                        have p42 : 0 ≤ (x7_4 : Int) := of_decide_eq_true (by first | (with_reducible assumption) | assumption)
                                        have q42 : x7_4 < ((rdOf ByteArray.empty t546 x5_2).size : Int) := of_decide_eq_true (by first | (with_reducible assumption) | assumption)
                                        have hx42 := bt_at (rdOf ByteArray.empty t546 x5_2) x7_4
                                        replace p42 := eq_true p42
                                        replace q42 := eq_true q42
                                        go_wp2
                                        repeat (go_quiet (fail); try go_wp2)
                                        go_roundg kj32
                                        case measure => have := HJ4.out; have := HK2.out; have := HJ28.out; have := HK4.out; have := HJ32.out; omega
                                        case rel => exact ⟨(wrap64 (x7_4 + 1)), (by first | rfl | (simp; done) | (simp [*]; done)), H', ⟨by have := HJ4.out; have := HK2.out; have := HJ28.out; have := HK4.out; have := HJ32.out; omega⟩, ⟨by (with_reducible repeat (first | apply Kd.R_alloc | apply Kd.R_drewN | apply Kd.R_drew)); exact HO_4.out⟩, ⟨by (with_reducible repeat (first | refine blk_drewN ?_ _ | refine blk_drew ?_ | refine blk_alloc ?_ _)); exact BK545.out⟩, ⟨by repeat (first | (with_reducible first | exact HB.out | apply below_alloc | apply pw_below_drewN | apply below_drew1 | refine below_set ?_ GE545.out) | exact HB.out)⟩⟩
                                    · rw [if_neg c41] at H
                                      exact absurd H (by simp)
                                  · rw [if_neg c40] at H
                                    exact absurd H (by simp)
                                · rw [if_neg c39] at H
                                  exact absurd H (by simp)
                              · rw [if_neg c38] at H
                                exact absurd H (by simp)
                            · replace c37 := Bool.eq_false_iff.mpr c37
                              subst c37
                              have H1 : (laws_FnFoldWidth.l0 kj32 t546 (wrap64 (x5_2 + 1)) t543 t544) = some r := by rw [if_neg (show ¬ (false = true) by decide)] at H; exact H
                              clear H
                              have H := H1
                              clear H1
                              have H' := Aside0.mk H
                              clear H
                              go_wp2
                              repeat (go_quiet (fail); try go_wp2)
                              go_roundg kj32
                              case measure => have := HJ4.out; have := HK2.out; have := HJ28.out; have := HK4.out; have := HJ32.out; omega
                              case rel => exact ⟨(wrap64 (x5_2 + 1)), (by first | rfl | (simp; done) | (simp [*]; done)), H', ⟨by have := HJ4.out; have := HK2.out; have := HJ28.out; have := HK4.out; have := HJ32.out; omega⟩, ⟨by (with_reducible repeat (first | apply Kd.R_alloc | apply Kd.R_drewN | apply Kd.R_drew)); exact HO_4.out⟩, ⟨by (with_reducible repeat (first | refine blk_drewN ?_ _ | refine blk_drew ?_ | refine blk_alloc ?_ _)); exact BK545.out⟩, ⟨by repeat (first | (with_reducible first | exact HB.out | apply below_alloc | apply pw_below_drewN | apply below_drew1 | refine below_set ?_ GE545.out) | exact HB.out)⟩⟩
              · rw [if_neg c28] at H
                have c28b0 : decide (x5_2 < (t546.length : Int)) = false := decide_eq_false c28
                clear c28
                replace H := Option.bind_eq_some_iff.mp H
                obtain ⟨t557, A540, H⟩ := H
                replace H : ((laws_mwOne.f t544).bind fun t558 => (some ((t557.size : Int) == (wrap64 ((wrap64 ((wrap64 ((t543.size : Int) + 1)) + t558)) + (t544.size : Int)))))) = some r := H
                have A54 := Aside0.mk A540
                clear A540
                replace H := Option.bind_eq_some_iff.mp H
                obtain ⟨t558, A550, H⟩ := H
                replace H : (some ((t557.size : Int) == (wrap64 ((wrap64 ((wrap64 ((t543.size : Int) + 1)) + t558)) + (t544.size : Int))))) = some r := H
                have A55 := Aside0.mk A550
                clear A550
                obtain rfl := Option.some.inj H
                obtain ⟨Ao56, co56, eo56⟩ := Kd.R_slice HO_4.out
                subst eo56
                go_wp2_with (first | (go_at_call 34; (with_reducible refine (laws_mwJoin2.calls k2 _ _ t546 t557 _ ?side1 ?side2 A54.out).mono ?_); (case side1 => repeat (first | exact (Kd.R_reads' HO_4.out).2.2 | (with_reducible refine Kd.C_alloc ?_ _) | (with_reducible refine Kd.C_drewN ?_ _) | (with_reducible refine Kd.C_drew ?_))); (case side2 => exact (Kd.R_reads' HO_4.out).2.1); rintro e w' ⟨rfl, ⟨nd, rfl⟩⟩; (try first | exact ⟨rfl, _, World.drewN_drewN _ _ _⟩ | exact ⟨rfl, _, Eq.trans (World.drewN_drewN _ _ _) (congrArg (World.drewN _) (Nat.add_assoc _ _ _))⟩); have hcz57_0 : wr.cell? ⟨gb545, 0, none⟩ = some (.string t543) := (blk_cell BK545.out 0).trans rfl; have hcz57_1 : wr.cell? ⟨gb545, 1, none⟩ = some (.string t544) := (blk_cell BK545.out 1).trans rfl; have hfz57_0 := blk_frozen BK545.out 0; have hfz57_1 := blk_frozen BK545.out 1) | (go_at_call 35; (with_reducible refine (laws_mwOne.calls t544 t558 _ A55.out).mono ?_); rintro e w' ⟨rfl, ⟨nd, rfl⟩⟩; (try first | exact ⟨rfl, _, World.drewN_drewN _ _ _⟩ | exact ⟨rfl, _, Eq.trans (World.drewN_drewN _ _ _) (congrArg (World.drewN _) (Nat.add_assoc _ _ _))⟩)))
                repeat (go_quiet (first | (go_at_call 34; (with_reducible refine (laws_mwJoin2.calls k2 _ _ t546 t557 _ ?side1 ?side2 A54.out).mono ?_); (case side1 => repeat (first | exact (Kd.R_reads' HO_4.out).2.2 | (with_reducible refine Kd.C_alloc ?_ _) | (with_reducible refine Kd.C_drewN ?_ _) | (with_reducible refine Kd.C_drew ?_))); (case side2 => exact (Kd.R_reads' HO_4.out).2.1); rintro e w' ⟨rfl, ⟨nd, rfl⟩⟩; (try first | exact ⟨rfl, _, World.drewN_drewN _ _ _⟩ | exact ⟨rfl, _, Eq.trans (World.drewN_drewN _ _ _) (congrArg (World.drewN _) (Nat.add_assoc _ _ _))⟩); have hcz57_0 : wr.cell? ⟨gb545, 0, none⟩ = some (.string t543) := (blk_cell BK545.out 0).trans rfl; have hcz57_1 : wr.cell? ⟨gb545, 1, none⟩ = some (.string t544) := (blk_cell BK545.out 1).trans rfl; have hfz57_0 := blk_frozen BK545.out 0; have hfz57_1 := blk_frozen BK545.out 1) | (go_at_call 35; (with_reducible refine (laws_mwOne.calls t544 t558 _ A55.out).mono ?_); rintro e w' ⟨rfl, ⟨nd, rfl⟩⟩; (try first | exact ⟨rfl, _, World.drewN_drewN _ _ _⟩ | exact ⟨rfl, _, Eq.trans (World.drewN_drewN _ _ _) (congrArg (World.drewN _) (Nat.add_assoc _ _ _))⟩))); try go_wp2_with (first | (go_at_call 34; (with_reducible refine (laws_mwJoin2.calls k2 _ _ t546 t557 _ ?side1 ?side2 A54.out).mono ?_); (case side1 => repeat (first | exact (Kd.R_reads' HO_4.out).2.2 | (with_reducible refine Kd.C_alloc ?_ _) | (with_reducible refine Kd.C_drewN ?_ _) | (with_reducible refine Kd.C_drew ?_))); (case side2 => exact (Kd.R_reads' HO_4.out).2.1); rintro e w' ⟨rfl, ⟨nd, rfl⟩⟩; (try first | exact ⟨rfl, _, World.drewN_drewN _ _ _⟩ | exact ⟨rfl, _, Eq.trans (World.drewN_drewN _ _ _) (congrArg (World.drewN _) (Nat.add_assoc _ _ _))⟩); have hcz57_0 : wr.cell? ⟨gb545, 0, none⟩ = some (.string t543) := (blk_cell BK545.out 0).trans rfl; have hcz57_1 : wr.cell? ⟨gb545, 1, none⟩ = some (.string t544) := (blk_cell BK545.out 1).trans rfl; have hfz57_0 := blk_frozen BK545.out 0; have hfz57_1 := blk_frozen BK545.out 1) | (go_at_call 35; (with_reducible refine (laws_mwOne.calls t544 t558 _ A55.out).mono ?_); rintro e w' ⟨rfl, ⟨nd, rfl⟩⟩; (try first | exact ⟨rfl, _, World.drewN_drewN _ _ _⟩ | exact ⟨rfl, _, Eq.trans (World.drewN_drewN _ _ _) (congrArg (World.drewN _) (Nat.add_assoc _ _ _))⟩))))
                go_ret
                exact ⟨by first | rfl | (simp only [i64_w]; first | done | rfl | (simp; done)) | (simp [errW_none, errW_some] <;> rfl) | (simp [*, errW_none, errW_some] <;> rfl), by repeat (first | (with_reducible first | exact HB.out | apply below_alloc | apply pw_below_drewN | apply below_drew1 | refine below_set ?_ GE545.out) | exact HB.out)⟩

/-- THE ONE PURE STATEMENT of laws_FnFoldWidth: yours. -/
def laws_FnFoldWidth.Pure : Prop := ∀ (l0 : List Int), l0.length ≤ maxLen → l0.length * 1 ≤ 140737488351232 → (∀ x ∈ l0, (Lit.int .u8 x).wf = true) → ∃ k, laws_FnFoldWidth.f k l0 = some true
theorem laws_FnFoldWidth.walk (P : laws_FnFoldWidth.Pure) (a0 : Option Addr) (len0 cap0 : Nat) (z0 : List Int) (w : World) (w0 : (a0 = none ∧ len0 = 0 ∧ cap0 = 0 ∧ z0 = []) ∨ ∃ x, a0 = some x ∧ len0 ≤ cap0 ∧ cap0 ≤ maxLen ∧ z0.length = cap0 ∧ (∀ i, i < z0.length → w.cell? (x.add i) = some (.int .u8 (z0.getD i 0))) ∧ ∀ n ∈ z0, (Lit.int .u8 n).wf = true) (y0 : len0 * 1 ≤ 140737488351232) :
    Calls Tryd.prog 10 #[.slice a0 len0 cap0] w fun e w' => e = .returned (.bool true) ∧ Below w.heap.size w w' := by
  obtain ⟨l0, rfl, hr0, hm0, hw0, hc0⟩ := ReadsInt.ofRowC w0
  obtain ⟨k, h⟩ := P l0 hm0 y0 hw0
  refine (laws_FnFoldWidth.calls k _ _ l0 true w (Kd.C_of_reads (d := (0 : Int)) (h1 := fun _ => rfl) hr0) hc0 h).mono ?_
  rintro e w' ⟨rfl, hd⟩
  exact ⟨rfl, hd⟩

end Go.Proofs.YtcnkakaipajloaaDoor.Q
