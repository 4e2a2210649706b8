/- The law FnExactFormatList answers true at every input; no condition. -/
import Derived.Test.YtmehlmhpgbjddaaDoorRows
import Derived.Test.YtmehlmhpgbjddaaDoorCards
import Derived.Test.YtmehlmhpgbjddaaDoorTie
import Derived.LaidMore
import Derived.Lay
import Derived.SevenTiedAt
import Derived.Stop.Joined
import Derived.Test.YtmehlmhpgbjddaaDoorQ22
import Derived.Test.YtmehlmhpgbjddaaDoorRO
import Derived.Test.YtmehlmhpgbjddaaDoorPureFnExactFormatList
import Derived.WalkKit
import Derived.ProofKit
import Derived.OpenShut
import Derived.ShutString
import Derived.ChangeOld
import Derived.Below
import Derived.SizedLaws
namespace Go.Proofs.YtmehlmhpgbjddaaDoor.fnExactFormatList
open Go.ChangeShapes Go.WideShapes Go.ChangeAt Go.RowKit
open Go.Proofs.YtmehlmhpgbjddaaDoor.Q Go.Proofs.YtmehlmhpgbjddaaDoorV.PrintWords Go.Proofs.YtmehlmhpgbjddaaDoorV.PrintLast Go.Proofs.YtmehlmhpgbjddaaDoorV.PrintMore
open Go.ChangeMaps (open_string shut_string)
set_option linter.unusedVariables false
theorem own : ownKnob Tryd.prog.godebug = none := by kernel_rfl
theorem laidOut : laidOutB Tryd.prog = true := by kernel_rfl
set_option maxRecDepth 100000 in
theorem lifted (os : Os) (started : os.Started) (H : Type) (enc : TypeId × Value → H) :
    ReturnsInHanded {} Tryd.checked os 10 .any (fun w args => (Rows.fnExactFormatListSpec.pre enc Tryd.prog Tryd.f10 Rows.fnExactFormatListRow.domain false w args ∧ laidMetH Tryd.prog Rows.fnExactFormatListRow.laid w) ∧ sizedMet enc Tryd.prog Tryd.f10 (OpenSpec.ofChange Rows.fnExactFormatListSpec) false w args) (Rows.fnExactFormatListSpec.post enc Tryd.prog Tryd.f10 false true false false) := by
  refine returnsInHanded_of_change_and (C := Tryd.checked) (X := fun w _ => laidMetH Tryd.prog Rows.fnExactFormatListRow.laid w) (fun _ _ _ hh h => h.of_heap hh) own started (by kernel_rfl) Tryd.func10
    (ChangeSpec.witness_shaped (enc := enc) (C := Tryd.checked) (os := os) (X := fun w _ => laidMetH Tryd.prog Rows.fnExactFormatListRow.laid w) false (World.laidAll Tryd.prog os Rows.fnExactFormatListRow.laid) #[.slice none 0 0] 8 (World.laidAll_os _ _ _)
      (World.shaped_of_ZipB (by kernel_rfl) (by kernel_rfl)) (by kernel_rfl) (by kernel_rfl) (by kernel_rfl)
      (by rw [MakeChecks.laidMetH_plain _ _ _ (by kernel_rfl)]; exact laidMet_laidAll _ (by kernel_rfl) (by kernel_rfl))) ?_
  intro W base args ds gs before hval0 hW hcnd hsz0 _ _
  have hsz : (DataW.weightsEach Tryd.prog (Tryd.f10.params.toList ++ Rows.fnExactFormatListSpec.plain.varTypes Tryd.prog) (ds ++ gs)).all (· ≤ reachBytes) = true := hsz0
  have hval : ∀ (j : Nat) t v, Tryd.f10.params[j]? = some t → args[j]? = some v → Value.okWide Tryd.prog W .any base t v := hval0
  have hW' := hW
  obtain ⟨p, q, hA0, hV, rfl, hfz, hnd⟩ := hW
  have hA : DataW.TrodAll enc Tryd.prog W 0 (fun _ => true) true Tryd.f10.params.toList args.toList ds p := hA0
  rw [Tryd.params10] at hA hval hsz
  obtain ⟨v0, vs0, d0, ds0, p0, q0, hargs, rfl, rfl, h0, r0⟩ := trodAll_cons hA
  obtain ⟨rfl, rfl, rfl⟩ := trodAll_nil r0
  obtain rfl : args = #[v0] := by cases args; simp_all
  obtain ⟨rfl, rfl⟩ := trodVars_none hV
  obtain ⟨a0, len0, cap0, rfl⟩ := okWide_slice Tryd.underlying42 (hval 0 42 v0 rfl rfl)
  have k0 := h0
  have lt0 : ∀ x ∈ p0, x.block < W.heap.size := by obtain ⟨m, hm⟩ := k0; exact DataW.trod_lt m _ _ _ hm
  obtain ⟨L0, e0, c0, b0, z0, w0⟩ := ro_slice3 Tryd.underlying42 Tryd.underlying68 (by kernel_rfl) (by kernel_rfl) Tryd.underlying9 Tryd.underlying9 Tryd.underlying9 h0
  obtain ⟨l0, E0, C0, Z0⟩ : ∃ l : List S68, l.length = len0 ∧ Kd.C k68 W a0 l.length l ∧ ∀ x ∈ l, x.f0.size ≤ 9223372036854775807 ∧ x.f1.size ≤ 9223372036854775807 ∧ x.f2.size ≤ 9223372036854775807 := by
    refine ⟨(L0.map fun q => (⟨q.1, q.2.1, q.2.2⟩ : S68)), by rw [List.length_map]; exact e0, ⟨rfl, by rw [List.length_map, e0]; exact b0, fun hn => ?_⟩, fun x hx => ?_⟩
    · obtain ⟨ad, ea, hc⟩ := w0 (by rw [← e0]; simpa using hn)
      refine ⟨ad, ea, fun j p hj => ?_⟩
      rw [List.getElem?_map, Option.map_eq_some_iff] at hj
      obtain ⟨q, hq, rfl⟩ := hj
      refine ⟨_, rfl, k68_mk W _, fun i u hu => ?_⟩
      obtain ⟨g0, g1, g2⟩ := hc j q hq
      match i, hu with
      | 0, hu => obtain rfl := Option.some.inj hu; exact g0
      | 1, hu => obtain rfl := Option.some.inj hu; exact g1
      | 2, hu => obtain rfl := Option.some.inj hu; exact g2
      | x + 3, hu => cases hu
    · obtain ⟨q, hq, rfl⟩ := List.mem_map.1 hx
      exact z0 q hq
  subst E0
  clear hA0 hval0 hsz0 hsz
  have P := Pure.FnExactFormatList l0 b0 Z0
  obtain ⟨k, P⟩ := P
  refine (laws_FnExactFormatList.calls k a0 cap0 l0 true W C0 c0 P).mono fun e W' ⟨he, bel⟩ => ?_
  subst he
  exact ⟨_, rfl, _, _, _, [], _, [], hW', trodAll_mk1 (shut_bool Tryd.underlying4 _), (trodAll_cons_mk (Below.trod laidOut (by kernel_rfl) (of_decide_eq_true (by kernel_rfl)) k0 bel lt0) trodAll_mk0), rfl, bel.frame _, fun h => by cases h⟩
theorem over : Rows.fnExactFormatListRow.holds Tryd.pinned (OpenSpec.ofChange Rows.fnExactFormatListSpec) :=
  OpenClaim.holds_of_wide 10 Tryd.f10 rfl rfl rfl rfl rfl rfl rfl ⟨rfl, rfl, rfl, rfl, rfl⟩ rfl rfl rfl rfl rfl (by kernel_rfl) Tryd.func10 (by kernel_rfl)
    (of_decide_eq_true (by kernel_rfl)) (by unfold Func.isWrapper; first | (rw [if_pos (by decide +kernel)]; kernel_rfl) | (rw [if_neg (by decide +kernel)]; exact ⟨rfl, rfl⟩))
    (fun os started H enc _ => lifted os started H enc)
theorem proved : Rows.FnExactFormatListSaid := over
#print axioms proved
end Go.Proofs.YtmehlmhpgbjddaaDoor.fnExactFormatList
namespace Go.Proofs.YtmehlmhpgbjddaaDoor
/-- The tied card, under a short name, for the claim. -/
theorem fnExactFormatList_holds : Rows.FnExactFormatListCardSaid :=
  Claim7.holds_tied_plain_at .later [] [.data, .pinned] true (true, "c99e6576e7afd3d2ec920e721bac66b8d87167bc54c5d7fbd38a426545b92c59") false fnExactFormatList.proved (fun _ h => by cases h) (by kernel_rfl) (fun _ h => by cases h) fnExactFormatList_row_tie rfl ⟨rfl, rfl⟩ (by kernel_rfl) rfl
    (fun f fn hf hfn => by
      obtain rfl : f = 10 := Option.some.inj ((show Tryd.prog.funcNamed "loop.example/mailwire/laws.FnExactFormatList" = some 10 by kernel_rfl).symm.trans hf) |>.symm
      obtain rfl : fn = Tryd.f10 := (Option.some.inj (Tryd.func10.symm.trans hfn)).symm
      exact ⟨by kernel_rfl, fun j t ht => by
        rw [Tryd.params10] at ht
        have hm : t ∈ [42] := by simpa using Array.mem_of_getElem? ht
        have hall : ([42].all fun u => !Tryd.prog.wantsStandIn u) = true := by kernel_rfl
        exact (show Tryd.prog.wantsStandIn t = false by simpa using List.all_eq_true.1 hall t hm)⟩)
    (by kernel_rfl)
#print axioms fnExactFormatList_holds
end Go.Proofs.YtmehlmhpgbjddaaDoor
