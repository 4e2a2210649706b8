/- The program's DomainsOf gives what the reference's gives, for any list of addresses, in memory of its own; no condition. -/
import Derived.Test.YtogmkfenplihoaaRows
import Derived.Test.YtogmkfenplihoaaQ11
import Derived.Test.YtogmkfenplihoaaRO
import Derived.Test.YtogmkfenplihoaaPureFnExactDomainsOf
import Derived.WalkKit
import Derived.ProofKit
import Derived.OpenShut
import Derived.ShutString
import Derived.ChangeOld
import Derived.Below
import Derived.SizedLaws
namespace Go.Proofs.Ytogmkfenplihoaa.fnExactDomainsOf
open Go.ChangeShapes Go.WideShapes Go.ChangeAt Go.RowKit
open Go.Proofs.Ytogmkfenplihoaa.Q Go.Proofs.YtogmkfenplihoaaV.PrintWords Go.Proofs.YtogmkfenplihoaaV.PrintLast Go.Proofs.YtogmkfenplihoaaV.PrintMore
open Go.ChangeMaps (open_string shut_string)
set_option linter.unusedVariables false
theorem own : ownKnob Try.prog.godebug = none := by kernel_rfl
theorem laidOut : laidOutB Try.prog = true := by kernel_rfl
set_option maxRecDepth 100000 in
theorem lifted (os : Os) (started : os.Started) (H : Type) (enc : TypeId × Value → H) :
    ReturnsInHanded {} Try.checked os 5 .any (Rows.fnExactDomainsOfSpec.pre6 enc Try.prog Try.f5 Rows.fnExactDomainsOfRow.domain false) (Rows.fnExactDomainsOfSpec.post enc Try.prog Try.f5 false true false false) := by
  refine returnsInHanded_of_change_sized (C := Try.checked) own started (by kernel_rfl) Try.func5
    (ChangeSpec.witness6 (enc := enc) (C := Try.checked) false ⟨#[], #[.slice none 0 0], []⟩ 8 (by kernel_rfl) (by kernel_rfl) (by kernel_rfl) (by kernel_rfl)) ?_
  intro W base args ds gs before hval0 hW hcnd hsz0 _
  have hsz : (DataW.weightsEach Try.prog (Try.f5.params.toList ++ Rows.fnExactDomainsOfSpec.plain.varTypes Try.prog) (ds ++ gs)).all (· ≤ reachBytes) = true := hsz0
  have hval : ∀ (j : Nat) t v, Try.f5.params[j]? = some t → args[j]? = some v → Value.okWide Try.prog W .any base t v := hval0
  have hW' := hW
  obtain ⟨p, q, hA0, hV, rfl, hfz, hnd⟩ := hW
  have hA : DataW.TrodAll enc Try.prog W 0 (fun _ => true) true Try.f5.params.toList args.toList ds p := hA0
  rw [Try.params5] at hA hval hsz
  obtain ⟨v0, vs0, d0, ds0, p0, q0, hargs, rfl, rfl, h0, r0⟩ := trodAll_cons hA
  obtain ⟨rfl, rfl, rfl⟩ := trodAll_nil r0
  obtain rfl : args = #[v0] := by cases args; simp_all
  obtain ⟨rfl, rfl⟩ := trodVars_none hV
  obtain ⟨a0, len0, cap0, rfl⟩ := okWide_slice Try.underlying32 (hval 0 32 v0 rfl rfl)
  have k0 := h0
  have lt0 : ∀ x ∈ p0, x.block < W.heap.size := by obtain ⟨m, hm⟩ := k0; exact DataW.trod_lt m _ _ _ hm
  obtain ⟨L0, e0, c0, b0, z0, w0⟩ := ro_slice3 Try.underlying32 Try.underlying46 (by kernel_rfl) (by kernel_rfl) Try.underlying9 Try.underlying9 Try.underlying9 h0
  obtain ⟨l0, E0, C0, Z0⟩ : ∃ l : List S46, l.length = len0 ∧ Kd.C k46 W a0 l.length l ∧ ∀ x ∈ l, x.f0.size ≤ 9223372036854775807 ∧ x.f1.size ≤ 9223372036854775807 ∧ x.f2.size ≤ 9223372036854775807 := by
    refine ⟨(L0.map fun q => (⟨q.1, q.2.1, q.2.2⟩ : S46)), by rw [List.length_map]; exact e0, ⟨rfl, by rw [List.length_map, e0]; exact b0, fun hn => ?_⟩, fun x hx => ?_⟩
    · obtain ⟨ad, ea, hc⟩ := w0 (by rw [← e0]; simpa using hn)
      refine ⟨ad, ea, fun j p hj => ?_⟩
      rw [List.getElem?_map, Option.map_eq_some_iff] at hj
      obtain ⟨q, hq, rfl⟩ := hj
      refine ⟨_, rfl, k46_mk W _, fun i u hu => ?_⟩
      obtain ⟨g0, g1, g2⟩ := hc j q hq
      match i, hu with
      | 0, hu => obtain rfl := Option.some.inj hu; exact g0
      | 1, hu => obtain rfl := Option.some.inj hu; exact g1
      | 2, hu => obtain rfl := Option.some.inj hu; exact g2
      | x + 3, hu => cases hu
    · obtain ⟨q, hq, rfl⟩ := List.mem_map.1 hx
      exact z0 q hq
  subst E0
  clear hA0 hval0 hsz0 hsz
  have P := Pure.FnExactDomainsOf l0 b0 Z0
  obtain ⟨k, P⟩ := P
  refine (laws_FnExactDomainsOf.calls k a0 cap0 l0 true W C0 c0 P).mono fun e W' ⟨he, bel⟩ => ?_
  subst he
  exact ⟨_, rfl, _, _, _, [], _, [], hW', trodAll_mk1 (shut_bool Try.underlying4 _), (trodAll_cons_mk (Below.trod laidOut (by kernel_rfl) (of_decide_eq_true (by kernel_rfl)) k0 bel lt0) trodAll_mk0), rfl, bel.frame _, fun h => by cases h⟩
theorem over : Rows.fnExactDomainsOfRow.holds Try.pinned (OpenSpec.ofChange Rows.fnExactDomainsOfSpec) :=
  OpenClaim.holds_of_wide 5 Try.f5 rfl rfl rfl rfl rfl rfl rfl ⟨rfl, rfl, rfl, rfl, rfl⟩ rfl rfl rfl rfl rfl (by kernel_rfl) Try.func5 (by kernel_rfl)
    (of_decide_eq_true (by kernel_rfl)) (by unfold Func.isWrapper; first | (rw [if_pos (by decide +kernel)]; kernel_rfl) | (rw [if_neg (by decide +kernel)]; exact ⟨rfl, rfl⟩))
    (fun os started H enc _ => lifted os started H enc)
theorem proved : Rows.FnExactDomainsOfSaid := over
#print axioms proved
end Go.Proofs.Ytogmkfenplihoaa.fnExactDomainsOf
namespace Go.Proofs.Ytogmkfenplihoaa
/-- The row, under a short name, for the claim. -/
theorem fnExactDomainsOf_holds : Rows.FnExactDomainsOfSaid := fnExactDomainsOf.proved
end Go.Proofs.Ytogmkfenplihoaa
