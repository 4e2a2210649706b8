/- A line of a field that is too wide has no space at which it could be broken; no condition. -/
import Derived.Test.YtcnkakaipajloaaDoorXFnFoldWidth
import Derived.Test.YtcnkakaipajloaaDoorQ15
import Derived.Test.YtcnkakaipajloaaDoorQ24
set_option linter.unusedVariables false
set_option linter.unusedSimpArgs false
namespace Go.Proofs.YtcnkakaipajloaaDoor.Pure
open Go.RowKit Go.Proofs.YtcnkakaipajloaaDoor.Q Go.Proofs.YtcnkakaipajloaaDoorV.PrintWords Go.Proofs.YtcnkakaipajloaaDoorV.PrintLast Go.Proofs.YtcnkakaipajloaaDoorV.PrintMore
theorem FoldWidth_l1 (x : List ByteArray) (hx : x.length ≤ 1000000) (i : Nat) (hi : i < x.length) (a b : ByteArray) (hz : x[i].size ≤ 1000000) (R : Bool) (hR : Ev (fun k => laws_FnFoldWidth.l0 k x ((i + 1 : Nat) : Int) a b) R) : ∀ (d j : Nat), 1 ≤ j → (j + 1 + d = x[i].size ∨ (d = 0 ∧ x[i].size ≤ j + 1)) → j ≤ 2000000 → (40 < x[i].size → ∀ m, j ≤ m → m + 1 < x[i].size → okB (bytesOf x[i]) m = false) → Ev (fun k => laws_FnFoldWidth.l1 k x (i : Int) (j : Int) a b) R := by
  intro d
  induction d with
  | zero =>
    intro j h1 hd hj hw
    refine ev_succ ?_
    simp only [laws_FnFoldWidth.l1]
    rw [rdOf_get x i hi, wrap_succ j (by omega)]
    refine ev_pos (by omega) (ev_pos (by omega) (ev_neg (by omega) (ev_succ ?_)))
    simp only [laws_FnFoldWidth.j4, Bool.false_eq_true, if_false]
    rw [wrap_succ i (by omega)]
    exact hR
  | succ d ih =>
    intro j h1 hd hj hw
    have hlt : j + 1 < x[i].size := by omega
    have em : wrap64 ((j : Int) - 1) = ((j - 1 : Nat) : Int) := by rw [wrap_id (by omega) (by omega)]; omega
    refine ev_succ ?_
    simp only [laws_FnFoldWidth.l1]
    rw [rdOf_get x i hi, wrap_succ j (by omega)]
    refine ev_pos (by omega) (ev_pos (by omega) (ev_pos (by omega) (ev_succ ?_)))
    simp only [laws_FnFoldWidth.j4]
    by_cases h40 : 40 < x[i].size
    · have hgo := ih (j + 1) (by omega) (by omega) (by omega) (fun _ m hm hm2 => hw h40 m (by omega) hm2)
      have hb := okB_bt x[i] j h1 hlt
      have hn := hw h40 j (Nat.le_refl _) hlt
      rw [rdOf_get x i hi, wrap_succ j (by omega), em]
      refine ev_pos (decide_eq_true (by omega)) (ev_pos (by omega) (ev_pos (by omega) (ev_pos (by omega) (ev_pos (by omega) ?_))))
      by_cases g1 : bt x[i] j = 32
      · refine ev_pos g1 (ev_pos (by omega) (ev_pos (by omega) ?_))
        by_cases g2 : bt x[i] ((j - 1 : Nat) : Int) = 32
        · exact ev_pos g2 hgo
        · refine ev_neg g2 (ev_pos (by omega) (ev_pos (by omega) ?_))
          by_cases g3 : bt x[i] ((j + 1 : Nat) : Int) = 32
          · exact ev_pos g3 hgo
          · rw [hb.2 ⟨g1, g2, g3⟩] at hn
            cases hn
      · exact ev_neg g1 hgo
    · refine ev_neg (by simp; omega) ?_
      rw [wrap_succ i (by omega)]
      exact hR
theorem Join2_l0 (x : List ByteArray) (hx : x.length ≤ 1000000) (hz : ∀ y ∈ x, y.size ≤ 1000000) : ∀ (d i : Nat) (acc : ByteArray), i + d = x.length → acc.size ≤ 1000000 * i → Ev (fun k => laws_mwJoin2.l0 k x acc (i : Int)) (acc ++ strOfNums ((x.drop i).map bytesOf).flatten) := by
  intro d
  induction d with
  | zero =>
    intro i acc hi ha
    refine ev_succ ?_
    simp only [laws_mwJoin2.l0]
    rw [List.drop_eq_nil_of_le (by omega)]
    refine ev_neg (by omega) (ev_of ?_)
    congr 1
    apply L_inj
    rw [L_append]
    simp [S_nil, L_nil]
  | succ d ih =>
    intro i acc hi ha
    have hlt : i < x.length := by omega
    have hy := hz _ (List.getElem_mem hlt)
    refine ev_succ ?_
    simp only [laws_mwJoin2.l0]
    rw [rdOf_get x i hlt, wrap_succ i (by omega)]
    refine ev_pos (by omega) (ev_pos (by omega) (ev_pos (by omega) (ev_cast (ih (i + 1) (acc ++ x[i]) (by omega) (by rw [size_append]; omega)) ?_)))
    rw [List.drop_eq_getElem_cons hlt, List.map_cons, List.flatten_cons, ← S_append, S_L]
    apply L_inj
    simp only [L_append, List.append_assoc]
theorem FoldWidth_l0 (x : List ByteArray) (hx : x.length ≤ 1000000) (hz : ∀ y ∈ x, y.size ≤ 1000000) (a b : ByteArray) (ha : a.size ≤ 100) (hb : b.size ≤ 1000) (hfl : (x.map bytesOf).flatten = lineF (bytesOf a) (bytesOf b)) (hw : ∀ i, ∀ h : i < x.length, Wide (if i = 0 then a.size + 3 else 2) (bytesOf x[i])) : ∀ (d i : Nat), i + d = x.length → Ev (fun k => laws_FnFoldWidth.l0 k x (i : Int) a b) true := by
  intro d
  induction d with
  | zero =>
    intro i hi
    refine ev_succ ?_
    simp only [laws_FnFoldWidth.l0]
    have hj := Join2_l0 x hx hz x.length 0 (⟨#[]⟩ : ByteArray) (Nat.zero_add _) (by decide)
    rw [List.drop_zero, hfl] at hj
    have hl := lineF_len (bytesOf a) (bytesOf b)
    have hone : laws_mwOne.f b = some (if bytesOf b = [] then 0 else 1) := by
      unfold laws_mwOne.f
      by_cases h : b.toList = ([] : List UInt8)
      · rw [if_pos h, if_pos ((nilB b).1 h)]
      · rw [if_neg h, if_neg (fun e => h ((nilB b).2 e))]
    refine ev_neg (by omega) (ev_bind (a := (⟨#[]⟩ : ByteArray) ++ strOfNums (lineF (bytesOf a) (bytesOf b))) ?_ (ev_bind1 hone (ev_of ?_)))
    · unfold laws_mwJoin2.f
      exact hj
    · congr 1
      rw [beq_iff_eq, size_append, S_size, hl, L_len, L_len]
      have e0 : (⟨#[]⟩ : ByteArray).size = 0 := rfl
      rw [e0]
      by_cases h : bytesOf b = []
      · rw [if_pos h, if_pos h, wrap_id (x := (a.size : Int) + 1) (by omega) (by omega), wrap_id (x := (a.size : Int) + 1 + 0) (by omega) (by omega), wrap_id (by omega) (by omega)]
        omega
      · rw [if_neg h, if_neg h, wrap_id (x := (a.size : Int) + 1) (by omega) (by omega), wrap_id (x := (a.size : Int) + 1 + 1) (by omega) (by omega), wrap_id (by omega) (by omega)]
        omega
  | succ d ih =>
    intro i hi
    have hlt : i < x.length := by omega
    have hy := hz _ (List.getElem_mem hlt)
    have hgo := ih (i + 1) (by omega)
    have hwi := hw i hlt
    refine ev_succ ?_
    simp only [laws_FnFoldWidth.l0]
    refine ev_pos (by omega) ?_
    by_cases h0 : i = 0
    · rw [if_pos h0] at hwi
      have ew : wrap64 ((a.size : Int) + 3) = ((a.size + 3 : Nat) : Int) := by rw [wrap_id (by omega) (by omega)]; omega
      rw [ew]
      refine ev_pos (by omega) (ev_succ ?_)
      simp only [laws_FnFoldWidth.j2]
      refine FoldWidth_l1 x hx i hlt a b hy true hgo (x[i].size - (a.size + 3) - 1) (a.size + 3) (by omega) (by omega) (by omega) (fun h40 m hm hm2 => ?_)
      exact hwi (by rw [L_len]; exact h40) m hm (by rw [L_len]; exact hm2)
    · rw [if_neg h0] at hwi
      refine ev_neg (by omega) (ev_succ ?_)
      simp only [laws_FnFoldWidth.j2]
      have := FoldWidth_l1 x hx i hlt a b hy true hgo (x[i].size - 2 - 1) 2 (by omega) (by omega) (by omega) (fun h40 m hm hm2 => hwi (by rw [L_len]; exact h40) m hm (by rw [L_len]; exact hm2))
      exact this
theorem FnFoldWidth : laws_FnFoldWidth.Pure := by
  intro l _ _ hw
  refine Ev.rounds (g := fun k => laws_FnFoldWidth.f k l) ?_
  obtain ⟨a, b, hs, h1, h2⟩ := DrawFoldField_some l hw
  unfold laws_FnFoldWidth.f
  by_cases h : (l.length : Int) > 1048576
  · exact ev_pos h (Ev.now _)
  have hl := foldV_len a b (by omega) (by omega)
  refine ev_neg h (ev_bind hs (ev_bind (impl_FoldField_ev a b (by omega) (by omega)) (ev_bind (spec_FoldField_ev a b (by omega) (by omega)) (ev_bind (mwTexts_ev _ _ (by omega)) (ev_pos (by simp) (ev_succ ?_))))))
  simp only [laws_FnFoldWidth.j0]
  cases hf : fieldOk (bytesOf a) (bytesOf b) with
  | false =>
    have e : foldV a b = [] := by unfold foldV; rw [if_neg (by rw [hf]; decide)]
    rw [e]
    have hg := spec_FoldField_ev a b (by omega) (by omega)
    rw [e] at hg
    refine ev_pos (by simp) (ev_bind hg (ev_bind (mwTexts_ev _ _ (by simp)) (ev_of ?_)))
    simp
  | true =>
    obtain ⟨z1, z2⟩ := field_sizes hf
    obtain ⟨g, t, e1, e2, e3, e4⟩ := foldL_wide (bytesOf a) (bytesOf b)
    have hB : ∀ p ∈ g :: t, IsB p := by
      intro p hp
      have hln : IsB (lineF (bytesOf a) (bytesOf b)) := by
        unfold lineF
        refine IsB.append (L_IsB a) (IsB.cons (by omega) ?_)
        split
        · exact IsB.nil
        · exact IsB.cons (by omega) (L_IsB b)
      refine hln.sub fun y hy => ?_
      rw [← e4]
      exact List.mem_flatten.2 ⟨p, hp, hy⟩
    have ev' : foldV a b = (g :: t).map strOfNums := by
      unfold foldV foldB
      rw [if_pos hf, e1]
    have hm : ((g :: t).map strOfNums).map bytesOf = g :: t := by
      rw [List.map_map]
      conv => rhs; rw [← List.map_id (g :: t)]
      exact List.map_congr_left fun p hp => L_S (hB p hp)
    have hll := lineF_len (bytesOf a) (bytesOf b)
    rw [L_len, L_len] at hll
    have hsz : ∀ p ∈ g :: t, p.length ≤ 1000 := by
      intro p hp
      have h3 : p.length ≤ (lineF (bytesOf a) (bytesOf b)).length := by
        rw [← e4]
        exact (List.sublist_flatten_of_mem hp).length_le
      split at hll <;> omega
    rw [ev']
    rw [ev'] at hl
    have hlen : ((g :: t).map strOfNums).length ≤ 1000000 := by
      rw [← e1, List.length_map]
      unfold foldL
      have := foldF_len (lineF (bytesOf a) (bytesOf b)).length (lineF (bytesOf a) (bytesOf b)) ((bytesOf a).length + 3)
      split at hll <;> omega
    refine ev_neg (by simp; omega) (FoldWidth_l0 _ hlen (fun y hy => ?_) a b (by omega) (by omega) (by rw [hm, e4]) (fun i hi => ?_) _ 0 (Nat.zero_add _))
    · obtain ⟨p, hp, rfl⟩ := List.mem_map.1 hy
      have := hsz p hp
      rw [S_size]; omega
    · have hi' : i < (g :: t).length := by simpa using hi
      have e5 : bytesOf (((g :: t).map strOfNums)[i]'hi) = (g :: t)[i]'hi' := by
        rw [List.getElem_map]
        exact L_S (hB _ (List.getElem_mem hi'))
      rw [e5]
      match i, hi' with
      | 0, _ => rw [if_pos rfl, ← L_len a]; exact e2
      | i + 1, hi' => rw [if_neg (by omega)]; exact e3 _ (List.getElem_mem (by simpa using hi'))
end Go.Proofs.YtcnkakaipajloaaDoor.Pure
