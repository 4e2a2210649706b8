/- Plain lemmas, and what the printed functions come to; no condition. -/
import Derived.Test.YtogmkfenplihoaaQH
import Derived.Lib.Strings
import Derived.Test.YtogmkfenplihoaaQ0
import Derived.Test.YtogmkfenplihoaaQ1
import Derived.Test.YtogmkfenplihoaaQ2
import Derived.Test.YtogmkfenplihoaaQ3
import Derived.Test.YtogmkfenplihoaaQ4
import Derived.Test.YtogmkfenplihoaaQ5
import Derived.Test.YtogmkfenplihoaaQ6
import Derived.Test.YtogmkfenplihoaaQ8
set_option linter.unusedVariables false
set_option linter.unusedSimpArgs false
namespace Go.Proofs.Ytogmkfenplihoaa.Q
open Go.RowKit Go.Proofs.YtogmkfenplihoaaV.PrintWords Go.Proofs.YtogmkfenplihoaaV.PrintLast Go.Proofs.YtogmkfenplihoaaV.PrintMore
def IsB (l : List Int) : Prop := ∀ x ∈ l, 0 ≤ x ∧ x ≤ 255
theorem IsB.nil : IsB [] := by intro x hx; cases hx
theorem IsB.cons {x : Int} {l : List Int} (h1 : 0 ≤ x ∧ x ≤ 255) (h2 : IsB l) : IsB (x :: l) := by
  intro y hy
  rcases List.mem_cons.1 hy with rfl | hy
  · exact h1
  · exact h2 y hy
theorem IsB.sub {a b : List Int} (h : IsB a) (hs : ∀ x ∈ b, x ∈ a) : IsB b := fun x hx => h x (hs x hx)
theorem IsB.take {a : List Int} (h : IsB a) (n : Nat) : IsB (a.take n) := h.sub fun _ hx => List.mem_of_mem_take hx
theorem IsB.drop {a : List Int} (h : IsB a) (n : Nat) : IsB (a.drop n) := h.sub fun _ hx => List.mem_of_mem_drop hx
theorem L_IsB (s : ByteArray) : IsB (bytesOf s) := by
  intro x hx
  simp only [bytesOf, List.mem_map] at hx
  obtain ⟨b, _, rfl⟩ := hx
  have := b.toNat_lt
  omega
theorem L_len (s : ByteArray) : (bytesOf s).length = s.size := bytesOf_length s
theorem S_L (s : ByteArray) : strOfNums (bytesOf s) = s := by
  apply ByteArray.ext
  apply Array.ext'
  rw [strOfNums_data, bytesOf, List.map_map]
  have : ((fun n : Int => UInt8.ofNat n.toNat) ∘ fun b : UInt8 => (b.toNat : Int)) = id := by
    funext b
    simp
  rw [this, List.map_id]
theorem L_S {l : List Int} (h : IsB l) : bytesOf (strOfNums l) = l := by
  rw [bytesOf, strOfNums_data, List.map_map]
  have : ∀ x ∈ l, ((fun b : UInt8 => (b.toNat : Int)) ∘ fun n : Int => UInt8.ofNat n.toNat) x = id x := by
    intro x hx
    have := h x hx
    simp only [Function.comp_apply, id, UInt8.toNat_ofNat']
    omega
  rw [List.map_congr_left this, List.map_id]
theorem L_inj {s t : ByteArray} (h : bytesOf s = bytesOf t) : s = t := by rw [← S_L s, h, S_L]
theorem toList_iff {s t : ByteArray} : s.toList = t.toList ↔ s = t := by
  constructor
  · intro h
    rw [Lib.toList_data, Lib.toList_data] at h
    exact ByteArray.ext (Array.ext' h)
  · intro h; rw [h]
theorem toList_beq (s t : ByteArray) : (s.toList == t.toList) = decide (s = t) := by
  by_cases h : s = t
  · subst h; simp
  · rw [decide_eq_false h, beq_eq_false_iff_ne]
    exact fun e => h (toList_iff.1 e)
theorem wrap_id {x : Int} (h1 : -9223372036854775808 ≤ x) (h2 : x ≤ 9223372036854775807) : wrap64 x = x := by unfold wrap64; omega
theorem ev_succ {α : Type} {g : Nat → Option α} {r : α} (h : Ev (fun k => g (k + 1)) r) : Ev g r := Ev.step (fun _ => rfl) h
theorem ev_of {α : Type} {g : Option α} {r : α} (h : g = some r) : Ev (fun _ => g) r := ⟨0, fun _ _ => h⟩
theorem ev_bind {α β : Type} {g : Nat → Option α} {f : Nat → α → Option β} {a : α} {r : β} (h : Ev g a) (k : Ev (fun n => f n a) r) : Ev (fun n => (g n).bind fun t => f n t) r := Ev.bind h k
theorem ev_bind1 {α β : Type} {g : Option α} {f : Nat → α → Option β} {a : α} {r : β} (h : g = some a) (k : Ev (fun n => f n a) r) : Ev (fun n => g.bind fun t => f n t) r := by
  subst h; exact k
theorem ev_pos {α : Type} {c : Prop} [Decidable c] {a b : Nat → Option α} {r : α} (hc : c) (h : Ev a r) : Ev (fun k => if c then a k else b k) r := by
  simp only [if_pos hc]; exact h
theorem ev_neg {α : Type} {c : Prop} [Decidable c] {a b : Nat → Option α} {r : α} (hc : ¬ c) (h : Ev b r) : Ev (fun k => if c then a k else b k) r := by
  simp only [if_neg hc]; exact h
theorem ev_cast {α : Type} {g : Nat → Option α} {r r' : α} (h : Ev g r) (e : r = r') : Ev g r' := e ▸ h
theorem xor_i64 (a b : Nat) (ha : a < 4611686018427387904) (hb : b < 4611686018427387904) : bits .xor .i64 (a : Int) (b : Int) = ((a ^^^ b : Nat) : Int) := by
  have hx : a ^^^ b < 2 ^ 62 := Nat.xor_lt_two_pow (by omega) (by omega)
  have h1 : (BitVec.ofInt 64 (a : Int)).toNat = a := by
    rw [BitVec.ofInt_natCast, BitVec.toNat_ofNat]; exact Nat.mod_eq_of_lt (by omega)
  have h2 : (BitVec.ofInt 64 (b : Int)).toNat = b := by
    rw [BitVec.ofInt_natCast, BitVec.toNat_ofNat]; exact Nat.mod_eq_of_lt (by omega)
  show IntKind.i64.wrap ((BitVec.ofInt 64 (a : Int) ^^^ BitVec.ofInt 64 (b : Int)).toNat : Int) = _
  rw [BitVec.toNat_xor, h1, h2, i64_w]
  exact wrap_id (by omega) (by omega)
theorem xor_nonneg (x : Int) (h1 : 0 ≤ x) (h2 : x < 4611686018427387904) : 0 ≤ bits .xor .i64 x (wrap64 (Int.tdiv x 64)) := by
  obtain ⟨n, rfl⟩ : ∃ n : Nat, x = n := ⟨x.toNat, by omega⟩
  have e : wrap64 (Int.tdiv (n : Int) 64) = ((n / 64 : Nat) : Int) := by
    rw [Int.tdiv_eq_ediv_of_nonneg (by omega), wrap_id (by omega) (by omega)]
    omega
  rw [e, xor_i64 n (n / 64) (by omega) (by omega)]
  omega
def ltB (a b : ByteArray) : Prop := lsB a < lsB b
theorem lsB_inj {a b : ByteArray} (h : lsB a = lsB b) : a = b := by
  have : bsL (lsB a) = bsL (lsB b) := by rw [h]
  exact this
theorem ltB_tr {a b c : ByteArray} (h : ltB a b) (h' : ltB b c) : ltB a c := List.lt_trans h h'
theorem ltB_irr (a : ByteArray) : ¬ ltB a a := List.lt_irrefl _
theorem ltB_of {a b : List UInt8} (h : a ≤ b) (h' : a ≠ b) : a < b := by
  rcases Classical.em (a < b) with h1 | h1
  · exact h1
  · exact absurd (List.le_antisymm h (List.not_lt.1 h1)) h'
theorem ltB_tri {a b : ByteArray} (h : ¬ ltB a b) (h' : a ≠ b) : ltB b a := ltB_of (List.not_lt.1 h) (fun e => h' (lsB_inj e).symm)
/-- In order, each once. -/
def Asc (l : List ByteArray) : Prop := l.Pairwise ltB
theorem asc_ext : ∀ {l m : List ByteArray}, Asc l → Asc m → (∀ x, x ∈ l ↔ x ∈ m) → l = m
  | [], [], _, _, _ => rfl
  | [], y :: ys, _, _, h => absurd ((h y).2 (by simp)) (by simp)
  | x :: xs, [], _, _, h => absurd ((h x).1 (by simp)) (by simp)
  | x :: xs, y :: ys, hl, hm, h => by
    obtain ⟨h1, h2⟩ := List.pairwise_cons.1 hl
    obtain ⟨h3, h4⟩ := List.pairwise_cons.1 hm
    have e : x = y := by
      rcases List.mem_cons.1 ((h x).1 (by simp)) with e | e
      · exact e
      · rcases List.mem_cons.1 ((h y).2 (by simp)) with e' | e'
        · exact e'.symm
        · exact absurd (ltB_tr (h1 y e') (h3 x e)) (ltB_irr _)
    subst e
    congr 1
    refine asc_ext h2 h4 fun z => ⟨fun hz => ?_, fun hz => ?_⟩
    · rcases List.mem_cons.1 ((h z).1 (List.mem_cons_of_mem _ hz)) with e | e
      · exact absurd (e ▸ h1 z hz) (ltB_irr _)
      · exact e
    · rcases List.mem_cons.1 ((h z).2 (List.mem_cons_of_mem _ hz)) with e | e
      · exact absurd (e ▸ h3 z hz) (ltB_irr _)
      · exact e
theorem compact_asc (zs : List (List UInt8)) (hs : zs.Pairwise fun x y => x ≤ y) : (Lib.compact zs).Pairwise (fun x y => x < y) ∧ ∀ x, x ∈ Lib.compact zs ↔ x ∈ zs := by
  have get : ∀ j, j < zs.length → zs.toArray[j]! = zs[j]! := fun j hj => by simp
  have key : ∀ m, m ≤ zs.length → (Lib.compactUpTo zs.toArray m).Pairwise (fun x y => x < y) ∧ (∀ x ∈ Lib.compactUpTo zs.toArray m, ∃ j, j < m ∧ x = zs.toArray[j]!) ∧ ∀ j, j < m → zs.toArray[j]! ∈ Lib.compactUpTo zs.toArray m := by
    have hle : ∀ i j, i ≤ j → j < zs.length → zs.toArray[i]! ≤ zs.toArray[j]! := by
      intro i j hij hj
      rw [getElem!_pos zs.toArray i (by simpa using by omega), getElem!_pos zs.toArray j (by simpa using hj)]
      simp only [List.getElem_toArray]
      by_cases e : i = j
      · subst e; exact List.le_refl _
      · exact List.pairwise_iff_getElem.1 hs i j (by omega) hj (by omega)
    intro m
    induction m with
    | zero => intro _; exact ⟨by simp [Lib.compactUpTo], by simp [Lib.compactUpTo], fun j hj => absurd hj (Nat.not_lt_zero _)⟩
    | succ m ih =>
      intro hm
      obtain ⟨h1, h2, h3⟩ := ih (by omega)
      rw [Lib.compactUpTo_succ]
      by_cases hk : Lib.keeps zs.toArray m = true
      · rw [if_pos hk]
        refine ⟨List.pairwise_append.2 ⟨h1, by simp, fun x hx y hy => ?_⟩, fun x hx => ?_, fun j hj => ?_⟩
        · obtain rfl : y = zs.toArray[m]! := by simpa using hy
          obtain ⟨j, hj, rfl⟩ := h2 x hx
          have hm0 : m ≠ 0 := by omega
          have hne : zs.toArray[m]! ≠ zs.toArray[m - 1]! := by
            simp only [Lib.keeps, decide_eq_true_eq] at hk
            exact hk.resolve_left hm0
          exact List.lt_of_le_of_lt (hle j (m - 1) (by omega) (by omega)) (ltB_of (hle (m - 1) m (by omega) (by omega)) (fun e => hne e.symm))
        · rcases List.mem_append.1 hx with h | h
          · obtain ⟨j, hj, e⟩ := h2 x h
            exact ⟨j, by omega, e⟩
          · exact ⟨m, by omega, by simpa using h⟩
        · by_cases e : j = m
          · subst e; exact List.mem_append_right _ (by simp)
          · exact List.mem_append_left _ (h3 j (by omega))
      · rw [if_neg hk, List.append_nil]
        refine ⟨h1, fun x hx => ?_, fun j hj => ?_⟩
        · obtain ⟨j, hj, e⟩ := h2 x hx
          exact ⟨j, by omega, e⟩
        · by_cases e : j = m
          · subst e
            simp only [Lib.keeps, decide_eq_true_eq, not_or, Classical.not_not] at hk
            rw [hk.2]
            exact h3 (j - 1) (by omega)
          · exact h3 j (by omega)
  obtain ⟨h1, h2, h3⟩ := key zs.length (Nat.le_refl _)
  refine ⟨h1, fun x => ⟨fun hx => ?_, fun hx => ?_⟩⟩
  · obtain ⟨j, hj, rfl⟩ := h2 x hx
    rw [getElem!_pos zs.toArray j (by simpa using hj)]
    simp
  · obtain ⟨j, hj, rfl⟩ := List.getElem_of_mem hx
    have := h3 j hj
    rw [getElem!_pos zs.toArray j (by simpa using hj)] at this
    simpa [Lib.compact] using this
theorem srt_le (l : List (List UInt8)) : (l.mergeSort fun x y => decide (x ≤ y)).Pairwise fun x y => x ≤ y := by
  have := List.pairwise_mergeSort (le := fun x y : List UInt8 => decide (x ≤ y)) (fun a b c h1 h2 => by simpa using List.le_trans (by simpa using h1) (by simpa using h2)) (fun a b => by simpa using List.le_total a b) l
  simpa using this
theorem mem_bsL {l : List (List UInt8)} {x : ByteArray} : x ∈ l.map bsL ↔ lsB x ∈ l := by
  rw [List.mem_map]
  exact ⟨fun ⟨y, hy, e⟩ => e ▸ hy, fun h => ⟨lsB x, h, rfl⟩⟩
theorem mem_lsB {l : List ByteArray} {x : ByteArray} : lsB x ∈ l.map lsB ↔ x ∈ l := by
  rw [List.mem_map]
  exact ⟨fun ⟨y, hy, e⟩ => (lsB_inj e) ▸ hy, fun h => ⟨x, h, rfl⟩⟩
/-- Sort and Compact: in order, each once. -/
theorem sorted_asc (l : List ByteArray) : Asc (cmpS (srtS l)) ∧ ∀ x, x ∈ cmpS (srtS l) ↔ x ∈ l := by
  have hb : (srtS l).map lsB = (l.map lsB).mergeSort fun x y => decide (x ≤ y) := by
    unfold srtS
    rw [List.map_map]
    exact List.map_id _
  obtain ⟨h1, h2⟩ := compact_asc ((srtS l).map lsB) (by rw [hb]; exact srt_le _)
  refine ⟨?_, fun x => ?_⟩
  · unfold Asc cmpS
    rw [List.pairwise_map]
    exact h1
  · unfold cmpS
    rw [mem_bsL, h2, hb, List.mem_mergeSort, mem_lsB]
theorem low8_range {x : Int} (h : 0 ≤ x ∧ x ≤ 255) : 0 ≤ low8 x ∧ low8 x ≤ 255 := by
  unfold low8; split <;> omega
theorem low8_low8 (x : Int) : low8 (low8 x) = low8 x := by
  by_cases h : 65 ≤ x ∧ x ≤ 90
  · rw [show low8 x = x + 32 from if_pos h]
    exact if_neg (by omega)
  · rw [show low8 x = x from if_neg h]
    exact if_neg h
theorem L_lowT (s : ByteArray) : bytesOf (lowT s) = (bytesOf s).map low8 := by
  unfold lowT
  refine L_S fun x hx => ?_
  obtain ⟨y, hy, rfl⟩ := List.mem_map.1 hx
  exact low8_range (L_IsB s y hy)
theorem lowT_size (s : ByteArray) : (lowT s).size = s.size := by rw [← L_len, L_lowT, List.length_map, L_len]
theorem lowT_lowT (s : ByteArray) : lowT (lowT s) = lowT s := by
  apply L_inj
  rw [L_lowT, L_lowT, List.map_map]
  exact List.map_congr_left fun x _ => low8_low8 x
theorem impl_LowerText_eq (s : ByteArray) (hs : s.size < 140737488355328) : impl_LowerText.f s = some (lowT s) := by rw [impl_LowerText.f, if_pos hs]
theorem spec_LowerText_eq (s : ByteArray) (hs : s.size < 140737488355328) : spec_LowerText.f s = some (lowT s) := by rw [spec_LowerText.f, if_pos hs]
theorem impl_SameText_eq (s t : ByteArray) (hs : s.size < 140737488355328) (ht : t.size < 140737488355328) : impl_SameText.f s t = some (decide (lowT s = lowT t)) := by
  rw [impl_SameText.f, impl_LowerText_eq s hs, Option.bind_some, impl_LowerText_eq t ht, Option.bind_some, toList_beq]
theorem rdA (l : List S31) (i : Nat) (h : i < l.length) : rd_T31 l (i : Int) = l[i] := by
  rw [rd_T31, Int.toNat_natCast, List.getD_eq_getElem?_getD, List.getElem?_eq_getElem h]
  rfl
theorem wrap_upA (i : Nat) (h : i < 9223372036854775807) : wrap64 ((i : Int) + 1) = ((i + 1 : Nat) : Int) := by
  rw [wrap_id (by omega) (by omega)]
  omega
theorem extA {a b : S31} : a = b ↔ a.f0 = b.f0 ∧ a.f1 = b.f1 ∧ a.f2 = b.f2 := by
  cases a; cases b
  simp
instance decA : DecidableEq S31 := fun _ _ => decidable_of_iff _ extA.symm
def smA (l : List S31) : Prop := ∀ x ∈ l, x.f2.size < 140737488355328
theorem wrap_succ (i : Nat) (h : (i : Int) < 9223372036854775807) : wrap64 ((i : Int) + 1) = ((i + 1 : Nat) : Int) := by
  rw [wrap_id (by omega) (by omega)]; rfl
theorem rdOf_get (l : List ByteArray) (i : Nat) (h : i < l.length) : rdOf ByteArray.empty l (i : Int) = l[i] := by
  rw [rdOf, Int.toNat_natCast, List.getD_eq_getElem?_getD, List.getElem?_eq_getElem h]
  rfl
theorem mwTexts_l0 (a b : List ByteArray) (hl : a.length = b.length) (hz : a.length ≤ 1000000000000) : ∀ (d i : Nat), i + d = a.length → Ev (fun k => laws_mwTexts.l0 k a b (i : Int)) (decide (a.drop i = b.drop i)) := by
  intro d
  induction d with
  | zero =>
    intro i hi
    refine ev_succ ?_
    simp only [laws_mwTexts.l0]
    rw [List.drop_eq_nil_of_le (by omega), List.drop_eq_nil_of_le (by omega)]
    exact ev_neg (by omega) (Ev.now _)
  | succ d ih =>
    intro i hi
    have ha : i < a.length := by omega
    have hb : i < b.length := by omega
    refine ev_succ ?_
    simp only [laws_mwTexts.l0]
    rw [rdOf_get a i ha, rdOf_get b i hb, wrap_succ i (by omega), List.drop_eq_getElem_cons ha, List.drop_eq_getElem_cons hb]
    refine ev_pos (by omega) (ev_pos (by omega) (ev_pos (by omega) ?_))
    by_cases h : a[i] = b[i]
    · refine ev_pos (toList_iff.2 h) (ev_cast (ih (i + 1) (by omega)) ?_)
      exact decide_eq_decide.2 ⟨fun e => by rw [h, e], fun e => (List.cons.inj e).2⟩
    · refine ev_neg (fun e => h (toList_iff.1 e)) (ev_of ?_)
      exact congrArg some (decide_eq_false (fun e => h (List.cons.inj e).1)).symm
theorem mwTexts_ev (a b : List ByteArray) (hz : a.length ≤ 1000000000000) : Ev (fun k => laws_mwTexts.f k a b) (decide (a = b)) := by
  unfold laws_mwTexts.f
  by_cases hl : a.length = b.length
  · exact ev_pos (by omega) (mwTexts_l0 a b hl hz a.length 0 (by omega))
  · refine ev_neg (by omega) (ev_of ?_)
    exact congrArg some (decide_eq_false (fun e => hl (by rw [e]))).symm
def domL (l : List S31) : List ByteArray := l.map fun x => lowT x.f2
/-- The domains in small letters, in order, each once. -/
def domS (l : List S31) : List ByteArray := cmpS (srtS (domL l))
theorem domS_len (l : List S31) : (domS l).length ≤ l.length := by
  unfold domS cmpS
  rw [List.length_map]
  refine Nat.le_trans (compact_le _) ?_
  unfold srtS domL
  simp [List.length_mergeSort]
theorem impl_DomainsOf_l0 (l : List S31) (hl : l.length ≤ 1000000000000) (hs : smA l) : ∀ (d i k : Nat) (out : List ByteArray), i + d = l.length → d < k → out.length ≤ i → impl_DomainsOf.l0 k l out i = some (out ++ domL (l.drop i)) := by
  intro d
  induction d with
  | zero =>
    intro i k out hi hk ho
    obtain ⟨k', rfl⟩ : ∃ k', k = k' + 1 := ⟨k - 1, by omega⟩
    simp only [impl_DomainsOf.l0]
    rw [if_neg (by omega), List.drop_eq_nil_of_le (by omega)]
    simp [domL]
  | succ d ih =>
    intro i k out hi hk ho
    obtain ⟨k', rfl⟩ : ∃ k', k = k' + 1 := ⟨k - 1, by omega⟩
    have hlt : i < l.length := by omega
    have hx := hs _ (List.getElem_mem hlt)
    simp only [impl_DomainsOf.l0]
    rw [if_pos hlt, rdA l i hlt, impl_LowerText_eq _ hx, Option.bind_some, if_pos (by omega), ih (i + 1) k' _ (by omega) (by omega) (by simp; omega), List.drop_eq_getElem_cons hlt, List.append_assoc]
    rfl
theorem impl_DomainsOf_eq (l : List S31) (hl : l.length ≤ 1000000000000) (hs : smA l) : impl_DomainsOf.f l = some (domS l) := by
  unfold impl_DomainsOf.f
  rw [impl_DomainsOf_l0 l hl hs l.length 0 (l.length + 1) [] (by omega) (by omega) (by simp), Option.bind_some, if_pos (by simp [domL]; omega)]
  rfl
theorem less_ltB (a b : ByteArray) : (Op.bytesLess a.toList b.toList = true) ↔ ltB a b := by
  rw [bytesLess_eq, decide_eq_true_eq, Lib.toList_data, Lib.toList_data]
  rfl
/-- What an insertion leaves. -/
def InsOk (out : List ByteArray) (d : ByteArray) (R : List ByteArray) : Prop := Asc R ∧ (∀ x, x ∈ R ↔ x ∈ out ∨ x = d) ∧ R.length ≤ out.length + 1
theorem ins_ok (out : List ByteArray) (d : ByteArray) (ha : Asc out) (j : Nat) (hj : j ≤ out.length) (h1 : ∀ x ∈ out.take j, ltB x d) (h2 : ∀ x ∈ out.drop j, ltB d x) : InsOk out d (out.take j ++ [d] ++ out.drop j) := by
  have hm : ∀ x, x ∈ out ↔ x ∈ out.take j ∨ x ∈ out.drop j := fun x => by
    conv => lhs; rw [← List.take_append_drop j out]
    rw [List.mem_append]
  refine ⟨?_, fun x => ?_, ?_⟩
  · have hp := ha
    unfold Asc at hp ⊢
    rw [← List.take_append_drop j out, List.pairwise_append] at hp
    rw [List.append_assoc, List.pairwise_append]
    refine ⟨hp.1, ?_, fun x hx y hy => ?_⟩
    · rw [List.singleton_append, List.pairwise_cons]
      exact ⟨h2, hp.2.1⟩
    · rcases List.mem_append.1 hy with h | h
      · obtain rfl : y = d := by simpa using h
        exact h1 x hx
      · exact hp.2.2 x hx y h
  · rw [hm x, List.mem_append, List.mem_append]
    simp only [List.mem_cons, List.not_mem_nil, or_false]
    constructor
    · rintro ((h | h) | h)
      · exact .inl (.inl h)
      · exact .inr h
      · exact .inl (.inr h)
    · rintro ((h | h) | h)
      · exact .inl (.inl h)
      · exact .inr h
      · exact .inl (.inr h)
  · simp only [List.length_append, List.length_take, List.length_drop, List.length_singleton]
    omega
theorem spec_DomainsOf_l1 (l : List S31) (i : Nat) (hi : i < l.length) (hz : l.length ≤ 1000000000000) (d : ByteArray) (out : List ByteArray) (ho : out.length ≤ i) (ha : Asc out) :
    ∀ (n j : Nat), j + n = out.length → (∀ x ∈ out.take j, ltB x d) → ∃ R', InsOk out d R' ∧ ∀ R, Ev (fun k => spec_DomainsOf.l0 k l R' ((i + 1 : Nat) : Int)) R → Ev (fun k => spec_DomainsOf.l1 k l out (i : Int) d (j : Int)) R := by
  intro n
  induction n with
  | zero =>
    intro j hj h1
    refine ⟨out.take j ++ [d] ++ out.drop j, ins_ok out d ha j (by omega) h1 (by rw [List.drop_eq_nil_of_le (by omega)]; simp), fun R hR => ev_succ ?_⟩
    simp only [spec_DomainsOf.l1]
    rw [wrap_upA i (by omega), Int.toNat_natCast]
    refine ev_neg (by omega) (ev_bind1 rfl (ev_pos (by omega) (ev_pos (by omega) (ev_bind1 rfl (ev_pos (by simp; omega) (ev_bind1 rfl (ev_pos (by simp; omega) (ev_bind1 rfl (ev_bind1 rfl (ev_pos (by simp; omega) ?_))))))))))
    simpa using hR
  | succ n ih =>
    intro j hj h1
    have hlt : j < out.length := by omega
    have hsp := List.pairwise_append.1 (show (out.take j ++ out.drop j).Pairwise ltB by rw [List.take_append_drop]; exact ha)
    rw [List.drop_eq_getElem_cons hlt, List.pairwise_cons] at hsp
    by_cases hless : ltB out[j] d
    · obtain ⟨R', h2, h3⟩ := ih (j + 1) (by omega) (fun x hx => by
        rw [List.take_succ_eq_append_getElem hlt] at hx
        rcases List.mem_append.1 hx with h | h
        · exact h1 x h
        · obtain rfl : x = out[j] := by simpa using h
          exact hless)
      refine ⟨R', h2, fun R hR => ev_succ ?_⟩
      simp only [spec_DomainsOf.l1]
      rw [rdOf_get out j hlt, wrap_upA j (by omega)]
      exact ev_pos (by omega) (ev_pos (by omega) (ev_pos ((less_ltB _ _).2 hless) (h3 R hR)))
    · by_cases heq : out[j] = d
      · refine ⟨out, ⟨ha, fun x => ⟨fun h => .inl h, fun h => ?_⟩, by omega⟩, fun R hR => ev_succ ?_⟩
        · rcases h with h | h
          · exact h
          · rw [h, ← heq]; exact List.getElem_mem hlt
        · simp only [spec_DomainsOf.l1]
          rw [rdOf_get out j hlt, wrap_upA i (by omega)]
          exact ev_pos (by omega) (ev_pos (by omega) (ev_neg (fun e => hless ((less_ltB _ _).1 e)) (ev_pos (by rw [heq]) hR)))
      · have hgt := ltB_tri hless heq
        refine ⟨out.take j ++ [d] ++ out.drop j, ins_ok out d ha j (by omega) h1 (fun x hx => ?_), fun R hR => ev_succ ?_⟩
        · rw [List.drop_eq_getElem_cons hlt] at hx
          rcases List.mem_cons.1 hx with h | h
          · rw [h]; exact hgt
          · exact ltB_tr hgt (hsp.2.1.1 x h)
        · simp only [spec_DomainsOf.l1]
          rw [rdOf_get out j hlt, wrap_upA i (by omega), Int.toNat_natCast]
          refine ev_pos (by omega) (ev_pos (by omega) (ev_neg (fun e => hless ((less_ltB _ _).1 e)) (ev_neg (fun e => heq (toList_iff.1 e)) (ev_bind1 rfl (ev_pos (by omega) (ev_bind1 rfl (ev_pos (by simp; omega) (ev_bind1 rfl (ev_pos (by simp; omega) (ev_bind1 rfl (ev_bind1 rfl (ev_pos (by simp; omega) ?_))))))))))))
          simpa using hR
theorem spec_DomainsOf_l0 (l : List S31) (hz : l.length ≤ 1000000000000) (hs : smA l) : ∀ (n i : Nat) (out : List ByteArray), i + n = l.length → out.length ≤ i → Asc out → ∃ R, Ev (fun k => spec_DomainsOf.l0 k l out (i : Int)) R ∧ Asc R ∧ ∀ x, x ∈ R ↔ x ∈ out ∨ x ∈ domL (l.drop i) := by
  intro n
  induction n with
  | zero =>
    intro i out hi ho ha
    refine ⟨out, ev_succ ?_, ha, fun x => ?_⟩
    · simp only [spec_DomainsOf.l0]
      exact ev_neg (by omega) (Ev.now _)
    · rw [List.drop_eq_nil_of_le (by omega)]
      simp [domL]
  | succ n ih =>
    intro i out hi ho ha
    have hlt : i < l.length := by omega
    obtain ⟨R', ⟨g1, g2, g3⟩, h1⟩ := spec_DomainsOf_l1 l i hlt hz (lowT l[i].f2) out ho ha out.length 0 (by omega) (by simp)
    obtain ⟨R, h2, h3, h4⟩ := ih (i + 1) R' (by omega) (by omega) g1
    refine ⟨R, ev_succ ?_, h3, fun x => ?_⟩
    · simp only [spec_DomainsOf.l0]
      rw [rdA l i hlt]
      exact ev_pos (by omega) (ev_pos (by omega) (ev_bind1 (spec_LowerText_eq _ (hs _ (List.getElem_mem hlt))) (h1 R h2)))
    · rw [h4, g2, List.drop_eq_getElem_cons hlt]
      simp only [domL, List.map_cons, List.mem_cons]
      constructor
      · rintro ((h | h) | h)
        · exact .inl h
        · exact .inr (.inl h)
        · exact .inr (.inr h)
      · rintro (h | h | h)
        · exact .inl (.inl h)
        · exact .inl (.inr h)
        · exact .inr h
theorem spec_DomainsOf_ev (l : List S31) (hz : l.length ≤ 1000000000000) (hs : smA l) : Ev (fun k => spec_DomainsOf.f k l) (domS l) := by
  obtain ⟨R, h1, h2, h3⟩ := spec_DomainsOf_l0 l hz hs l.length 0 [] (by omega) (by simp) List.Pairwise.nil
  obtain ⟨h4, h5⟩ := sorted_asc (domL l)
  have e : R = domS l := asc_ext h2 h4 fun x => by
    rw [h3]
    show _ ↔ x ∈ cmpS (srtS (domL l))
    rw [h5]
    simp
  unfold spec_DomainsOf.f
  rw [← e]
  exact h1
theorem domS_asc (l : List S31) : Asc (domS l) ∧ ∀ x, x ∈ domS l ↔ x ∈ domL l := sorted_asc (domL l)
theorem dom_size {l : List S31} (h : ∀ x ∈ l, x.f2.size ≤ 100) : ∀ y ∈ domS l, y.size ≤ 100 := by
  intro y hy
  rw [(domS_asc l).2] at hy
  obtain ⟨x, hx, rfl⟩ := List.mem_map.1 hy
  rw [lowT_size]
  exact h x hx
theorem ev_k1 {α : Type} {g : Nat → Option α} {r : α} (h : ∀ k, g (k + 1) = some r) : Ev g r := by
  refine ⟨1, fun k hk => ?_⟩
  obtain ⟨m, rfl⟩ : ∃ m, k = m + 1 := ⟨k - 1, by omega⟩
  exact h m
theorem rd_range (b : List Int) (hb : IsB b) (i : Int) : 0 ≤ rd b i ∧ rd b i ≤ 255 := by
  unfold rd
  rw [List.getD_eq_getElem?_getD]
  cases h : b[i.toNat]? with
  | none => exact ⟨by decide, by decide⟩
  | some x => exact hb x (List.mem_of_getElem? h)
theorem pick_some (b : List Int) (hb : IsB b) (hl : b.length ≤ 2000) (p n : Int) (hp0 : 0 ≤ p) (hp1 : p ≤ 1000000) (hn : n ≤ 1000000) :
    ∃ v, Ev (fun k => spec_l13Rd_pick.f k b p n) (v, p + 1) ∧ 0 ≤ v ∧ (1 ≤ n → v < n) := by
  have e1 : wrap64 (p + 1) = p + 1 := wrap_id (by omega) (by omega)
  have e2 : wrap64 (p + 1 - 1) = p := by rw [wrap_id (by omega) (by omega)]; omega
  by_cases hn1 : n < 1
  · refine ⟨0, ev_k1 fun k => ?_, by omega, fun h => by omega⟩
    unfold spec_l13Rd_pick.f
    rw [if_pos hn1, e1]
    simp only [spec_l13Rd_pick.j0, if_true]
  · by_cases hz : b.length = 0
    · refine ⟨0, ev_k1 fun k => ?_, by omega, fun h => by omega⟩
      unfold spec_l13Rd_pick.f
      rw [if_neg hn1, e1, show ((b.length : Int) == 0) = true from beq_iff_eq.2 (by omega)]
      simp only [spec_l13Rd_pick.j0, if_true]
    · have hz' : ((b.length : Int) == 0) = false := beq_eq_false_iff_ne.2 (by omega)
      by_cases hlt : p < (b.length : Int)
      · have hr := rd_range b hb p
        refine ⟨Int.tmod (rd b p) n, ev_k1 fun k => ?_, Int.tmod_nonneg _ hr.1, fun _ => Int.tmod_lt_of_pos _ (by omega)⟩
        unfold spec_l13Rd_pick.f
        rw [if_neg hn1, e1, hz']
        simp only [spec_l13Rd_pick.j0, Bool.false_eq_true, if_false]
        rw [e2, if_pos hlt, if_pos hp0, if_neg (by omega), wrap_id (x := rd b p) (by omega) (by omega)]
      · have h1 : 0 ≤ Int.tmod p b.length := Int.tmod_nonneg _ hp0
        have h2 : Int.tmod p b.length < b.length := Int.tmod_lt_of_pos _ (by omega)
        have e3 : wrap64 (wrap64 (p * 7) + 3) = p * 7 + 3 := by rw [wrap_id (x := p * 7) (by omega) (by omega), wrap_id (by omega) (by omega)]
        have h3 : 0 ≤ Int.tmod (p * 7 + 3) b.length := Int.tmod_nonneg _ (by omega)
        have h4 : Int.tmod (p * 7 + 3) b.length < b.length := Int.tmod_lt_of_pos _ (by omega)
        have r1 := rd_range b hb (Int.tmod p b.length)
        have r2 := rd_range b hb (Int.tmod (p * 7 + 3) b.length)
        have q1 : 0 ≤ Int.tdiv p b.length := Int.tdiv_nonneg hp0 (by omega)
        have q2 : Int.tdiv p b.length ≤ p := by
          rw [Int.tdiv_eq_ediv_of_nonneg hp0]
          exact Int.ediv_le_self _ hp0
        obtain ⟨x, hx, x0, x1⟩ : ∃ x, wrap64 (wrap64 (wrap64 (wrap64 (wrap64 (rd b (Int.tmod p b.length)) * 131) + wrap64 (wrap64 (rd b (Int.tmod (p * 7 + 3) b.length)) * 1117)) + wrap64 (p * 29)) + wrap64 (wrap64 (Int.tdiv p b.length) * 53)) = x ∧ 0 ≤ x ∧ x < 4611686018427387904 := by
          generalize rd b (Int.tmod p b.length) = a1 at r1
          generalize rd b (Int.tmod (p * 7 + 3) b.length) = a2 at r2
          generalize Int.tdiv p b.length = a3 at q1 q2
          refine ⟨a1 * 131 + a2 * 1117 + p * 29 + a3 * 53, ?_, by omega, by omega⟩
          rw [wrap_id (x := a1) (by omega) (by omega), wrap_id (x := a2) (by omega) (by omega), wrap_id (x := a3) (by omega) (by omega), wrap_id (x := a1 * 131) (by omega) (by omega), wrap_id (x := a2 * 1117) (by omega) (by omega), wrap_id (x := p * 29) (by omega) (by omega), wrap_id (x := a3 * 53) (by omega) (by omega), wrap_id (x := a1 * 131 + a2 * 1117) (by omega) (by omega), wrap_id (x := a1 * 131 + a2 * 1117 + p * 29) (by omega) (by omega), wrap_id (by omega) (by omega)]
        refine ⟨Int.tmod (bits .xor .i64 x (wrap64 (Int.tdiv x 64))) n, ev_k1 fun k => ?_, Int.tmod_nonneg _ (xor_nonneg x x0 x1), fun _ => Int.tmod_lt_of_pos _ (by omega)⟩
        unfold spec_l13Rd_pick.f
        rw [if_neg hn1, e1, hz']
        simp only [spec_l13Rd_pick.j0, Bool.false_eq_true, if_false]
        rw [e2, if_neg hlt, if_neg (by omega), if_pos h1, if_pos h2, e3, if_pos h3, if_pos h4, if_neg (by omega), hx]
theorem of_some (b : List Int) (hb : IsB b) (hl : b.length ≤ 2000) (p : Int) (l : List ByteArray) (hp0 : 0 ≤ p) (hp1 : p ≤ 1000000) (hn : l.length ≤ 1000000) (h0 : 0 < l.length) :
    ∃ v, Ev (fun k => spec_l13Rd_of.f k b p l) (v, p + 1) ∧ v ∈ l := by
  obtain ⟨v, hv, v0, v1⟩ := pick_some b hb hl p l.length hp0 hp1 (by omega)
  have v1 := v1 (by omega)
  have hlt : v.toNat < l.length := by omega
  refine ⟨l[v.toNat], ?_, List.getElem_mem hlt⟩
  unfold spec_l13Rd_of.f
  refine ev_bind hv ?_
  refine ev_pos v0 (ev_pos v1 (ev_of ?_))
  rw [rdOf, List.getD_eq_getElem?_getD, List.getElem?_eq_getElem hlt]
  rfl
theorem open_some (l : List Int) (hw : ∀ x ∈ l, (Lit.int .u8 x).wf = true) : ∃ b, spec_l13Open.f l = some (b, 0) ∧ IsB b ∧ b.length ≤ 2000 := by
  have hB : IsB l := by
    intro x hx
    have := hw x hx
    simp only [Lit.wf, IntKind.min, IntKind.max, IntKind.signed, IntKind.bits, Bool.and_eq_true, decide_eq_true_eq] at this
    simp at this
    omega
  unfold spec_l13Open.f
  by_cases h : (l.length : Int) > 2000
  · rw [if_pos h, if_pos (by omega)]
    exact ⟨_, rfl, hB.take 2000, by rw [List.length_take]; omega⟩
  · rw [if_neg h]
    exact ⟨_, rfl, hB, by omega⟩
theorem l2Draw_some (b : List Int) (hb : IsB b) (hl : b.length ≤ 2000) (p : Int) (hp0 : 0 ≤ p) (hp1 : p ≤ 900000) :
    ∃ x y z, Ev (fun k => spec_l2Draw.f k b p) (x, y, z, p + 1 + 1 + 1) ∧ x.size ≤ 20 ∧ y.size ≤ 20 ∧ z.size ≤ 20 := by
  unfold spec_l2Draw.f
  generalize hg1 : ([(⟨#[]⟩ : ByteArray), (⟨#[65, 110, 110]⟩ : ByteArray), (⟨#[65, 110, 110, 32, 76, 101, 101]⟩ : ByteArray), (⟨#[]⟩ : ByteArray), (⟨#[97, 34, 98]⟩ : ByteArray), (⟨#[120, 44, 32, 121]⟩ : ByteArray), (⟨#[60, 122, 62]⟩ : ByteArray), (⟨#[64]⟩ : ByteArray)] : List ByteArray) = q1
  generalize hg2 : ([(⟨#[97, 110, 110]⟩ : ByteArray), (⟨#[97, 46, 98]⟩ : ByteArray), (⟨#[98, 111, 98]⟩ : ByteArray), (⟨#[120, 43, 121]⟩ : ByteArray), (⟨#[111, 39, 110, 101, 105, 108]⟩ : ByteArray), (⟨#[65]⟩ : ByteArray)] : List ByteArray) = q2
  generalize hg3 : ([(⟨#[120, 46, 111, 114, 103]⟩ : ByteArray), (⟨#[109, 97, 105, 108, 46, 101, 120, 97, 109, 112, 108, 101]⟩ : ByteArray), (⟨#[97, 45, 98, 46, 99]⟩ : ByteArray), (⟨#[120, 46, 111, 114, 103]⟩ : ByteArray), (⟨#[57, 46, 100, 101]⟩ : ByteArray)] : List ByteArray) = q3
  have hz1 : (∀ x ∈ q1, x.size ≤ 20) ∧ q1.length = 8 := by subst hg1; exact ⟨by decide, rfl⟩
  have hz2 : (∀ x ∈ q2, x.size ≤ 20) ∧ q2.length = 6 := by subst hg2; exact ⟨by decide, rfl⟩
  have hz3 : (∀ x ∈ q3, x.size ≤ 20) ∧ q3.length = 5 := by subst hg3; exact ⟨by decide, rfl⟩
  obtain ⟨x, hx, mx⟩ := of_some b hb hl p q1 (by omega) (by omega) (by omega) (by omega)
  obtain ⟨y, hy, my⟩ := of_some b hb hl (p + 1) q2 (by omega) (by omega) (by omega) (by omega)
  obtain ⟨z, hz, mz⟩ := of_some b hb hl (p + 1 + 1) q3 (by omega) (by omega) (by omega) (by omega)
  exact ⟨x, y, z, ev_bind hx (ev_bind hy (ev_bind hz (Ev.now _))), hz1.1 x mx, hz2.1 y my, hz3.1 z mz⟩
-- IF spec_l2Wrong.f
theorem l2Wrong_some (b : List Int) (hb : IsB b) (hl : b.length ≤ 2000) (p : Int) (x y z : ByteArray) (hp0 : 0 ≤ p) (hp1 : p ≤ 900000) (hx : x.size ≤ 100) (hy : y.size ≤ 100) (hz : z.size ≤ 100) :
    ∃ x' y' z' p', Ev (fun k => spec_l2Wrong.f k b p x y z) (x', y', z', p') ∧ x'.size ≤ 100 ∧ y'.size ≤ 100 ∧ z'.size ≤ 100 ∧ p ≤ p' ∧ p' ≤ p + 2 := by
  unfold spec_l2Wrong.f
  generalize hg1 : ([(⟨#[]⟩ : ByteArray), (⟨#[46, 97]⟩ : ByteArray), (⟨#[97, 46, 46, 98]⟩ : ByteArray), (⟨#[97, 32, 98]⟩ : ByteArray), (⟨#[97, 64, 98]⟩ : ByteArray)] : List ByteArray) = q1
  generalize hg2 : ([(⟨#[]⟩ : ByteArray), (⟨#[88, 46, 111, 114, 103]⟩ : ByteArray), (⟨#[45, 97]⟩ : ByteArray), (⟨#[97, 45]⟩ : ByteArray), (⟨#[97, 95, 98]⟩ : ByteArray), (⟨#[97, 46, 46, 98]⟩ : ByteArray)] : List ByteArray) = q2
  generalize hg3 : ([(⟨#[10]⟩ : ByteArray), (⟨#[97, 97, 97, 97, 97, 97, 97, 97, 97, 97, 97, 97, 97, 97, 97, 97, 97, 97, 97, 97, 97, 97, 97, 97, 97, 97, 97, 97, 97, 97, 97, 97, 97, 97, 97, 97, 97, 97, 97, 97, 97]⟩ : ByteArray)] : List ByteArray) = q3
  have hz1 : (∀ x ∈ q1, x.size ≤ 100) ∧ q1.length = 5 := by subst hg1; exact ⟨by decide, rfl⟩
  have hz2 : (∀ x ∈ q2, x.size ≤ 100) ∧ q2.length = 6 := by subst hg2; exact ⟨by decide, rfl⟩
  have hz3 : (∀ x ∈ q3, x.size ≤ 100) ∧ q3.length = 2 := by subst hg3; exact ⟨by decide, rfl⟩
  obtain ⟨v, hv, v0, v1⟩ := pick_some b hb hl p 20 hp0 (by omega) (by omega)
  by_cases h0 : v = 0
  · obtain ⟨s, hs, ms⟩ := of_some b hb hl (p + 1) q1 (by omega) (by omega) (by omega) (by omega)
    exact ⟨x, s, z, p + 1 + 1, ev_bind hv (ev_pos h0 (ev_bind hs (Ev.now _))), hx, hz1.1 s ms, hz, by omega, by omega⟩
  by_cases h1 : v = 1
  · obtain ⟨s, hs, ms⟩ := of_some b hb hl (p + 1) q2 (by omega) (by omega) (by omega) (by omega)
    exact ⟨x, y, s, p + 1 + 1, ev_bind hv (ev_neg h0 (ev_pos h1 (ev_bind hs (Ev.now _)))), hx, hy, hz2.1 s ms, by omega, by omega⟩
  by_cases h2 : v = 2
  · obtain ⟨s, hs, ms⟩ := of_some b hb hl (p + 1) q3 (by omega) (by omega) (by omega) (by omega)
    exact ⟨s, y, z, p + 1 + 1, ev_bind hv (ev_neg h0 (ev_neg h1 (ev_pos h2 (ev_bind hs (Ev.now _))))), hz3.1 s ms, hy, hz, by omega, by omega⟩
  · exact ⟨x, y, z, p + 1, ev_bind hv (ev_neg h0 (ev_neg h1 (ev_neg h2 (Ev.now _)))), hx, hy, hz, by omega, by omega⟩
theorem num_some (b : List Int) (hb : IsB b) (hl : b.length ≤ 2000) (p : Int) (l : List Int) (hp0 : 0 ≤ p) (hp1 : p ≤ 1000000) (hn : l.length ≤ 1000000) (h0 : 0 < l.length) :
    ∃ v, Ev (fun k => spec_l13Rd_num.f k b p l) (v, p + 1) ∧ v ∈ l := by
  obtain ⟨v, hv, v0, v1⟩ := pick_some b hb hl p l.length hp0 hp1 (by omega)
  have v1 := v1 (by omega)
  have hlt : v.toNat < l.length := by omega
  refine ⟨l[v.toNat], ?_, List.getElem_mem hlt⟩
  unfold spec_l13Rd_num.f
  refine ev_bind hv ?_
  refine ev_pos v0 (ev_pos v1 (ev_of ?_))
  rw [rd, List.getD_eq_getElem?_getD, List.getElem?_eq_getElem hlt]
  rfl
def szA (n : Nat) (x : S31) : Prop := x.f0.size ≤ n ∧ x.f1.size ≤ n ∧ x.f2.size ≤ n
theorem l2List_l0 (b : List Int) (hb : IsB b) (hl : b.length ≤ 2000) : ∀ (d : Nat) (n : Int) (acc : List S31) (p : Int), n = d → d ≤ 100 → acc.length + d ≤ 100000 → 0 ≤ p → p + 3 * d ≤ 800000 → (∀ x ∈ acc, szA 100 x) →
    ∃ r, Ev (fun k => spec_l2List.l0 k acc n b p) (r, p + 3 * d) ∧ r.length = acc.length + d ∧ ∀ x ∈ r, szA 100 x := by
  intro d
  induction d with
  | zero =>
    intro n acc p hn hd ha h0 h1 hx
    refine ⟨acc, ev_succ ?_, rfl, hx⟩
    simp only [spec_l2List.l0]
    rw [show p + 3 * ((0 : Nat) : Int) = p by omega]
    exact ev_neg (by omega) (Ev.now _)
  | succ d ih =>
    intro n acc p hn hd ha h0 h1 hx
    obtain ⟨s, t, u, hs, hz1, hz2, hz3⟩ := l2Draw_some b hb hl p h0 (by omega)
    obtain ⟨r, hr, hrl, hrx⟩ := ih (n - 1) (acc ++ [⟨s, t, u⟩]) (p + 1 + 1 + 1) (by omega) (by omega) (by simp; omega) (by omega) (by omega) (fun x hxm => by
      rcases List.mem_append.1 hxm with h | h
      · exact hx x h
      · have : x = ⟨s, t, u⟩ := by simpa using h
        rw [this]
        refine ⟨?_, ?_, ?_⟩
        · show s.size ≤ 100; omega
        · show t.size ≤ 100; omega
        · show u.size ≤ 100; omega)
    refine ⟨r, ev_succ ?_, by rw [hrl, List.length_append, List.length_singleton]; omega, hrx⟩
    simp only [spec_l2List.l0]
    rw [show p + 3 * ((d + 1 : Nat) : Int) = p + 1 + 1 + 1 + 3 * (d : Int) by omega]
    refine ev_pos (by omega) (ev_bind hs (ev_pos (by omega) ?_))
    rw [wrap_id (by omega) (by omega)]
    exact hr
theorem l2List_some (b : List Int) (hb : IsB b) (hl : b.length ≤ 2000) (p : Int) (hp0 : 0 ≤ p) (hp1 : p ≤ 700000) :
    ∃ r p', Ev (fun k => spec_l2List.f k b p) (r, p') ∧ r.length ≤ 4 ∧ (∀ x ∈ r, szA 100 x) ∧ p ≤ p' ∧ p' ≤ p + 13 := by
  obtain ⟨n, hn, hm⟩ := num_some b hb hl p [2, 3, 1, 0, 4] hp0 (by omega) (by decide) (by decide)
  have hr : 0 ≤ n ∧ n ≤ 4 := by
    simp only [List.mem_cons, List.mem_nil_iff, or_false] at hm
    omega
  obtain ⟨r, h1, h2, h3⟩ := l2List_l0 b hb hl n.toNat n [] (p + 1) (by omega) (by omega) (by simp; omega) (by omega) (by omega) (by simp)
  refine ⟨r, p + 1 + 3 * (n.toNat : Int), ?_, by rw [h2]; simp; omega, h3, ?_, ?_⟩
  · unfold spec_l2List.f
    exact ev_bind hn h1
  · omega
  · omega
theorem l2Some_some (b : List Int) (hb : IsB b) (hl : b.length ≤ 2000) (p : Int) (hp0 : 0 ≤ p) (hp1 : p ≤ 600000) :
    ∃ r p', Ev (fun k => spec_l2Some.f k b p) (r, p') ∧ r.length ≤ 4 ∧ (∀ x ∈ r, szA 100 x) ∧ p ≤ p' ∧ p' ≤ p + 20 := by
  obtain ⟨r, p1, hr, r1, r2, p2, p3⟩ := l2List_some b hb hl p hp0 (by omega)
  unfold spec_l2Some.f
  by_cases h0 : 0 < r.length
  · obtain ⟨v, hv, v0, v1⟩ := pick_some b hb hl p1 r.length (by omega) (by omega) (by omega)
    have v1 := v1 (by omega)
    have hlt : v.toNat < r.length := by omega
    have hm := r2 _ (List.getElem_mem hlt)
    obtain ⟨x', y', z', p4, hw, w1, w2, w3, w4, w5⟩ := l2Wrong_some b hb hl (p1 + 1) r[v.toNat].f0 r[v.toNat].f1 r[v.toNat].f2 (by omega) (by omega) hm.1 hm.2.1 hm.2.2
    have he : rd_T31 r v = r[v.toNat] := by
      rw [rd_T31, List.getD_eq_getElem?_getD, List.getElem?_eq_getElem hlt]
      rfl
    refine ⟨r.set v.toNat ⟨x', y', z'⟩, p4, ev_bind hr (ev_pos (show (r.length : Int) > 0 by omega) (ev_bind hv (ev_pos v0 (ev_pos v1 (ev_bind (a := (x', y', z', p4)) ?_ (Ev.now _)))))), by simpa using r1, fun x hx => ?_, by omega, by omega⟩
    · show Ev (fun k => spec_l2Wrong.f k b (p1 + 1) (rd_T31 r v).f0 (rd_T31 r v).f1 (rd_T31 r v).f2) _
      rw [he]
      exact hw
    · rcases List.mem_or_eq_of_mem_set hx with h | h
      · exact r2 x h
      · rw [h]; exact ⟨w1, w2, w3⟩
  · exact ⟨r, p1, ev_bind hr (ev_neg (show ¬ (r.length : Int) > 0 by omega) (Ev.now _)), r1, r2, by omega, by omega⟩
theorem DrawDomainsOf_some (l : List Int) (hw : ∀ x ∈ l, (Lit.int .u8 x).wf = true) : ∃ r, Ev (fun k => spec_DrawDomainsOf.f k l) r ∧ r.length ≤ 8 ∧ ∀ x ∈ r, szA 100 x := by
  obtain ⟨b, ho, hb, hl⟩ := open_some l hw
  obtain ⟨r, p, hr, r1, r2, p1, p2⟩ := l2Some_some b hb hl 0 (by omega) (by omega)
  refine ⟨r, ?_, by omega, r2⟩
  unfold spec_DrawDomainsOf.f
  exact ev_bind1 ho (ev_bind hr (Ev.now _))
end Go.Proofs.Ytogmkfenplihoaa.Q
