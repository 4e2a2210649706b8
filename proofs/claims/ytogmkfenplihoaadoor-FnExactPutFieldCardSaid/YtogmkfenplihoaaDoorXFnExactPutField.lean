/- Plain lemmas, and what the printed functions come to; no condition. -/
import Derived.Test.YtogmkfenplihoaaDoorQH
import Derived.Lib.Strings
import Derived.Test.YtogmkfenplihoaaDoorQ0
import Derived.Test.YtogmkfenplihoaaDoorQ10
import Derived.Test.YtogmkfenplihoaaDoorQ11
import Derived.Test.YtogmkfenplihoaaDoorQ13
import Derived.Test.YtogmkfenplihoaaDoorQ14
import Derived.Test.YtogmkfenplihoaaDoorQ2
import Derived.Test.YtogmkfenplihoaaDoorQ3
import Derived.Test.YtogmkfenplihoaaDoorQ4
import Derived.Test.YtogmkfenplihoaaDoorQ6
import Derived.Test.YtogmkfenplihoaaDoorQ7
import Derived.Test.YtogmkfenplihoaaDoorQ8
import Derived.Test.YtogmkfenplihoaaDoorQ9
set_option linter.unusedVariables false
set_option linter.unusedSimpArgs false
namespace Go.Proofs.YtogmkfenplihoaaDoor.Q
open Go.RowKit Go.Proofs.YtogmkfenplihoaaDoorV.PrintWords Go.Proofs.YtogmkfenplihoaaDoorV.PrintLast Go.Proofs.YtogmkfenplihoaaDoorV.PrintMore
def IsB (l : List Int) : Prop := ∀ x ∈ l, 0 ≤ x ∧ x ≤ 255
theorem IsB.nil : IsB [] := by intro x hx; cases hx
theorem IsB.cons {x : Int} {l : List Int} (h1 : 0 ≤ x ∧ x ≤ 255) (h2 : IsB l) : IsB (x :: l) := by
  intro y hy
  rcases List.mem_cons.1 hy with rfl | hy
  · exact h1
  · exact h2 y hy
theorem IsB.sub {a b : List Int} (h : IsB a) (hs : ∀ x ∈ b, x ∈ a) : IsB b := fun x hx => h x (hs x hx)
theorem IsB.take {a : List Int} (h : IsB a) (n : Nat) : IsB (a.take n) := h.sub fun _ hx => List.mem_of_mem_take hx
theorem IsB.drop {a : List Int} (h : IsB a) (n : Nat) : IsB (a.drop n) := h.sub fun _ hx => List.mem_of_mem_drop hx
theorem L_IsB (s : ByteArray) : IsB (bytesOf s) := by
  intro x hx
  simp only [bytesOf, List.mem_map] at hx
  obtain ⟨b, _, rfl⟩ := hx
  have := b.toNat_lt
  omega
theorem L_len (s : ByteArray) : (bytesOf s).length = s.size := bytesOf_length s
theorem S_L (s : ByteArray) : strOfNums (bytesOf s) = s := by
  apply ByteArray.ext
  apply Array.ext'
  rw [strOfNums_data, bytesOf, List.map_map]
  have : ((fun n : Int => UInt8.ofNat n.toNat) ∘ fun b : UInt8 => (b.toNat : Int)) = id := by
    funext b
    simp
  rw [this, List.map_id]
theorem L_S {l : List Int} (h : IsB l) : bytesOf (strOfNums l) = l := by
  rw [bytesOf, strOfNums_data, List.map_map]
  have : ∀ x ∈ l, ((fun b : UInt8 => (b.toNat : Int)) ∘ fun n : Int => UInt8.ofNat n.toNat) x = id x := by
    intro x hx
    have := h x hx
    simp only [Function.comp_apply, id, UInt8.toNat_ofNat']
    omega
  rw [List.map_congr_left this, List.map_id]
theorem L_inj {s t : ByteArray} (h : bytesOf s = bytesOf t) : s = t := by rw [← S_L s, h, S_L]
theorem L_append (s t : ByteArray) : bytesOf (s ++ t) = bytesOf s ++ bytesOf t := by
  simp only [bytesOf, ByteArray.data_append, Array.toList_append, List.map_append]
theorem L_extract (s : ByteArray) (a b : Nat) : bytesOf (s.extract a b) = ((bytesOf s).drop a).take (b - a) := by
  simp only [bytesOf, Lib.extract_data, List.map_take, List.map_drop]
theorem L_from (s : ByteArray) (a : Nat) : bytesOf (s.extract a s.size) = (bytesOf s).drop a := by
  rw [L_extract, List.take_of_length_le]
  rw [List.length_drop, L_len]; exact Nat.le_refl _
theorem L_to (s : ByteArray) (a : Nat) : bytesOf (s.extract 0 a) = (bytesOf s).take a := by
  rw [L_extract, List.drop_zero, Nat.sub_zero]
theorem toList_iff {s t : ByteArray} : s.toList = t.toList ↔ s = t := by
  constructor
  · intro h
    rw [Lib.toList_data, Lib.toList_data] at h
    exact ByteArray.ext (Array.ext' h)
  · intro h; rw [h]
theorem toList_beq (s t : ByteArray) : (s.toList == t.toList) = decide (s = t) := by
  by_cases h : s = t
  · subst h; simp
  · rw [decide_eq_false h, beq_eq_false_iff_ne]
    exact fun e => h (toList_iff.1 e)
theorem L_iff {s t : ByteArray} : bytesOf s = bytesOf t ↔ s = t := ⟨L_inj, fun h => by rw [h]⟩
theorem L_drop (s : ByteArray) (i : Nat) (h : i < s.size) : (bytesOf s).drop i = bt s i :: (bytesOf s).drop (i + 1) := bytesOf_drop s i h
theorem L_drop_nil (s : ByteArray) (i : Nat) (h : s.size ≤ i) : (bytesOf s).drop i = [] := List.drop_eq_nil_of_le (by rw [L_len]; exact h)
theorem size_nil_iff (s : ByteArray) : s.size = 0 ↔ bytesOf s = [] := by rw [← L_len, List.length_eq_zero_iff]
theorem S_size (l : List Int) : (strOfNums l).size = l.length := strOfNums_size l
theorem size_append (s t : ByteArray) : (s ++ t).size = s.size + t.size := by rw [← L_len, L_append, List.length_append, L_len, L_len]
theorem wrap_id {x : Int} (h1 : -9223372036854775808 ≤ x) (h2 : x ≤ 9223372036854775807) : wrap64 x = x := by unfold wrap64; omega
theorem ev_succ {α : Type} {g : Nat → Option α} {r : α} (h : Ev (fun k => g (k + 1)) r) : Ev g r := Ev.step (fun _ => rfl) h
theorem ev_of {α : Type} {g : Option α} {r : α} (h : g = some r) : Ev (fun _ => g) r := ⟨0, fun _ _ => h⟩
theorem ev_bind {α β : Type} {g : Nat → Option α} {f : Nat → α → Option β} {a : α} {r : β} (h : Ev g a) (k : Ev (fun n => f n a) r) : Ev (fun n => (g n).bind fun t => f n t) r := Ev.bind h k
theorem ev_bind1 {α β : Type} {g : Option α} {f : Nat → α → Option β} {a : α} {r : β} (h : g = some a) (k : Ev (fun n => f n a) r) : Ev (fun n => g.bind fun t => f n t) r := by
  subst h; exact k
theorem ev_pos {α : Type} {c : Prop} [Decidable c] {a b : Nat → Option α} {r : α} (hc : c) (h : Ev a r) : Ev (fun k => if c then a k else b k) r := by
  simp only [if_pos hc]; exact h
theorem ev_neg {α : Type} {c : Prop} [Decidable c] {a b : Nat → Option α} {r : α} (hc : ¬ c) (h : Ev b r) : Ev (fun k => if c then a k else b k) r := by
  simp only [if_neg hc]; exact h
theorem ev_cast {α : Type} {g : Nat → Option α} {r r' : α} (h : Ev g r) (e : r = r') : Ev g r' := e ▸ h
def isLet (x : Int) : Bool := decide ((97 ≤ x ∧ x ≤ 122) ∨ (65 ≤ x ∧ x ≤ 90))
def isDig (x : Int) : Bool := decide (48 ≤ x ∧ x ≤ 57)
def isTxt (x : Int) : Bool := decide (32 ≤ x ∧ x ≤ 126)
def textOk (l : List Int) : Bool := decide (l.length ≤ 200) && l.all isTxt
def ltrim (l : List Int) : List Int := l.dropWhile (fun x => decide (x = 32))
def rtrim (l : List Int) : List Int := (ltrim l.reverse).reverse
def trimT (l : List Int) : List Int := rtrim (ltrim l)
theorem ltrim_sp (r : List Int) : ltrim (32 :: r) = ltrim r := by simp [ltrim]
theorem ltrim_ne {x : Int} (r : List Int) (h : x ≠ 32) : ltrim (x :: r) = x :: r := by
  unfold ltrim
  rw [List.dropWhile_cons_of_neg (by simp [h])]
theorem rtrim_sp (l : List Int) : rtrim (l ++ [32]) = rtrim l := by
  unfold rtrim
  rw [List.reverse_append]
  simp [ltrim_sp]
theorem rtrim_ne {x : Int} (l : List Int) (h : x ≠ 32) : rtrim (l ++ [x]) = l ++ [x] := by
  unfold rtrim
  rw [List.reverse_append]
  simp [ltrim_ne _ h]
theorem rtrim_nil : rtrim [] = [] := rfl
theorem ltrim_sub (l : List Int) : (ltrim l).Sublist l := List.dropWhile_sublist _
theorem rtrim_sub (l : List Int) : (rtrim l).Sublist l := by
  have := (ltrim_sub l.reverse).reverse
  rwa [List.reverse_reverse] at this
theorem trim_sub (l : List Int) : (trimT l).Sublist l := (rtrim_sub _).trans (ltrim_sub l)
/-- Both orders of cutting come to one. -/
theorem ltrim_append_sp (l : List Int) : ltrim (l ++ [32]) = if ltrim l = [] then [] else ltrim l ++ [32] := by
  induction l with
  | nil => simp [ltrim]
  | cons x r ih =>
    by_cases h : x = 32
    · subst h; rw [List.cons_append, ltrim_sp, ltrim_sp, ih]
    · rw [List.cons_append, ltrim_ne _ h, ltrim_ne _ h, if_neg (by simp), List.cons_append]
theorem ltrim_append_ne (l : List Int) {x : Int} (hx : x ≠ 32) : ltrim (l ++ [x]) = ltrim l ++ [x] := by
  induction l with
  | nil => rw [List.nil_append, ltrim_ne _ hx]; rfl
  | cons y r ih =>
    by_cases h : y = 32
    · subst h; rw [List.cons_append, ltrim_sp, ltrim_sp, ih]
    · rw [List.cons_append, ltrim_ne _ h, ltrim_ne _ h, List.cons_append]
theorem snoc_ind {p : List Int → Prop} (h0 : p []) (h1 : ∀ l x, p l → p (l ++ [x])) (l : List Int) : p l := by
  have : ∀ m : List Int, p m.reverse := by
    intro m
    induction m with
    | nil => exact h0
    | cons x r ih => rw [List.reverse_cons]; exact h1 _ _ ih
  have := this l.reverse
  rwa [List.reverse_reverse] at this
theorem trim_comm (l : List Int) : ltrim (rtrim l) = trimT l := by
  unfold trimT
  refine snoc_ind (p := fun l => ltrim (rtrim l) = rtrim (ltrim l)) rfl (fun l x ih => ?_) l
  by_cases h : x = 32
  · subst h
    rw [rtrim_sp, ltrim_append_sp, ih]
    by_cases he : ltrim l = []
    · rw [if_pos he, he]
    · rw [if_neg he, rtrim_sp]
  · rw [rtrim_ne l h, ltrim_append_ne l h, rtrim_ne _ h]
def isNm (x : Int) : Bool := decide ((97 ≤ x ∧ x ≤ 122) ∨ (65 ≤ x ∧ x ≤ 90) ∨ (48 ≤ x ∧ x ≤ 57) ∨ x = 45)
def nameOk (l : List Int) : Bool := decide (1 ≤ l.length ∧ l.length ≤ 30) && ((match l with | [] => false | x :: _ => isLet x) && l.all isNm)
def fieldOk (n v : List Int) : Bool := nameOk n && (textOk v && (decide (v.length ≤ 150) && decide (trimT v = v)))
theorem fieldOk_iff {n v : List Int} : fieldOk n v = true ↔ nameOk n = true ∧ textOk v = true ∧ v.length ≤ 150 ∧ trimT v = v := by simp [fieldOk]
theorem rdF (l : List S25) (i : Nat) (h : i < l.length) : rd_T25 l (i : Int) = l[i] := by
  rw [rd_T25, Int.toNat_natCast, List.getD_eq_getElem?_getD, List.getElem?_eq_getElem h]
  rfl
theorem wrap_up (i : Nat) (h : i < 9223372036854775807) : wrap64 ((i : Int) + 1) = ((i + 1 : Nat) : Int) := by
  rw [wrap_id (by omega) (by omega)]
  omega
theorem extF {a b : S25} : a = b ↔ a.f0 = b.f0 ∧ a.f1 = b.f1 := by
  cases a; cases b
  simp
instance decF : DecidableEq S25 := fun _ _ => decidable_of_iff _ extF.symm
theorem impl_LowerText_eq (s : ByteArray) (hs : s.size < 140737488355328) : impl_LowerText.f s = some (lowT s) := by rw [impl_LowerText.f, if_pos hs]
theorem spec_LowerText_eq (s : ByteArray) (hs : s.size < 140737488355328) : spec_LowerText.f s = some (lowT s) := by rw [spec_LowerText.f, if_pos hs]
theorem impl_SameText_eq (s t : ByteArray) (hs : s.size < 140737488355328) (ht : t.size < 140737488355328) : impl_SameText.f s t = some (decide (lowT s = lowT t)) := by
  rw [impl_SameText.f, impl_LowerText_eq s hs, Option.bind_some, impl_LowerText_eq t ht, Option.bind_some, toList_beq]
theorem spec_SameText_eq (s t : ByteArray) (hs : s.size < 140737488355328) (ht : t.size < 140737488355328) : spec_SameText.f s t = some (decide (lowT s = lowT t)) := by
  rw [spec_SameText.f, spec_LowerText_eq s hs, Option.bind_some, spec_LowerText_eq t ht, Option.bind_some, toList_beq]
def sameF (x : S25) (a : ByteArray) : Bool := decide (lowT x.f0 = lowT a)
/-- The place of the first one, from i on. -/
def plc (a : ByteArray) : Nat → List S25 → Int
  | _, [] => -1
  | i, x :: xs => if sameF x a = true then (i : Int) else plc a (i + 1) xs
def getF (a : ByteArray) : List S25 → ByteArray × Bool
  | [] => ((⟨#[]⟩ : ByteArray), false)
  | x :: xs => if sameF x a = true then (x.f1, true) else getF a xs
def smF (l : List S25) : Prop := ∀ x ∈ l, x.f0.size < 140737488355328
theorem smF_tail {x : S25} {l : List S25} (h : smF (x :: l)) : smF l := fun y hy => h y (List.mem_cons_of_mem _ hy)
theorem plc_get (a : ByteArray) : ∀ (l : List S25) (i : Nat), (plc a i l = -1 ∧ getF a l = ((⟨#[]⟩ : ByteArray), false)) ∨ ∃ j, ∃ h : j < l.length, plc a i l = ((i + j : Nat) : Int) ∧ getF a l = ((l[j]).f1, true)
  | [], i => .inl ⟨rfl, rfl⟩
  | x :: xs, i => by
    simp only [plc, getF]
    by_cases h : sameF x a = true
    · rw [if_pos h, if_pos h]
      exact .inr ⟨0, by simp, rfl, rfl⟩
    · rw [if_neg h, if_neg h]
      rcases plc_get a xs (i + 1) with ⟨h1, h2⟩ | ⟨j, hj, h1, h2⟩
      · exact .inl ⟨h1, h2⟩
      · exact .inr ⟨j + 1, by simpa using hj, by rw [h1]; omega, by simpa using h2⟩
theorem same_impl (x : S25) (a : ByteArray) (hx : x.f0.size < 140737488355328) (ha : a.size < 140737488355328) : impl_SameText.f x.f0 a = some (sameF x a) := impl_SameText_eq x.f0 a hx ha
theorem idxO_plc (a : ByteArray) (ha : a.size < 140737488355328) : ∀ (l : List S25) (i : Nat), smF l → idxO (fun x : S25 => impl_SameText.f x.f0 a) i l = some (plc a i l)
  | [], i, _ => rfl
  | x :: xs, i, h => by
    simp only [idxO, plc]
    rw [same_impl x a (h x (by simp)) ha, Option.bind_some]
    by_cases hs : sameF x a = true
    · rw [if_pos hs, if_pos hs]
    · rw [if_neg hs, if_neg hs]
      exact idxO_plc a ha xs (i + 1) (smF_tail h)
theorem impl_fieldPlace_eq (l : List S25) (a : ByteArray) (hl : smF l) (ha : a.size < 140737488355328) : impl_fieldPlace.f l a = some (plc a 0 l) := idxO_plc a ha l 0 hl
theorem spec_l3Find_l0 (a : ByteArray) (ha : a.size < 140737488355328) (l : List S25) (hz : l.length ≤ 1000000000000) (hl : smF l) : ∀ (d i : Nat), i + d = l.length → Ev (fun k => spec_l3Find.l0 k l a (i : Int)) (plc a i (l.drop i)) := by
  intro d
  induction d with
  | zero =>
    intro i hi
    refine ev_succ ?_
    simp only [spec_l3Find.l0]
    rw [List.drop_eq_nil_of_le (by omega)]
    exact ev_neg (by omega) (Ev.now _)
  | succ d ih =>
    intro i hi
    have hlt : i < l.length := by omega
    refine ev_succ ?_
    simp only [spec_l3Find.l0]
    rw [rdF l i hlt, wrap_up i (by omega), List.drop_eq_getElem_cons hlt]
    simp only [plc]
    refine ev_pos (by omega) (ev_pos (by omega) (ev_bind1 (spec_SameText_eq _ a (hl _ (List.getElem_mem hlt)) ha) ?_))
    by_cases hs : sameF l[i] a = true
    · rw [if_pos hs]
      exact ev_pos hs (Ev.now _)
    · rw [if_neg hs]
      exact ev_neg hs (ih (i + 1) (by omega))
theorem spec_l3Find_ev (l : List S25) (a : ByteArray) (hz : l.length ≤ 1000000000000) (hl : smF l) (ha : a.size < 140737488355328) : Ev (fun k => spec_l3Find.f k l a) (plc a 0 l) := by
  unfold spec_l3Find.f
  exact spec_l3Find_l0 a ha l hz hl l.length 0 (by omega)
def fOk (x : S25) : Bool := fieldOk (bytesOf x.f0) (bytesOf x.f1)
def fsOk (l : List S25) : Bool := decide (l.length ≤ 20) && l.all fOk
theorem fsOk_iff {l : List S25} : fsOk l = true ↔ l.length ≤ 20 ∧ ∀ x ∈ l, fOk x = true := by simp [fsOk, List.all_eq_true]
/-- With a value put. -/
def putO (l : List S25) (a b : ByteArray) : List S25 := if 0 ≤ plc a 0 l then l.set (plc a 0 l).toNat ⟨(rd_T25 l (plc a 0 l)).f0, b⟩ else l ++ [⟨a, b⟩]
def putV (l : List S25) (a b : ByteArray) : List S25 × Bool := if fieldOk (bytesOf a) (bytesOf b) = true ∧ fsOk l = true ∧ fsOk (putO l a b) = true then (putO l a b, true) else ([], false)
theorem plc_cases (a : ByteArray) : ∀ (l : List S25) (i : Nat), (plc a i l = -1 ∧ ∀ x ∈ l, sameF x a = false) ∨ ∃ j, ∃ h : j < l.length, plc a i l = ((i + j : Nat) : Int) ∧ sameF l[j] a = true ∧ ∀ m, ∀ hm : m < l.length, m < j → sameF l[m] a = false
  | [], i => .inl ⟨rfl, by simp⟩
  | x :: xs, i => by
    simp only [plc]
    by_cases h : sameF x a = true
    · rw [if_pos h]
      exact .inr ⟨0, by simp, rfl, h, fun m hm hlt => by omega⟩
    · rw [if_neg h]
      have h' : sameF x a = false := by simpa using h
      rcases plc_cases a xs (i + 1) with ⟨h1, h2⟩ | ⟨j, hj, h1, h2, h3⟩
      · refine .inl ⟨h1, fun y hy => ?_⟩
        rcases List.mem_cons.1 hy with e | e
        · rw [e]; exact h'
        · exact h2 y e
      · refine .inr ⟨j + 1, by simpa using hj, by rw [h1]; omega, by simpa using h2, fun m hm hlt => ?_⟩
        match m, hm, hlt with
        | 0, _, _ => simpa using h'
        | m + 1, hm, hlt => simpa using h3 m (by simpa using hm) (by omega)
/-- What is put: where it was found, or behind. -/
theorem put_cases (l : List S25) (a b : ByteArray) :
    (plc a 0 l = -1 ∧ (∀ x ∈ l, sameF x a = false) ∧ putO l a b = l ++ [⟨a, b⟩]) ∨
    ∃ j, ∃ h : j < l.length, plc a 0 l = (j : Int) ∧ sameF l[j] a = true ∧ (∀ m, ∀ hm : m < l.length, m < j → sameF l[m] a = false) ∧ putO l a b = l.set j ⟨l[j].f0, b⟩ := by
  unfold putO
  rcases plc_cases a l 0 with ⟨h1, h2⟩ | ⟨j, hj, h1, h2, h3⟩
  · exact .inl ⟨h1, h2, by rw [h1, if_neg (by omega)]⟩
  · rw [Nat.zero_add] at h1
    refine .inr ⟨j, hj, h1, h2, h3, ?_⟩
    rw [h1, if_pos (by omega), Int.toNat_natCast, rdF l j hj]
theorem putO_all {l : List S25} {a b : ByteArray} (hf : fieldOk (bytesOf a) (bytesOf b) = true) (h : ∀ x ∈ l, fOk x = true) : ∀ x ∈ putO l a b, fOk x = true := by
  intro x hx
  rcases put_cases l a b with ⟨_, _, e⟩ | ⟨j, hj, _, _, _, e⟩
  · rw [e] at hx
    rcases List.mem_append.1 hx with hx | hx
    · exact h x hx
    · obtain rfl : x = ⟨a, b⟩ := by simpa using hx
      exact hf
  · rw [e] at hx
    rcases List.mem_or_eq_of_mem_set hx with hx | hx
    · exact h x hx
    · have h1 := h _ (List.getElem_mem hj)
      unfold fOk at h1 ⊢
      rw [fieldOk_iff] at h1 hf
      rw [hx, fieldOk_iff]
      exact ⟨h1.1, hf.2⟩
theorem getF_at {l : List S25} {a : ByteArray} {j : Nat} (hj : j < l.length) (h : plc a 0 l = (j : Int)) : getF a l = (l[j].f1, true) := by
  rcases plc_get a l 0 with ⟨h1, h2⟩ | ⟨i, hi, h1, h2⟩
  · rw [h1] at h; omega
  · rw [h1, Nat.zero_add] at h
    have e : i = j := by omega
    subst e
    exact h2
theorem put_len (l : List S25) (a b : ByteArray) : (putO l a b).length = if (getF a l).2 = true then l.length else l.length + 1 := by
  rcases put_cases l a b with ⟨h1, _, e⟩ | ⟨j, hj, h1, _, _, e⟩
  · have : getF a l = ((⟨#[]⟩ : ByteArray), false) := by
      rcases plc_get a l 0 with ⟨_, g⟩ | ⟨i, hi, g, _⟩
      · exact g
      · rw [h1] at g; omega
    rw [e, this, if_neg (by simp)]
    simp
  · rw [e, getF_at hj h1, if_pos rfl]
    simp
def nb (l : List UInt8) : List Int := l.map fun b => (b.toNat : Int)
theorem nb_mk (l : List UInt8) : bytesOf (⟨l.toArray⟩ : ByteArray) = nb l := rfl
theorem nb_inj32 (b : UInt8) : ((b.toNat : Int) = 32) ↔ b = 32 := by
  constructor
  · intro h
    apply UInt8.toNat_inj.1
    have : (32 : UInt8).toNat = 32 := rfl
    omega
  · intro h; rw [h]; rfl
theorem nb_ltrim (l : List UInt8) : nb (Lib.trimLeftB l 32) = ltrim (nb l) := by
  induction l with
  | nil => rfl
  | cons b r ih =>
    by_cases h : b = 32
    · subst h
      have e : nb ((32 : UInt8) :: r) = 32 :: nb r := rfl
      rw [e, ltrim_sp, ← ih]
      unfold Lib.trimLeftB
      rw [List.dropWhile_cons_of_pos (by simp)]
    · have e : nb (b :: r) = (b.toNat : Int) :: nb r := rfl
      rw [e, ltrim_ne _ (fun q => h ((nb_inj32 b).1 q))]
      unfold Lib.trimLeftB
      rw [List.dropWhile_cons_of_neg (by simpa using h), e]
theorem nb_rtrim (l : List UInt8) : nb (Lib.trimRightB l 32) = rtrim (nb l) := by
  have h : ∀ m : List UInt8, nb m.reverse = (nb m).reverse := fun m => by simp [nb]
  have e : Lib.trimRightB l 32 = (Lib.trimLeftB l.reverse 32).reverse := rfl
  rw [e, h, nb_ltrim, h]
  rfl
def trimS (s : ByteArray) : ByteArray := strOfNums (trimT (bytesOf s))
theorem trimT_IsB {l : List Int} (h : IsB l) : IsB (trimT l) := h.sub (trim_sub l).subset
theorem L_trimS (s : ByteArray) : bytesOf (trimS s) = trimT (bytesOf s) := L_S (trimT_IsB (L_IsB s))
theorem strings_Trim_eq (s : ByteArray) (hs : s.size ≤ 9223372036854775807) : strings_Trim.f s (⟨#[32]⟩ : ByteArray) = some (trimS s) := by
  unfold strings_Trim.f
  show (if (32 : UInt8).toNat < 128 ∧ s.size ≤ 9223372036854775807 then _ else _) = _
  rw [if_pos ⟨by decide, hs⟩]
  refine congrArg some (L_inj ?_)
  rw [L_trimS, nb_mk, ← trim_comm]
  unfold Lib.trimB
  rw [nb_ltrim, nb_rtrim]
  rfl
theorem head_bt (s : ByteArray) (h : 0 < s.size) : ∃ r, bytesOf s = bt s 0 :: r := by
  have := L_drop s 0 h
  rw [List.drop_zero] at this
  exact ⟨_, this⟩
theorem lt_cons (s : ByteArray) (h : 0 < s.size) (h32 : bt s 0 = 32) : ltrim (bytesOf s) = ltrim (bytesOf (s.extract 1 s.size)) := by
  have e := L_drop s 0 h
  rw [List.drop_zero] at e
  have h32' : bt s ((0 : Nat) : Int) = 32 := h32
  rw [L_from, e, h32', ltrim_sp]
  rfl
theorem snoc_bt (s : ByteArray) (h : 0 < s.size) : bytesOf s = bytesOf (s.extract 0 (s.size - 1)) ++ [bt s ((s.size - 1 : Nat) : Int)] := by
  have hl : s.size - 1 < (bytesOf s).length := by rw [L_len]; omega
  have e := List.take_succ_eq_append_getElem hl
  rw [show s.size - 1 + 1 = s.size by omega, List.take_of_length_le (by rw [L_len]; exact Nat.le_refl _), bytesOf_at s (s.size - 1) (by omega)] at e
  rw [L_to]
  exact e
theorem spec_l2Trim_l1 : ∀ (n : Nat) (s : ByteArray), s.size ≤ n → n ≤ 1048576 → Ev (fun k => spec_l2Trim.l1 k s) (strOfNums (rtrim (bytesOf s))) := by
  intro n
  induction n with
  | zero =>
    intro s hs hn
    refine ev_succ ?_
    simp only [spec_l2Trim.l1]
    have e : bytesOf s = [] := (size_nil_iff s).1 (by omega)
    refine ev_neg (by omega) (ev_of ?_)
    rw [e, rtrim_nil, ← e, S_L]
  | succ n ih =>
    intro s hs hn
    refine ev_succ ?_
    simp only [spec_l2Trim.l1]
    by_cases h0 : 0 < s.size
    · have ew : wrap64 ((s.size : Int) - 1) = ((s.size - 1 : Nat) : Int) := by rw [wrap_id (by omega) (by omega)]; omega
      rw [ew]
      have hz : (s.extract 0 (s.size - 1)).size = s.size - 1 := by rw [← L_len, L_to, List.length_take, L_len]; omega
      refine ev_pos (by omega) (ev_pos (by omega) (ev_pos (by omega) ?_))
      have e := snoc_bt s h0
      by_cases h32 : bt s ((s.size - 1 : Nat) : Int) = 32
      · rw [h32] at e ⊢
        rw [e, rtrim_sp, Int.toNat_natCast]
        exact ev_pos rfl (ev_pos (by omega) (ih _ (by omega) (by omega)))
      · refine ev_neg h32 (ev_of ?_)
        rw [e, rtrim_ne _ h32, ← e, S_L]
    · have e : bytesOf s = [] := (size_nil_iff s).1 (by omega)
      refine ev_neg (by omega) (ev_of ?_)
      rw [e, rtrim_nil, ← e, S_L]
theorem spec_l2Trim_l0 : ∀ (n : Nat) (s : ByteArray), s.size ≤ n → n ≤ 1048576 → Ev (fun k => spec_l2Trim.l0 k s) (trimS s) := by
  intro n
  induction n with
  | zero =>
    intro s hs hn
    refine ev_succ ?_
    simp only [spec_l2Trim.l0]
    have e : bytesOf s = [] := (size_nil_iff s).1 (by omega)
    refine ev_neg (by omega) (ev_succ ?_)
    simp only [spec_l2Trim.j1]
    refine ev_cast (spec_l2Trim_l1 0 s hs (by omega)) ?_
    unfold trimS trimT
    rw [e]; rfl
  | succ n ih =>
    intro s hs hn
    refine ev_succ ?_
    simp only [spec_l2Trim.l0]
    by_cases h0 : 0 < s.size
    · have hz : (s.extract 1 s.size).size = s.size - 1 := by rw [← L_len, L_from, List.length_drop, L_len]
      refine ev_pos (by omega) (ev_pos (by omega) ?_)
      by_cases h32 : bt s 0 = 32
      · refine ev_pos h32 (ev_pos (by omega) (ev_cast (ih _ (by omega) (by omega)) ?_))
        unfold trimS trimT
        rw [lt_cons s h0 h32]
      · refine ev_neg h32 (ev_succ ?_)
        simp only [spec_l2Trim.j1]
        refine ev_cast (spec_l2Trim_l1 (n + 1) s hs hn) ?_
        obtain ⟨r, e⟩ := head_bt s h0
        unfold trimS trimT
        rw [e, ltrim_ne r h32]
    · have e : bytesOf s = [] := (size_nil_iff s).1 (by omega)
      refine ev_neg (by omega) (ev_succ ?_)
      simp only [spec_l2Trim.j1]
      refine ev_cast (spec_l2Trim_l1 (n + 1) s hs hn) ?_
      unfold trimS trimT
      rw [e]; rfl
theorem spec_l2Trim_ev (s : ByteArray) (hs : s.size ≤ 1048576) : Ev (fun k => spec_l2Trim.f k s) (trimS s) := spec_l2Trim_l0 s.size s (Nat.le_refl _) hs
theorem trimS_eq (s : ByteArray) : ((trimS s).toList == s.toList) = decide (trimT (bytesOf s) = bytesOf s) := by
  rw [toList_beq]
  exact decide_eq_decide.2 (by rw [← L_iff, L_trimS])
theorem wrap_succ (i : Nat) (h : (i : Int) < 9223372036854775807) : wrap64 ((i : Int) + 1) = ((i + 1 : Nat) : Int) := by
  rw [wrap_id (by omega) (by omega)]; rfl
theorem allO_some {α : Type} {p : α → Option Bool} {q : α → Bool} (l : List α) (h : ∀ x ∈ l, p x = some (q x)) : allO p l = some (l.all q) := by
  induction l with
  | nil => rfl
  | cons x r ih =>
    rw [allO, h x (by simp), Option.bind_some, ih fun y hy => h y (List.mem_cons_of_mem _ hy), List.all_cons]
    cases q x <;> rfl
theorem ev_anyO {α : Type} {p : Nat → α → Option Bool} {q : α → Bool} (l : List α) (h : ∀ x ∈ l, Ev (fun k => p k x) (q x)) : Ev (fun k => anyO (p k) l) (l.any q) := by
  induction l with
  | nil => exact Ev.now _
  | cons x r ih =>
    have h1 := h x (by simp)
    have h2 := ih fun y hy => h y (List.mem_cons_of_mem _ hy)
    simp only [anyO]
    refine ev_bind h1 ?_
    rw [List.any_cons]
    cases q x with
    | true => exact ev_pos rfl (Ev.now _)
    | false => exact ev_neg (by decide) h2
theorem impl_isLetter_eq (x : Int) : impl_isLetter.f x = some (isLet x) := by
  unfold impl_isLetter.f isLet
  repeat' split
  all_goals first | exact congrArg some (decide_eq_true (by omega)).symm | exact congrArg some (decide_eq_false (by omega)).symm | exact congrArg some (decide_eq_decide.2 (by omega))
theorem impl_isDigit_eq (x : Int) : impl_isDigit.f x = some (isDig x) := by
  unfold impl_isDigit.f isDig
  repeat' split
  all_goals first | exact congrArg some (decide_eq_true (by omega)).symm | exact congrArg some (decide_eq_false (by omega)).symm | exact congrArg some (decide_eq_decide.2 (by omega))
theorem spec_l1Letter_eq (x : Int) : spec_l1Letter.f x = some (decide ((97 ≤ x ∧ x ≤ 122) ∨ (65 ≤ x ∧ x ≤ 90) ∨ (48 ≤ x ∧ x ≤ 57))) := by
  unfold spec_l1Letter.f
  repeat' split
  all_goals first | exact congrArg some (decide_eq_true (by omega)).symm | exact congrArg some (decide_eq_false (by omega)).symm | exact congrArg some (decide_eq_decide.2 (by omega))
theorem impl_TextValid_l0 (s : ByteArray) (hs : s.size ≤ 4611686018427387904) : ∀ (d i : Nat), i + d = s.size → Ev (fun k => impl_TextValid.l0 k s (s.size : Int) (i : Int)) (decide (s.size ≤ 200) && ((bytesOf s).drop i).all isTxt) := by
  intro d
  induction d with
  | zero =>
    intro i hi
    refine ev_succ ?_
    simp only [impl_TextValid.l0]
    refine ev_neg (by omega) ?_
    rw [L_drop_nil s i (by omega), List.all_nil, Bool.and_true]
    exact ev_of (congrArg some (decide_eq_decide.2 (by omega)))
  | succ d ih =>
    intro i hi
    refine ev_succ ?_
    simp only [impl_TextValid.l0]
    refine ev_pos (by omega) (ev_pos (by omega) (ev_pos (by omega) ?_))
    rw [L_drop s i (by omega), List.all_cons, wrap_succ i (by omega)]
    by_cases h1 : bt s i < 32
    · refine ev_pos h1 (ev_of ?_)
      rw [show isTxt (bt s i) = false from decide_eq_false (by omega), Bool.false_and, Bool.and_false]
    · refine ev_neg h1 ?_
      by_cases h2 : bt s i > 126
      · refine ev_pos h2 (ev_of ?_)
        rw [show isTxt (bt s i) = false from decide_eq_false (by omega), Bool.false_and, Bool.and_false]
      · refine ev_neg h2 ?_
        rw [show isTxt (bt s i) = true from decide_eq_true (by omega), Bool.true_and]
        exact ih (i + 1) (by omega)
theorem impl_TextValid_ev (s : ByteArray) (hs : s.size ≤ 4611686018427387904) : Ev (fun k => impl_TextValid.f k s) (textOk (bytesOf s)) := by
  have h := impl_TextValid_l0 s hs s.size 0 (by omega)
  rw [List.drop_zero] at h
  unfold textOk
  rw [L_len]
  exact h
theorem spec_TextValid_l0 (s : ByteArray) (hs : s.size ≤ 4611686018427387904) : ∀ (d i : Nat), i + d = s.size → i ≤ 201 → Ev (fun k => spec_TextValid.l0 k s (i : Int)) (decide (s.size ≤ 200) && ((bytesOf s).drop i).all isTxt) := by
  intro d
  induction d with
  | zero =>
    intro i hi _
    refine ev_succ ?_
    simp only [spec_TextValid.l0]
    refine ev_neg (by omega) (ev_succ ?_)
    simp only [spec_TextValid.j1, if_true, Bool.false_eq_true, if_false]
    rw [L_drop_nil s i (by omega), List.all_nil, Bool.and_true]
    exact ev_of (congrArg some (decide_eq_decide.2 (by omega)))
  | succ d ih =>
    intro i hi h201
    refine ev_succ ?_
    simp only [spec_TextValid.l0]
    refine ev_pos (by omega) (ev_succ ?_)
    by_cases h0 : (i : Int) ≤ 200
    · simp only [decide_eq_true h0, spec_TextValid.j1, if_true]
      refine ev_pos (by omega) (ev_pos (by omega) ?_)
      rw [L_drop s i (by omega), List.all_cons, wrap_succ i (by omega)]
      by_cases h1 : bt s i < 32
      · refine ev_pos h1 (ev_of ?_)
        rw [show isTxt (bt s i) = false from decide_eq_false (by omega), Bool.false_and, Bool.and_false]
      · refine ev_neg h1 ?_
        by_cases h2 : bt s i > 126
        · refine ev_pos h2 (ev_of ?_)
          rw [show isTxt (bt s i) = false from decide_eq_false (by omega), Bool.false_and, Bool.and_false]
        · refine ev_neg h2 ?_
          rw [show isTxt (bt s i) = true from decide_eq_true (by omega), Bool.true_and]
          exact ih (i + 1) (by omega) (by omega)
    · simp only [decide_eq_false h0, spec_TextValid.j1, Bool.false_eq_true, if_false]
      refine ev_of ?_
      rw [show decide (s.size ≤ 200) = false from decide_eq_false (by omega), Bool.false_and]
      exact congrArg some (decide_eq_false (by omega))
theorem spec_TextValid_ev (s : ByteArray) (hs : s.size ≤ 4611686018427387904) : Ev (fun k => spec_TextValid.f k s) (textOk (bytesOf s)) := by
  have h := spec_TextValid_l0 s hs s.size 0 (by omega) (by omega)
  rw [List.drop_zero] at h
  unfold textOk
  rw [L_len]
  exact h
theorem impl_isName_1_eq (x : Int) : impl_isName_1.f x = some (isNm x) := by
  unfold impl_isName_1.f isNm
  rw [impl_isLetter_eq, Option.bind_some, impl_isDigit_eq, Option.bind_some]
  simp only [isLet, isDig, decide_eq_true_eq]
  by_cases h1 : (97 ≤ x ∧ x ≤ 122) ∨ (65 ≤ x ∧ x ≤ 90)
  · rw [if_pos h1]; exact congrArg some (decide_eq_true (by omega)).symm
  · rw [if_neg h1]
    by_cases h2 : 48 ≤ x ∧ x ≤ 57
    · rw [if_pos h2]; exact congrArg some (decide_eq_true (by omega)).symm
    · rw [if_neg h2]
      refine congrArg some ?_
      rw [Bool.eq_iff_iff, beq_iff_eq, decide_eq_true_eq]
      omega
theorem impl_isName_eq (s : ByteArray) : impl_isName.f s = some (nameOk (bytesOf s)) := by
  unfold impl_isName.f nameOk
  rw [L_len]
  by_cases h1 : (s.size : Int) ≥ 1
  · rw [if_pos h1]
    by_cases h2 : (s.size : Int) ≤ 30
    · obtain ⟨r, e⟩ := head_bt s (by omega)
      rw [if_pos h2, if_pos (by omega), impl_isLetter_eq, Option.bind_some, decide_eq_true (by omega), Bool.true_and, e]
      simp only
      cases isLet (bt s 0) with
      | false => rw [if_neg (by decide), Bool.false_and]
      | true => rw [if_pos rfl, Bool.true_and, ← e, allBytes__impl_isName_1.f, if_pos (by omega), allO_some (q := isNm) _ fun x _ => impl_isName_1_eq x, Option.bind_some]
    · rw [if_neg h2, decide_eq_false (by omega), Bool.false_and]
  · rw [if_neg h1, decide_eq_false (by omega), Bool.false_and]
theorem impl_FieldValid_ev (a b : ByteArray) (ha : a.size ≤ 1048576) (hb : b.size ≤ 1048576) : Ev (fun k => impl_FieldValid.f k a b) (fieldOk (bytesOf a) (bytesOf b)) := by
  unfold impl_FieldValid.f fieldOk
  refine ev_bind1 (impl_isName_eq a) ?_
  cases nameOk (bytesOf a) with
  | false => exact ev_neg (by decide) (Ev.now _)
  | true =>
    refine ev_pos rfl (ev_bind (impl_TextValid_ev b (by omega)) ?_)
    cases textOk (bytesOf b) with
    | false => exact ev_neg (by decide) (Ev.now _)
    | true =>
      refine ev_pos rfl ?_
      by_cases h : (b.size : Int) ≤ 150
      · refine ev_pos h (ev_bind1 (strings_Trim_eq b (by omega)) (ev_of ?_))
        rw [trimS_eq, decide_eq_true (p := (bytesOf b).length ≤ 150) (by rw [L_len]; omega)]
        rfl
      · refine ev_neg h (ev_of ?_)
        rw [decide_eq_false (p := (bytesOf b).length ≤ 150) (by rw [L_len]; omega)]
        rfl
theorem spec_nm (x : Int) : decide ((97 ≤ x ∧ x ≤ 122) ∨ (65 ≤ x ∧ x ≤ 90) ∨ (48 ≤ x ∧ x ≤ 57)) = true ∨ x = 45 ↔ isNm x = true := by
  simp only [isNm, decide_eq_true_eq]
  omega
theorem spec_l3Name_l0 (s : ByteArray) (hs : s.size ≤ 1048576) : ∀ (d i : Nat), i + d = s.size → 1 ≤ i → i ≤ 31 → Ev (fun k => spec_l3Name.l0 k s (i : Int)) (decide (s.size ≤ 30) && ((bytesOf s).drop i).all isNm) := by
  intro d
  induction d with
  | zero =>
    intro i hi h1 h31
    refine ev_succ ?_
    simp only [spec_l3Name.l0]
    refine ev_neg (by omega) (ev_succ ?_)
    simp only [spec_l3Name.j1, Bool.false_eq_true, if_false]
    rw [L_drop_nil s i (by omega), List.all_nil, Bool.and_true]
    exact ev_pos (by omega) (ev_of (congrArg some (decide_eq_decide.2 (by omega))))
  | succ d ih =>
    intro i hi h1 h31
    refine ev_succ ?_
    simp only [spec_l3Name.l0]
    refine ev_pos (by omega) (ev_succ ?_)
    by_cases h0 : (i : Int) ≤ 30
    · simp only [decide_eq_true h0, spec_l3Name.j1, if_true]
      rw [L_drop s i (by omega), List.all_cons, wrap_succ i (by omega)]
      have hiff := spec_nm (bt s i)
      have hgo := ih (i + 1) (by omega) (by omega) (by omega)
      refine ev_pos (by omega) (ev_pos (by omega) (ev_bind1 (spec_l1Letter_eq _) ?_))
      cases hn : isNm (bt s i) with
      | true =>
        rw [Bool.true_and]
        by_cases h2 : decide ((97 ≤ bt s i ∧ bt s i ≤ 122) ∨ (65 ≤ bt s i ∧ bt s i ≤ 90) ∨ (48 ≤ bt s i ∧ bt s i ≤ 57)) = true
        · exact ev_pos h2 (ev_neg (by omega) hgo)
        · exact ev_neg h2 (ev_pos ((hiff.2 hn).resolve_left h2) (ev_neg (by omega) hgo))
      | false =>
        have h3 : ¬ _ := fun h => by have := hiff.1 h; rw [hn] at this; cases this
        rw [Bool.false_and, Bool.and_false]
        exact ev_neg (fun h => h3 (.inl h)) (ev_neg (fun h => h3 (.inr h)) (Ev.now _))
    · simp only [decide_eq_false h0, spec_l3Name.j1, Bool.false_eq_true, if_false]
      rw [decide_eq_false (p := s.size ≤ 30) (by omega), Bool.false_and]
      exact ev_pos (by omega) (ev_of (congrArg some (decide_eq_false (by omega))))
theorem spec_l3Name_ev (s : ByteArray) (hs : s.size ≤ 1048576) : Ev (fun k => spec_l3Name.f k s) (nameOk (bytesOf s)) := by
  unfold spec_l3Name.f nameOk
  rw [L_len]
  refine ev_succ ?_
  simp only [spec_l3Name.l0]
  by_cases h0 : 0 < s.size
  · obtain ⟨r, e⟩ := head_bt s h0
    have er : r = (bytesOf s).drop 1 := by rw [e]; rfl
    have hgo := spec_l3Name_l0 s hs (s.size - 1) 1 (by omega) (by omega) (by omega)
    have hw : wrap64 ((0 : Int) + 1) = ((1 : Nat) : Int) := by unfold wrap64; omega
    refine ev_pos (by omega) (ev_succ ?_)
    simp only [show decide ((0 : Int) ≤ 30) = true from rfl, spec_l3Name.j1, if_true]
    rw [e, hw]
    simp only [List.all_cons]
    have hiff := spec_nm (bt s 0)
    have key : (decide (1 ≤ s.size ∧ s.size ≤ 30) && (isLet (bt s 0) && (isNm (bt s 0) && r.all isNm))) = (if isLet (bt s 0) = true then (decide (s.size ≤ 30) && r.all isNm) else false) := by
      cases hl : isLet (bt s 0) with
      | true =>
        have : isNm (bt s 0) = true := by
          simp only [isLet, isNm, decide_eq_true_eq] at hl ⊢
          omega
        rw [this, if_pos rfl, Bool.true_and, Bool.true_and]
        congr 1
        exact decide_eq_decide.2 (by omega)
      | false => simp
    rw [key, er]
    have hlet : isLet (bt s 0) = true ↔ (97 ≤ bt s 0 ∧ bt s 0 ≤ 122) ∨ (65 ≤ bt s 0 ∧ bt s 0 ≤ 90) := by simp [isLet]
    refine ev_pos (by omega) (ev_pos (by omega) (ev_bind1 (spec_l1Letter_eq _) ?_))
    by_cases h2 : decide ((97 ≤ bt s 0 ∧ bt s 0 ≤ 122) ∨ (65 ≤ bt s 0 ∧ bt s 0 ≤ 90) ∨ (48 ≤ bt s 0 ∧ bt s 0 ≤ 57)) = true
    · have h2' := of_decide_eq_true h2
      refine ev_pos h2 ?_
      by_cases h3 : bt s 0 ≤ 57
      · rw [if_neg (fun h => by have := hlet.1 h; omega)]
        exact ev_pos h3 (Ev.now _)
      · rw [if_pos (hlet.2 (by omega))]
        exact ev_neg h3 hgo
    · have h2' : ¬ _ := fun h => h2 (decide_eq_true h)
      rw [if_neg (fun h => h2' (by have := hlet.1 h; omega))]
      refine ev_neg h2 ?_
      by_cases h4 : bt s 0 = 45
      · exact ev_pos h4 (ev_pos (by omega) (Ev.now _))
      · exact ev_neg h4 (Ev.now _)
  · refine ev_neg (by omega) (ev_succ ?_)
    simp only [spec_l3Name.j1, Bool.false_eq_true, if_false]
    rw [decide_eq_false (p := 1 ≤ s.size ∧ s.size ≤ 30) (by omega), Bool.false_and]
    exact ev_neg (by omega) (Ev.now _)
theorem spec_FieldValid_ev (a b : ByteArray) (ha : a.size ≤ 1048576) (hb : b.size ≤ 1048576) : Ev (fun k => spec_FieldValid.f k a b) (fieldOk (bytesOf a) (bytesOf b)) := by
  unfold spec_FieldValid.f fieldOk
  refine ev_bind (spec_l3Name_ev a ha) ?_
  cases nameOk (bytesOf a) with
  | false => exact ev_neg (by decide) (Ev.now _)
  | true =>
    refine ev_pos rfl (ev_bind (spec_TextValid_ev b (by omega)) ?_)
    cases textOk (bytesOf b) with
    | false => exact ev_neg (by decide) (Ev.now _)
    | true =>
      refine ev_pos rfl ?_
      by_cases h : (b.size : Int) ≤ 150
      · refine ev_pos h (ev_bind (spec_l2Trim_ev b hb) (ev_of ?_))
        rw [trimS_eq, decide_eq_true (p := (bytesOf b).length ≤ 150) (by rw [L_len]; omega)]
        rfl
      · refine ev_neg h (ev_of ?_)
        rw [decide_eq_false (p := (bytesOf b).length ≤ 150) (by rw [L_len]; omega)]
        rfl
/-- Each of them small. -/
def smV (l : List S25) : Prop := ∀ x ∈ l, x.f0.size ≤ 1048576 ∧ x.f1.size ≤ 1048576
theorem smV_smF {l : List S25} (h : smV l) : smF l := fun x hx => by have := (h x hx).1; omega
theorem smV_put {l : List S25} (h : smV l) {a b : ByteArray} (ha : a.size ≤ 1048576) (hb : b.size ≤ 1048576) : smV (putO l a b) := by
  intro x hx
  rcases put_cases l a b with ⟨_, _, e⟩ | ⟨j, hj, _, _, _, e⟩
  · rw [e] at hx
    rcases List.mem_append.1 hx with hx | hx
    · exact h x hx
    · obtain rfl : x = ⟨a, b⟩ := by simpa using hx
      exact ⟨ha, hb⟩
  · rw [e] at hx
    rcases List.mem_or_eq_of_mem_set hx with hx | hx
    · exact h x hx
    · rw [hx]; exact ⟨(h _ (List.getElem_mem hj)).1, hb⟩
theorem fsOk_any (l : List S25) : (!(l.any fun x => !fOk x)) = l.all fOk := by rw [List.not_any_eq_all_not]; simp
theorem impl_fieldsValid_ev (l : List S25) (h : smV l) : Ev (fun k => impl_fieldsValid.f k l) (fsOk l) := by
  unfold impl_fieldsValid.f fsOk
  by_cases hz : (l.length : Int) ≤ 20
  · rw [decide_eq_true (p := l.length ≤ 20) (by omega), Bool.true_and]
    have ha : Ev (fun k => anyO (fun x : S25 => impl_fieldsValid_1.f k x.f0 x.f1) l) (l.any fun x => !fOk x) := by
      refine ev_anyO l fun x hm => ?_
      obtain ⟨h1, h2⟩ := h x hm
      unfold impl_fieldsValid_1.f
      exact ev_bind (impl_FieldValid_ev x.f0 x.f1 h1 h2) (Ev.now _)
    refine ev_pos hz (ev_bind ha (ev_of ?_))
    rw [fsOk_any]
  · rw [decide_eq_false (p := l.length ≤ 20) (by omega), Bool.false_and]
    exact ev_neg hz (Ev.now _)
theorem spec_l3Valid_l0 (l : List S25) (h : smV l) (hz : l.length ≤ 1000000000000) : ∀ (d i : Nat), i + d = l.length → i ≤ 21 → Ev (fun k => spec_l3Valid.l0 k l (i : Int)) (decide (l.length ≤ 20) && (l.drop i).all fOk) := by
  intro d
  induction d with
  | zero =>
    intro i hi h21
    refine ev_succ ?_
    simp only [spec_l3Valid.l0]
    rw [List.drop_eq_nil_of_le (by omega), List.all_nil, Bool.and_true]
    refine ev_neg (by omega) (ev_succ ?_)
    simp only [spec_l3Valid.j1, Bool.false_eq_true, if_false]
    exact ev_of (congrArg some (decide_eq_decide.2 (by omega)))
  | succ d ih =>
    intro i hi h21
    have hlt : i < l.length := by omega
    refine ev_succ ?_
    simp only [spec_l3Valid.l0]
    refine ev_pos (by omega) (ev_succ ?_)
    by_cases h0 : (i : Int) ≤ 20
    · simp only [decide_eq_true h0, spec_l3Valid.j1, if_true]
      rw [rdF l i hlt, wrap_up i (by omega), List.drop_eq_getElem_cons hlt, List.all_cons]
      obtain ⟨h1, h2⟩ := h _ (List.getElem_mem hlt)
      refine ev_pos (by omega) (ev_pos (by omega) (ev_bind (spec_FieldValid_ev l[i].f0 l[i].f1 h1 h2) ?_))
      by_cases hf : fOk l[i] = true
      · rw [hf, Bool.true_and]
        exact ev_pos hf (ih (i + 1) (by omega) (by omega))
      · rw [show fOk l[i] = false by simpa using hf, Bool.false_and, Bool.and_false]
        exact ev_neg hf (Ev.now _)
    · simp only [decide_eq_false h0, spec_l3Valid.j1, Bool.false_eq_true, if_false]
      rw [decide_eq_false (p := l.length ≤ 20) (by omega), Bool.false_and]
      exact ev_of (congrArg some (decide_eq_false (by omega)))
theorem spec_l3Valid_ev (l : List S25) (h : smV l) (hz : l.length ≤ 1000000000000) : Ev (fun k => spec_l3Valid.f k l) (fsOk l) := by
  unfold spec_l3Valid.f fsOk
  exact spec_l3Valid_l0 l h hz l.length 0 (by omega) (by omega)
theorem impl_PutField_j0 (l o : List S25) (a b : ByteArray) (h : smV l) (ho : smV o) (ha : a.size ≤ 1048576) (hb : b.size ≤ 1048576) : Ev (fun k => impl_PutField.j0 k l o a b) (if fieldOk (bytesOf a) (bytesOf b) = true ∧ fsOk l = true ∧ fsOk o = true then (o, true) else ([], false)) := by
  refine ev_succ ?_
  simp only [impl_PutField.j0]
  refine ev_bind (impl_FieldValid_ev a b ha hb) ?_
  by_cases h1 : fieldOk (bytesOf a) (bytesOf b) = true
  · refine ev_pos h1 (ev_bind (impl_fieldsValid_ev l h) ?_)
    by_cases h2 : fsOk l = true
    · refine ev_pos h2 (ev_bind (impl_fieldsValid_ev o ho) ?_)
      by_cases h3 : fsOk o = true
      · exact ev_pos h3 (ev_of (congrArg some (if_pos ⟨h1, h2, h3⟩).symm))
      · exact ev_neg h3 (ev_of (congrArg some (if_neg fun e => h3 e.2.2).symm))
    · exact ev_neg h2 (ev_of (congrArg some (if_neg fun e => h2 e.2.1).symm))
  · exact ev_neg h1 (ev_of (congrArg some (if_neg fun e => h1 e.1).symm))
theorem impl_PutField_ev (l : List S25) (a b : ByteArray) (hz : l.length ≤ 1000000000000) (h : smV l) (ha : a.size ≤ 1048576) (hb : b.size ≤ 1048576) : Ev (fun k => impl_PutField.f k l a b) (putV l a b) := by
  have hp := smV_put h ha hb
  have hj := impl_PutField_j0 l (putO l a b) a b h hp ha hb
  unfold impl_PutField.f slices_Clone_impl_Field_impl_Field.f
  refine ev_bind1 (if_pos (by omega)) (ev_bind1 (impl_fieldPlace_eq l a (smV_smF h) (by omega)) ?_)
  rcases put_cases l a b with ⟨h1, _, e⟩ | ⟨j, hj', h1, _, _, e⟩
  · refine ev_neg (by omega) (ev_pos (by omega) ?_)
    rw [e] at hj
    unfold putV
    rw [e]
    exact hj
  · rw [h1, Int.toNat_natCast, rdF l j hj']
    refine ev_pos (by omega) (ev_pos (by omega) (ev_pos (by omega) ?_))
    rw [e] at hj
    unfold putV
    rw [e]
    exact hj
theorem fsOk_put {l : List S25} {a b : ByteArray} (hf : fieldOk (bytesOf a) (bytesOf b) = true) (h : fsOk l = true) : fsOk (putO l a b) = decide ((putO l a b).length ≤ 20) := by
  unfold fsOk
  rw [List.all_eq_true.2 (putO_all hf (fsOk_iff.1 h).2), Bool.and_true]
theorem spec_PutField_ev (l : List S25) (a b : ByteArray) (hz : l.length ≤ 1000000000000) (h : smV l) (ha : a.size ≤ 1048576) (hb : b.size ≤ 1048576) : Ev (fun k => spec_PutField.f k l a b) (putV l a b) := by
  unfold spec_PutField.f putV
  refine ev_bind (spec_l3Valid_ev l h hz) ?_
  by_cases h2 : fsOk l = true
  · refine ev_pos h2 (ev_bind (spec_FieldValid_ev a b ha hb) (ev_succ ?_))
    by_cases h1 : fieldOk (bytesOf a) (bytesOf b) = true
    · rw [h1]
      simp only [spec_PutField.j0, Bool.not_true, Bool.false_eq_true, if_false]
      refine ev_bind1 rfl (ev_pos (by simp only [List.length_nil]; omega) (ev_bind1 rfl (ev_bind (spec_l3Find_ev l a hz (smV_smF h) (by omega)) ?_)))
      rw [List.nil_append, fsOk_put h1 h2]
      have hl := (fsOk_iff.1 h2).1
      rcases put_cases l a b with ⟨g1, _, e⟩ | ⟨j, hj', g1, _, _, e⟩
      · rw [e, g1]
        refine ev_neg (by omega) ?_
        by_cases h20 : (l.length : Int) = 20
        · refine ev_pos h20 (ev_of (congrArg some (if_neg fun hh => ?_).symm))
          have := hh.2.2
          simp only [List.length_append, List.length_cons, List.length_nil, decide_eq_true_eq] at this
          omega
        · exact ev_neg h20 (ev_pos (by omega) (ev_of (congrArg some (if_pos ⟨by trivial, h2, decide_eq_true (by simp only [List.length_append, List.length_cons, List.length_nil]; omega)⟩).symm)))
      · rw [e, g1, Int.toNat_natCast, rdF l j hj']
        exact ev_pos (by omega) (ev_pos (by omega) (ev_pos (by omega) (ev_of (congrArg some (if_pos ⟨by trivial, h2, decide_eq_true (by rw [List.length_set]; exact hl)⟩).symm))))
    · rw [show fieldOk (bytesOf a) (bytesOf b) = false by simpa using h1]
      simp only [spec_PutField.j0, Bool.not_false, if_true]
      exact ev_of (congrArg some (if_neg fun e => by cases e.1).symm)
  · refine ev_neg h2 (ev_succ ?_)
    simp only [spec_PutField.j0, if_true]
    exact ev_of (congrArg some (if_neg fun e => h2 e.2.1).symm)
theorem szField_eq (a b : ByteArray) (n : Int) (hn : n ≤ 1048576) (h0 : 0 ≤ n) (ha : a.size ≤ 9223372036854775807) (hb : b.size ≤ 9223372036854775807) : ∃ r, laws_szField.f a b n = some r ∧ r ≤ n ∧ (0 ≤ r → (a.size : Int) ≤ n ∧ (b.size : Int) ≤ n) := by
  unfold laws_szField.f
  rw [wrap_id (x := n - (a.size : Int)) (by omega) (by omega)]
  by_cases h1 : n - (a.size : Int) < 0
  · rw [if_pos h1]; exact ⟨_, rfl, by omega, fun h => by omega⟩
  rw [if_neg h1, wrap_id (x := n - (a.size : Int) - (b.size : Int)) (by omega) (by omega)]
  by_cases h2 : n - (a.size : Int) - (b.size : Int) < 0
  · rw [if_pos h2]; exact ⟨_, rfl, by omega, fun h => by omega⟩
  rw [if_neg h2]
  exact ⟨_, rfl, by omega, fun _ => by omega⟩
theorem rdFL (l : List S35) (i : Nat) (h : i < l.length) : rd_T35 l (i : Int) = l[i] := by
  rw [rd_T35, Int.toNat_natCast, List.getD_eq_getElem?_getD, List.getElem?_eq_getElem h]
  rfl
def toF (x : S35) : S25 := ⟨x.f0, x.f1⟩
theorem toFieldS_l0 (a : List S35) (hz : a.length ≤ 1000000000000) : ∀ (d i : Nat) (b : List S25), i + d = a.length → b.length = a.length → b.take i = (a.map toF).take i → Ev (fun k => laws_toFieldS.l0 k a b (i : Int)) (a.map toF) := by
  intro d
  induction d with
  | zero =>
    intro i b hi hl ht
    refine ev_succ ?_
    simp only [laws_toFieldS.l0]
    rw [List.take_of_length_le (by omega), List.take_of_length_le (by simp; omega)] at ht
    rw [← ht]
    exact ev_neg (by omega) (Ev.now _)
  | succ d ih =>
    intro i b hi hl ht
    have ha : i < a.length := by omega
    refine ev_succ ?_
    simp only [laws_toFieldS.l0]
    rw [rdFL a i ha, wrap_up i (by omega)]
    refine ev_pos (by omega) (ev_pos (by omega) (ev_bind1 (show laws_toField.f a[i].f0 a[i].f1 = some (a[i].f0, a[i].f1) from rfl) (ev_pos (by omega) ?_)))
    rw [Int.toNat_natCast]
    refine ih (i + 1) _ (by omega) (by simpa using hl) ?_
    rw [List.take_succ_eq_append_getElem (by simp; omega), List.take_succ_eq_append_getElem (by simp; omega), List.take_set_of_le (by omega), ht, List.getElem_set_self, List.getElem_map]
    rfl
theorem toFieldS_ev (a : List S35) (hz : a.length ≤ 1000000000000) : Ev (fun k => laws_toFieldS.f k a) (a.map toF) := by
  unfold laws_toFieldS.f
  refine ev_pos (by omega) (ev_pos (by omega) ?_)
  rw [Int.toNat_natCast]
  exact toFieldS_l0 a hz a.length 0 _ (by omega) (by simp) (by simp)
theorem szFieldS_l0 (a : List S35) (hz : a.length ≤ 1000000000000) (hs : ∀ x ∈ a, x.f0.size ≤ 9223372036854775807 ∧ x.f1.size ≤ 9223372036854775807) : ∀ (d i : Nat) (n : Int), i + d = a.length → 0 ≤ n → n ≤ 1048576 → ∃ r, Ev (fun k => laws_szFieldS.l0 k a n (i : Int)) r ∧ r ≤ n ∧ (0 ≤ r → ∀ x ∈ a.drop i, (x.f0.size : Int) ≤ n ∧ (x.f1.size : Int) ≤ n) := by
  intro d
  induction d with
  | zero =>
    intro i n hi h0 hn
    refine ⟨n, ev_succ ?_, by omega, ?_⟩
    · simp only [laws_szFieldS.l0]
      exact ev_neg (by omega) (Ev.now _)
    · rw [List.drop_eq_nil_of_le (by omega)]
      simp
  | succ d ih =>
    intro i n hi h0 hn
    have ha : i < a.length := by omega
    obtain ⟨g1, g2⟩ := hs a[i] (List.getElem_mem ha)
    obtain ⟨r, e1, h1, h2⟩ := szField_eq a[i].f0 a[i].f1 n hn h0 g1 g2
    by_cases h3 : r < 0
    · refine ⟨-1, ev_succ ?_, by omega, fun h => by omega⟩
      simp only [laws_szFieldS.l0]
      rw [rdFL a i ha]
      exact ev_pos (by omega) (ev_pos (by omega) (ev_bind1 e1 (ev_pos h3 (Ev.now _))))
    · obtain ⟨r', e2, h4, h5⟩ := ih (i + 1) r (by omega) (by omega) (by omega)
      refine ⟨r', ev_succ ?_, by omega, fun h => ?_⟩
      · simp only [laws_szFieldS.l0]
        rw [rdFL a i ha, wrap_up i (by omega)]
        exact ev_pos (by omega) (ev_pos (by omega) (ev_bind1 e1 (ev_neg h3 e2)))
      · rw [List.drop_eq_getElem_cons ha]
        intro x hx
        rcases List.mem_cons.1 hx with e | hx
        · rw [e]; exact h2 (by omega)
        · have := h5 h x hx
          omega
/-- Too much, or what has a size. -/
theorem szFieldS_ev (a : List S35) (n : Int) (hn : n ≤ 1048576) (h0 : 0 ≤ n) (hz : a.length ≤ 9223372036854775807) (hs : ∀ x ∈ a, x.f0.size ≤ 9223372036854775807 ∧ x.f1.size ≤ 9223372036854775807) : ∃ r, Ev (fun k => laws_szFieldS.f k a n) r ∧ r ≤ n ∧ (0 ≤ r → (a.length : Int) ≤ n ∧ ∀ x ∈ a, (x.f0.size : Int) ≤ n ∧ (x.f1.size : Int) ≤ n) := by
  unfold laws_szFieldS.f
  rw [wrap_id (x := n - (a.length : Int)) (by omega) (by omega)]
  by_cases h : n - (a.length : Int) < 0
  · exact ⟨-1, ev_pos h (Ev.now _), by omega, fun h => by omega⟩
  · obtain ⟨r, e1, h1, h2⟩ := szFieldS_l0 a (by omega) hs a.length 0 (n - (a.length : Int)) (by omega) (by omega) (by omega)
    refine ⟨r, ev_neg h e1, by omega, fun h3 => ⟨by omega, fun x hx => ?_⟩⟩
    have := h2 h3 x (by simpa using hx)
    omega
theorem eqField_eq (a b : S25) : laws_eqField.f a.f0 a.f1 b.f0 b.f1 = some (decide (a = b)) := by
  unfold laws_eqField.f
  by_cases h : a.f0 = b.f0
  · rw [if_pos (toList_iff.2 h)]
    by_cases h' : a.f1 = b.f1
    · rw [if_pos (toList_iff.2 h')]
      exact congrArg some (decide_eq_true (extF.2 ⟨h, h'⟩)).symm
    · rw [if_neg (fun e => h' (toList_iff.1 e))]
      exact congrArg some (decide_eq_false (fun e => h' (extF.1 e).2)).symm
  · rw [if_neg (fun e => h (toList_iff.1 e))]
    exact congrArg some (decide_eq_false (fun e => h (extF.1 e).1)).symm
theorem eqFieldS_l0 (a b : List S25) (hl : a.length = b.length) (hz : a.length ≤ 1000000000000) : ∀ (d i : Nat), i + d = a.length → Ev (fun k => laws_eqFieldS.l0 k a b (i : Int)) (decide (a.drop i = b.drop i)) := by
  intro d
  induction d with
  | zero =>
    intro i hi
    refine ev_succ ?_
    simp only [laws_eqFieldS.l0]
    rw [List.drop_eq_nil_of_le (by omega), List.drop_eq_nil_of_le (by omega)]
    exact ev_neg (by omega) (Ev.now _)
  | succ d ih =>
    intro i hi
    have ha : i < a.length := by omega
    have hb : i < b.length := by omega
    refine ev_succ ?_
    simp only [laws_eqFieldS.l0]
    rw [rdF a i ha, rdF b i hb, wrap_up i (by omega), List.drop_eq_getElem_cons ha, List.drop_eq_getElem_cons hb]
    refine ev_pos (by omega) (ev_pos (by omega) (ev_pos (by omega) (ev_bind1 (eqField_eq a[i] b[i]) ?_)))
    by_cases h : a[i] = b[i]
    · refine ev_pos (by simp [h]) (ev_cast (ih (i + 1) (by omega)) ?_)
      exact decide_eq_decide.2 ⟨fun e => by rw [h, e], fun e => (List.cons.inj e).2⟩
    · refine ev_neg (by simp [h]) (ev_of ?_)
      exact congrArg some (decide_eq_false (fun e => h (List.cons.inj e).1)).symm
theorem eqFieldS_ev (a b : List S25) (hz : a.length ≤ 1000000000000) : Ev (fun k => laws_eqFieldS.f k a b) (decide (a = b)) := by
  unfold laws_eqFieldS.f
  by_cases hl : a.length = b.length
  · exact ev_pos (by omega) (eqFieldS_l0 a b hl hz a.length 0 (by omega))
  · refine ev_neg (by omega) (ev_of ?_)
    exact congrArg some (decide_eq_false (fun e => hl (by rw [e]))).symm
theorem markText_l0 : ∀ (n : Nat) (x : Int) (t : ByteArray), x < n → 0 ≤ x → x ≤ 1000000000000 → t.size + x ≤ 1000000000000000 → ∃ r, Ev (fun k => laws_markText.l0 k x t) r := by
  intro n
  induction n with
  | zero => intro x t h1 h2; omega
  | succ n ih =>
    intro x t h1 h2 h3 h4
    by_cases h0 : x > 0
    · have e : wrap64 (Int.tdiv x 10) = x / 10 := by rw [Int.tdiv_eq_ediv_of_nonneg h2]; exact wrap_id (by omega) (by omega)
      have hsz : (strOfNums [(wrap64 (48 + (Int.tmod x 10))) % 256] ++ t).size = 1 + t.size := by rw [size_append, S_size]; rfl
      obtain ⟨r, hr⟩ := ih (x / 10) (strOfNums [(wrap64 (48 + (Int.tmod x 10))) % 256] ++ t) (by omega) (by omega) (by omega) (by rw [hsz]; omega)
      refine ⟨r, ev_succ ?_⟩
      simp only [laws_markText.l0]
      refine ev_pos h0 (ev_bind1 rfl (ev_pos (by rw [S_size]; simp; omega) ?_))
      rw [e]
      exact hr
    · refine ⟨(⟨#[109]⟩ : ByteArray) ++ t, ev_succ ?_⟩
      simp only [laws_markText.l0]
      exact ev_neg h0 (ev_pos (by omega) (Ev.now _))
theorem markText_some (x : Int) (h : x ≤ 1000000000000) : ∃ r, Ev (fun k => laws_markText.f k x) r := by
  unfold laws_markText.f
  by_cases h0 : x ≤ 0
  · exact ⟨(⟨#[109, 48]⟩ : ByteArray), ev_pos h0 (Ev.now _)⟩
  · obtain ⟨r, hr⟩ := markText_l0 (x + 1).toNat x (⟨#[]⟩ : ByteArray) (by omega) (by omega) h (by show ((0 : Nat) : Int) + x ≤ _; omega)
    exact ⟨r, ev_neg h0 hr⟩
noncomputable def mkT (x : Int) : ByteArray := by
  classical
  exact if h : ∃ r, Ev (fun k => laws_markText.f k x) r then h.choose else ByteArray.empty
theorem mkT_ev (x : Int) (h : x ≤ 1000000000000) : Ev (fun k => laws_markText.f k x) (mkT x) := by
  have h' := markText_some x h
  unfold mkT
  rw [dif_pos h']
  exact h'.choose_spec
theorem markF_l0 : ∀ (d : Nat) (i : Nat) (l : List S25) (a : Int), i + d = l.length → l.length ≤ 10000000000 → 0 ≤ a → a ≤ 10000000000 + 2 * i → ∃ l', Ev (fun k => laws_markFieldS.l0 k l a (i : Int)) (a + 2 * d, l') ∧ l'.length = l.length ∧ (∀ j, j < i → l'[j]? = l[j]?) ∧ ∀ j, i ≤ j → j < l.length → l'[j]? = some ⟨mkT (a + 2 * (j - i : Nat)), mkT (a + 2 * (j - i : Nat) + 1)⟩ := by
  intro d
  induction d with
  | zero =>
    intro i l a hi hl h0 h1
    refine ⟨l, ev_succ ?_, rfl, fun _ _ => rfl, fun j h2 h3 => by omega⟩
    simp only [laws_markFieldS.l0]
    rw [show a + 2 * ((0 : Nat) : Int) = a by omega]
    exact ev_neg (by omega) (Ev.now _)
  | succ d ih =>
    intro i l a hi hl h0 h1
    obtain ⟨l', he, hlen, hlo, hhi⟩ := ih (i + 1) (l.set i ⟨mkT a, mkT (a + 1)⟩) (a + 1 + 1) (by rw [List.length_set]; omega) (by rw [List.length_set]; omega) (by omega) (by omega)
    rw [List.length_set] at hlen hhi
    refine ⟨l', ev_succ ?_, hlen, fun j hj => ?_, fun j h2 h3 => ?_⟩
    · simp only [laws_markFieldS.l0]
      rw [wrap_up i (by omega), Int.toNat_natCast, wrap_id (x := a + 1) (by omega) (by omega), wrap_id (x := a + 1 + 1) (by omega) (by omega)]
      refine ev_pos (by omega) (ev_bind (mkT_ev a (by omega)) (ev_pos (by omega) (ev_bind1 rfl (ev_bind (mkT_ev (a + 1) (by omega)) ?_))))
      rw [rdF (l.set i (⟨mkT a, (rd_T25 l (i : Int)).f1⟩ : S25)) i (by rw [List.length_set]; omega), List.getElem_set_self, List.set_set]
      refine ev_cast he ?_
      rw [show a + 2 * ((d + 1 : Nat) : Int) = a + 1 + 1 + 2 * (d : Int) by omega]
    · rw [hlo j (by omega), List.getElem?_set_ne (by omega)]
    · by_cases hji : j = i
      · subst hji
        rw [hlo j (by omega), List.getElem?_set_self (by omega), Nat.sub_self]
        simp
      · rw [hhi j (by omega) (by omega), show (a + 1 + 1 + 2 * ((j - (i + 1) : Nat) : Int)) = a + 2 * ((j - i : Nat) : Int) by omega]
theorem heldF_l0 (l' : List S25) (hl : l'.length ≤ 10000000000) : ∀ (d : Nat) (i : Nat) (a : Int), i + d = l'.length → 0 ≤ a → a ≤ 10000000000 + 2 * i → (∀ j, i ≤ j → j < l'.length → l'[j]? = some ⟨mkT (a + 2 * (j - i : Nat)), mkT (a + 2 * (j - i : Nat) + 1)⟩) → Ev (fun k => laws_heldFieldS.l0 k l' a (i : Int)) (a + 2 * d) := by
  intro d
  induction d with
  | zero =>
    intro i a hi h0 h1 h2
    refine ev_succ ?_
    simp only [laws_heldFieldS.l0]
    rw [show a + 2 * ((0 : Nat) : Int) = a by omega]
    exact ev_neg (by omega) (Ev.now _)
  | succ d ih =>
    intro i a hi h0 h1 h2
    have hlt : i < l'.length := by omega
    have hg := h2 i (Nat.le_refl _) hlt
    rw [List.getElem?_eq_getElem hlt, Nat.sub_self, show a + 2 * ((0 : Nat) : Int) = a by omega] at hg
    have hg := Option.some.inj hg
    refine ev_succ ?_
    simp only [laws_heldFieldS.l0]
    rw [rdF l' i hlt, wrap_up i (by omega), wrap_id (x := a + 1) (by omega) (by omega), wrap_id (x := a + 1 + 1) (by omega) (by omega)]
    refine ev_pos (by omega) (ev_pos (by omega) (ev_bind (mkT_ev a (by omega)) (ev_pos (by rw [hg]) (ev_bind (mkT_ev (a + 1) (by omega)) (ev_pos (by rw [hg]) ?_)))))
    refine ev_cast (ih (i + 1) (a + 1 + 1) (by omega) (by omega) (by omega) fun j h3 h4 => ?_) (by omega)
    rw [h2 j (by omega) h4, show (a + 2 * ((j - i : Nat) : Int)) = a + 1 + 1 + 2 * ((j - (i + 1) : Nat) : Int) by omega]
/-- What is marked is held. -/
theorem markF_held (l : List S25) (hl : l.length ≤ 10000000000) : ∃ l', Ev (fun k => laws_markFieldS.f k l 1) (1 + 2 * (l.length : Int), l') ∧ Ev (fun k => laws_heldFieldS.f k l' 1) (1 + 2 * (l.length : Int)) := by
  obtain ⟨l', h1, h2, _, h4⟩ := markF_l0 l.length 0 l 1 (by omega) hl (by omega) (by omega)
  refine ⟨l', h1, ?_⟩
  have := heldF_l0 l' (by omega) l.length 0 1 (by omega) (by omega) (by omega) (fun j h5 h6 => h4 j h5 (by omega))
  exact this
end Go.Proofs.YtogmkfenplihoaaDoor.Q
