/- Plain lemmas, and what the printed functions come to; no condition. -/
import Derived.Test.YtmehlmhpgbjddaaDoorQH
import Derived.Lib.Strings
import Derived.Lib.Join
import Derived.Test.YtmehlmhpgbjddaaDoorQ0
import Derived.Test.YtmehlmhpgbjddaaDoorQ18
import Derived.Test.YtmehlmhpgbjddaaDoorQ2
import Derived.Test.YtmehlmhpgbjddaaDoorQ5
import Derived.Test.YtmehlmhpgbjddaaDoorQ6
import Derived.Test.YtmehlmhpgbjddaaDoorQ7
import Derived.Test.YtmehlmhpgbjddaaDoorQ8
import Derived.Test.YtmehlmhpgbjddaaDoorQ9
set_option linter.unusedVariables false
set_option linter.unusedSimpArgs false
namespace Go.Proofs.YtmehlmhpgbjddaaDoor.Q
open Go.RowKit Go.Proofs.YtmehlmhpgbjddaaDoorV.PrintWords Go.Proofs.YtmehlmhpgbjddaaDoorV.PrintLast Go.Proofs.YtmehlmhpgbjddaaDoorV.PrintMore
def IsB (l : List Int) : Prop := ∀ x ∈ l, 0 ≤ x ∧ x ≤ 255
theorem IsB.nil : IsB [] := by intro x hx; cases hx
theorem IsB.cons {x : Int} {l : List Int} (h1 : 0 ≤ x ∧ x ≤ 255) (h2 : IsB l) : IsB (x :: l) := by
 intro y hy
 rcases List.mem_cons.1 hy with rfl | hy
 ·exact h1
 ·exact h2 y hy
theorem IsB.sub {a b : List Int} (h : IsB a) (hs : ∀ x ∈ b, x ∈ a) : IsB b := fun x hx => h x (hs x hx)
theorem IsB.take {a : List Int} (h : IsB a) (n : Nat) : IsB (a.take n) := h.sub fun _ hx => List.mem_of_mem_take hx
theorem IsB.drop {a : List Int} (h : IsB a) (n : Nat) : IsB (a.drop n) := h.sub fun _ hx => List.mem_of_mem_drop hx
theorem L_IsB (s : ByteArray) : IsB (bytesOf s) := by
 intro x hx
 simp only [bytesOf, List.mem_map] at hx
 obtain ⟨b, _, rfl⟩ := hx
 have := b.toNat_lt
 omega
theorem L_len (s : ByteArray) : (bytesOf s).length = s.size := bytesOf_length s
theorem S_L (s : ByteArray) : strOfNums (bytesOf s) = s := by
 apply ByteArray.ext
 apply Array.ext'
 rw [strOfNums_data, bytesOf, List.map_map]
 have : ((fun n : Int => UInt8.ofNat n.toNat) ∘ fun b : UInt8 => (b.toNat : Int)) = id := by
  funext b
  simp
 rw [this, List.map_id]
theorem L_S {l : List Int} (h : IsB l) : bytesOf (strOfNums l) = l := by
 rw [bytesOf, strOfNums_data, List.map_map]
 have : ∀ x ∈ l, ((fun b : UInt8 => (b.toNat : Int)) ∘ fun n : Int => UInt8.ofNat n.toNat) x = id x := by
  intro x hx
  have := h x hx
  simp only [Function.comp_apply, id, UInt8.toNat_ofNat']
  omega
 rw [List.map_congr_left this, List.map_id]
theorem L_inj {s t : ByteArray} (h : bytesOf s = bytesOf t) : s = t := by rw [← S_L s, h, S_L]
theorem L_append (s t : ByteArray) : bytesOf (s ++ t) = bytesOf s ++ bytesOf t := by
 simp only [bytesOf, ByteArray.data_append, Array.toList_append, List.map_append]
theorem L_extract (s : ByteArray) (a b : Nat) : bytesOf (s.extract a b) = ((bytesOf s).drop a).take (b - a) := by
 simp only [bytesOf, Lib.extract_data, List.map_take, List.map_drop]
theorem L_from (s : ByteArray) (a : Nat) : bytesOf (s.extract a s.size) = (bytesOf s).drop a := by
 rw [L_extract, List.take_of_length_le]
 rw [List.length_drop, L_len]; exact Nat.le_refl _
theorem L_to (s : ByteArray) (a : Nat) : bytesOf (s.extract 0 a) = (bytesOf s).take a := by
 rw [L_extract, List.drop_zero, Nat.sub_zero]
theorem toList_iff {s t : ByteArray} : s.toList = t.toList ↔ s = t := by
 constructor
 ·intro h
  rw [Lib.toList_data, Lib.toList_data] at h
  exact ByteArray.ext (Array.ext' h)
 ·intro h; rw [h]
theorem toList_beq (s t : ByteArray) : (s.toList == t.toList) = decide (s = t) := by
 by_cases h : s = t
 ·subst h; simp
 ·rw [decide_eq_false h, beq_eq_false_iff_ne]
  exact fun e => h (toList_iff.1 e)
theorem toList_nil : (⟨#[]⟩ : ByteArray).toList = [] := by rw [Lib.toList_data]
theorem L_iff {s t : ByteArray} : bytesOf s = bytesOf t ↔ s = t := ⟨L_inj, fun h => by rw [h]⟩
theorem size_extract_le (s : ByteArray) (a b : Nat) : (s.extract a b).size ≤ s.size := by
 rw [← L_len, L_extract, ← L_len s, List.length_take, List.length_drop]; omega
theorem bt_get (s : ByteArray) (i : Nat) (h : i < s.size) : (bytesOf s)[i]? = some (bt s i) := by
 rw [List.getElem?_eq_getElem (by rw [L_len]; exact h), bytesOf_at s i h]
theorem L_drop (s : ByteArray) (i : Nat) (h : i < s.size) : (bytesOf s).drop i = bt s i :: (bytesOf s).drop (i + 1) := bytesOf_drop s i h
theorem L_drop_nil (s : ByteArray) (i : Nat) (h : s.size ≤ i) : (bytesOf s).drop i = [] := List.drop_eq_nil_of_le (by rw [L_len]; exact h)
theorem L_nil : bytesOf (⟨#[]⟩ : ByteArray) = [] := rfl
theorem size_nil_iff (s : ByteArray) : s.size = 0 ↔ bytesOf s = [] := by rw [← L_len, List.length_eq_zero_iff]
theorem S_size (l : List Int) : (strOfNums l).size = l.length := strOfNums_size l
theorem S_append (a b : List Int) : strOfNums a ++ strOfNums b = strOfNums (a ++ b) := by
 apply ByteArray.ext
 apply Array.ext'
 simp only [ByteArray.data_append, Array.toList_append, strOfNums_data, List.map_append]
theorem extract_S (s : ByteArray) (a b : Nat) : s.extract a b = strOfNums (((bytesOf s).drop a).take (b - a)) := by rw [← L_extract, S_L]
theorem size_append (s t : ByteArray) : (s ++ t).size = s.size + t.size := by rw [← L_len, L_append, List.length_append, L_len, L_len]
theorem wrap_id {x : Int} (h1 : -9223372036854775808 ≤ x) (h2 : x ≤ 9223372036854775807) : wrap64 x = x := by unfold wrap64; omega
theorem ev_succ {α : Type} {g : Nat → Option α} {r : α} (h : Ev (fun k => g (k + 1)) r) : Ev g r := Ev.step (fun _ => rfl) h
theorem ev_of {α : Type} {g : Option α} {r : α} (h : g = some r) : Ev (fun _ => g) r := ⟨0, fun _ _ => h⟩
theorem ev_bind {α β : Type} {g : Nat → Option α} {f : Nat → α → Option β} {a : α} {r : β} (h : Ev g a) (k : Ev (fun n => f n a) r) : Ev (fun n => (g n).bind fun t => f n t) r := Ev.bind h k
theorem ev_bind1 {α β : Type} {g : Option α} {f : Nat → α → Option β} {a : α} {r : β} (h : g = some a) (k : Ev (fun n => f n a) r) : Ev (fun n => g.bind fun t => f n t) r := by
 subst h; exact k
theorem ev_pos {α : Type} {c : Prop} [Decidable c] {a b : Nat → Option α} {r : α} (hc : c) (h : Ev a r) : Ev (fun k => if c then a k else b k) r := by
 simp only [if_pos hc]; exact h
theorem ev_neg {α : Type} {c : Prop} [Decidable c] {a b : Nat → Option α} {r : α} (hc : ¬ c) (h : Ev b r) : Ev (fun k => if c then a k else b k) r := by
 simp only [if_neg hc]; exact h
theorem ev_cast {α : Type} {g : Nat → Option α} {r r' : α} (h : Ev g r) (e : r = r') : Ev g r' := e ▸ h
def isLet (x : Int) : Bool := decide ((97 ≤ x ∧ x ≤ 122) ∨ (65 ≤ x ∧ x ≤ 90))
def isDig (x : Int) : Bool := decide (48 ≤ x ∧ x ≤ 57)
def isAtm (x : Int) : Bool := decide ((97 ≤ x ∧ x ≤ 122) ∨ (65 ≤ x ∧ x ≤ 90) ∨ (48 ≤ x ∧ x ≤ 57) ∨ x = 33 ∨ (35 ≤ x ∧ x ≤ 39) ∨ x = 42 ∨ x = 43 ∨ x = 45 ∨ x = 47 ∨ x = 61 ∨ x = 63 ∨ (94 ≤ x ∧ x ≤ 96) ∨ (123 ≤ x ∧ x ≤ 126))
def isTxt (x : Int) : Bool := decide (32 ≤ x ∧ x ≤ 126)
def textOk (l : List Int) : Bool := decide (l.length ≤ 200) && l.all isTxt
def atomOk (l : List Int) : Bool := decide (1 ≤ l.length ∧ l.length ≤ 40) && l.all isAtm
/-- Behind an opening quote: the text, and what is behind the closing one. -/
def readQ : List Int → Option (List Int × List Int)
 | [] => none
 | x :: r => if x = 34 then some ([], r) else if x = 92 then (match r with
  | [] => none
  | y :: r' => (readQ r').map fun p => (y :: p.1, p.2)) else (readQ r).map fun p => (x :: p.1, p.2)
theorem atm_ne {x : Int} (h : isAtm x = true) : x ≠ 32 ∧ x ≠ 34 ∧ x ≠ 92 ∧ x ≠ 44 ∧ x ≠ 60 ∧ x ≠ 62 ∧ x ≠ 64 ∧ x ≠ 46 ∧ 32 ≤ x ∧ x ≤ 126 := by
 simp only [isAtm, decide_eq_true_eq] at h
 omega
theorem textOk_iff (l : List Int) : textOk l = true ↔ l.length ≤ 200 ∧ ∀ x ∈ l, 32 ≤ x ∧ x ≤ 126 := by
 simp [textOk, isTxt, List.all_eq_true]
theorem readQ_cons (x : Int) (r : List Int) (h1 : x ≠ 34) (h2 : x ≠ 92) : readQ (x :: r) = (readQ r).map fun p => (x :: p.1, p.2) := by
 rw [readQ.eq_def]
 simp only [if_neg h1, if_neg h2]
theorem readQ_bs (y : Int) (r : List Int) : readQ (92 :: y :: r) = (readQ r).map fun p => (y :: p.1, p.2) := by
 rw [readQ.eq_def]
 simp
theorem readQ_end (r : List Int) : readQ (34 :: r) = some ([], r) := by rw [readQ.eq_def]; simp
theorem readQ_bs_nil : readQ [92] = none := by rw [readQ.eq_def]; simp
/-- Induction along readQ. -/
theorem readQ_ind {p : List Int → Prop} (h0 : p []) (h1 : ∀ r, p (34 :: r)) (h2 : p [92]) (h3 : ∀ y r, p r → p (92 :: y :: r)) (h4 : ∀ x r, x ≠ 34 → x ≠ 92 → p r → p (x :: r)) (l : List Int) : p l := by
 have key : ∀ n, ∀ l : List Int, l.length ≤ n → p l := by
  intro n
  induction n with
  | zero => intro l hl; rw [List.length_eq_zero_iff.1 (Nat.le_zero.1 hl)]; exact h0
  | succ n ih =>
   intro l hl
   match l, hl with
   | [], _ => exact h0
   | x :: r, hl =>
    simp only [List.length_cons] at hl
    by_cases e1 : x = 34
    ·subst e1; exact h1 r
    ·by_cases e2 : x = 92
     ·subst e2
      match r, hl with
      | [], _ => exact h2
      | y :: r', hl => simp only [List.length_cons] at hl; exact h3 y r' (ih r' (by omega))
     ·exact h4 x r e1 e2 (ih r (by omega))
 exact key l.length l (Nat.le_refl _)
theorem readQ_some {l t rest : List Int} (h : readQ l = some (t, rest)) : ∃ pre, l = pre ++ 34 :: rest ∧ t.length ≤ pre.length ∧ ∀ x ∈ t, x ∈ l := by
 revert t rest
 refine readQ_ind (p := fun l => ∀ {t rest}, readQ l = some (t, rest) → ∃ pre, l = pre ++ 34 :: rest ∧ t.length ≤ pre.length ∧ ∀ x ∈ t, x ∈ l) ?_ ?_ ?_ ?_ ?_ l
 ·intro t rest h; cases h
 ·intro r t rest h
  rw [readQ_end] at h
  injection h with h; injection h with h h'
  subst h; subst h'
  exact ⟨[], rfl, by simp, by simp⟩
 ·intro t rest h; rw [readQ_bs_nil] at h; cases h
 ·intro y r ih t rest h
  rw [readQ_bs] at h
  obtain ⟨⟨t', rest'⟩, hq, he⟩ := Option.map_eq_some_iff.1 h
  injection he with h1 h2
  subst h1; subst h2
  obtain ⟨pre, rfl, hl, hm⟩ := ih hq
  refine ⟨92 :: y :: pre, rfl, by simp only [List.length_cons]; omega, fun x hx => ?_⟩
  rcases List.mem_cons.1 hx with rfl | hx
  ·simp
  ·exact List.mem_cons_of_mem _ (List.mem_cons_of_mem _ (hm x hx))
 ·intro y r h1 h2 ih t rest h
  rw [readQ_cons y r h1 h2] at h
  obtain ⟨⟨t', rest'⟩, hq, he⟩ := Option.map_eq_some_iff.1 h
  injection he with h1 h2
  subst h1; subst h2
  obtain ⟨pre, rfl, hl, hm⟩ := ih hq
  refine ⟨y :: pre, rfl, by simp only [List.length_cons]; omega, fun x hx => ?_⟩
  rcases List.mem_cons.1 hx with rfl | hx
  ·simp
  ·exact List.mem_cons_of_mem _ (hm x hx)
theorem readQ_lt {l t rest : List Int} (h : readQ l = some (t, rest)) : rest.length < l.length := by
 obtain ⟨pre, rfl, _, _⟩ := readQ_some h
 simp only [List.length_append, List.length_cons]
 omega
/-- What is written: atoms and texts in quotes, divided by spaces; ap: may a word begin here? -/
def words (ap : Bool) (l : List Int) : Option (List (List Int)) :=
 match l with
 | [] => some []
 | x :: r => if x = 32 then words true r else if ap = false then none else if x = 34 then
   (match h : readQ r with
   | none => none
   | some (w, r') => (words false r').map (w :: ·))
  else if isAtm x = true then (words false (r.dropWhile isAtm)).map ((x :: r.takeWhile isAtm) :: ·) else none
termination_by l.length
decreasing_by
 ·simp only [List.length_cons]; omega
 ·have := readQ_lt h; simp only [List.length_cons]; omega
 ·have : (r.dropWhile isAtm).length ≤ r.length := (List.dropWhile_suffix _).length_le
  simp only [List.length_cons]; omega
theorem words_nil (ap : Bool) : words ap [] = some [] := by rw [words.eq_def]
theorem words_sp (ap : Bool) (r : List Int) : words ap (32 :: r) = words true r := by rw [words.eq_def]; simp
theorem words_glued (x : Int) (r : List Int) (h : x ≠ 32) : words false (x :: r) = none := by rw [words.eq_def]; simp [h]
theorem words_q_none (r : List Int) (h : readQ r = none) : words true (34 :: r) = none := by
 rw [words.eq_def]
 simp only [show ¬ (34 : Int) = 32 by decide, if_false, reduceCtorEq, if_true]
 split
 ·rfl
 ·rename_i h2; rw [h] at h2; cases h2
theorem words_q (r w r' : List Int) (h : readQ r = some (w, r')) : words true (34 :: r) = (words false r').map (w :: ·) := by
 rw [words.eq_def]
 simp only [show ¬ (34 : Int) = 32 by decide, if_false, reduceCtorEq, if_true]
 split
 ·rename_i h2; rw [h] at h2; cases h2
 ·rename_i h2; rw [h] at h2; injection h2 with h2; injection h2 with h3 h4; subst h3; subst h4; rfl
theorem words_atm (x : Int) (r : List Int) (h : isAtm x = true) : words true (x :: r) = (words false (r.dropWhile isAtm)).map ((x :: r.takeWhile isAtm) :: ·) := by
 have := atm_ne h
 rw [words.eq_def]
 simp only [this.1, this.2.1, if_false, reduceCtorEq, h, if_true]
theorem words_bad (x : Int) (r : List Int) (h1 : x ≠ 32) (h2 : x ≠ 34) (h : isAtm x = false) : words true (x :: r) = none := by
 rw [words.eq_def]
 simp only [h1, h2, if_false, reduceCtorEq, h]
def splitW (l : List Int) : List (List Int) × Bool :=
 if textOk l = true then (match words true l with
 | none => ([], false)
 | some ws => (ws, true)) else ([], false)
/-- Induction along words. -/
theorem words_ind {p : Bool → List Int → Prop} (h0 : ∀ ap, p ap []) (h1 : ∀ ap r, p true r → p ap (32 :: r)) (h2 : ∀ x r, x ≠ 32 → p false (x :: r)) (h3 : ∀ r, readQ r = none → p true (34 :: r)) (h4 : ∀ r w r', readQ r = some (w, r') → p false r' → p true (34 :: r))
  (h5 : ∀ x r, isAtm x = true → p false (r.dropWhile isAtm) → p true (x :: r)) (h6 : ∀ x r, x ≠ 32 → x ≠ 34 → isAtm x = false → p true (x :: r)) (ap : Bool) (l : List Int) : p ap l := by
 have key : ∀ n, ∀ (ap : Bool) (l : List Int), l.length ≤ n → p ap l := by
  intro n
  induction n with
  | zero => intro ap l hl; rw [List.length_eq_zero_iff.1 (Nat.le_zero.1 hl)]; exact h0 ap
  | succ n ih =>
   intro ap l hl
   match l, hl with
   | [], _ => exact h0 ap
   | x :: r, hl =>
    simp only [List.length_cons] at hl
    by_cases e1 : x = 32
    ·subst e1; exact h1 ap r (ih true r (by omega))
    ·cases ap with
     | false => exact h2 x r e1
     | true =>
      by_cases e2 : x = 34
      ·subst e2
       cases hq : readQ r with
       | none => exact h3 r hq
       | some q =>
        obtain ⟨w, r'⟩ := q
        have := readQ_lt hq
        exact h4 r w r' hq (ih false r' (by omega))
      ·cases ha : isAtm x with
       | true =>
        have : (r.dropWhile isAtm).length ≤ r.length := (List.dropWhile_suffix _).length_le
        exact h5 x r ha (ih false _ (by omega))
       | false => exact h6 x r e1 e2 ha
 exact key l.length ap l (Nat.le_refl _)
theorem words_end (l : List Int) (h : l = [] ∨ ∃ r, l = 32 :: r) : words false l = words true l := by
 rcases h with rfl | ⟨r, rfl⟩
 ·rw [words_nil, words_nil]
 ·rw [words_sp, words_sp]
/-- Pieces with a space between. -/
def tailJ : List (List Int) → List Int
 | [] => []
 | x :: r => 32 :: (x ++ tailJ r)
def joinL : List (List Int) → List Int
 | [] => []
 | x :: r => x ++ tailJ r
theorem tailJ_mem {ws : List (List Int)} {x : Int} (h : x ∈ tailJ ws) : x = 32 ∨ ∃ w ∈ ws, x ∈ w := by
 induction ws with
 | nil => cases h
 | cons y r ih =>
  simp only [tailJ] at h
  rcases List.mem_cons.1 h with h | h
  ·exact .inl h
  ·rcases List.mem_append.1 h with h | h
   ·exact .inr ⟨y, by simp, h⟩
   ·exact (ih h).imp id fun ⟨w, hw, hx⟩ => ⟨w, List.mem_cons_of_mem _ hw, hx⟩
theorem joinL_mem {ws : List (List Int)} {x : Int} (h : x ∈ joinL ws) : x = 32 ∨ ∃ w ∈ ws, x ∈ w := by
 cases ws with
 | nil => cases h
 | cons y r =>
  simp only [joinL] at h
  rcases List.mem_append.1 h with h | h
  ·exact .inr ⟨y, by simp, h⟩
  ·exact (tailJ_mem h).imp id fun ⟨w, hw, hx⟩ => ⟨w, List.mem_cons_of_mem _ hw, hx⟩
theorem words_mem {ap : Bool} {l : List Int} {ws : List (List Int)} (h : words ap l = some ws) : ∀ w ∈ ws, w.length ≤ l.length ∧ ∀ x ∈ w, x ∈ l := by
 revert ws
 refine words_ind (p := fun ap l => ∀ {ws}, words ap l = some ws → ∀ w ∈ ws, w.length ≤ l.length ∧ ∀ x ∈ w, x ∈ l) ?_ ?_ ?_ ?_ ?_ ?_ ?_ ap l
 ·intro ap ws h w hw
  rw [words_nil] at h
  obtain rfl := Option.some.inj h
  cases hw
 ·intro ap r ih ws h w hw
  rw [words_sp] at h
  have := ih h w hw
  exact ⟨by simp only [List.length_cons]; omega, fun x hx => List.mem_cons_of_mem _ (this.2 x hx)⟩
 ·intro x r hx ws h
  rw [words_glued x r hx] at h; cases h
 ·intro r hq ws h
  rw [words_q_none r hq] at h; cases h
 ·intro r w r' hq ih ws h u hu
  rw [words_q r w r' hq] at h
  obtain ⟨ws', hw, rfl⟩ := Option.map_eq_some_iff.1 h
  obtain ⟨pre, rfl, hl, hm⟩ := readQ_some hq
  rcases List.mem_cons.1 hu with rfl | hu
  ·exact ⟨by simp only [List.length_cons, List.length_append]; omega, fun x hx => List.mem_cons_of_mem _ (hm x hx)⟩
  ·have := ih hw u hu
   exact ⟨by simp only [List.length_cons, List.length_append]; omega, fun x hx => List.mem_cons_of_mem _ (List.mem_append_right _ (List.mem_cons_of_mem _ (this.2 x hx)))⟩
 ·intro x r hx ih ws h u hu
  rw [words_atm x r hx] at h
  obtain ⟨ws', hw, rfl⟩ := Option.map_eq_some_iff.1 h
  have l1 : (r.dropWhile isAtm).length ≤ r.length := (List.dropWhile_suffix _).length_le
  have l2 : (r.takeWhile isAtm).length ≤ r.length := (List.takeWhile_prefix _).length_le
  rcases List.mem_cons.1 hu with rfl | hu
  ·refine ⟨by simp only [List.length_cons]; omega, fun y hy => ?_⟩
   rcases List.mem_cons.1 hy with rfl | hy
   ·simp
   ·exact List.mem_cons_of_mem _ ((List.takeWhile_prefix _).subset hy)
  ·have := ih hw u hu
   exact ⟨by simp only [List.length_cons]; omega, fun y hy => List.mem_cons_of_mem _ ((List.dropWhile_suffix _).subset (this.2 y hy))⟩
 ·intro x r h1 h2 h3 ws h
  rw [words_bad x r h1 h2 h3] at h; cases h
theorem splitW_of {l : List Int} {ws : List (List Int)} (ht : textOk l = true) (h : words true l = some ws) : splitW l = (ws, true) := by
 unfold splitW
 rw [if_pos ht, h]
theorem words_len {ap : Bool} {l : List Int} {ws : List (List Int)} (h : words ap l = some ws) : ws.length ≤ l.length := by
 revert ws
 refine words_ind (p := fun ap l => ∀ {ws}, words ap l = some ws → ws.length ≤ l.length) ?_ ?_ ?_ ?_ ?_ ?_ ?_ ap l
 ·intro ap ws h
  rw [words_nil] at h
  obtain rfl := Option.some.inj h
  exact Nat.le_refl _
 ·intro ap r ih ws h
  rw [words_sp] at h
  have := ih h
  simp only [List.length_cons]; omega
 ·intro x r hx ws h
  rw [words_glued x r hx] at h; cases h
 ·intro r hq ws h
  rw [words_q_none r hq] at h; cases h
 ·intro r w r' hq ih ws h
  rw [words_q r w r' hq] at h
  obtain ⟨ws', hw, rfl⟩ := Option.map_eq_some_iff.1 h
  have h1 := ih hw
  have h2 := readQ_lt hq
  simp only [List.length_cons]; omega
 ·intro x r hx ih ws h
  rw [words_atm x r hx] at h
  obtain ⟨ws', hw, rfl⟩ := Option.map_eq_some_iff.1 h
  have h1 := ih hw
  have h2 : (r.dropWhile isAtm).length ≤ r.length := (List.dropWhile_suffix _).length_le
  simp only [List.length_cons]; omega
 ·intro x r h1 h2 h3 ws h
  rw [words_bad x r h1 h2 h3] at h; cases h
/-- What stands between the places of a byte; cur: what of the piece has been read. -/
def pcs (c : Int) : List Int → List Int → List (List Int)
 | cur, [] => [cur]
 | cur, x :: r => if x = c then cur :: pcs c [] r else pcs c (cur ++ [x]) r
theorem pcs_run (c : Int) : ∀ (a cur t : List Int), (∀ x ∈ a, x ≠ c) → pcs c cur (a ++ t) = pcs c (cur ++ a) t
 | [], cur, t, _ => by simp
 | x :: a, cur, t, h => by
  rw [List.cons_append, pcs, if_neg (h x (by simp)), pcs_run c a _ t (fun y hy => h y (List.mem_cons_of_mem _ hy)), List.append_assoc]
  rfl
theorem pcs_hit (c : Int) (a cur b : List Int) (h : ∀ x ∈ a, x ≠ c) : pcs c cur (a ++ c :: b) = (cur ++ a) :: pcs c [] b := by
 rw [pcs_run c a cur _ h, pcs, if_pos rfl]
theorem pcs_none (c : Int) (a cur : List Int) (h : ∀ x ∈ a, x ≠ c) : pcs c cur a = [cur ++ a] := by
 have := pcs_run c a cur [] h
 rw [List.append_nil] at this
 rw [this, pcs]
theorem pcs_sub (c : Int) : ∀ (l cur p : List Int), p ∈ pcs c cur l → p.length ≤ cur.length + l.length
 | [], cur, p, h => by
  simp [pcs] at h
  rw [h]; simp
 | y :: r, cur, p, h => by
  rw [pcs] at h
  by_cases hy : y = c
  ·rw [if_pos hy] at h
   rcases List.mem_cons.1 h with h | h
   ·rw [h]; omega
   ·have := pcs_sub c r [] p h
    simp only [List.length_nil, List.length_cons] at this ⊢
    omega
  ·rw [if_neg hy] at h
   have := pcs_sub c r (cur ++ [y]) p h
   simp only [List.length_append, List.length_cons, List.length_nil] at this ⊢
   omega
def isLow (x : Int) : Bool := decide ((97 ≤ x ∧ x ≤ 122) ∨ (48 ≤ x ∧ x ≤ 57) ∨ x = 45)
def labelOk (p : List Int) : Bool := decide (p ≠ []) && (decide (p.head? ≠ some 45) && (decide (p.getLast? ≠ some 45) && p.all isLow))
def localOk (l : List Int) : Bool := decide (l.length ≤ 30) && (pcs 46 [] l).all atomOk
def domOk (l : List Int) : Bool := decide (l.length ≤ 40) && (pcs 46 [] l).all labelOk
def addrOk (n lo d : List Int) : Bool := textOk n && (decide (n.length ≤ 40) && (localOk lo && domOk d))
theorem addrOk_iff {n lo d : List Int} : addrOk n lo d = true ↔ textOk n = true ∧ n.length ≤ 40 ∧ localOk lo = true ∧ domOk d = true := by
 simp [addrOk]
def outQ (c : Int) (l : List Int) : Option Nat :=
 match l with
 | [] => none
 | x :: r => if x = 34 then (match h : readQ r with
   | none => none
   | some (_, r') => (outQ c r').map (· + (r.length + 1 - r'.length))) else if x = c then some 0 else (outQ c r).map (· + 1)
termination_by l.length
decreasing_by
 ·have := readQ_lt h; simp only [List.length_cons]; omega
 ·simp only [List.length_cons]; omega
theorem outQ_nil (c : Int) : outQ c [] = none := by rw [outQ.eq_def]
theorem outQ_q_none (c : Int) (r : List Int) (h : readQ r = none) : outQ c (34 :: r) = none := by
 rw [outQ.eq_def]
 simp only [if_true]
 split
 ·rfl
 ·rename_i h2; rw [h] at h2; cases h2
theorem outQ_q (c : Int) (r w r' : List Int) (h : readQ r = some (w, r')) : outQ c (34 :: r) = (outQ c r').map (· + (r.length + 1 - r'.length)) := by
 rw [outQ.eq_def]
 simp only [if_true]
 split
 ·rename_i h2; rw [h] at h2; cases h2
 ·rename_i h2; rw [h] at h2; injection h2 with h2; injection h2 with h3 h4; subst h3; subst h4; rfl
theorem outQ_hit (c : Int) (r : List Int) (h : c ≠ 34) : outQ c (c :: r) = some 0 := by
 rw [outQ.eq_def]
 simp only [if_neg h, if_true]
theorem outQ_cons (c x : Int) (r : List Int) (h : x ≠ 34) (hc : x ≠ c) : outQ c (x :: r) = (outQ c r).map (· + 1) := by
 rw [outQ.eq_def]
 simp only [if_neg h, if_neg hc]
/-- Induction along outQ. -/
theorem outQ_ind {p : List Int → Prop} (h0 : p []) (h1 : ∀ r, readQ r = none → p (34 :: r)) (h2 : ∀ r w r', readQ r = some (w, r') → p r' → p (34 :: r)) (h3 : ∀ x r, x ≠ 34 → p r → p (x :: r)) (l : List Int) : p l := by
 have key : ∀ n, ∀ l : List Int, l.length ≤ n → p l := by
  intro n
  induction n with
  | zero => intro l hl; rw [List.length_eq_zero_iff.1 (Nat.le_zero.1 hl)]; exact h0
  | succ n ih =>
   intro l hl
   match l, hl with
   | [], _ => exact h0
   | x :: r, hl =>
    simp only [List.length_cons] at hl
    by_cases e1 : x = 34
    ·subst e1
     cases hq : readQ r with
     | none => exact h1 r hq
     | some q =>
      obtain ⟨w, r'⟩ := q
      have := readQ_lt hq
      exact h2 r w r' hq (ih r' (by omega))
    ·exact h3 x r e1 (ih r (by omega))
 exact key l.length l (Nat.le_refl _)
theorem outQ_lt (c : Int) (l : List Int) : ∀ i, outQ c l = some i → i < l.length := by
 refine outQ_ind (p := fun l => ∀ i, outQ c l = some i → i < l.length) ?_ ?_ ?_ ?_ l
 ·intro i h; rw [outQ_nil] at h; cases h
 ·intro r hq i h; rw [outQ_q_none c r hq] at h; cases h
 ·intro r w r' hq ih i h
  rw [outQ_q c r w r' hq] at h
  obtain ⟨j, hj, rfl⟩ := Option.map_eq_some_iff.1 h
  have h1 := ih j hj
  have h2 := readQ_lt hq
  simp only [List.length_cons]
  omega
 ·intro x r hx ih i h
  by_cases hc : x = c
  ·subst hc
   rw [outQ_hit x r hx] at h
   obtain rfl := Option.some.inj h
   simp
  ·rw [outQ_cons c x r hx hc] at h
   obtain ⟨j, hj, rfl⟩ := Option.map_eq_some_iff.1 h
   have := ih j hj
   simp only [List.length_cons]
   omega
def ltrim (l : List Int) : List Int := l.dropWhile (fun x => decide (x = 32))
def rtrim (l : List Int) : List Int := (ltrim l.reverse).reverse
def trimT (l : List Int) : List Int := rtrim (ltrim l)
theorem ltrim_sp (r : List Int) : ltrim (32 :: r) = ltrim r := by simp [ltrim]
theorem ltrim_ne {x : Int} (r : List Int) (h : x ≠ 32) : ltrim (x :: r) = x :: r := by
 unfold ltrim
 rw [List.dropWhile_cons_of_neg (by simp [h])]
theorem rtrim_sp (l : List Int) : rtrim (l ++ [32]) = rtrim l := by
 unfold rtrim
 rw [List.reverse_append]
 simp [ltrim_sp]
theorem rtrim_ne {x : Int} (l : List Int) (h : x ≠ 32) : rtrim (l ++ [x]) = l ++ [x] := by
 unfold rtrim
 rw [List.reverse_append]
 simp [ltrim_ne _ h]
theorem rtrim_nil : rtrim [] = [] := rfl
theorem ltrim_sub (l : List Int) : (ltrim l).Sublist l := List.dropWhile_sublist _
theorem rtrim_sub (l : List Int) : (rtrim l).Sublist l := by
 have := (ltrim_sub l.reverse).reverse
 rwa [List.reverse_reverse] at this
theorem trim_sub (l : List Int) : (trimT l).Sublist l := (rtrim_sub _).trans (ltrim_sub l)
/-- Both orders of cutting come to one. -/
theorem ltrim_append_sp (l : List Int) : ltrim (l ++ [32]) = if ltrim l = [] then [] else ltrim l ++ [32] := by
 induction l with
 | nil => simp [ltrim]
 | cons x r ih =>
  by_cases h : x = 32
  ·subst h; rw [List.cons_append, ltrim_sp, ltrim_sp, ih]
  ·rw [List.cons_append, ltrim_ne _ h, ltrim_ne _ h, if_neg (by simp), List.cons_append]
theorem ltrim_append_ne (l : List Int) {x : Int} (hx : x ≠ 32) : ltrim (l ++ [x]) = ltrim l ++ [x] := by
 induction l with
 | nil => rw [List.nil_append, ltrim_ne _ hx]; rfl
 | cons y r ih =>
  by_cases h : y = 32
  ·subst h; rw [List.cons_append, ltrim_sp, ltrim_sp, ih]
  ·rw [List.cons_append, ltrim_ne _ h, ltrim_ne _ h, List.cons_append]
theorem snoc_ind {p : List Int → Prop} (h0 : p []) (h1 : ∀ l x, p l → p (l ++ [x])) (l : List Int) : p l := by
 have : ∀ m : List Int, p m.reverse := by
  intro m
  induction m with
  | nil => exact h0
  | cons x r ih => rw [List.reverse_cons]; exact h1 _ _ ih
 have := this l.reverse
 rwa [List.reverse_reverse] at this
theorem trim_comm (l : List Int) : ltrim (rtrim l) = trimT l := by
 unfold trimT
 refine snoc_ind (p := fun l => ltrim (rtrim l) = rtrim (ltrim l)) rfl (fun l x ih => ?_) l
 by_cases h : x = 32
 ·subst h
  rw [rtrim_sp, ltrim_append_sp, ih]
  by_cases he : ltrim l = []
  ·rw [if_pos he, he]
  ·rw [if_neg he, rtrim_sp]
 ·rw [rtrim_ne l h, ltrim_append_ne l h, rtrim_ne _ h]
theorem trim_text {l : List Int} (h : textOk l = true) : textOk (trimT l) = true := by
 rw [textOk_iff] at h ⊢
 have := (trim_sub l).length_le
 exact ⟨by omega, fun x hx => h.2 x ((trim_sub l).subset hx)⟩
/-- Small letters. -/
def lo8 (x : Int) : Int := if 65 ≤ x ∧ x ≤ 90 then x + 32 else x
structure Adr where
 n : List Int
 lo : List Int
 d : List Int
/-- A mailbox, with a name. -/
def boxR (n l : List Int) : Option Adr :=
 match outQ 64 l with
 | none => none
 | some i => if addrOk n (l.take i) ((l.drop (i + 1)).map lo8) = true then some ⟨n, l.take i, (l.drop (i + 1)).map lo8⟩ else none
/-- Words, and a mailbox up to a closing sign. -/
def angleR (nm rest : List Int) : Option Adr :=
 match words true nm with
 | none => none
 | some ws => if rest.getLast? = some 62 then boxR (joinL ws) rest.dropLast else none
theorem angleR_open {nm rest : List Int} (h : rest.getLast? ≠ some 62) : angleR nm rest = none := by
 unfold angleR
 split
 ·rfl
 ·rw [if_neg h]
theorem angleR_none {nm rest : List Int} (h : words true nm = none) : angleR nm rest = none := by
 unfold angleR
 rw [h]
theorem angleR_some {nm rest : List Int} {ws : List (List Int)} (h : words true nm = some ws) (h2 : rest.getLast? = some 62) : angleR nm rest = boxR (joinL ws) rest.dropLast := by
 unfold angleR
 rw [h]
 simp only [if_pos h2]
def parseA (l : List Int) : Option Adr :=
 if textOk l = true then (match outQ 60 (trimT l) with
  | none => boxR [] (trimT l)
  | some i => angleR ((trimT l).take i) ((trimT l).drop (i + 1))) else none
theorem pcs_in (c : Int) : ∀ (l cur p : List Int), p ∈ pcs c cur l → ∀ x ∈ p, x ∈ cur ++ l
 | [], cur, p, h => by
  simp [pcs] at h
  rw [h]; simp
 | y :: r, cur, p, h => by
  intro x hx
  rw [pcs] at h
  by_cases hy : y = c
  ·rw [if_pos hy] at h
   rcases List.mem_cons.1 h with h | h
   ·rw [h] at hx; exact List.mem_append_left _ hx
   ·have := pcs_in c r [] p h x hx
    exact List.mem_append_right _ (List.mem_cons_of_mem _ (by simpa using this))
  ·rw [if_neg hy] at h
   have := pcs_in c r (cur ++ [y]) p h x hx
   simpa using this
theorem pcs_len (c : Int) : ∀ (l cur : List Int), (pcs c cur l).length ≤ l.length + 1
 | [], cur => by simp [pcs]
 | y :: r, cur => by
  rw [pcs]
  split
  ·have := pcs_len c r []
   simp only [List.length_cons]
   omega
  ·have := pcs_len c r (cur ++ [y])
   simp only [List.length_cons]
   omega
def nb (l : List UInt8) : List Int := l.map fun b => (b.toNat : Int)
theorem nb_mk (l : List UInt8) : bytesOf (⟨l.toArray⟩ : ByteArray) = nb l := rfl
theorem nb_inj32 (b : UInt8) : ((b.toNat : Int) = 32) ↔ b = 32 := by
 constructor
 ·intro h
  apply UInt8.toNat_inj.1
  have : (32 : UInt8).toNat = 32 := rfl
  omega
 ·intro h; rw [h]; rfl
theorem nb_ltrim (l : List UInt8) : nb (Lib.trimLeftB l 32) = ltrim (nb l) := by
 induction l with
 | nil => rfl
 | cons b r ih =>
  by_cases h : b = 32
  ·subst h
   have e : nb ((32 : UInt8) :: r) = 32 :: nb r := rfl
   rw [e, ltrim_sp, ← ih]
   unfold Lib.trimLeftB
   rw [List.dropWhile_cons_of_pos (by simp)]
  ·have e : nb (b :: r) = (b.toNat : Int) :: nb r := rfl
   rw [e, ltrim_ne _ (fun q => h ((nb_inj32 b).1 q))]
   unfold Lib.trimLeftB
   rw [List.dropWhile_cons_of_neg (by simpa using h), e]
theorem nb_rtrim (l : List UInt8) : nb (Lib.trimRightB l 32) = rtrim (nb l) := by
 have h : ∀ m : List UInt8, nb m.reverse = (nb m).reverse := fun m => by simp [nb]
 have e : Lib.trimRightB l 32 = (Lib.trimLeftB l.reverse 32).reverse := rfl
 rw [e, h, nb_ltrim, h]
 rfl
def trimS (s : ByteArray) : ByteArray := strOfNums (trimT (bytesOf s))
theorem trimT_IsB {l : List Int} (h : IsB l) : IsB (trimT l) := h.sub (trim_sub l).subset
theorem L_trimS (s : ByteArray) : bytesOf (trimS s) = trimT (bytesOf s) := L_S (trimT_IsB (L_IsB s))
theorem trimS_size (s : ByteArray) : (trimS s).size ≤ s.size := by
 rw [← L_len, L_trimS, ← L_len s]
 exact (trim_sub _).length_le
theorem strings_Trim_eq (s : ByteArray) (hs : s.size ≤ 9223372036854775807) : strings_Trim.f s (⟨#[32]⟩ : ByteArray) = some (trimS s) := by
 unfold strings_Trim.f
 show (if (32 : UInt8).toNat < 128 ∧ s.size ≤ 9223372036854775807 then _ else _) = _
 rw [if_pos ⟨by decide, hs⟩]
 refine congrArg some (L_inj ?_)
 rw [L_trimS, nb_mk, ← trim_comm]
 unfold Lib.trimB
 rw [nb_ltrim, nb_rtrim]
 rfl
theorem indexByte_cases (c : UInt8) : ∀ l : List UInt8, (Lib.indexByte l c = -1 ∧ c ∉ l) ∨ ∃ a b, l = a ++ c :: b ∧ c ∉ a ∧ Lib.indexByte l c = (a.length : Int)
 | [] => .inl ⟨rfl, by simp⟩
 | x :: r => by
  by_cases h : x = c
  ·subst h
   exact .inr ⟨[], r, rfl, by simp, by simp [Lib.indexByte]⟩
  ·rcases indexByte_cases c r with ⟨h1, h2⟩ | ⟨a, b, h1, h2, h3⟩
   ·refine .inl ⟨?_, by simp [h2, Ne.symm h]⟩
    simp [Lib.indexByte, h, h1]
   ·refine .inr ⟨x :: a, b, by rw [h1]; rfl, by simp [h2, Ne.symm h], ?_⟩
    simp only [Lib.indexByte, h3, List.length_cons]
    simp [h]
    try omega
theorem nb_ne {c : UInt8} {a : List UInt8} (h : c ∉ a) : ∀ x ∈ nb a, x ≠ (c.toNat : Int) := by
 intro x hx
 obtain ⟨b, hb, rfl⟩ := List.mem_map.1 hx
 intro e
 have : b = c := UInt8.toNat_inj.1 (by omega)
 exact h (this ▸ hb)
theorem splitK_pcs (c : UInt8) : ∀ (k : Nat) (l : List UInt8), l.count c = k → (Lib.splitK [c] 0 k l).map nb = pcs (c.toNat : Int) [] (nb l) := by
 intro k
 induction k with
 | zero =>
  intro l hk
  rw [Lib.splitK, pcs_none _ _ _ (nb_ne (List.count_eq_zero.1 hk))]
  rfl
 | succ k ih =>
  intro l hk
  rcases indexByte_cases c l with ⟨h1, h2⟩ | ⟨a, b, h1, h2, h3⟩
  ·rw [List.count_eq_zero.2 h2] at hk
   omega
  ·have hc : b.count c = k := by
    rw [h1, List.count_append, List.count_cons_self, List.count_eq_zero.2 h2] at hk
    omega
   have hn : ¬ (Lib.index l [c] == -1) = true := by
    rw [Lib.index_one, h3]
    intro e
    have := beq_iff_eq.1 e
    omega
   rw [Lib.splitK, if_neg hn, Lib.index_one, h3, Int.toNat_natCast, List.map_cons, Nat.add_zero]
   have e1 : l.take a.length = a := by rw [h1]; exact List.take_left
   have e2 : l.drop (a.length + [c].length) = b := by
    rw [h1, ← List.drop_drop, List.drop_left]; rfl
   rw [e1, e2, ih b hc]
   have e3 : nb l = nb a ++ (c.toNat : Int) :: nb b := by rw [h1]; simp [nb]
   rw [e3, pcs_hit _ _ _ _ (nb_ne h2)]
   rfl
theorem strings_Split_eq (s : ByteArray) (hs : s.size < 4294967281) : ∃ ps, strings_Split.f s (⟨#[46]⟩ : ByteArray) = some ps ∧ ps.map bytesOf = pcs 46 [] (bytesOf s) ∧ ps.length ≤ s.size + 1 := by
 refine ⟨Lib.splitB (⟨#[46]⟩ : ByteArray) 0 (Lib.countB s (⟨#[46]⟩ : ByteArray)) s, ?_, ?_, ?_⟩
 ·unfold strings_Split.f
  rw [if_pos ⟨hs, rfl⟩]
 ·have h := Lib.splitB_data (⟨#[46]⟩ : ByteArray) 0 (Lib.countB s (⟨#[46]⟩ : ByteArray)) s
  have e : (Lib.splitB (⟨#[46]⟩ : ByteArray) 0 (Lib.countB s (⟨#[46]⟩ : ByteArray)) s).map bytesOf = ((Lib.splitB (⟨#[46]⟩ : ByteArray) 0 (Lib.countB s (⟨#[46]⟩ : ByteArray)) s).map (·.data.toList)).map nb := by
   rw [List.map_map]; rfl
  rw [e, h]
  exact splitK_pcs 46 _ _ (Lib.count_one 46 s.data.toList).symm
 ·rw [Lib.splitB_all (⟨#[46]⟩ : ByteArray) (Nat.le_refl 1) 0 _ s rfl]
  have := Lib.countB_le (⟨#[46]⟩ : ByteArray) (Nat.le_refl 1) s.size s (Nat.le_refl _)
  omega
theorem nilB (a : ByteArray) : a.toList = ([] : List UInt8) ↔ bytesOf a = [] := by rw [← toList_nil, toList_iff, ← L_iff, L_nil]
theorem head_bt (s : ByteArray) (h : 0 < s.size) : ∃ r, bytesOf s = bt s 0 :: r := by
 have := L_drop s 0 h
 rw [List.drop_zero] at this
 exact ⟨_, this⟩
theorem lt_cons (s : ByteArray) (h : 0 < s.size) (h32 : bt s 0 = 32) : ltrim (bytesOf s) = ltrim (bytesOf (s.extract 1 s.size)) := by
 have e := L_drop s 0 h
 rw [List.drop_zero] at e
 have h32' : bt s ((0 : Nat) : Int) = 32 := h32
 rw [L_from, e, h32', ltrim_sp]
 rfl
theorem snoc_bt (s : ByteArray) (h : 0 < s.size) : bytesOf s = bytesOf (s.extract 0 (s.size - 1)) ++ [bt s ((s.size - 1 : Nat) : Int)] := by
 have hl : s.size - 1 < (bytesOf s).length := by rw [L_len]; omega
 have e := List.take_succ_eq_append_getElem hl
 rw [show s.size - 1 + 1 = s.size by omega, List.take_of_length_le (by rw [L_len]; exact Nat.le_refl _), bytesOf_at s (s.size - 1) (by omega)] at e
 rw [L_to]
 exact e
theorem spec_l2Trim_l1 : ∀ (n : Nat) (s : ByteArray), s.size ≤ n → n ≤ 1048576 → Ev (fun k => spec_l2Trim.l1 k s) (strOfNums (rtrim (bytesOf s))) := by
 intro n
 induction n with
 | zero =>
  intro s hs hn
  refine ev_succ ?_
  simp only [spec_l2Trim.l1]
  have e : bytesOf s = [] := (size_nil_iff s).1 (by omega)
  refine ev_neg (by omega) (ev_of ?_)
  rw [e, rtrim_nil, ← e, S_L]
 | succ n ih =>
  intro s hs hn
  refine ev_succ ?_
  simp only [spec_l2Trim.l1]
  by_cases h0 : 0 < s.size
  ·have ew : wrap64 ((s.size : Int) - 1) = ((s.size - 1 : Nat) : Int) := by rw [wrap_id (by omega) (by omega)]; omega
   rw [ew]
   have hz : (s.extract 0 (s.size - 1)).size = s.size - 1 := by rw [← L_len, L_to, List.length_take, L_len]; omega
   refine ev_pos (by omega) (ev_pos (by omega) (ev_pos (by omega) ?_))
   have e := snoc_bt s h0
   by_cases h32 : bt s ((s.size - 1 : Nat) : Int) = 32
   ·rw [h32] at e ⊢
    rw [e, rtrim_sp, Int.toNat_natCast]
    exact ev_pos rfl (ev_pos (by omega) (ih _ (by omega) (by omega)))
   ·refine ev_neg h32 (ev_of ?_)
    rw [e, rtrim_ne _ h32, ← e, S_L]
  ·have e : bytesOf s = [] := (size_nil_iff s).1 (by omega)
   refine ev_neg (by omega) (ev_of ?_)
   rw [e, rtrim_nil, ← e, S_L]
theorem spec_l2Trim_l0 : ∀ (n : Nat) (s : ByteArray), s.size ≤ n → n ≤ 1048576 → Ev (fun k => spec_l2Trim.l0 k s) (trimS s) := by
 intro n
 induction n with
 | zero =>
  intro s hs hn
  refine ev_succ ?_
  simp only [spec_l2Trim.l0]
  have e : bytesOf s = [] := (size_nil_iff s).1 (by omega)
  refine ev_neg (by omega) (ev_succ ?_)
  simp only [spec_l2Trim.j1]
  refine ev_cast (spec_l2Trim_l1 0 s hs (by omega)) ?_
  unfold trimS trimT
  rw [e]; rfl
 | succ n ih =>
  intro s hs hn
  refine ev_succ ?_
  simp only [spec_l2Trim.l0]
  by_cases h0 : 0 < s.size
  ·have hz : (s.extract 1 s.size).size = s.size - 1 := by rw [← L_len, L_from, List.length_drop, L_len]
   refine ev_pos (by omega) (ev_pos (by omega) ?_)
   by_cases h32 : bt s 0 = 32
   ·refine ev_pos h32 (ev_pos (by omega) (ev_cast (ih _ (by omega) (by omega)) ?_))
    unfold trimS trimT
    rw [lt_cons s h0 h32]
   ·refine ev_neg h32 (ev_succ ?_)
    simp only [spec_l2Trim.j1]
    refine ev_cast (spec_l2Trim_l1 (n + 1) s hs hn) ?_
    obtain ⟨r, e⟩ := head_bt s h0
    unfold trimS trimT
    rw [e, ltrim_ne r h32]
  ·have e : bytesOf s = [] := (size_nil_iff s).1 (by omega)
   refine ev_neg (by omega) (ev_succ ?_)
   simp only [spec_l2Trim.j1]
   refine ev_cast (spec_l2Trim_l1 (n + 1) s hs hn) ?_
   unfold trimS trimT
   rw [e]; rfl
theorem spec_l2Trim_ev (s : ByteArray) (hs : s.size ≤ 1048576) : Ev (fun k => spec_l2Trim.f k s) (trimS s) := spec_l2Trim_l0 s.size s (Nat.le_refl _) hs
theorem wrap_succ (i : Nat) (h : (i : Int) < 9223372036854775807) : wrap64 ((i : Int) + 1) = ((i + 1 : Nat) : Int) := by
 rw [wrap_id (by omega) (by omega)]; rfl
theorem allO_some {α : Type} {p : α → Option Bool} {q : α → Bool} (l : List α) (h : ∀ x ∈ l, p x = some (q x)) : allO p l = some (l.all q) := by
 induction l with
 | nil => rfl
 | cons x r ih =>
  rw [allO, h x (by simp), Option.bind_some, ih fun y hy => h y (List.mem_cons_of_mem _ hy), List.all_cons]
  cases q x <;> rfl
theorem anyO_some {α : Type} {p : α → Option Bool} {q : α → Bool} (l : List α) (h : ∀ x ∈ l, p x = some (q x)) : anyO p l = some (l.any q) := by
 induction l with
 | nil => rfl
 | cons x r ih =>
  rw [anyO, h x (by simp), Option.bind_some, ih fun y hy => h y (List.mem_cons_of_mem _ hy), List.any_cons]
  cases q x <;> rfl
theorem impl_isLetter_eq (x : Int) : impl_isLetter.f x = some (isLet x) := by
 unfold impl_isLetter.f isLet
 repeat' split
 all_goals first | exact congrArg some (decide_eq_true (by omega)).symm | exact congrArg some (decide_eq_false (by omega)).symm | exact congrArg some (decide_eq_decide.2 (by omega))
theorem impl_isDigit_eq (x : Int) : impl_isDigit.f x = some (isDig x) := by
 unfold impl_isDigit.f isDig
 repeat' split
 all_goals first | exact congrArg some (decide_eq_true (by omega)).symm | exact congrArg some (decide_eq_false (by omega)).symm | exact congrArg some (decide_eq_decide.2 (by omega))
theorem or_if {c P : Prop} [Decidable c] [Decidable P] {r : Option Bool} (h : r = some (decide P)) : (if c then some true else r) = some (decide (c ∨ P)) := by
 by_cases hc : c
 ·rw [if_pos hc, decide_eq_true (Or.inl hc)]
 ·rw [if_neg hc, h]
  exact congrArg some (decide_eq_decide.2 ⟨Or.inr, fun h => h.resolve_left hc⟩)
theorem impl_isAtomByte_eq (x : Int) : impl_isAtomByte.f x = some (isAtm x) := by
 unfold impl_isAtomByte.f
 have m : (if x ≥ 94 then (if x ≤ 96 then some true else (if x ≥ 123 then some (decide (x ≤ 126)) else some false)) else (if x ≥ 123 then some (decide (x ≤ 126)) else some false)) = some (decide ((94 ≤ x ∧ x ≤ 96) ∨ (123 ≤ x ∧ x ≤ 126))) := by
  repeat' split
  all_goals first | exact congrArg some (decide_eq_true (by omega)).symm | exact congrArg some (decide_eq_false (by omega)).symm | exact congrArg some (decide_eq_decide.2 (by omega))
 have t := or_if (c := x = 42) (or_if (c := x = 43) (or_if (c := x = 45) (or_if (c := x = 47) (or_if (c := x = 61) (or_if (c := x = 63) m)))))
 rw [t, impl_isLetter_eq, Option.bind_some, impl_isDigit_eq, Option.bind_some]
 have hL : isLet x = true ↔ (97 ≤ x ∧ x ≤ 122) ∨ (65 ≤ x ∧ x ≤ 90) := by simp [isLet]
 have hD : isDig x = true ↔ (48 ≤ x ∧ x ≤ 57) := by simp [isDig]
 have u : (if x ≥ 35 then (if x ≤ 39 then some true else some (decide (x = 42 ∨ x = 43 ∨ x = 45 ∨ x = 47 ∨ x = 61 ∨ x = 63 ∨ (94 ≤ x ∧ x ≤ 96) ∨ (123 ≤ x ∧ x ≤ 126)))) else some (decide (x = 42 ∨ x = 43 ∨ x = 45 ∨ x = 47 ∨ x = 61 ∨ x = 63 ∨ (94 ≤ x ∧ x ≤ 96) ∨ (123 ≤ x ∧ x ≤ 126)))) = some (decide ((35 ≤ x ∧ x ≤ 39) ∨ x = 42 ∨ x = 43 ∨ x = 45 ∨ x = 47 ∨ x = 61 ∨ x = 63 ∨ (94 ≤ x ∧ x ≤ 96) ∨ (123 ≤ x ∧ x ≤ 126))) := by
  by_cases h1 : x ≥ 35
  ·by_cases h2 : x ≤ 39
   ·rw [if_pos h1, if_pos h2]; exact congrArg some (decide_eq_true (by omega)).symm
   ·rw [if_pos h1, if_neg h2]; exact congrArg some (decide_eq_decide.2 (by omega))
  ·rw [if_neg h1]; exact congrArg some (decide_eq_decide.2 (by omega))
 rw [or_if (c := isLet x = true) (or_if (c := isDig x = true) (or_if (c := x = 33) u))]
 refine congrArg some (decide_eq_decide.2 ?_)
 rw [hL, hD]
 omega
theorem spec_l1Letter_eq (x : Int) : spec_l1Letter.f x = some (decide ((97 ≤ x ∧ x ≤ 122) ∨ (65 ≤ x ∧ x ≤ 90) ∨ (48 ≤ x ∧ x ≤ 57))) := by
 unfold spec_l1Letter.f
 repeat' split
 all_goals first | exact congrArg some (decide_eq_true (by omega)).symm | exact congrArg some (decide_eq_false (by omega)).symm | exact congrArg some (decide_eq_decide.2 (by omega))
theorem spec_l1Atom_ev (x : Int) : Ev (fun k => spec_l1Atom.f k x) (isAtm x) := by
 have e : ∀ k, spec_l1Atom.f (k + 20) x = some (isAtm x) := by
  intro k
  unfold spec_l1Atom.f
  have b0 : bt (⟨#[33, 35, 36, 37, 38, 39, 42, 43, 45, 47, 61, 63, 94, 95, 96, 123, 124, 125, 126]⟩ : ByteArray) 0 = 33 := by rfl
  have b1 : bt (⟨#[33, 35, 36, 37, 38, 39, 42, 43, 45, 47, 61, 63, 94, 95, 96, 123, 124, 125, 126]⟩ : ByteArray) 1 = 35 := by rfl
  have b2 : bt (⟨#[33, 35, 36, 37, 38, 39, 42, 43, 45, 47, 61, 63, 94, 95, 96, 123, 124, 125, 126]⟩ : ByteArray) 2 = 36 := by rfl
  have b3 : bt (⟨#[33, 35, 36, 37, 38, 39, 42, 43, 45, 47, 61, 63, 94, 95, 96, 123, 124, 125, 126]⟩ : ByteArray) 3 = 37 := by rfl
  have b4 : bt (⟨#[33, 35, 36, 37, 38, 39, 42, 43, 45, 47, 61, 63, 94, 95, 96, 123, 124, 125, 126]⟩ : ByteArray) 4 = 38 := by rfl
  have b5 : bt (⟨#[33, 35, 36, 37, 38, 39, 42, 43, 45, 47, 61, 63, 94, 95, 96, 123, 124, 125, 126]⟩ : ByteArray) 5 = 39 := by rfl
  have b6 : bt (⟨#[33, 35, 36, 37, 38, 39, 42, 43, 45, 47, 61, 63, 94, 95, 96, 123, 124, 125, 126]⟩ : ByteArray) 6 = 42 := by rfl
  have b7 : bt (⟨#[33, 35, 36, 37, 38, 39, 42, 43, 45, 47, 61, 63, 94, 95, 96, 123, 124, 125, 126]⟩ : ByteArray) 7 = 43 := by rfl
  have b8 : bt (⟨#[33, 35, 36, 37, 38, 39, 42, 43, 45, 47, 61, 63, 94, 95, 96, 123, 124, 125, 126]⟩ : ByteArray) 8 = 45 := by rfl
  have b9 : bt (⟨#[33, 35, 36, 37, 38, 39, 42, 43, 45, 47, 61, 63, 94, 95, 96, 123, 124, 125, 126]⟩ : ByteArray) 9 = 47 := by rfl
  have b10 : bt (⟨#[33, 35, 36, 37, 38, 39, 42, 43, 45, 47, 61, 63, 94, 95, 96, 123, 124, 125, 126]⟩ : ByteArray) 10 = 61 := by rfl
  have b11 : bt (⟨#[33, 35, 36, 37, 38, 39, 42, 43, 45, 47, 61, 63, 94, 95, 96, 123, 124, 125, 126]⟩ : ByteArray) 11 = 63 := by rfl
  have b12 : bt (⟨#[33, 35, 36, 37, 38, 39, 42, 43, 45, 47, 61, 63, 94, 95, 96, 123, 124, 125, 126]⟩ : ByteArray) 12 = 94 := by rfl
  have b13 : bt (⟨#[33, 35, 36, 37, 38, 39, 42, 43, 45, 47, 61, 63, 94, 95, 96, 123, 124, 125, 126]⟩ : ByteArray) 13 = 95 := by rfl
  have b14 : bt (⟨#[33, 35, 36, 37, 38, 39, 42, 43, 45, 47, 61, 63, 94, 95, 96, 123, 124, 125, 126]⟩ : ByteArray) 14 = 96 := by rfl
  have b15 : bt (⟨#[33, 35, 36, 37, 38, 39, 42, 43, 45, 47, 61, 63, 94, 95, 96, 123, 124, 125, 126]⟩ : ByteArray) 15 = 123 := by rfl
  have b16 : bt (⟨#[33, 35, 36, 37, 38, 39, 42, 43, 45, 47, 61, 63, 94, 95, 96, 123, 124, 125, 126]⟩ : ByteArray) 16 = 124 := by rfl
  have b17 : bt (⟨#[33, 35, 36, 37, 38, 39, 42, 43, 45, 47, 61, 63, 94, 95, 96, 123, 124, 125, 126]⟩ : ByteArray) 17 = 125 := by rfl
  have b18 : bt (⟨#[33, 35, 36, 37, 38, 39, 42, 43, 45, 47, 61, 63, 94, 95, 96, 123, 124, 125, 126]⟩ : ByteArray) 18 = 126 := by rfl
  simp only [spec_l1Atom.l0, spec_l1Letter_eq, Option.bind_some, show wrap64 (0 + 1) = 1 by unfold wrap64; omega, show wrap64 (1 + 1) = 2 by unfold wrap64; omega, show wrap64 (2 + 1) = 3 by unfold wrap64; omega, show wrap64 (3 + 1) = 4 by unfold wrap64; omega, show wrap64 (4 + 1) = 5 by unfold wrap64; omega, show wrap64 (5 + 1) = 6 by unfold wrap64; omega, show wrap64 (6 + 1) = 7 by unfold wrap64; omega, show wrap64 (7 + 1) = 8 by unfold wrap64; omega, show wrap64 (8 + 1) = 9 by unfold wrap64; omega, show wrap64 (9 + 1) = 10 by unfold wrap64; omega, show wrap64 (10 + 1) = 11 by unfold wrap64; omega, show wrap64 (11 + 1) = 12 by unfold wrap64; omega, show wrap64 (12 + 1) = 13 by unfold wrap64; omega, show wrap64 (13 + 1) = 14 by unfold wrap64; omega, show wrap64 (14 + 1) = 15 by unfold wrap64; omega, show wrap64 (15 + 1) = 16 by unfold wrap64; omega, show wrap64 (16 + 1) = 17 by unfold wrap64; omega, show wrap64 (17 + 1) = 18 by unfold wrap64; omega, show wrap64 (18 + 1) = 19 by unfold wrap64; omega, Int.reduceLT, Int.reduceLE, if_true, if_false, b0, b1, b2, b3, b4, b5, b6, b7, b8, b9, b10, b11, b12, b13, b14, b15, b16, b17, b18]
  rw [or_if (c := x = 33) (or_if (c := x = 35) (or_if (c := x = 36) (or_if (c := x = 37) (or_if (c := x = 38) (or_if (c := x = 39) (or_if (c := x = 42) (or_if (c := x = 43) (or_if (c := x = 45) (or_if (c := x = 47) (or_if (c := x = 61) (or_if (c := x = 63) (or_if (c := x = 94) (or_if (c := x = 95) (or_if (c := x = 96) (or_if (c := x = 123) (or_if (c := x = 124) (or_if (c := x = 125) (or_if (c := x = 126) rfl))))))))))))))))))]
  exact congrArg some (decide_eq_decide.2 (by omega))
 refine ⟨20, fun k hk => ?_⟩
 obtain ⟨m, rfl⟩ : ∃ m, k = m + 20 := ⟨k - 20, by omega⟩
 exact e m
theorem impl_TextValid_l0 (s : ByteArray) (hs : s.size ≤ 4611686018427387904) : ∀ (d i : Nat), i + d = s.size → Ev (fun k => impl_TextValid.l0 k s (s.size : Int) (i : Int)) (decide (s.size ≤ 200) && ((bytesOf s).drop i).all isTxt) := by
 intro d
 induction d with
 | zero =>
  intro i hi
  refine ev_succ ?_
  simp only [impl_TextValid.l0]
  refine ev_neg (by omega) ?_
  rw [L_drop_nil s i (by omega), List.all_nil, Bool.and_true]
  exact ev_of (congrArg some (decide_eq_decide.2 (by omega)))
 | succ d ih =>
  intro i hi
  refine ev_succ ?_
  simp only [impl_TextValid.l0]
  refine ev_pos (by omega) (ev_pos (by omega) (ev_pos (by omega) ?_))
  rw [L_drop s i (by omega), List.all_cons, wrap_succ i (by omega)]
  by_cases h1 : bt s i < 32
  ·refine ev_pos h1 (ev_of ?_)
   rw [show isTxt (bt s i) = false from decide_eq_false (by omega), Bool.false_and, Bool.and_false]
  ·refine ev_neg h1 ?_
   by_cases h2 : bt s i > 126
   ·refine ev_pos h2 (ev_of ?_)
    rw [show isTxt (bt s i) = false from decide_eq_false (by omega), Bool.false_and, Bool.and_false]
   ·refine ev_neg h2 ?_
    rw [show isTxt (bt s i) = true from decide_eq_true (by omega), Bool.true_and]
    exact ih (i + 1) (by omega)
theorem impl_TextValid_ev (s : ByteArray) (hs : s.size ≤ 4611686018427387904) : Ev (fun k => impl_TextValid.f k s) (textOk (bytesOf s)) := by
 have h := impl_TextValid_l0 s hs s.size 0 (by omega)
 rw [List.drop_zero] at h
 unfold textOk
 rw [L_len]
 exact h
theorem spec_TextValid_l0 (s : ByteArray) (hs : s.size ≤ 4611686018427387904) : ∀ (d i : Nat), i + d = s.size → i ≤ 201 → Ev (fun k => spec_TextValid.l0 k s (i : Int)) (decide (s.size ≤ 200) && ((bytesOf s).drop i).all isTxt) := by
 intro d
 induction d with
 | zero =>
  intro i hi _
  refine ev_succ ?_
  simp only [spec_TextValid.l0]
  refine ev_neg (by omega) (ev_succ ?_)
  simp only [spec_TextValid.j1, if_true, Bool.false_eq_true, if_false]
  rw [L_drop_nil s i (by omega), List.all_nil, Bool.and_true]
  exact ev_of (congrArg some (decide_eq_decide.2 (by omega)))
 | succ d ih =>
  intro i hi h201
  refine ev_succ ?_
  simp only [spec_TextValid.l0]
  refine ev_pos (by omega) (ev_succ ?_)
  by_cases h0 : (i : Int) ≤ 200
  ·simp only [decide_eq_true h0, spec_TextValid.j1, if_true]
   refine ev_pos (by omega) (ev_pos (by omega) ?_)
   rw [L_drop s i (by omega), List.all_cons, wrap_succ i (by omega)]
   by_cases h1 : bt s i < 32
   ·refine ev_pos h1 (ev_of ?_)
    rw [show isTxt (bt s i) = false from decide_eq_false (by omega), Bool.false_and, Bool.and_false]
   ·refine ev_neg h1 ?_
    by_cases h2 : bt s i > 126
    ·refine ev_pos h2 (ev_of ?_)
     rw [show isTxt (bt s i) = false from decide_eq_false (by omega), Bool.false_and, Bool.and_false]
    ·refine ev_neg h2 ?_
     rw [show isTxt (bt s i) = true from decide_eq_true (by omega), Bool.true_and]
     exact ih (i + 1) (by omega) (by omega)
  ·simp only [decide_eq_false h0, spec_TextValid.j1, Bool.false_eq_true, if_false]
   refine ev_of ?_
   rw [show decide (s.size ≤ 200) = false from decide_eq_false (by omega), Bool.false_and]
   exact congrArg some (decide_eq_false (by omega))
theorem spec_TextValid_ev (s : ByteArray) (hs : s.size ≤ 4611686018427387904) : Ev (fun k => spec_TextValid.f k s) (textOk (bytesOf s)) := by
 have h := spec_TextValid_l0 s hs s.size 0 (by omega) (by omega)
 rw [List.drop_zero] at h
 unfold textOk
 rw [L_len]
 exact h
theorem impl_AtomValid_eq (s : ByteArray) : impl_AtomValid.f s = some (atomOk (bytesOf s)) := by
 unfold impl_AtomValid.f
 by_cases h1 : (s.size : Int) ≥ 1
 ·rw [if_pos h1]
  by_cases h2 : (s.size : Int) ≤ 40
  ·rw [if_pos h2, allBytes__impl_isAtomByte.f, if_pos (by omega), allO_some (q := isAtm) _ fun x _ => impl_isAtomByte_eq x, Option.bind_some]
   unfold atomOk
   rw [decide_eq_true (by rw [L_len]; omega), Bool.true_and]
  ·rw [if_neg h2]
   unfold atomOk
   rw [decide_eq_false (by rw [L_len]; omega), Bool.false_and]
 ·rw [if_neg h1]
  unfold atomOk
  rw [decide_eq_false (by rw [L_len]; omega), Bool.false_and]
theorem spec_AtomValid_l0 (s : ByteArray) (hs : s.size ≤ 4611686018427387904) : ∀ (d i : Nat), i + d = s.size → i ≤ 41 → Ev (fun k => spec_AtomValid.l0 k s (i : Int)) (decide (1 ≤ s.size ∧ s.size ≤ 40) && ((bytesOf s).drop i).all isAtm) := by
 have fin : ∀ i : Nat, (i = s.size ∨ 40 < i) → i ≤ s.size → Ev (fun _ => (if (s.size : Int) ≥ 1 then some (decide ((s.size : Int) ≤ 40)) else some false)) (decide (1 ≤ s.size ∧ s.size ≤ 40) && ((bytesOf s).drop i).all isAtm) := by
  intro i hi hle
  have e : (decide (1 ≤ s.size ∧ s.size ≤ 40) && ((bytesOf s).drop i).all isAtm) = decide (1 ≤ s.size ∧ s.size ≤ 40) := by
   rcases hi with hi | hi
   ·rw [L_drop_nil s i (by omega), List.all_nil, Bool.and_true]
   ·rw [show decide (1 ≤ s.size ∧ s.size ≤ 40) = false from decide_eq_false (by omega), Bool.false_and]
  rw [e]
  by_cases h1 : (s.size : Int) ≥ 1
  ·exact ev_pos h1 (ev_of (congrArg some (decide_eq_decide.2 (by omega))))
  ·exact ev_neg h1 (ev_of (congrArg some (decide_eq_false (by omega)).symm))
 intro d
 induction d with
 | zero =>
  intro i hi _
  refine ev_succ ?_
  simp only [spec_AtomValid.l0]
  refine ev_neg (by omega) (ev_succ ?_)
  simp only [spec_AtomValid.j1, Bool.false_eq_true, if_false]
  exact fin i (by omega) (by omega)
 | succ d ih =>
  intro i hi h41
  refine ev_succ ?_
  simp only [spec_AtomValid.l0]
  refine ev_pos (by omega) (ev_succ ?_)
  by_cases h0 : (i : Int) ≤ 40
  ·simp only [decide_eq_true h0, spec_AtomValid.j1, if_true]
   refine ev_pos (by omega) (ev_pos (by omega) (ev_bind (spec_l1Atom_ev _) ?_))
   rw [L_drop s i (by omega), List.all_cons, wrap_succ i (by omega)]
   cases hA : isAtm (bt s i) with
   | true =>
    refine ev_pos rfl ?_
    rw [Bool.true_and]
    exact ih (i + 1) (by omega) (by omega)
   | false =>
    refine ev_neg (by decide) (ev_of ?_)
    rw [Bool.false_and, Bool.and_false]
  ·simp only [decide_eq_false h0, spec_AtomValid.j1, Bool.false_eq_true, if_false]
   exact fin i (by omega) (by omega)
theorem spec_AtomValid_ev (s : ByteArray) (hs : s.size ≤ 4611686018427387904) : Ev (fun k => spec_AtomValid.f k s) (atomOk (bytesOf s)) := by
 have h := spec_AtomValid_l0 s hs s.size 0 (by omega) (by omega)
 rw [List.drop_zero] at h
 unfold atomOk
 rw [L_len]
 exact h
theorem rdOf_get (l : List ByteArray) (i : Nat) (h : i < l.length) : rdOf ByteArray.empty l (i : Int) = l[i] := by
 rw [rdOf, Int.toNat_natCast, List.getD_eq_getElem?_getD, List.getElem?_eq_getElem h]
 rfl
theorem impl_isLocal_eq (s : ByteArray) : impl_isLocal.f s = some (localOk (bytesOf s)) := by
 unfold impl_isLocal.f localOk
 by_cases h : (s.size : Int) ≤ 30
 ·obtain ⟨ps, h1, h2, h3⟩ := strings_Split_eq s (by omega)
  rw [if_pos h, h1, Option.bind_some, ContainsFunc__impl_isLocal_1.f, anyO_some (q := fun x => !atomOk (bytesOf x)) ps (fun x _ => by unfold impl_isLocal_1.f; rw [impl_AtomValid_eq, Option.bind_some]), Option.bind_some, decide_eq_true (by rw [L_len]; omega), Bool.true_and, ← h2, List.all_map, List.not_any_eq_all_not]
  simp [Function.comp_def]
 ·rw [if_neg h, decide_eq_false (by rw [L_len]; omega), Bool.false_and]
theorem impl_isLabel_1_eq (x : Int) : impl_isLabel_1.f x = some (isLow x) := by
 unfold impl_isLabel_1.f isLow
 rw [impl_isDigit_eq]
 simp only [Option.bind_some, isDig, decide_eq_true_eq]
 repeat' split
 all_goals first | exact congrArg some (decide_eq_true (by omega)).symm | exact congrArg some (decide_eq_false (by omega)).symm | (rw [show (x == 45) = decide (x = 45) from (Bool.decide_eq_eq_eq_beq x 45)]; exact congrArg some (decide_eq_decide.2 (by omega))) | (refine congrArg some ?_; rw [Bool.eq_iff_iff, beq_iff_eq, decide_eq_true_eq]; omega)
theorem impl_isLabel_eq (s : ByteArray) (hs : s.size ≤ 1048576) : impl_isLabel.f s = some (labelOk (bytesOf s)) := by
 unfold impl_isLabel.f labelOk
 by_cases h0 : s.toList = ([] : List UInt8)
 ·rw [if_pos h0]
  have e : bytesOf s = [] := by
   have : s = (⟨#[]⟩ : ByteArray) := toList_iff.1 (by rw [h0, toList_nil])
   rw [this]; rfl
  rw [e]; rfl
 ·have hp : 0 < s.size := by
   rcases Nat.eq_zero_or_pos s.size with h | h
   ·exact absurd (by rw [← toList_nil, toList_iff, ← L_iff, L_nil]; exact (size_nil_iff s).1 h) h0
   ·exact h
  have hne : bytesOf s ≠ [] := fun e => by rw [← size_nil_iff] at e; omega
  have h1 : (bytesOf s).head? = some (bt s 0) := by rw [List.head?_eq_getElem?]; exact bt_get s 0 hp
  have h2 : (bytesOf s).getLast? = some (bt s ((s.size - 1 : Nat) : Int)) := by rw [List.getLast?_eq_getElem?, L_len]; exact bt_get s (s.size - 1) (by omega)
  have ew : wrap64 ((s.size : Int) - 1) = ((s.size - 1 : Nat) : Int) := by rw [wrap_id (by omega) (by omega)]; omega
  rw [if_neg h0, if_pos (by omega), ew, decide_eq_true hne, Bool.true_and, h1, h2]
  by_cases h3 : bt s 0 = 45
  ·rw [if_pos h3, decide_eq_false (by simp [h3]), Bool.false_and]
  ·rw [if_neg h3, if_pos (by omega), if_pos (by omega), decide_eq_true (by simpa using h3), Bool.true_and]
   by_cases h4 : bt s ((s.size - 1 : Nat) : Int) = 45
   ·rw [if_pos h4, decide_eq_false (by simp [h4]), Bool.false_and]
   ·rw [if_neg h4, decide_eq_true (by simpa using h4), Bool.true_and, allBytes__impl_isLabel_1.f, if_pos (by omega), allO_some (q := isLow) _ fun x _ => impl_isLabel_1_eq x, Option.bind_some]
theorem impl_isDomain_eq (s : ByteArray) : impl_isDomain.f s = some (domOk (bytesOf s)) := by
 unfold impl_isDomain.f domOk
 by_cases h : (s.size : Int) ≤ 40
 ·obtain ⟨ps, h1, h2, h3⟩ := strings_Split_eq s (by omega)
  have hz : ∀ x ∈ ps, x.size ≤ 1048576 := fun x hx => by
   have := pcs_sub 46 (bytesOf s) [] (bytesOf x) (by rw [← h2]; exact List.mem_map_of_mem hx)
   rw [L_len, L_len] at this
   simp only [List.length_nil] at this
   omega
  rw [if_pos h, h1, Option.bind_some, ContainsFunc__impl_isDomain_1.f, anyO_some (q := fun x => !labelOk (bytesOf x)) ps (fun x hx => by unfold impl_isDomain_1.f; rw [impl_isLabel_eq x (hz x hx), Option.bind_some]), Option.bind_some, decide_eq_true (by rw [L_len]; omega), Bool.true_and, ← h2, List.all_map, List.not_any_eq_all_not]
  simp [Function.comp_def]
 ·rw [if_neg h, decide_eq_false (by rw [L_len]; omega), Bool.false_and]
theorem impl_AddressValid_ev (a b c : ByteArray) (ha : a.size ≤ 1048576) (hb : b.size ≤ 1048576) (hc : c.size ≤ 1048576) : Ev (fun k => impl_AddressValid.f k a b c) (addrOk (bytesOf a) (bytesOf b) (bytesOf c)) := by
 unfold impl_AddressValid.f addrOk
 refine ev_bind (impl_TextValid_ev a (by omega)) ?_
 cases textOk (bytesOf a) with
 | false => exact ev_neg (by decide) (Ev.now _)
 | true =>
  refine ev_pos rfl ?_
  by_cases h : (a.size : Int) ≤ 40
  ·rw [decide_eq_true (by rw [L_len]; omega), Bool.true_and, Bool.true_and]
   refine ev_pos h (ev_bind1 (impl_isLocal_eq b) ?_)
   cases localOk (bytesOf b) with
   | false => exact ev_neg (by decide) (Ev.now _)
   | true => exact ev_pos rfl (ev_bind1 (impl_isDomain_eq c) (Ev.now _))
  ·rw [decide_eq_false (by rw [L_len]; omega)]
   exact ev_neg h (Ev.now _)
theorem spec_l2Parts_l0 (s : ByteArray) (hs : s.size ≤ 1048576) (c : Int) : ∀ (d i st : Nat) (out : List ByteArray), i + d = s.size → st ≤ i → out.length ≤ st → Ev (fun k => spec_l2Parts.l0 k s c out (st : Int) (i : Int)) (out ++ (pcs c (((bytesOf s).drop st).take (i - st)) ((bytesOf s).drop i)).map strOfNums) := by
 intro d
 induction d with
 | zero =>
  intro i st out hi hst ho
  refine ev_succ ?_
  simp only [spec_l2Parts.l0]
  rw [L_drop_nil s i (by omega), pcs, Int.toNat_natCast, Int.toNat_natCast]
  have e : s.extract st s.size = strOfNums (((bytesOf s).drop st).take (i - st)) := by rw [extract_S, show i = s.size by omega]
  refine ev_neg (by omega) (ev_pos (by omega) (ev_pos (by omega) (ev_pos (by omega) (ev_of ?_))))
  rw [e]; rfl
 | succ d ih =>
  intro i st out hi hst ho
  refine ev_succ ?_
  simp only [spec_l2Parts.l0]
  rw [L_drop s i (by omega), wrap_succ i (by omega)]
  refine ev_pos (by omega) (ev_pos (by omega) ?_)
  rw [pcs]
  by_cases h : bt s i = c
  ·rw [if_pos h]
   refine ev_pos h (ev_pos (by omega) (ev_pos (by omega) (ev_pos (by omega) (ev_pos (by omega) ?_))))
   rw [Int.toNat_natCast, Int.toNat_natCast, extract_S s st i]
   refine ev_cast (ih (i + 1) (i + 1) _ (by omega) (by omega) (by simp; omega)) ?_
   rw [Nat.sub_self, List.take_zero, List.map_cons, List.append_assoc]
   rfl
  ·rw [if_neg h]
   refine ev_neg h (ev_cast (ih (i + 1) st out (by omega) (by omega) (by omega)) ?_)
   rw [show i + 1 - st = (i - st) + 1 by omega, List.take_succ_eq_append_getElem (by rw [List.length_drop, L_len]; omega), List.getElem_drop]
   congr 3
   have := bytesOf_at s i (by omega)
   simp only [show st + (i - st) = i by omega]
   rw [this]
theorem spec_l2Parts_ev (s : ByteArray) (hs : s.size ≤ 1048576) (c : Int) : Ev (fun k => spec_l2Parts.f k s c) ((pcs c [] (bytesOf s)).map strOfNums) := by
 have h := spec_l2Parts_l0 s hs c s.size 0 0 [] (by omega) (by omega) (by simp)
 rw [List.drop_zero, Nat.sub_zero, List.take_zero, List.nil_append] at h
 unfold spec_l2Parts.f
 exact h
theorem all_drop {α : Type} (p : α → Bool) (l : List α) (i : Nat) (h : i < l.length) : (l.drop i).all p = (p l[i] && (l.drop (i + 1)).all p) := by
 rw [List.drop_eq_getElem_cons h, List.all_cons]
theorem spec_l2Local_l0 (s : ByteArray) (ps : List ByteArray) (hp : ∀ p ∈ ps, p.size ≤ 1048576) (hl : ps.length ≤ 1048577) : ∀ (d i : Nat), i + d = ps.length → Ev (fun k => spec_l2Local.l0 k s ps (i : Int)) ((ps.drop i).all (fun p => atomOk (bytesOf p)) && decide (s.size ≤ 30)) := by
 intro d
 induction d with
 | zero =>
  intro i hi
  refine ev_succ ?_
  simp only [spec_l2Local.l0]
  rw [List.drop_eq_nil_of_le (by omega), List.all_nil, Bool.true_and]
  exact ev_neg (by omega) (ev_of (congrArg some (decide_eq_decide.2 (by omega))))
 | succ d ih =>
  intro i hi
  have hlt : i < ps.length := by omega
  have hz := hp _ (List.getElem_mem hlt)
  refine ev_succ ?_
  simp only [spec_l2Local.l0]
  rw [rdOf_get ps i hlt, wrap_succ i (by omega), all_drop _ _ _ hlt]
  refine ev_pos (by omega) (ev_pos (by omega) ((ev_bind (spec_AtomValid_ev _ (by omega)) ?_)))
  cases h : atomOk (bytesOf ps[i]) with
  | true => exact ev_pos rfl (ev_cast (ih (i + 1) (by omega)) (by rw [Bool.true_and]))
  | false => exact ev_neg (by decide) (Ev.now _)
theorem pcs_S (s : ByteArray) (c : Int) : ((pcs c [] (bytesOf s)).map strOfNums).map bytesOf = pcs c [] (bytesOf s) := by
 rw [List.map_map]
 conv => rhs; rw [← List.map_id (pcs c [] (bytesOf s))]
 refine List.map_congr_left fun p hp => ?_
 exact L_S ((L_IsB s).sub fun x hx => pcs_in c (bytesOf s) [] p hp x hx)
theorem pcs_size (s : ByteArray) (c : Int) : (∀ p ∈ (pcs c [] (bytesOf s)).map strOfNums, p.size ≤ s.size) ∧ ((pcs c [] (bytesOf s)).map strOfNums).length ≤ s.size + 1 := by
 refine ⟨fun p hp => ?_, ?_⟩
 ·obtain ⟨q, hq, rfl⟩ := List.mem_map.1 hp
  have := pcs_sub c (bytesOf s) [] q hq
  rw [S_size]
  rw [L_len] at this
  simpa using this
 ·rw [List.length_map, ← L_len s]
  exact pcs_len c (bytesOf s) []
theorem spec_l2Local_ev (s : ByteArray) (hs : s.size ≤ 1048576) : Ev (fun k => spec_l2Local.f k s) (localOk (bytesOf s)) := by
 unfold spec_l2Local.f
 obtain ⟨h1, h2⟩ := pcs_size s 46
 refine ev_bind (spec_l2Parts_ev s hs 46) ?_
 have h := spec_l2Local_l0 s _ (fun p hp => by have := h1 p hp; omega) (by omega) _ 0 (Nat.zero_add _)
 refine ev_cast h ?_
 unfold localOk
 rw [List.drop_zero, Bool.and_comm, L_len]
 congr 1
 have := pcs_S s 46
 conv => rhs; rw [← this]
 simp only [List.all_map]
 rfl
theorem labelOk_def (p : List Int) : labelOk p = (decide (p ≠ []) && (decide (p.head? ≠ some 45) && (decide (p.getLast? ≠ some 45) && p.all isLow))) := rfl
theorem spec_letter_low (x : Int) : (decide ((97 ≤ x ∧ x ≤ 122) ∨ (65 ≤ x ∧ x ≤ 90) ∨ (48 ≤ x ∧ x ≤ 57)) = true ∧ ¬ (65 ≤ x ∧ x ≤ 90)) ∨ x = 45 ↔ isLow x = true := by
 simp only [isLow, decide_eq_true_eq]
 omega
theorem spec_l2Domain_l1 (s : ByteArray) (ps : List ByteArray) (i : Nat) (hi : i < 1048577) (p : ByteArray) (hz : p.size ≤ 1048576) (R : Bool) (hR : Ev (fun k => spec_l2Domain.l0 k s ps ((i + 1 : Nat) : Int)) R) : ∀ (d j : Nat), j + d = p.size → Ev (fun k => spec_l2Domain.l1 k s ps (i : Int) p (j : Int)) (((bytesOf p).drop j).all isLow && R) := by
 intro d
 induction d with
 | zero =>
  intro j hj
  refine ev_succ ?_
  simp only [spec_l2Domain.l1]
  rw [L_drop_nil p j (by omega), List.all_nil, Bool.true_and, wrap_succ i (by omega)]
  exact ev_neg (by omega) hR
 | succ d ih =>
  intro j hj
  refine ev_succ ?_
  simp only [spec_l2Domain.l1]
  rw [L_drop p j (by omega), List.all_cons, wrap_succ j (by omega)]
  have hiff := spec_letter_low (bt p j)
  have hgo := ih (j + 1) (by omega)
  refine ev_pos (by omega) (ev_pos (by omega) (ev_bind1 (spec_l1Letter_eq _) ?_))
  cases hl : isLow (bt p j) with
  | true =>
   rw [Bool.true_and]
   rcases hiff.2 hl with ⟨h1, h2⟩ | h1
   ·refine ev_pos h1 ?_
    by_cases h3 : bt p j ≥ 65
    ·exact ev_pos h3 (ev_neg (by omega) hgo)
    ·exact ev_neg h3 hgo
   ·refine ev_neg (by rw [h1]; decide) (ev_pos h1 (ev_neg (by omega) hgo))
  | false =>
   have h1 : ¬ _ := fun h => by have := hiff.1 h; rw [hl] at this; cases this
   rw [Bool.false_and]
   by_cases h2 : decide ((97 ≤ bt p j ∧ bt p j ≤ 122) ∨ (65 ≤ bt p j ∧ bt p j ≤ 90) ∨ (48 ≤ bt p j ∧ bt p j ≤ 57)) = true
   ·have h3 : 65 ≤ bt p j ∧ bt p j ≤ 90 := Classical.not_not.1 fun h => h1 (.inl ⟨h2, h⟩)
    exact ev_pos h2 (ev_pos (by omega) (ev_pos (by omega) (Ev.now _)))
   ·exact ev_neg h2 (ev_neg (fun h => h1 (.inr h)) (Ev.now _))
theorem spec_l2Domain_l0 (s : ByteArray) (ps : List ByteArray) (hp : ∀ p ∈ ps, p.size ≤ 1048576) (hl : ps.length ≤ 1048577) : ∀ (d i : Nat), i + d = ps.length → Ev (fun k => spec_l2Domain.l0 k s ps (i : Int)) ((ps.drop i).all (fun p => labelOk (bytesOf p)) && decide (s.size ≤ 40)) := by
 intro d
 induction d with
 | zero =>
  intro i hi
  refine ev_succ ?_
  simp only [spec_l2Domain.l0]
  rw [List.drop_eq_nil_of_le (by omega), List.all_nil, Bool.true_and]
  exact ev_neg (by omega) (ev_of (congrArg some (decide_eq_decide.2 (by omega))))
 | succ d ih =>
  intro i hi
  have hlt : i < ps.length := by omega
  have hz := hp _ (List.getElem_mem hlt)
  refine ev_succ ?_
  simp only [spec_l2Domain.l0]
  rw [rdOf_get ps i hlt, all_drop _ _ _ hlt]
  generalize ps[i] = p at hz
  refine ev_pos (by omega) (ev_pos (by omega) ?_)
  by_cases h0 : p.toList = ([] : List UInt8)
  ·have e : bytesOf p = [] := by
    have : p = (⟨#[]⟩ : ByteArray) := toList_iff.1 (by rw [h0, toList_nil])
    rw [this]; rfl
   rw [e, show labelOk [] = false from rfl, Bool.false_and, Bool.false_and]
   refine ev_pos h0 (ev_succ ?_)
   simp only [spec_l2Domain.j1, if_true]
   exact Ev.now _
  ·have hpos : 0 < p.size := by
    rcases Nat.eq_zero_or_pos p.size with h | h
    ·exact absurd (by rw [← toList_nil, toList_iff, ← L_iff, L_nil]; exact (size_nil_iff p).1 h) h0
    ·exact h
   have hne : bytesOf p ≠ [] := fun e => by rw [← size_nil_iff] at e; omega
   have h1 : (bytesOf p).head? = some (bt p 0) := by rw [List.head?_eq_getElem?]; exact bt_get p 0 hpos
   have h2 : (bytesOf p).getLast? = some (bt p ((p.size - 1 : Nat) : Int)) := by rw [List.getLast?_eq_getElem?, L_len]; exact bt_get p (p.size - 1) (by omega)
   have ew : wrap64 ((p.size : Int) - 1) = ((p.size - 1 : Nat) : Int) := by rw [wrap_id (by omega) (by omega)]; omega
   have hgo := spec_l2Domain_l1 s ps i (by omega) p hz _ (ih (i + 1) (by omega)) p.size 0 (by omega)
   rw [List.drop_zero] at hgo
   rw [ew]
   refine ev_neg h0 (ev_pos (by omega) ?_)
   rw [labelOk_def (bytesOf p), decide_eq_true hne, Bool.true_and, h1, h2]
   by_cases h3 : bt p 0 = 45
   ·rw [decide_eq_false (by simp [h3]), Bool.false_and, Bool.false_and]
    refine ev_pos h3 (ev_succ ?_)
    simp only [spec_l2Domain.j1, if_true]
    exact Ev.now _
   ·rw [decide_eq_true (p := some (bt p 0) ≠ some 45) (by simpa using h3), Bool.true_and]
    refine ev_neg h3 (ev_pos (by omega) (ev_pos (by omega) (ev_succ ?_)))
    simp only [spec_l2Domain.j1]
    by_cases h4 : bt p ((p.size - 1 : Nat) : Int) = 45
    ·rw [decide_eq_false (by simp [h4]), Bool.false_and, Bool.false_and]
     exact ev_pos (by rw [h4]; rfl) (Ev.now _)
    ·rw [decide_eq_true (p := some (bt p ((p.size - 1 : Nat) : Int)) ≠ some 45) (by simpa using h4), Bool.true_and]
     rw [Bool.and_assoc]
     exact ev_neg (by simpa using h4) hgo
theorem spec_l2Domain_ev (s : ByteArray) (hs : s.size ≤ 1048576) : Ev (fun k => spec_l2Domain.f k s) (domOk (bytesOf s)) := by
 unfold spec_l2Domain.f
 obtain ⟨h1, h2⟩ := pcs_size s 46
 refine ev_bind (spec_l2Parts_ev s hs 46) ?_
 have h := spec_l2Domain_l0 s _ (fun p hp => by have := h1 p hp; omega) (by omega) _ 0 (Nat.zero_add _)
 refine ev_cast h ?_
 unfold domOk
 rw [List.drop_zero, Bool.and_comm, L_len]
 congr 1
 have := pcs_S s 46
 conv => rhs; rw [← this]
 simp only [List.all_map]
 rfl
theorem spec_AddressValid_ev (a b c : ByteArray) (ha : a.size ≤ 1048576) (hb : b.size ≤ 1048576) (hc : c.size ≤ 1048576) : Ev (fun k => spec_AddressValid.f k a b c) (addrOk (bytesOf a) (bytesOf b) (bytesOf c)) := by
 unfold spec_AddressValid.f addrOk
 have hn : Ev (fun k => spec_l2Name.f k a) (textOk (bytesOf a) && decide ((bytesOf a).length ≤ 40)) := by
  unfold spec_l2Name.f
  refine ev_bind (spec_TextValid_ev a (by omega)) ?_
  cases textOk (bytesOf a) with
  | false => exact ev_neg (by decide) (Ev.now _)
  | true => exact ev_pos rfl (ev_of (congrArg some (by rw [Bool.true_and]; exact decide_eq_decide.2 (by rw [L_len]; omega))))
 refine ev_bind hn ?_
 rw [← Bool.and_assoc]
 cases textOk (bytesOf a) && decide ((bytesOf a).length ≤ 40) with
 | false => exact ev_neg (by decide) (Ev.now _)
 | true =>
  rw [Bool.true_and]
  refine ev_pos rfl ?_
  by_cases h : (b.size : Int) ≤ 30
  ·refine ev_pos h (ev_bind (spec_l2Local_ev b hb) ?_)
   cases localOk (bytesOf b) with
   | false => exact ev_neg (by decide) (Ev.now _)
   | true =>
    rw [Bool.true_and]
    refine ev_pos rfl ?_
    by_cases h2 : (c.size : Int) ≤ 40
    ·exact ev_pos h2 (ev_bind (spec_l2Domain_ev c hc) (Ev.now _))
    ·refine ev_neg h2 (ev_of (congrArg some ?_))
     unfold domOk
     rw [decide_eq_false (by rw [L_len]; omega), Bool.false_and]
  ·refine ev_neg h (ev_of (congrArg some ?_))
   unfold localOk
   rw [decide_eq_false (by rw [L_len]; omega), Bool.false_and, Bool.false_and]
theorem extract_one (s : ByteArray) (i : Nat) (h : i < s.size) : s.extract i (i + 1) = strOfNums [bt s i] := by
 rw [extract_S, L_drop s i h, show i + 1 - i = 1 by omega]
 rfl
theorem extract_from_size (s : ByteArray) (i : Nat) : (s.extract i s.size).size = s.size - i := by rw [← L_len, L_from, List.length_drop, L_len]
def rq (n : Nat) (acc : List Int) : Option (List Int × List Int) → ByteArray × Int × Bool
 | none => ((⟨#[]⟩ : ByteArray), 0, false)
 | some (t, r) => (strOfNums (acc ++ t), (n : Int) - r.length, true)
theorem rq_map (n : Nat) (acc : List Int) (y : Int) (o : Option (List Int × List Int)) : rq n acc (o.map fun p => (y :: p.1, p.2)) = rq n (acc ++ [y]) o := by
 cases o with
 | none => rfl
 | some p => obtain ⟨t, r⟩ := p; simp [rq]
theorem impl_quoted_l0 (s : ByteArray) (hs : s.size ≤ 1048576) : ∀ (d i : Nat) (acc : List Int), s.size - i ≤ d → i ≤ s.size → acc.length ≤ i → Ev (fun k => impl_quoted.l0 k s acc (i : Int)) (rq s.size acc (readQ ((bytesOf s).drop i))) := by
 intro d
 induction d with
 | zero =>
  intro i acc hd hi ha
  refine ev_succ ?_
  simp only [impl_quoted.l0]
  rw [L_drop_nil s i (by omega)]
  exact ev_neg (by omega) (Ev.now _)
 | succ d ih =>
  intro i acc hd hi ha
  refine ev_succ ?_
  simp only [impl_quoted.l0]
  by_cases hlt : i < s.size
  ·rw [L_drop s i hlt, wrap_succ i (by omega)]
   refine ev_pos (by omega) (ev_pos (by omega) ?_)
   by_cases h1 : bt s i = 34
   ·rw [h1, readQ_end]
    refine ev_pos rfl (ev_of ?_)
    have : (((bytesOf s).drop (i + 1)).length : Int) = s.size - (i + 1) := by rw [List.length_drop, L_len]; omega
    simp only [rq, List.append_nil, this]
    congr 3
    omega
   ·refine ev_neg h1 ?_
    by_cases h2 : bt s i = 92
    ·refine ev_pos h2 ?_
     rw [h2]
     by_cases h3 : i + 1 = s.size
     ·rw [L_drop_nil s (i + 1) (by omega), readQ_bs_nil]
      exact ev_pos (by omega) (Ev.now _)
     ·rw [L_drop s (i + 1) (by omega), readQ_bs, rq_map, wrap_succ (i + 1) (by omega)]
      refine ev_neg (by omega) (ev_pos (by omega) (ev_pos (by omega) (ev_pos (by omega) ?_)))
      exact ih (i + 2) _ (by omega) (by omega) (by simp only [List.length_append, List.length_cons, List.length_nil]; omega)
    ·rw [readQ_cons _ _ h1 h2, rq_map]
     refine ev_neg h2 (ev_pos (by omega) ?_)
     exact ih (i + 1) _ (by omega) (by omega) (by simp only [List.length_append, List.length_cons, List.length_nil]; omega)
  ·rw [L_drop_nil s i (by omega)]
   exact ev_neg (by omega) (Ev.now _)
/-- impl's quoted, at a text that begins with a quote. -/
theorem impl_quoted_ev (s : ByteArray) (hs : s.size ≤ 1048576) (h0 : 0 < s.size) : Ev (fun k => impl_quoted.f k s) (rq s.size [] (readQ ((bytesOf s).drop 1))) :=
 impl_quoted_l0 s hs s.size 1 [] (by omega) (by omega) (by simp)
def rd1 (n : Nat) (acc : List Int) : Option (List Int × List Int) → ByteArray × Int
 | none => ((⟨#[]⟩ : ByteArray), -1)
 | some (t, r) => (strOfNums (acc ++ t), (n : Int) - r.length)
theorem rd1_map (n : Nat) (acc : List Int) (y : Int) (o : Option (List Int × List Int)) : rd1 n acc (o.map fun p => (y :: p.1, p.2)) = rd1 n (acc ++ [y]) o := by
 cases o with
 | none => rfl
 | some p => obtain ⟨t, r⟩ := p; simp [rd1]
theorem spec_l1Read_l0 (s : ByteArray) (hs : s.size ≤ 1048576) : ∀ (d i : Nat) (acc : List Int), s.size - i ≤ d → i ≤ s.size → acc.length ≤ i → Ev (fun k => spec_l1Read.l0 k s (strOfNums acc) (i : Int)) (rd1 s.size acc (readQ ((bytesOf s).drop i))) := by
 intro d
 induction d with
 | zero =>
  intro i acc hd hi ha
  refine ev_succ ?_
  simp only [spec_l1Read.l0]
  rw [L_drop_nil s i (by omega)]
  exact ev_neg (by omega) (Ev.now _)
 | succ d ih =>
  intro i acc hd hi ha
  refine ev_succ ?_
  simp only [spec_l1Read.l0]
  by_cases hlt : i < s.size
  ·rw [L_drop s i hlt, wrap_succ i (by omega)]
   refine ev_pos (by omega) (ev_pos (by omega) ?_)
   by_cases h1 : bt s i = 34
   ·rw [h1, readQ_end]
    refine ev_pos rfl (ev_of ?_)
    have : (((bytesOf s).drop (i + 1)).length : Int) = s.size - (i + 1) := by rw [List.length_drop, L_len]; omega
    simp only [rd1, List.append_nil, this]
    congr 2
    omega
   ·refine ev_neg h1 ?_
    by_cases h2 : bt s i = 92
    ·refine ev_pos h2 ?_
     rw [h2]
     by_cases h3 : i + 1 = s.size
     ·rw [L_drop_nil s (i + 1) (by omega), readQ_bs_nil]
      exact ev_pos (by omega) (Ev.now _)
     ·rw [L_drop s (i + 1) (by omega), readQ_bs, rd1_map, wrap_succ (i + 1) (by omega), Int.toNat_natCast, Int.toNat_natCast, extract_one s (i + 1) (by omega)]
      refine ev_neg (by omega) (ev_pos (by omega) (ev_pos (by omega) (ev_pos (by omega) (ev_pos (by rw [S_size, S_size]; simp; omega) ?_))))
      rw [S_append]
      exact ih (i + 2) _ (by omega) (by omega) (by simp only [List.length_append, List.length_cons, List.length_nil]; omega)
    ·rw [readQ_cons _ _ h1 h2, rd1_map, Int.toNat_natCast, Int.toNat_natCast, extract_one s i (by omega)]
     refine ev_neg h2 (ev_pos (by omega) (ev_pos (by omega) (ev_pos (by rw [S_size, S_size]; simp; omega) ?_)))
     rw [S_append]
     exact ih (i + 1) _ (by omega) (by omega) (by simp only [List.length_append, List.length_cons, List.length_nil]; omega)
  ·rw [L_drop_nil s i (by omega)]
   exact ev_neg (by omega) (Ev.now _)
theorem spec_l1Read_ev (s : ByteArray) (hs : s.size ≤ 1048576) (i : Nat) (hi : i < s.size) : Ev (fun k => spec_l1Read.f k s (i : Int)) (rd1 s.size [] (readQ ((bytesOf s).drop (i + 1)))) := by
 unfold spec_l1Read.f
 rw [wrap_succ i (by omega)]
 exact spec_l1Read_l0 s hs s.size (i + 1) [] (by omega) (by omega) (by simp)
def sB (acc : List ByteArray) : Option (List (List Int)) → List ByteArray × Bool
 | none => ([], false)
 | some ws => (acc ++ ws.map strOfNums, true)
theorem sB_map (acc : List ByteArray) (w : List Int) (o : Option (List (List Int))) : sB acc (o.map (w :: ·)) = sB (acc ++ [strOfNums w]) o := by
 cases o with
 | none => rfl
 | some ws => simp [sB]
theorem drop_drop_atm (s : ByteArray) (j : Nat) : (bytesOf s).drop (j + (((bytesOf s).drop j).takeWhile isAtm).length) = ((bytesOf s).drop j).dropWhile isAtm := by
 rw [← List.drop_drop]
 generalize (bytesOf s).drop j = l
 have := List.takeWhile_append_dropWhile (p := isAtm) (l := l)
 conv => lhs; rw [← this, List.drop_append_of_le_length (by simp)]
 simp
theorem extract_atm (s : ByteArray) (i m : Nat) (h : m = (((bytesOf s).drop i).takeWhile isAtm).length) : s.extract i (i + m) = strOfNums (((bytesOf s).drop i).takeWhile isAtm) := by
 rw [extract_S, Nat.add_sub_cancel_left, h]
 generalize (bytesOf s).drop i = l
 have := List.takeWhile_append_dropWhile (p := isAtm) (l := l)
 conv => lhs; rw [← this, List.take_append_of_le_length (by simp)]
 simp
def spB (s : ByteArray) : List ByteArray × Bool := ((splitW (bytesOf s)).1.map strOfNums, (splitW (bytesOf s)).2)
theorem impl_Split_l1 (s : ByteArray) (hs : s.size ≤ 1048576) (acc : List ByteArray) (i : Nat) (hacc : acc.length ≤ i) : ∀ (d j : Nat), s.size - j ≤ d → i ≤ j → j ≤ s.size → (i < j + (((bytesOf s).drop j).takeWhile isAtm).length) → ∀ r,
  Ev (fun k => impl_SplitWords.l0 k s (acc ++ [s.extract i (j + (((bytesOf s).drop j).takeWhile isAtm).length)]) ((j + (((bytesOf s).drop j).takeWhile isAtm).length : Nat) : Int) false) r → Ev (fun k => impl_SplitWords.l1 k s acc (i : Int) (j : Int)) r := by
 intro d
 induction d with
 | zero =>
  intro j hd hij hj hlt r h
  rw [L_drop_nil s j (by omega), List.takeWhile_nil, List.length_nil, Nat.add_zero] at h hlt
  refine ev_succ ?_
  simp only [impl_SplitWords.l1]
  rw [Int.toNat_natCast, Int.toNat_natCast]
  exact ev_neg (by omega) (ev_neg (by omega) (ev_pos (by omega) (ev_pos (by omega) (ev_pos (by omega) (ev_pos (by omega) h)))))
 | succ d ih =>
  intro j hd hij hj hlt r h
  refine ev_succ ?_
  simp only [impl_SplitWords.l1]
  by_cases hz : j < s.size
  ·refine ev_pos (by omega) (ev_pos (by omega) (ev_bind1 (impl_isAtomByte_eq _) ?_))
   rw [L_drop s j hz] at h hlt
   cases hA : isAtm (bt s j) with
   | true =>
    rw [List.takeWhile_cons_of_pos hA, List.length_cons, show j + ((((bytesOf s).drop (j + 1)).takeWhile isAtm).length + 1) = (j + 1) + (((bytesOf s).drop (j + 1)).takeWhile isAtm).length by omega] at h hlt
    rw [wrap_succ j (by omega)]
    exact ev_pos rfl (ih (j + 1) (by omega) (by omega) (by omega) hlt r h)
   | false =>
    rw [List.takeWhile_cons_of_neg (by rw [hA]; decide), List.length_nil, Nat.add_zero] at h hlt
    rw [Int.toNat_natCast, Int.toNat_natCast]
    exact ev_neg (by decide) (ev_neg (by omega) (ev_pos (by omega) (ev_pos (by omega) (ev_pos (by omega) (ev_pos (by omega) h)))))
  ·rw [L_drop_nil s j (by omega), List.takeWhile_nil, List.length_nil, Nat.add_zero] at h hlt
   rw [Int.toNat_natCast, Int.toNat_natCast]
   exact ev_neg (by omega) (ev_neg (by omega) (ev_pos (by omega) (ev_pos (by omega) (ev_pos (by omega) (ev_pos (by omega) h)))))
theorem impl_Split_l0 (s : ByteArray) (hs : s.size ≤ 1048576) : ∀ (d i : Nat) (acc : List ByteArray) (ap : Bool), s.size - i ≤ d → i ≤ s.size → acc.length ≤ i → Ev (fun k => impl_SplitWords.l0 k s acc (i : Int) ap) (sB acc (words ap ((bytesOf s).drop i))) := by
 intro d
 induction d with
 | zero =>
  intro i acc ap hd hi ha
  refine ev_succ ?_
  simp only [impl_SplitWords.l0]
  rw [L_drop_nil s i (by omega), words_nil]
  exact ev_neg (by omega) (ev_of (by simp [sB]))
 | succ d ih =>
  intro i acc ap hd hi ha
  by_cases hlt : i < s.size
  ·refine ev_succ ?_
   simp only [impl_SplitWords.l0]
   have hdr := L_drop s i hlt
   rw [hdr]
   refine ev_pos (by omega) (ev_pos (by omega) ?_)
   by_cases h1 : bt s i = 32
   ·rw [h1, words_sp, wrap_succ i (by omega)]
    exact ev_pos rfl (ih (i + 1) acc true (by omega) (by omega) (by omega))
   ·refine ev_neg h1 ?_
    cases ap with
    | false =>
     rw [words_glued _ _ h1]
     exact ev_neg (by decide) (Ev.now _)
    | true =>
     refine ev_pos rfl ?_
     by_cases h2 : bt s i = 34
     ·refine ev_pos h2 (ev_pos (by omega) ?_)
      rw [Int.toNat_natCast, h2]
      have hz := extract_from_size s i
      have hq := impl_quoted_ev (s.extract i s.size) (by omega) (by omega)
      rw [L_from, List.drop_drop, hz] at hq
      refine ev_bind hq ?_
      cases hR : readQ ((bytesOf s).drop (i + 1)) with
      | none =>
       rw [words_q_none _ hR]
       exact ev_neg (by simp [rq]) (Ev.now _)
      | some p =>
       obtain ⟨t, r⟩ := p
       rw [words_q _ t r hR, sB_map]
       obtain ⟨pre, hpre, hl, hm⟩ := readQ_some hR
       have hlen := congrArg List.length hpre
       rw [List.length_drop, L_len, List.length_append, List.length_cons] at hlen
       have hr : r = (bytesOf s).drop (s.size - r.length) := by
        have h3 : (bytesOf s).drop (i + 1 + (pre.length + 1)) = r := by
         rw [← List.drop_drop, hpre, ← List.drop_drop, List.drop_left]
         rfl
        have hn : i + 1 + (pre.length + 1) = s.size - r.length := by omega
        rw [hn] at h3
        exact h3.symm
       simp only [rq, List.nil_append]
       have e : wrap64 ((i : Int) + (((s.size - i : Nat) : Int) - (r.length : Int))) = ((s.size - r.length : Nat) : Int) := by rw [wrap_id (by omega) (by omega)]; omega
       rw [e]
       refine ev_pos trivial (ev_pos (by omega) ?_)
       refine ev_cast (ih (s.size - r.length) (acc ++ [strOfNums t]) false (by omega) (by omega) (by simp only [List.length_append, List.length_cons, List.length_nil]; omega)) ?_
       rw [← hr]
     ·refine ev_neg h2 ?_
      cases hA : isAtm (bt s i) with
      | true =>
       rw [words_atm _ _ hA, sB_map]
       have hT : ((bytesOf s).drop i).takeWhile isAtm = bt s i :: ((bytesOf s).drop (i + 1)).takeWhile isAtm := by rw [hdr, List.takeWhile_cons_of_pos hA]
       have hTl : 1 ≤ (((bytesOf s).drop i).takeWhile isAtm).length := by rw [hT]; simp
       have hle : (((bytesOf s).drop i).takeWhile isAtm).length ≤ s.size - i := by
        have := (List.takeWhile_prefix isAtm (l := (bytesOf s).drop i)).length_le
        rw [List.length_drop, L_len] at this
        exact this
       refine impl_Split_l1 s hs acc i ha s.size i (by omega) (by omega) (by omega) (by omega) _ ?_
       rw [extract_atm s i _ rfl]
       refine ev_cast (ih (i + (((bytesOf s).drop i).takeWhile isAtm).length) _ false (by omega) (by omega) (by simp only [List.length_append, List.length_cons, List.length_nil]; omega)) ?_
       rw [drop_drop_atm, hT, hdr, List.dropWhile_cons_of_pos hA]
      | false =>
       rw [words_bad _ _ h1 h2 hA]
       refine ev_succ ?_
       simp only [impl_SplitWords.l1]
       refine ev_pos (by omega) (ev_pos (by omega) (ev_bind1 (impl_isAtomByte_eq _) ?_))
       rw [hA]
       exact ev_neg (by decide) (ev_pos trivial (Ev.now _))
  ·refine ev_succ ?_
   simp only [impl_SplitWords.l0]
   rw [L_drop_nil s i (by omega), words_nil]
   exact ev_neg (by omega) (ev_of (by simp [sB]))
theorem impl_SplitWords_ev (s : ByteArray) (hs : s.size ≤ 1048576) : Ev (fun k => impl_SplitWords.f k s) (spB s) := by
 unfold impl_SplitWords.f spB splitW
 refine ev_bind (impl_TextValid_ev s (by omega)) ?_
 cases ht : textOk (bytesOf s) with
 | false => exact ev_neg (by decide) (Ev.now _)
 | true =>
  have hz := (textOk_iff _).1 ht
  rw [L_len] at hz
  rw [if_pos rfl]
  refine ev_pos rfl (ev_cast (impl_Split_l0 s (by omega) s.size 0 [] true (by omega) (by omega) (by simp)) ?_)
  rw [List.drop_zero]
  cases words true (bytesOf s) <;> simp [sB]
theorem size1 (x : UInt8) : (⟨#[x]⟩ : ByteArray).size = 1 := rfl
def oI (i : Nat) : Option Nat → Int
 | none => -1
 | some j => ((i + j : Nat) : Int)
theorem oI_map (i n : Nat) (o : Option Nat) : oI i (o.map (· + n)) = oI (i + n) o := by
 cases o with
 | none => rfl
 | some j => simp only [Option.map_some, oI]; omega
theorem impl_outside_l0 (s : ByteArray) (hs : s.size ≤ 1048576) (c : Int) (hc : c ≠ 34) : ∀ (d i : Nat), s.size - i ≤ d → i ≤ s.size → Ev (fun k => impl_outside.l0 k s c (i : Int)) (oI i (outQ c ((bytesOf s).drop i))) := by
 intro d
 induction d with
 | zero =>
  intro i hd hi
  refine ev_succ ?_
  simp only [impl_outside.l0]
  rw [L_drop_nil s i (by omega), outQ_nil]
  exact ev_neg (by omega) (Ev.now _)
 | succ d ih =>
  intro i hd hi
  by_cases hlt : i < s.size
  ·refine ev_succ ?_
   simp only [impl_outside.l0]
   rw [L_drop s i hlt]
   refine ev_pos (by omega) (ev_pos (by omega) ?_)
   by_cases h1 : bt s i = 34
   ·rw [h1]
    refine ev_pos rfl (ev_pos (by omega) ?_)
    rw [Int.toNat_natCast]
    have hz := extract_from_size s i
    have hq := impl_quoted_ev (s.extract i s.size) (by omega) (by omega)
    rw [L_from, List.drop_drop, hz] at hq
    refine ev_bind hq ?_
    cases hR : readQ ((bytesOf s).drop (i + 1)) with
    | none =>
     rw [outQ_q_none _ _ hR]
     exact ev_neg (by simp [rq]) (Ev.now _)
    | some p =>
     obtain ⟨t, r⟩ := p
     rw [outQ_q _ _ t r hR, oI_map]
     obtain ⟨pre, hpre, hl, hm⟩ := readQ_some hR
     have hlen := congrArg List.length hpre
     rw [List.length_drop, L_len, List.length_append, List.length_cons] at hlen
     have hr : r = (bytesOf s).drop (s.size - r.length) := by
      have h3 : (bytesOf s).drop (i + 1 + (pre.length + 1)) = r := by
       rw [← List.drop_drop, hpre, ← List.drop_drop, List.drop_left]
       rfl
      have hn : i + 1 + (pre.length + 1) = s.size - r.length := by omega
      rw [hn] at h3
      exact h3.symm
     simp only [rq]
     have e : wrap64 (wrap64 ((i : Int) + wrap64 (((s.size - i : Nat) : Int) - (r.length : Int) - 1)) + 1) = ((s.size - r.length : Nat) : Int) := by
      rw [wrap_id (x := ((s.size - i : Nat) : Int) - (r.length : Int) - 1) (by omega) (by omega), wrap_id (x := (i : Int) + (((s.size - i : Nat) : Int) - (r.length : Int) - 1)) (by omega) (by omega), wrap_id (by omega) (by omega)]
      omega
     rw [e]
     refine ev_pos trivial (ev_cast (ih (s.size - r.length) (by omega) (by omega)) ?_)
     rw [← hr]
     have hdl : ((bytesOf s).drop (i + 1)).length = s.size - (i + 1) := by rw [List.length_drop, L_len]
     rw [hdl]
     congr 1
     omega
   ·by_cases h2 : bt s i = c
    ·rw [h2, outQ_hit c _ hc]
     exact ev_neg hc (ev_pos rfl (ev_of (by simp [oI])))
    ·rw [outQ_cons c _ _ h1 h2, oI_map, wrap_succ i (by omega)]
     exact ev_neg h1 (ev_neg h2 (ih (i + 1) (by omega) (by omega)))
  ·refine ev_succ ?_
   simp only [impl_outside.l0]
   rw [L_drop_nil s i (by omega), outQ_nil]
   exact ev_neg (by omega) (Ev.now _)
theorem impl_outside_ev (s : ByteArray) (hs : s.size ≤ 1048576) (c : Int) (hc : c ≠ 34) : Ev (fun k => impl_outside.f k s c) (oI 0 (outQ c (bytesOf s))) := by
 have h := impl_outside_l0 s hs c hc s.size 0 (by omega) (by omega)
 rw [List.drop_zero] at h
 unfold impl_outside.f
 exact h
def ctQ (s : ByteArray) (i : Nat) : Option Nat → ByteArray × ByteArray × Bool
 | none => (s, (⟨#[]⟩ : ByteArray), false)
 | some j => (s.extract 0 (i + j), s.extract (i + j + 1) s.size, true)
theorem ctQ_map (s : ByteArray) (i n : Nat) (o : Option Nat) : ctQ s i (o.map (· + n)) = ctQ s (i + n) o := by
 cases o with
 | none => rfl
 | some j => simp only [Option.map_some, ctQ, show i + (j + n) = i + n + j by omega]
theorem spec_l2Cut_l0 (s : ByteArray) (hs : s.size ≤ 1048576) (c : Int) (hc : c ≠ 34) : ∀ (d i : Nat), s.size - i ≤ d → i ≤ s.size → Ev (fun k => spec_l2Cut.l0 k s c (i : Int)) (ctQ s i (outQ c ((bytesOf s).drop i))) := by
 intro d
 induction d with
 | zero =>
  intro i hd hi
  refine ev_succ ?_
  simp only [spec_l2Cut.l0]
  rw [L_drop_nil s i (by omega), outQ_nil]
  exact ev_neg (by omega) (Ev.now _)
 | succ d ih =>
  intro i hd hi
  by_cases hlt : i < s.size
  ·refine ev_succ ?_
   simp only [spec_l2Cut.l0]
   rw [L_drop s i hlt]
   refine ev_pos (by omega) (ev_pos (by omega) ?_)
   by_cases h1 : bt s i = 34
   ·rw [h1]
    refine ev_pos rfl (ev_bind (spec_l1Read_ev s hs i hlt) ?_)
    cases hR : readQ ((bytesOf s).drop (i + 1)) with
    | none =>
     rw [outQ_q_none _ _ hR]
     exact ev_pos (by simp [rd1]) (Ev.now _)
    | some p =>
     obtain ⟨t, r⟩ := p
     rw [outQ_q _ _ t r hR, ctQ_map]
     obtain ⟨pre, hpre, hl, hm⟩ := readQ_some hR
     have hlen := congrArg List.length hpre
     rw [List.length_drop, L_len, List.length_append, List.length_cons] at hlen
     have hr : r = (bytesOf s).drop (s.size - r.length) := by
      have h3 : (bytesOf s).drop (i + 1 + (pre.length + 1)) = r := by
       rw [← List.drop_drop, hpre, ← List.drop_drop, List.drop_left]
       rfl
      have hn : i + 1 + (pre.length + 1) = s.size - r.length := by omega
      rw [hn] at h3
      exact h3.symm
     simp only [rd1]
     have e : (s.size : Int) - (r.length : Int) = ((s.size - r.length : Nat) : Int) := by omega
     refine ev_neg (by omega) ?_
     rw [e]
     refine ev_cast (ih (s.size - r.length) (by omega) (by omega)) ?_
     rw [← hr]
     have hdl : ((bytesOf s).drop (i + 1)).length = s.size - (i + 1) := by rw [List.length_drop, L_len]
     rw [hdl]
     congr 1
     omega
   ·refine ev_neg h1 ?_
    by_cases h2 : bt s i = c
    ·rw [h2, outQ_hit c _ hc, wrap_succ i (by omega), Int.toNat_natCast, Int.toNat_natCast]
     exact ev_pos rfl (ev_pos (by omega) (ev_pos (by omega) (ev_pos (by omega) (ev_of (by simp [ctQ])))))
    ·rw [outQ_cons c _ _ h1 h2, ctQ_map, wrap_succ i (by omega)]
     exact ev_neg h2 (ih (i + 1) (by omega) (by omega))
  ·refine ev_succ ?_
   simp only [spec_l2Cut.l0]
   rw [L_drop_nil s i (by omega), outQ_nil]
   exact ev_neg (by omega) (Ev.now _)
theorem spec_l2Cut_ev (s : ByteArray) (hs : s.size ≤ 1048576) (c : Int) (hc : c ≠ 34) : Ev (fun k => spec_l2Cut.f k s c) (ctQ s 0 (outQ c (bytesOf s))) := by
 have h := spec_l2Cut_l0 s hs c hc s.size 0 (by omega) (by omega)
 rw [List.drop_zero] at h
 unfold spec_l2Cut.f
 exact h
theorem spec_Split_l1 (s : ByteArray) (hs : s.size ≤ 1048576) (acc : List ByteArray) (i : Nat) (hacc : acc.length ≤ i) (r : List ByteArray × Bool) : ∀ (d j e : Nat), s.size - j ≤ d → i ≤ j → j ≤ s.size → e = j + (((bytesOf s).drop j).takeWhile isAtm).length → i < e →
  (e < s.size → bt s e ≠ 32 → r = ([], false)) → (e = s.size ∨ bt s e = 32 → Ev (fun k => spec_l1Words.l0 k s (acc ++ [s.extract i e]) (e : Int)) r) → Ev (fun k => spec_l1Words.l1 k s acc (j : Int) (i : Int)) r := by
 intro d
 induction d with
 | zero =>
  intro j e hd hij hj he hlt hb hg
  rw [L_drop_nil s j (by omega), List.takeWhile_nil, List.length_nil, Nat.add_zero] at he
  subst he
  refine ev_succ ?_
  simp only [spec_l1Words.l1]
  rw [Int.toNat_natCast, Int.toNat_natCast]
  exact ev_neg (by omega) (ev_pos (by omega) (ev_pos (by omega) (ev_pos (by omega) (ev_neg (by omega) (ev_pos (by omega) (hg (.inl (by omega))))))))
 | succ d ih =>
  intro j e hd hij hj he hlt hb hg
  refine ev_succ ?_
  simp only [spec_l1Words.l1]
  by_cases hz : j < s.size
  ·refine ev_pos (by omega) (ev_pos (by omega) (ev_bind (spec_l1Atom_ev _) ?_))
   rw [L_drop s j hz] at he
   cases hA : isAtm (bt s j) with
   | true =>
    rw [List.takeWhile_cons_of_pos hA, List.length_cons] at he
    rw [wrap_succ j (by omega)]
    exact ev_pos rfl (ih (j + 1) e (by omega) (by omega) (by omega) (by omega) hlt hb hg)
   | false =>
    rw [List.takeWhile_cons_of_neg (by rw [hA]; decide), List.length_nil, Nat.add_zero] at he
    subst he
    rw [Int.toNat_natCast, Int.toNat_natCast]
    refine ev_neg (by decide) (ev_pos (by omega) (ev_pos (by omega) (ev_pos (by omega) (ev_neg (by omega) ?_))))
    by_cases h32 : bt s e = 32
    ·exact ev_pos h32 (ev_pos (by omega) (hg (.inr h32)))
    ·rw [hb hz h32]
     exact ev_neg h32 (Ev.now _)
  ·rw [L_drop_nil s j (by omega), List.takeWhile_nil, List.length_nil, Nat.add_zero] at he
   subst he
   rw [Int.toNat_natCast, Int.toNat_natCast]
   exact ev_neg (by omega) (ev_pos (by omega) (ev_pos (by omega) (ev_pos (by omega) (ev_neg (by omega) (ev_pos (by omega) (hg (.inl (by omega))))))))
theorem spec_Split_l0 (s : ByteArray) (hs : s.size ≤ 1048576) : ∀ (d i : Nat) (acc : List ByteArray), s.size - i ≤ d → i ≤ s.size → acc.length ≤ i → Ev (fun k => spec_l1Words.l0 k s acc (i : Int)) (sB acc (words true ((bytesOf s).drop i))) := by
 intro d
 induction d with
 | zero =>
  intro i acc hd hi ha
  refine ev_succ ?_
  simp only [spec_l1Words.l0]
  rw [L_drop_nil s i (by omega), words_nil]
  exact ev_neg (by omega) (ev_of (by simp [sB]))
 | succ d ih =>
  intro i acc hd hi ha
  by_cases hlt : i < s.size
  ·refine ev_succ ?_
   simp only [spec_l1Words.l0]
   have hdr := L_drop s i hlt
   rw [hdr]
   refine ev_pos (by omega) (ev_pos (by omega) ?_)
   by_cases h1 : bt s i = 32
   ·rw [h1, words_sp, wrap_succ i (by omega)]
    exact ev_pos rfl (ih (i + 1) acc (by omega) (by omega) (by omega))
   ·refine ev_neg h1 ?_
    by_cases h2 : bt s i = 34
    ·refine ev_pos h2 ?_
     rw [h2]
     refine ev_bind (spec_l1Read_ev s hs i hlt) ?_
     cases hR : readQ ((bytesOf s).drop (i + 1)) with
     | none =>
      rw [words_q_none _ hR]
      exact ev_pos (by simp [rd1]) (Ev.now _)
     | some p =>
      obtain ⟨t, r⟩ := p
      rw [words_q _ t r hR, sB_map]
      obtain ⟨pre, hpre, hl, hm⟩ := readQ_some hR
      have hlen := congrArg List.length hpre
      rw [List.length_drop, L_len, List.length_append, List.length_cons] at hlen
      have hr : (bytesOf s).drop (s.size - r.length) = r := by
       have h3 : (bytesOf s).drop (i + 1 + (pre.length + 1)) = r := by
        rw [← List.drop_drop, hpre, ← List.drop_drop, List.drop_left]
        rfl
       rw [← show i + 1 + (pre.length + 1) = s.size - r.length by omega]
       exact h3
      obtain ⟨n, hn⟩ : ∃ n, n = s.size - r.length := ⟨_, rfl⟩
      have e : (s.size : Int) - (r.length : Int) = (n : Int) := by omega
      simp only [rd1, List.nil_append, e]
      rw [← hn] at hr
      refine ev_neg (by omega) (ev_neg (by omega) ?_)
      have hih := ih n (acc ++ [strOfNums t]) (by omega) (by omega) (by simp only [List.length_append, List.length_cons, List.length_nil]; omega)
      rw [hr] at hih
      by_cases hns : n < s.size
      ·refine ev_pos (by omega) (ev_pos (by omega) ?_)
       have hd2 := L_drop s n hns
       rw [hr] at hd2
       by_cases h32 : bt s n = 32
       ·refine ev_pos h32 (ev_pos (by omega) ?_)
        rw [words_end r (.inr ⟨_, by rw [hd2, h32]⟩)]
        exact hih
       ·rw [hd2, words_glued _ _ h32]
        exact ev_neg h32 (Ev.now _)
      ·refine ev_neg (by omega) (ev_pos (by omega) ?_)
       have : r = [] := by rw [← hr]; exact L_drop_nil s n (by omega)
       rw [words_end r (.inl this)]
       exact hih
    ·refine ev_neg h2 ?_
     cases hA : isAtm (bt s i) with
     | true =>
      rw [words_atm _ _ hA, sB_map]
      have hT : ((bytesOf s).drop i).takeWhile isAtm = bt s i :: ((bytesOf s).drop (i + 1)).takeWhile isAtm := by rw [hdr, List.takeWhile_cons_of_pos hA]
      have hD : ((bytesOf s).drop (i + 1)).dropWhile isAtm = (bytesOf s).drop (i + (((bytesOf s).drop i).takeWhile isAtm).length) := by rw [drop_drop_atm, hdr, List.dropWhile_cons_of_pos hA]
      have hle : (((bytesOf s).drop i).takeWhile isAtm).length ≤ s.size - i := by
       have := (List.takeWhile_prefix isAtm (l := (bytesOf s).drop i)).length_le
       rw [List.length_drop, L_len] at this
       exact this
      have hTl : 1 ≤ (((bytesOf s).drop i).takeWhile isAtm).length := by rw [hT]; simp
      rw [hD, ← hT, ← extract_atm s i _ rfl]
      obtain ⟨e, he⟩ : ∃ e, e = i + (((bytesOf s).drop i).takeWhile isAtm).length := ⟨_, rfl⟩
      rw [← he]
      refine spec_Split_l1 s hs acc i ha _ s.size i e (by omega) (by omega) (by omega) he (by omega) ?_ ?_
      ·intro h3 h4
       rw [L_drop s e h3, words_glued _ _ h4]
       rfl
      ·intro h3
       have hih := ih e (acc ++ [s.extract i e]) (by omega) (by omega) (by simp only [List.length_append, List.length_cons, List.length_nil]; omega)
       rw [words_end _ ?_]
       ·exact hih
       ·rcases h3 with h3 | h3
        ·exact .inl (L_drop_nil s e (by omega))
        ·by_cases h5 : e < s.size
         ·exact .inr ⟨_, by rw [L_drop s e h5, h3]⟩
         ·exact .inl (L_drop_nil s e (by omega))
     | false =>
      rw [words_bad _ _ h1 h2 hA]
      refine ev_succ ?_
      simp only [spec_l1Words.l1]
      refine ev_pos (by omega) (ev_pos (by omega) (ev_bind (spec_l1Atom_ev _) ?_))
      rw [hA]
      exact ev_neg (by decide) (ev_pos (by omega) (ev_pos (Int.le_refl _) (ev_pos (by omega) (ev_pos trivial (Ev.now _)))))
  ·refine ev_succ ?_
   simp only [spec_l1Words.l0]
   rw [L_drop_nil s i (by omega), words_nil]
   exact ev_neg (by omega) (ev_of (by simp [sB]))
theorem spec_l1Words_ev (s : ByteArray) (hs : s.size ≤ 1048576) : Ev (fun k => spec_l1Words.f k s) (sB [] (words true (bytesOf s))) := by
 have h := spec_Split_l0 s hs s.size 0 [] (by omega) (by omega) (by simp)
 rw [List.drop_zero] at h
 exact h
def tailS (sep : List Int) : List (List Int) → List Int
 | [] => []
 | x :: r => sep ++ (x ++ tailS sep r)
def joinS (sep : List Int) : List (List Int) → List Int
 | [] => []
 | x :: r => x ++ tailS sep r
theorem tailS_sp (l : List (List Int)) : tailS [32] l = tailJ l := by
 induction l with
 | nil => rfl
 | cons x r ih => simp only [tailS, tailJ, ih, List.cons_append, List.nil_append]
theorem joinS_sp (l : List (List Int)) : joinS [32] l = joinL l := by
 cases l with
 | nil => rfl
 | cons x r => simp only [joinS, joinL, tailS_sp]
theorem tailS_len (sep : List Int) (m : Nat) (l : List (List Int)) (h : ∀ x ∈ l, x.length ≤ m) : (tailS sep l).length ≤ l.length * (sep.length + m) := by
 induction l with
 | nil => simp [tailS]
 | cons x r ih =>
  have h1 := h x (by simp)
  have h2 := ih fun y hy => h y (List.mem_cons_of_mem _ hy)
  simp only [tailS, List.length_append, List.length_cons, Nat.add_mul, Nat.one_mul]
  omega
theorem joinS_len (sep : List Int) (m : Nat) (l : List (List Int)) (h : ∀ x ∈ l, x.length ≤ m) : (joinS sep l).length ≤ l.length * (sep.length + m) := by
 cases l with
 | nil => simp [joinS]
 | cons x r =>
  have h1 := h x (by simp)
  have h2 := tailS_len sep m r fun y hy => h y (List.mem_cons_of_mem _ hy)
  simp only [joinS, List.length_append, List.length_cons, Nat.add_mul, Nat.one_mul]
  omega
def nl (l : List UInt8) : List Int := l.map fun b => (b.toNat : Int)
theorem nl_tail (sep : List UInt8) (l : List (List UInt8)) : nl (Lib.joinTail sep l) = tailS (nl sep) (l.map nl) := by
 induction l with
 | nil => rfl
 | cons x r ih =>
  rw [List.map_cons, tailS, ← ih]
  simp only [Lib.joinTail, List.map_cons, List.flatten_cons, nl, List.map_append, List.append_assoc]
theorem nl_join (sep : List UInt8) (l : List (List UInt8)) : nl (Lib.join l sep) = joinS (nl sep) (l.map nl) := by
 cases l with
 | nil => rfl
 | cons x r =>
  rw [Lib.join_cons, List.map_cons, joinS, ← nl_tail]
  simp only [nl, List.map_append]
theorem join_S (l : List ByteArray) (sep : ByteArray) : (⟨(Lib.join (l.map (·.data.toList)) sep.data.toList).toArray⟩ : ByteArray) = strOfNums (joinS (bytesOf sep) (l.map bytesOf)) := by
 rw [← S_L (⟨(Lib.join (l.map (·.data.toList)) sep.data.toList).toArray⟩ : ByteArray)]
 congr 1
 have := nl_join sep.data.toList (l.map (·.data.toList))
 rw [List.map_map] at this
 exact this
theorem join_len (l : List ByteArray) (sep : ByteArray) : (Lib.join (l.map (·.data.toList)) sep.data.toList).length = (joinS (bytesOf sep) (l.map bytesOf)).length := by
 have := nl_join sep.data.toList (l.map (·.data.toList))
 rw [List.map_map] at this
 have h2 := congrArg List.length this
 rw [nl, List.length_map] at h2
 exact h2
theorem strings_Join_eq (l : List ByteArray) (sep : ByteArray) (m : Nat) (hl : l.length ≤ 1048576) (hm : ∀ x ∈ l, x.size ≤ m) (hm2 : sep.size + m ≤ 1000000) : strings_Join.f l sep = some (strOfNums (joinS (bytesOf sep) (l.map bytesOf))) := by
 have h1 := joinS_len (bytesOf sep) m (l.map bytesOf) (fun x hx => by obtain ⟨y, hy, rfl⟩ := List.mem_map.1 hx; rw [L_len]; exact hm y hy)
 rw [List.length_map, L_len] at h1
 have h2 : l.length * (sep.size + m) ≤ 1048576 * 1000000 := Nat.mul_le_mul hl hm2
 unfold strings_Join.f
 rw [if_pos ⟨by omega, by rw [join_len]; omega⟩, join_S]
theorem lit32 : bytesOf (⟨#[32]⟩ : ByteArray) = [32] := rfl
theorem low8_range {x : Int} (h : 0 ≤ x ∧ x ≤ 255) : 0 ≤ low8 x ∧ low8 x ≤ 255 := by
 unfold low8; split <;> omega
theorem L_lowT (s : ByteArray) : bytesOf (lowT s) = (bytesOf s).map low8 := by
 unfold lowT
 refine L_S fun x hx => ?_
 obtain ⟨y, hy, rfl⟩ := List.mem_map.1 hx
 exact low8_range (L_IsB s y hy)
theorem lowT_size (s : ByteArray) : (lowT s).size = s.size := by rw [← L_len, L_lowT, List.length_map, L_len]
theorem impl_LowerText_eq (s : ByteArray) (hs : s.size < 140737488355328) : impl_LowerText.f s = some (lowT s) := by rw [impl_LowerText.f, if_pos hs]
theorem spec_LowerText_eq (s : ByteArray) (hs : s.size < 140737488355328) : spec_LowerText.f s = some (lowT s) := by rw [spec_LowerText.f, if_pos hs]
theorem extA {a b : S31} : a = b ↔ a.f0 = b.f0 ∧ a.f1 = b.f1 ∧ a.f2 = b.f2 := by
 cases a; cases b
 simp
instance decA : DecidableEq S31 := fun _ _ => decidable_of_iff _ extA.symm
def outA : Option Adr → ByteArray × ByteArray × ByteArray × Bool
 | none => ((⟨#[]⟩ : ByteArray), (⟨#[]⟩ : ByteArray), (⟨#[]⟩ : ByteArray), false)
 | some a => (strOfNums a.n, strOfNums a.lo, strOfNums a.d, true)
theorem to_S (s : ByteArray) (i : Nat) : s.extract 0 i = strOfNums ((bytesOf s).take i) := by rw [← L_to, S_L]
theorem take_size (s : ByteArray) (i : Nat) : (s.extract 0 i).size ≤ s.size := size_extract_le s 0 i
theorem from_size (s : ByteArray) (i : Nat) : (s.extract i s.size).size = s.size - i := extract_from_size s i
theorem impl_parseBox_ev (s n : ByteArray) (hs : s.size ≤ 1048576) (hn : n.size ≤ 1048576) : Ev (fun k => impl_parseBox.f k s n) (outA (boxR (bytesOf n) (bytesOf s))) := by
 unfold impl_parseBox.f boxR
 refine ev_bind (impl_outside_ev s hs 64 (by decide)) ?_
 cases ho : outQ 64 (bytesOf s) with
 | none => exact ev_pos (by simp [oI]) (Ev.now _)
 | some i =>
  have hlt := outQ_lt 64 _ i ho
  rw [L_len] at hlt
  simp only [oI, Nat.zero_add]
  have z1 := take_size s i
  have z2 := from_size s (i + 1)
  rw [wrap_succ i (by omega), Int.toNat_natCast, Int.toNat_natCast]
  refine ev_neg (by omega) (ev_pos (by omega) (ev_pos (by omega) (ev_pos (by omega) (ev_pos (by omega) ?_))))
  have z3 : (lowT (s.extract (i + 1) s.size)).size ≤ 1048576 := by rw [lowT_size]; omega
  refine ev_bind1 (impl_LowerText_eq _ (by omega)) (ev_bind (impl_AddressValid_ev n _ _ hn (by omega) z3) ?_)
  have e1 : bytesOf (s.extract 0 i) = (bytesOf s).take i := L_to s i
  have e2 : bytesOf (lowT (s.extract (i + 1) s.size)) = ((bytesOf s).drop (i + 1)).map lo8 := by rw [L_lowT, L_from]; rfl
  rw [e1, e2]
  cases hok : addrOk (bytesOf n) ((bytesOf s).take i) (((bytesOf s).drop (i + 1)).map lo8) with
  | false =>
   refine ev_neg (by decide) (ev_of ?_)
   rw [if_neg (show ¬ (false = true) by decide)]
   rfl
  | true =>
   refine ev_pos rfl (ev_of ?_)
   rw [if_pos (show (true = true) from rfl)]
   simp only [outA]
   rw [S_L, ← e1, S_L, ← e2, S_L]
/-- The reference's mailbox, behind its test. -/
theorem spec_l2Box_ev (s : ByteArray) (hs : s.size ≤ 1048576) : ∃ x y z, Ev (fun k => spec_l2Box.f k s) ((⟨#[]⟩ : ByteArray), x, y, z) ∧ x.size ≤ s.size ∧ y.size ≤ s.size ∧
  ((outQ 64 (bytesOf s) = none ∧ z = false) ∨ ∃ i, outQ 64 (bytesOf s) = some i ∧ bytesOf x = (bytesOf s).take i ∧ bytesOf y = ((bytesOf s).drop (i + 1)).map lo8 ∧ z = addrOk [] ((bytesOf s).take i) (((bytesOf s).drop (i + 1)).map lo8)) := by
 have hc := spec_l2Cut_ev s hs 64 (by decide)
 unfold spec_l2Box.f
 cases ho : outQ 64 (bytesOf s) with
 | none =>
  rw [ho] at hc
  simp only [ctQ] at hc
  refine ⟨s, lowT (⟨#[]⟩ : ByteArray), false, ev_bind hc (ev_bind1 (spec_LowerText_eq _ (show (⟨#[]⟩ : ByteArray).size < 140737488355328 by decide)) (ev_neg (show ¬ (false = true) by decide) (Ev.now _))), Nat.le_refl _, by rw [lowT_size]; exact Nat.zero_le _, .inl ⟨rfl, rfl⟩⟩
 | some i =>
  have hlt := outQ_lt 64 _ i ho
  rw [L_len] at hlt
  rw [ho] at hc
  simp only [ctQ, Nat.zero_add] at hc
  have z1 := take_size s i
  have z2 := from_size s (i + 1)
  have z3 : (lowT (s.extract (i + 1) s.size)).size ≤ s.size := by rw [lowT_size]; omega
  have e1 : bytesOf (s.extract 0 i) = (bytesOf s).take i := L_to s i
  have e2 : bytesOf (lowT (s.extract (i + 1) s.size)) = ((bytesOf s).drop (i + 1)).map lo8 := by rw [L_lowT, L_from]; rfl
  have hv := spec_AddressValid_ev (⟨#[]⟩ : ByteArray) (s.extract 0 i) (lowT (s.extract (i + 1) s.size)) (by decide) (by omega) (by omega)
  rw [e1, e2] at hv
  exact ⟨_, _, _, ev_bind hc (ev_bind1 (spec_LowerText_eq _ (by dsimp only; omega)) (ev_pos rfl (ev_bind hv (Ev.now _)))), z1, z3, .inr ⟨i, rfl, e1, e2, rfl⟩⟩
theorem cut_gt (s : ByteArray) (hs : s.size ≤ 1048576) : strings_CutSuffix.f s (⟨#[62]⟩ : ByteArray) = some (if (bytesOf s).getLast? = some 62 then (strOfNums (bytesOf s).dropLast, true) else (s, false)) := by
 unfold strings_CutSuffix.f stringslite_CutSuffix.f stringslite_HasSuffix.f
 have e1 : (⟨#[62]⟩ : ByteArray).size = 1 := rfl
 rw [e1]
 by_cases h : (s.size : Int) ≥ ((1 : Nat) : Int)
 ·have ew : wrap64 ((s.size : Int) - ((1 : Nat) : Int)) = ((s.size - 1 : Nat) : Int) := by rw [wrap_id (by omega) (by omega)]; omega
  rw [ew, if_pos h, if_pos (by omega), if_pos (by omega), Option.bind_some, Int.toNat_natCast, if_pos (show (0 : Int) ≤ ((s.size - 1 : Nat) : Int) by omega), if_pos (show ((s.size - 1 : Nat) : Int) ≤ (s.size : Int) by omega)]
  have hl : (bytesOf s).getLast? = some (bt s ((s.size - 1 : Nat) : Int)) := by rw [List.getLast?_eq_getElem?, L_len]; exact bt_get s (s.size - 1) (by omega)
  have hd : s.extract (s.size - 1) s.size = strOfNums [bt s ((s.size - 1 : Nat) : Int)] := by
   have := extract_one s (s.size - 1) (by omega)
   rwa [show s.size - 1 + 1 = s.size by omega] at this
  have hb : IsB [bt s ((s.size - 1 : Nat) : Int)] := IsB.cons (bt_range s _) IsB.nil
  have heq : ((s.extract (s.size - 1) s.size).toList == (⟨#[62]⟩ : ByteArray).toList) = decide ((bytesOf s).getLast? = some 62) := by
   rw [toList_beq, hd, hl]
   refine decide_eq_decide.2 ?_
   rw [← L_iff, L_S hb]
   constructor
   ·intro e
    have : bt s ((s.size - 1 : Nat) : Int) = 62 := by
     have := List.cons.inj e
     exact this.1
    rw [this]
   ·intro e
    rw [Option.some.inj e]
    rfl
  rw [heq]
  by_cases hc : (bytesOf s).getLast? = some 62
  ·rw [if_pos hc, decide_eq_true hc, if_pos rfl, Option.bind_some]
   rw [to_S, List.dropLast_eq_take, L_len]
  ·rw [if_neg hc, decide_eq_false hc, if_neg (by decide), Option.bind_some]
 ·have e : bytesOf s = [] := by rw [← size_nil_iff]; omega
  rw [if_neg h, Option.bind_some, if_neg (by decide), Option.bind_some, e]
  rfl
theorem text_size {s : ByteArray} (h : textOk (bytesOf s) = true) : s.size ≤ 200 := by
 have := ((textOk_iff _).1 h).1
 rwa [L_len] at this
theorem text_take {l : List Int} (h : textOk l = true) (i : Nat) : textOk (l.take i) = true := by
 rw [textOk_iff] at h ⊢
 refine ⟨by rw [List.length_take]; omega, fun x hx => h.2 x (List.mem_of_mem_take hx)⟩
theorem words_bytes {l : List Int} {ws : List (List Int)} (hl : IsB l) (h : words true l = some ws) : (ws.map strOfNums).map bytesOf = ws := by
 rw [List.map_map]
 conv => rhs; rw [← List.map_id ws]
 exact List.map_congr_left fun p hp => L_S (hl.sub (words_mem h p hp).2)
theorem joinL_B {l : List Int} {ws : List (List Int)} (hl : IsB l) (h : words true l = some ws) : IsB (joinL ws) := by
 intro x hx
 rcases joinL_mem hx with e | ⟨w, hw, hx⟩
 ·omega
 ·exact hl x ((words_mem h w hw).2 x hx)
theorem joinL_len (m : Nat) (l : List (List Int)) (h : ∀ x ∈ l, x.length ≤ m) : (joinL l).length ≤ l.length * (1 + m) := by
 rw [← joinS_sp]
 exact joinS_len [32] m l h
theorem words_join_size {l : List Int} {ws : List (List Int)} (hl : l.length ≤ 200) (h : words true l = some ws) : (joinL ws).length ≤ 50000 := by
 have h1 := words_len h
 have h2 := joinL_len 200 ws fun w hw => by have := (words_mem h w hw).1; omega
 have h3 : ws.length * (1 + 200) ≤ 200 * 201 := Nat.mul_le_mul (by omega) (Nat.le_refl _)
 omega
theorem impl_ParseAddress_ev (s : ByteArray) (hs : s.size ≤ 1048576) : Ev (fun k => impl_ParseAddress.f k s) (outA (parseA (bytesOf s))) := by
 unfold impl_ParseAddress.f parseA
 refine ev_bind (impl_TextValid_ev s (by omega)) ?_
 cases ht : textOk (bytesOf s) with
 | false =>
  refine ev_neg (by decide) (ev_of ?_)
  rw [if_neg (show ¬ (false = true) by decide)]
  rfl
 | true =>
  have hz := text_size ht
  have htz := trimS_size s
  have htt : textOk (trimT (bytesOf s)) = true := trim_text ht
  refine ev_pos rfl (ev_bind1 (strings_Trim_eq s (by omega)) (ev_bind (impl_outside_ev (trimS s) (by omega) 60 (by decide)) ?_))
  rw [L_trimS, if_pos (show (true = true) from rfl)]
  cases ho : outQ 60 (trimT (bytesOf s)) with
  | none =>
   have hb := impl_parseBox_ev (trimS s) (⟨#[]⟩ : ByteArray) (by omega) (by decide)
   rw [L_trimS] at hb
   exact ev_pos (by simp [oI]) (ev_bind hb (ev_of rfl))
  | some i =>
   have hlt := outQ_lt 60 _ i ho
   rw [← L_trimS, L_len] at hlt
   simp only [oI, Nat.zero_add]
   have z1 := take_size (trimS s) i
   have z2 := from_size (trimS s) (i + 1)
   rw [wrap_succ i (by omega), Int.toNat_natCast, Int.toNat_natCast]
   have hw := impl_SplitWords_ev ((trimS s).extract 0 i) (by omega)
   have et : bytesOf ((trimS s).extract 0 i) = (trimT (bytesOf s)).take i := by rw [L_to, L_trimS]
   have ed : bytesOf ((trimS s).extract (i + 1) (trimS s).size) = (trimT (bytesOf s)).drop (i + 1) := by rw [L_from, L_trimS]
   have hcut := cut_gt ((trimS s).extract (i + 1) (trimS s).size) (by omega)
   rw [ed] at hcut
   refine ev_neg (by omega) (ev_pos (by omega) (ev_pos (by omega) (ev_bind hw (ev_pos (by omega) (ev_pos (by omega) (ev_bind1 hcut ?_))))))
   simp only [spB, et]
   have hBt : IsB ((trimT (bytesOf s)).take i) := by rw [← et]; exact L_IsB _
   have hlt2 : ((trimT (bytesOf s)).take i).length ≤ 200 := by rw [← et, L_len]; omega
   cases hws : words true ((trimT (bytesOf s)).take i) with
   | none =>
    have hsw : splitW ((trimT (bytesOf s)).take i) = ([], false) := by
     unfold splitW
     rw [if_pos (text_take htt i), hws]
    rw [hsw, angleR_none hws]
    refine ev_neg (show ¬ (false = true) by decide) (ev_succ ?_)
    simp only [impl_ParseAddress.j0, if_true]
    exact Ev.now _
   | some ws =>
    rw [splitW_of (text_take htt i) hws]
    refine ev_pos rfl (ev_succ ?_)
    simp only [impl_ParseAddress.j0]
    by_cases hc : ((trimT (bytesOf s)).drop (i + 1)).getLast? = some 62
    ·rw [if_pos hc, angleR_some hws hc]
     refine ev_neg (show ¬ ((!true) = true) by decide) ?_
     have hjs := words_join_size hlt2 hws
     have hwm : ∀ x ∈ ws.map strOfNums, x.size ≤ 200 := fun x hx => by
      obtain ⟨w, hw, rfl⟩ := List.mem_map.1 hx
      have := (words_mem hws w hw).1
      rw [S_size]; omega
     have hj := strings_Join_eq (ws.map strOfNums) (⟨#[32]⟩ : ByteArray) 200 (by rw [List.length_map]; have := words_len hws; omega) hwm (by rw [size1]; omega)
     rw [lit32, joinS_sp, words_bytes hBt hws] at hj
     have hBd : IsB ((trimT (bytesOf s)).drop (i + 1)).dropLast := by
      rw [← ed]
      exact (L_IsB _).sub fun x hx => List.dropLast_subset _ hx
     have hdl : (((trimT (bytesOf s)).drop (i + 1)).dropLast).length ≤ 200 := by
      rw [List.length_dropLast, ← ed, L_len]; omega
     have hb := impl_parseBox_ev (strOfNums ((trimT (bytesOf s)).drop (i + 1)).dropLast) (strOfNums (joinL ws)) (by rw [S_size]; omega) (by rw [S_size]; omega)
     rw [L_S (joinL_B hBt hws), L_S hBd] at hb
     exact ev_bind1 hj (ev_bind hb (ev_of rfl))
    ·rw [if_neg hc, angleR_open hc]
     exact ev_pos rfl (ev_of rfl)
theorem spec_l2Space_l0 (l : List ByteArray) (hl : l.length ≤ 1000) (hx : ∀ x ∈ l, x.size ≤ 1000) : ∀ (d i : Nat) (acc : List Int), i + d = l.length → acc.length ≤ 2000 * i → (i = 0 → acc = []) → Ev (fun k => spec_l2Space.l0 k l (strOfNums acc) (i : Int)) (strOfNums (acc ++ (if i = 0 then joinL ((l.drop i).map bytesOf) else tailJ ((l.drop i).map bytesOf)))) := by
 intro d
 induction d with
 | zero =>
  intro i acc hi ha h0
  refine ev_succ ?_
  simp only [spec_l2Space.l0]
  rw [List.drop_eq_nil_of_le (by omega)]
  refine ev_neg (by omega) (ev_of ?_)
  split <;> simp [joinL, tailJ]
 | succ d ih =>
  intro i acc hi ha h0
  have hlt : i < l.length := by omega
  have hz := hx _ (List.getElem_mem hlt)
  refine ev_succ ?_
  simp only [spec_l2Space.l0]
  rw [rdOf_get l i hlt, wrap_succ i (by omega), List.drop_eq_getElem_cons hlt, List.map_cons]
  refine ev_pos (by omega) ?_
  by_cases hi0 : i = 0
  ·have ha0 := h0 hi0
   subst ha0
   rw [if_pos hi0, joinL, List.nil_append]
   have hl0 : ([] : List Int).length = 0 := rfl
   refine ev_neg (by omega) (ev_pos (by omega) (ev_pos (by rw [S_size, hl0]; omega) ?_))
   have := ih (i + 1) (bytesOf l[i]) (by omega) (by rw [L_len]; omega) (by omega)
   rw [if_neg (by omega), S_L] at this
   have e : strOfNums [] ++ l[i] = l[i] := by
    apply L_inj
    rw [L_append, L_S IsB.nil, List.nil_append]
   rw [e]
   exact this
  ·rw [if_neg hi0, tailJ]
   have e : strOfNums acc ++ (⟨#[32]⟩ : ByteArray) ++ l[i] = strOfNums (acc ++ 32 :: bytesOf l[i]) := by
    rw [show (⟨#[32]⟩ : ByteArray) = strOfNums [32] from rfl, S_append]
    conv => lhs; rw [← S_L l[i], S_append]
    simp
   refine ev_pos (by omega) (ev_pos (by rw [S_size]; omega) (ev_pos (by omega) (ev_pos (by rw [size_append, S_size, size1]; omega) ?_)))
   rw [e]
   refine ev_cast (ih (i + 1) _ (by omega) (by simp only [List.length_append, List.length_cons, L_len]; omega) (by omega)) ?_
   rw [if_neg (by omega)]
   simp only [List.append_assoc, List.cons_append]
theorem spec_l2Space_ev (l : List ByteArray) (hl : l.length ≤ 1000) (hx : ∀ x ∈ l, x.size ≤ 1000) : Ev (fun k => spec_l2Space.f k l) (strOfNums (joinL (l.map bytesOf))) := by
 unfold spec_l2Space.f
 exact spec_l2Space_l0 l hl hx l.length 0 [] (by omega) (by simp) (fun _ => rfl)
theorem name_drop {n lo d : List Int} (h : addrOk n lo d = true) : addrOk [] lo d = true := by
 have := addrOk_iff.1 h
 exact addrOk_iff.2 ⟨rfl, by simp, this.2.2⟩
theorem spec_ParseAddress_ev (s : ByteArray) (hs : s.size ≤ 1048576) : Ev (fun k => spec_ParseAddress.f k s) (outA (parseA (bytesOf s))) := by
 unfold spec_ParseAddress.f parseA
 refine ev_bind (spec_TextValid_ev s (by omega)) ?_
 cases ht : textOk (bytesOf s) with
 | false =>
  refine ev_neg (by decide) (ev_of ?_)
  rw [if_neg (show ¬ (false = true) by decide)]
  rfl
 | true =>
  have hz := text_size ht
  have htz := trimS_size s
  have htt : textOk (trimT (bytesOf s)) = true := trim_text ht
  refine ev_pos rfl (ev_bind (spec_l2Trim_ev s hs) (ev_bind (spec_l2Cut_ev (trimS s) (by omega) 60 (by decide)) ?_))
  rw [L_trimS, if_pos (show (true = true) from rfl)]
  cases ho : outQ 60 (trimT (bytesOf s)) with
  | none =>
   simp only [ctQ]
   obtain ⟨x, y, z, hb, z1, z2, hcase⟩ := spec_l2Box_ev (trimS s) (by omega)
   rw [L_trimS] at hcase
   refine ev_neg (show ¬ (false = true) by decide) (ev_bind hb ?_)
   unfold boxR
   rcases hcase with ⟨h1, h2⟩ | ⟨i, h1, h2, h3, h4⟩
   ·rw [h1]
    subst h2
    exact ev_neg (show ¬ (false = true) by decide) (Ev.now _)
   ·rw [h1]
    simp only
    rw [← h4]
    cases z with
    | false => exact ev_neg (show ¬ (false = true) by decide) (ev_of (by simp [outA]))
    | true =>
     refine ev_pos rfl (ev_of ?_)
     rw [if_pos (show (true = true) from rfl)]
     simp only [outA]
     rw [← h2, ← h3, S_L, S_L]
     rfl
  | some i =>
   have hlt := outQ_lt 60 _ i ho
   rw [← L_trimS, L_len] at hlt
   simp only [ctQ, Nat.zero_add]
   have z1 := take_size (trimS s) i
   have z2 := from_size (trimS s) (i + 1)
   have et : bytesOf ((trimS s).extract 0 i) = (trimT (bytesOf s)).take i := by rw [L_to, L_trimS]
   have ed : bytesOf ((trimS s).extract (i + 1) (trimS s).size) = (trimT (bytesOf s)).drop (i + 1) := by rw [L_from, L_trimS]
   have hBt : IsB ((trimT (bytesOf s)).take i) := by rw [← et]; exact L_IsB _
   have hlt2 : ((trimT (bytesOf s)).take i).length ≤ 200 := by rw [← et, L_len]; omega
   generalize hX : (trimS s).extract 0 i = X at *
   generalize hY : (trimS s).extract (i + 1) (trimS s).size = Y at *
   refine ev_pos trivial ?_
   by_cases hn : Y.toList = ([] : List UInt8)
   ·have he : (trimT (bytesOf s)).drop (i + 1) = [] := by rw [← ed]; exact (nilB Y).1 hn
    rw [angleR_open (by rw [he]; simp)]
    refine ev_pos hn (ev_succ ?_)
    simp only [spec_ParseAddress.j0, if_true]
    exact Ev.now _
   ·have hp : 0 < Y.size := by
     rcases Nat.eq_zero_or_pos Y.size with h | h
     ·exact absurd ((nilB Y).2 ((size_nil_iff Y).1 h)) hn
     ·exact h
    have ew : wrap64 ((Y.size : Int) - 1) = ((Y.size - 1 : Nat) : Int) := by rw [wrap_id (by omega) (by omega)]; omega
    have hl : (bytesOf Y).getLast? = some (bt Y ((Y.size - 1 : Nat) : Int)) := by rw [List.getLast?_eq_getElem?, L_len]; exact bt_get Y (Y.size - 1) (by omega)
    rw [ew]
    refine ev_neg hn (ev_pos (by omega) (ev_pos (by omega) (ev_succ ?_)))
    simp only [spec_ParseAddress.j0]
    rw [ew, Int.toNat_natCast]
    by_cases hc : bt Y ((Y.size - 1 : Nat) : Int) = 62
    ·have hc2 : ((trimT (bytesOf s)).drop (i + 1)).getLast? = some 62 := by rw [← ed, hl, hc]
     have hsp := spec_l1Words_ev X (by omega)
     have eB : Y.extract 0 (Y.size - 1) = strOfNums ((trimT (bytesOf s)).drop (i + 1)).dropLast := by rw [to_S, ← ed, List.dropLast_eq_take, L_len]
     have hBd : IsB ((trimT (bytesOf s)).drop (i + 1)).dropLast := by
      rw [← ed]
      exact (L_IsB _).sub fun x hx => List.dropLast_subset _ hx
     have zY : (Y.extract 0 (Y.size - 1)).size ≤ 200 := by have := take_size Y (Y.size - 1); omega
     obtain ⟨x, y, z, hb, q1, q2, hcase⟩ := spec_l2Box_ev (Y.extract 0 (Y.size - 1)) (by omega)
     rw [eB, L_S hBd] at hcase
     rw [et] at hsp
     refine ev_neg (by rw [hc]; decide) (ev_bind hsp (ev_pos (by omega) (ev_pos (by omega) (ev_bind hb ?_))))
     cases hws : words true ((trimT (bytesOf s)).take i) with
     | none =>
      rw [angleR_none hws]
      simp only [sB]
      have hsp0 := spec_l2Space_ev ([] : List ByteArray) (by simp) (by simp)
      exact ev_bind hsp0 (ev_neg (show ¬ (false = true) by decide) (ev_of rfl))
     | some ws =>
      rw [angleR_some hws hc2]
      simp only [sB, List.nil_append]
      have hjs := words_join_size hlt2 hws
      have hwm : ∀ x ∈ ws.map strOfNums, x.size ≤ 1000 := fun x hx => by
       obtain ⟨w, hw, rfl⟩ := List.mem_map.1 hx
       have := (words_mem hws w hw).1
       rw [S_size]; omega
      have hsp1 := spec_l2Space_ev (ws.map strOfNums) (by rw [List.length_map]; have := words_len hws; omega) hwm
      rw [words_bytes hBt hws] at hsp1
      refine ev_bind hsp1 (ev_pos trivial ?_)
      unfold boxR
      rcases hcase with ⟨h1, h2⟩ | ⟨j, h1, h2, h3, h4⟩
      ·rw [h1]
       subst h2
       exact ev_neg (show ¬ (false = true) by decide) (ev_of rfl)
      ·rw [h1]
       simp only
       have hv := spec_AddressValid_ev (strOfNums (joinL ws)) x y (by rw [S_size]; omega) (by omega) (by omega)
       rw [L_S (joinL_B hBt hws), h2, h3] at hv
       cases hz2 : z with
       | false =>
        have hno : addrOk (joinL ws) (((trimT (bytesOf s)).drop (i + 1)).dropLast.take j) ((((trimT (bytesOf s)).drop (i + 1)).dropLast.drop (j + 1)).map lo8) = false := by
         cases hq : addrOk (joinL ws) (((trimT (bytesOf s)).drop (i + 1)).dropLast.take j) ((((trimT (bytesOf s)).drop (i + 1)).dropLast.drop (j + 1)).map lo8) with
         | false => rfl
         | true => rw [hz2, name_drop hq] at h4; cases h4
        refine ev_neg (show ¬ (false = true) by decide) (ev_of ?_)
        rw [if_neg (by rw [hno]; decide)]
        rfl
       | true =>
        refine ev_pos rfl (ev_bind hv ?_)
        cases hq : addrOk (joinL ws) (((trimT (bytesOf s)).drop (i + 1)).dropLast.take j) ((((trimT (bytesOf s)).drop (i + 1)).dropLast.drop (j + 1)).map lo8) with
        | false =>
         refine ev_neg (show ¬ (false = true) by decide) (ev_of ?_)
         rw [if_neg (show ¬ (false = true) by decide)]
         rfl
        | true =>
         refine ev_pos rfl (ev_of ?_)
         rw [if_pos (show (true = true) from rfl)]
         simp only [outA]
         rw [← h2, ← h3, S_L, S_L]
    ·rw [angleR_open (by rw [← ed, hl]; simpa using hc)]
     exact ev_pos (by simpa using hc) (ev_of rfl)
theorem eqAddress_eq (a b : S31) : laws_eqAddress.f a.f0 a.f1 a.f2 b.f0 b.f1 b.f2 = some (decide (a = b)) := by
 unfold laws_eqAddress.f
 by_cases h : a.f0 = b.f0
 ·rw [if_pos (toList_iff.2 h)]
  by_cases h' : a.f1 = b.f1
  ·rw [if_pos (toList_iff.2 h')]
   by_cases h2 : a.f2 = b.f2
   ·rw [if_pos (toList_iff.2 h2)]
    exact congrArg some (decide_eq_true (extA.2 ⟨h, h', h2⟩)).symm
   ·rw [if_neg (fun e => h2 (toList_iff.1 e))]
    exact congrArg some (decide_eq_false (fun e => h2 (extA.1 e).2.2)).symm
  ·rw [if_neg (fun e => h' (toList_iff.1 e))]
   exact congrArg some (decide_eq_false (fun e => h' (extA.1 e).2.1)).symm
 ·rw [if_neg (fun e => h (toList_iff.1 e))]
  exact congrArg some (decide_eq_false (fun e => h (extA.1 e).1)).symm
end Go.Proofs.YtmehlmhpgbjddaaDoor.Q
