/- Plain lemmas, and what the printed functions come to; no condition. -/
import Derived.Test.YtmehlmhpgbjddaaDoorQH
import Derived.Lib.Strings
import Derived.Lib.Join
import Derived.Test.YtmehlmhpgbjddaaDoorQ0
import Derived.Test.YtmehlmhpgbjddaaDoorQ10
import Derived.Test.YtmehlmhpgbjddaaDoorQ12
import Derived.Test.YtmehlmhpgbjddaaDoorQ18
import Derived.Test.YtmehlmhpgbjddaaDoorQ19
import Derived.Test.YtmehlmhpgbjddaaDoorQ2
import Derived.Test.YtmehlmhpgbjddaaDoorQ22
import Derived.Test.YtmehlmhpgbjddaaDoorQ3
import Derived.Test.YtmehlmhpgbjddaaDoorQ4
import Derived.Test.YtmehlmhpgbjddaaDoorQ5
set_option linter.unusedVariables false
set_option linter.unusedSimpArgs false
namespace Go.Proofs.YtmehlmhpgbjddaaDoor.Q
open Go.RowKit Go.Proofs.YtmehlmhpgbjddaaDoorV.PrintWords Go.Proofs.YtmehlmhpgbjddaaDoorV.PrintLast Go.Proofs.YtmehlmhpgbjddaaDoorV.PrintMore
def IsB (l : List Int) : Prop := ∀ x ∈ l, 0 ≤ x ∧ x ≤ 255
theorem IsB.nil : IsB [] := by intro x hx; cases hx
theorem IsB.cons {x : Int} {l : List Int} (h1 : 0 ≤ x ∧ x ≤ 255) (h2 : IsB l) : IsB (x :: l) := by
 intro y hy
 rcases List.mem_cons.1 hy with rfl | hy
 ·exact h1
 ·exact h2 y hy
theorem IsB.sub {a b : List Int} (h : IsB a) (hs : ∀ x ∈ b, x ∈ a) : IsB b := fun x hx => h x (hs x hx)
theorem IsB.take {a : List Int} (h : IsB a) (n : Nat) : IsB (a.take n) := h.sub fun _ hx => List.mem_of_mem_take hx
theorem IsB.drop {a : List Int} (h : IsB a) (n : Nat) : IsB (a.drop n) := h.sub fun _ hx => List.mem_of_mem_drop hx
theorem L_IsB (s : ByteArray) : IsB (bytesOf s) := by
 intro x hx
 simp only [bytesOf, List.mem_map] at hx
 obtain ⟨b, _, rfl⟩ := hx
 have := b.toNat_lt
 omega
theorem L_len (s : ByteArray) : (bytesOf s).length = s.size := bytesOf_length s
theorem S_L (s : ByteArray) : strOfNums (bytesOf s) = s := by
 apply ByteArray.ext
 apply Array.ext'
 rw [strOfNums_data, bytesOf, List.map_map]
 have : ((fun n : Int => UInt8.ofNat n.toNat) ∘ fun b : UInt8 => (b.toNat : Int)) = id := by
  funext b
  simp
 rw [this, List.map_id]
theorem L_S {l : List Int} (h : IsB l) : bytesOf (strOfNums l) = l := by
 rw [bytesOf, strOfNums_data, List.map_map]
 have : ∀ x ∈ l, ((fun b : UInt8 => (b.toNat : Int)) ∘ fun n : Int => UInt8.ofNat n.toNat) x = id x := by
  intro x hx
  have := h x hx
  simp only [Function.comp_apply, id, UInt8.toNat_ofNat']
  omega
 rw [List.map_congr_left this, List.map_id]
theorem L_inj {s t : ByteArray} (h : bytesOf s = bytesOf t) : s = t := by rw [← S_L s, h, S_L]
theorem L_append (s t : ByteArray) : bytesOf (s ++ t) = bytesOf s ++ bytesOf t := by
 simp only [bytesOf, ByteArray.data_append, Array.toList_append, List.map_append]
theorem L_extract (s : ByteArray) (a b : Nat) : bytesOf (s.extract a b) = ((bytesOf s).drop a).take (b - a) := by
 simp only [bytesOf, Lib.extract_data, List.map_take, List.map_drop]
theorem toList_iff {s t : ByteArray} : s.toList = t.toList ↔ s = t := by
 constructor
 ·intro h
  rw [Lib.toList_data, Lib.toList_data] at h
  exact ByteArray.ext (Array.ext' h)
 ·intro h; rw [h]
theorem toList_nil : (⟨#[]⟩ : ByteArray).toList = [] := by rw [Lib.toList_data]
theorem L_iff {s t : ByteArray} : bytesOf s = bytesOf t ↔ s = t := ⟨L_inj, fun h => by rw [h]⟩
theorem bt_get (s : ByteArray) (i : Nat) (h : i < s.size) : (bytesOf s)[i]? = some (bt s i) := by
 rw [List.getElem?_eq_getElem (by rw [L_len]; exact h), bytesOf_at s i h]
theorem L_drop (s : ByteArray) (i : Nat) (h : i < s.size) : (bytesOf s).drop i = bt s i :: (bytesOf s).drop (i + 1) := bytesOf_drop s i h
theorem L_drop_nil (s : ByteArray) (i : Nat) (h : s.size ≤ i) : (bytesOf s).drop i = [] := List.drop_eq_nil_of_le (by rw [L_len]; exact h)
theorem L_nil : bytesOf (⟨#[]⟩ : ByteArray) = [] := rfl
theorem size_nil_iff (s : ByteArray) : s.size = 0 ↔ bytesOf s = [] := by rw [← L_len, List.length_eq_zero_iff]
theorem S_size (l : List Int) : (strOfNums l).size = l.length := strOfNums_size l
theorem S_append (a b : List Int) : strOfNums a ++ strOfNums b = strOfNums (a ++ b) := by
 apply ByteArray.ext
 apply Array.ext'
 simp only [ByteArray.data_append, Array.toList_append, strOfNums_data, List.map_append]
theorem extract_S (s : ByteArray) (a b : Nat) : s.extract a b = strOfNums (((bytesOf s).drop a).take (b - a)) := by rw [← L_extract, S_L]
theorem size_append (s t : ByteArray) : (s ++ t).size = s.size + t.size := by rw [← L_len, L_append, List.length_append, L_len, L_len]
theorem wrap_id {x : Int} (h1 : -9223372036854775808 ≤ x) (h2 : x ≤ 9223372036854775807) : wrap64 x = x := by unfold wrap64; omega
theorem ev_succ {α : Type} {g : Nat → Option α} {r : α} (h : Ev (fun k => g (k + 1)) r) : Ev g r := Ev.step (fun _ => rfl) h
theorem ev_of {α : Type} {g : Option α} {r : α} (h : g = some r) : Ev (fun _ => g) r := ⟨0, fun _ _ => h⟩
theorem ev_bind {α β : Type} {g : Nat → Option α} {f : Nat → α → Option β} {a : α} {r : β} (h : Ev g a) (k : Ev (fun n => f n a) r) : Ev (fun n => (g n).bind fun t => f n t) r := Ev.bind h k
theorem ev_bind1 {α β : Type} {g : Option α} {f : Nat → α → Option β} {a : α} {r : β} (h : g = some a) (k : Ev (fun n => f n a) r) : Ev (fun n => g.bind fun t => f n t) r := by
 subst h; exact k
theorem ev_pos {α : Type} {c : Prop} [Decidable c] {a b : Nat → Option α} {r : α} (hc : c) (h : Ev a r) : Ev (fun k => if c then a k else b k) r := by
 simp only [if_pos hc]; exact h
theorem ev_neg {α : Type} {c : Prop} [Decidable c] {a b : Nat → Option α} {r : α} (hc : ¬ c) (h : Ev b r) : Ev (fun k => if c then a k else b k) r := by
 simp only [if_neg hc]; exact h
theorem ev_cast {α : Type} {g : Nat → Option α} {r r' : α} (h : Ev g r) (e : r = r') : Ev g r' := e ▸ h
def isLet (x : Int) : Bool := decide ((97 ≤ x ∧ x ≤ 122) ∨ (65 ≤ x ∧ x ≤ 90))
def isDig (x : Int) : Bool := decide (48 ≤ x ∧ x ≤ 57)
def isAtm (x : Int) : Bool := decide ((97 ≤ x ∧ x ≤ 122) ∨ (65 ≤ x ∧ x ≤ 90) ∨ (48 ≤ x ∧ x ≤ 57) ∨ x = 33 ∨ (35 ≤ x ∧ x ≤ 39) ∨ x = 42 ∨ x = 43 ∨ x = 45 ∨ x = 47 ∨ x = 61 ∨ x = 63 ∨ (94 ≤ x ∧ x ≤ 96) ∨ (123 ≤ x ∧ x ≤ 126))
def isTxt (x : Int) : Bool := decide (32 ≤ x ∧ x ≤ 126)
def textOk (l : List Int) : Bool := decide (l.length ≤ 200) && l.all isTxt
def atomOk (l : List Int) : Bool := decide (1 ≤ l.length ∧ l.length ≤ 40) && l.all isAtm
def esc : List Int → List Int
 | [] => []
 | x :: r => if x = 34 ∨ x = 92 then 92 :: x :: esc r else x :: esc r
def quoteW (l : List Int) : List Int := if textOk l = true then (if atomOk l = true then l else 34 :: (esc l ++ [34])) else []
/-- Behind an opening quote: the text, and what is behind the closing one. -/
def readQ : List Int → Option (List Int × List Int)
 | [] => none
 | x :: r => if x = 34 then some ([], r) else if x = 92 then (match r with
  | [] => none
  | y :: r' => (readQ r').map fun p => (y :: p.1, p.2)) else (readQ r).map fun p => (x :: p.1, p.2)
theorem atm_ne {x : Int} (h : isAtm x = true) : x ≠ 32 ∧ x ≠ 34 ∧ x ≠ 92 ∧ x ≠ 44 ∧ x ≠ 60 ∧ x ≠ 62 ∧ x ≠ 64 ∧ x ≠ 46 ∧ 32 ≤ x ∧ x ≤ 126 := by
 simp only [isAtm, decide_eq_true_eq] at h
 omega
theorem textOk_iff (l : List Int) : textOk l = true ↔ l.length ≤ 200 ∧ ∀ x ∈ l, 32 ≤ x ∧ x ≤ 126 := by
 simp [textOk, isTxt, List.all_eq_true]
theorem atomOk_iff (l : List Int) : atomOk l = true ↔ 1 ≤ l.length ∧ l.length ≤ 40 ∧ ∀ x ∈ l, isAtm x = true := by
 simp [atomOk, List.all_eq_true, and_assoc]
theorem esc_length (l : List Int) : l.length ≤ (esc l).length ∧ (esc l).length ≤ 2 * l.length := by
 induction l with
 | nil => simp [esc]
 | cons x r ih =>
  simp only [esc]
  split <;> simp only [List.length_cons] <;> omega
theorem readQ_cons (x : Int) (r : List Int) (h1 : x ≠ 34) (h2 : x ≠ 92) : readQ (x :: r) = (readQ r).map fun p => (x :: p.1, p.2) := by
 rw [readQ.eq_def]
 simp only [if_neg h1, if_neg h2]
theorem readQ_bs (y : Int) (r : List Int) : readQ (92 :: y :: r) = (readQ r).map fun p => (y :: p.1, p.2) := by
 rw [readQ.eq_def]
 simp
theorem readQ_end (r : List Int) : readQ (34 :: r) = some ([], r) := by rw [readQ.eq_def]; simp
theorem readQ_bs_nil : readQ [92] = none := by rw [readQ.eq_def]; simp
theorem readQ_esc (l rest : List Int) : readQ (esc l ++ 34 :: rest) = some (l, rest) := by
 induction l with
 | nil => exact readQ_end rest
 | cons x r ih =>
  simp only [esc]
  split
  ·rw [List.cons_append, List.cons_append, readQ_bs, ih]; rfl
  ·rename_i h
   rw [List.cons_append, readQ_cons x _ (fun e => h (.inl e)) (fun e => h (.inr e)), ih]; rfl
/-- Induction along readQ. -/
theorem readQ_ind {p : List Int → Prop} (h0 : p []) (h1 : ∀ r, p (34 :: r)) (h2 : p [92]) (h3 : ∀ y r, p r → p (92 :: y :: r)) (h4 : ∀ x r, x ≠ 34 → x ≠ 92 → p r → p (x :: r)) (l : List Int) : p l := by
 have key : ∀ n, ∀ l : List Int, l.length ≤ n → p l := by
  intro n
  induction n with
  | zero => intro l hl; rw [List.length_eq_zero_iff.1 (Nat.le_zero.1 hl)]; exact h0
  | succ n ih =>
   intro l hl
   match l, hl with
   | [], _ => exact h0
   | x :: r, hl =>
    simp only [List.length_cons] at hl
    by_cases e1 : x = 34
    ·subst e1; exact h1 r
    ·by_cases e2 : x = 92
     ·subst e2
      match r, hl with
      | [], _ => exact h2
      | y :: r', hl => simp only [List.length_cons] at hl; exact h3 y r' (ih r' (by omega))
     ·exact h4 x r e1 e2 (ih r (by omega))
 exact key l.length l (Nat.le_refl _)
theorem readQ_some {l t rest : List Int} (h : readQ l = some (t, rest)) : ∃ pre, l = pre ++ 34 :: rest ∧ t.length ≤ pre.length ∧ ∀ x ∈ t, x ∈ l := by
 revert t rest
 refine readQ_ind (p := fun l => ∀ {t rest}, readQ l = some (t, rest) → ∃ pre, l = pre ++ 34 :: rest ∧ t.length ≤ pre.length ∧ ∀ x ∈ t, x ∈ l) ?_ ?_ ?_ ?_ ?_ l
 ·intro t rest h; cases h
 ·intro r t rest h
  rw [readQ_end] at h
  injection h with h; injection h with h h'
  subst h; subst h'
  exact ⟨[], rfl, by simp, by simp⟩
 ·intro t rest h; rw [readQ_bs_nil] at h; cases h
 ·intro y r ih t rest h
  rw [readQ_bs] at h
  obtain ⟨⟨t', rest'⟩, hq, he⟩ := Option.map_eq_some_iff.1 h
  injection he with h1 h2
  subst h1; subst h2
  obtain ⟨pre, rfl, hl, hm⟩ := ih hq
  refine ⟨92 :: y :: pre, rfl, by simp only [List.length_cons]; omega, fun x hx => ?_⟩
  rcases List.mem_cons.1 hx with rfl | hx
  ·simp
  ·exact List.mem_cons_of_mem _ (List.mem_cons_of_mem _ (hm x hx))
 ·intro y r h1 h2 ih t rest h
  rw [readQ_cons y r h1 h2] at h
  obtain ⟨⟨t', rest'⟩, hq, he⟩ := Option.map_eq_some_iff.1 h
  injection he with h1 h2
  subst h1; subst h2
  obtain ⟨pre, rfl, hl, hm⟩ := ih hq
  refine ⟨y :: pre, rfl, by simp only [List.length_cons]; omega, fun x hx => ?_⟩
  rcases List.mem_cons.1 hx with rfl | hx
  ·simp
  ·exact List.mem_cons_of_mem _ (hm x hx)
theorem readQ_lt {l t rest : List Int} (h : readQ l = some (t, rest)) : rest.length < l.length := by
 obtain ⟨pre, rfl, _, _⟩ := readQ_some h
 simp only [List.length_append, List.length_cons]
 omega
theorem quoteW_cases (l : List Int) (h : textOk l = true) : (atomOk l = true ∧ quoteW l = l) ∨ (atomOk l = false ∧ quoteW l = 34 :: (esc l ++ [34])) := by
 unfold quoteW
 rw [if_pos h]
 cases ha : atomOk l with
 | true => exact .inl ⟨rfl, if_pos rfl⟩
 | false => exact .inr ⟨rfl, if_neg (by decide)⟩
theorem esc_mem {l : List Int} {x : Int} (h : x ∈ esc l) : x = 92 ∨ x ∈ l := by
 induction l with
 | nil => cases h
 | cons y r ih =>
  simp only [esc] at h
  split at h
  ·rcases List.mem_cons.1 h with h | h
   ·exact .inl h
   ·rcases List.mem_cons.1 h with h | h
    ·exact .inr (by rw [h]; simp)
    ·exact (ih h).imp id (List.mem_cons_of_mem _)
  ·rcases List.mem_cons.1 h with h | h
   ·exact .inr (by rw [h]; simp)
   ·exact (ih h).imp id (List.mem_cons_of_mem _)
theorem quoteW_mem {l : List Int} {x : Int} (h : x ∈ quoteW l) : x = 92 ∨ x = 34 ∨ x ∈ l := by
 unfold quoteW at h
 split at h
 ·split at h
  ·exact .inr (.inr h)
  ·rcases List.mem_cons.1 h with h | h
   ·exact .inr (.inl h)
   ·rcases List.mem_append.1 h with h | h
    ·exact (esc_mem h).imp id .inr
    ·exact .inr (.inl (by simpa using h))
 ·cases h
/-- What stands between the places of a byte; cur: what of the piece has been read. -/
def pcs (c : Int) : List Int → List Int → List (List Int)
 | cur, [] => [cur]
 | cur, x :: r => if x = c then cur :: pcs c [] r else pcs c (cur ++ [x]) r
theorem pcs_run (c : Int) : ∀ (a cur t : List Int), (∀ x ∈ a, x ≠ c) → pcs c cur (a ++ t) = pcs c (cur ++ a) t
 | [], cur, t, _ => by simp
 | x :: a, cur, t, h => by
  rw [List.cons_append, pcs, if_neg (h x (by simp)), pcs_run c a _ t (fun y hy => h y (List.mem_cons_of_mem _ hy)), List.append_assoc]
  rfl
theorem pcs_hit (c : Int) (a cur b : List Int) (h : ∀ x ∈ a, x ≠ c) : pcs c cur (a ++ c :: b) = (cur ++ a) :: pcs c [] b := by
 rw [pcs_run c a cur _ h, pcs, if_pos rfl]
theorem pcs_none (c : Int) (a cur : List Int) (h : ∀ x ∈ a, x ≠ c) : pcs c cur a = [cur ++ a] := by
 have := pcs_run c a cur [] h
 rw [List.append_nil] at this
 rw [this, pcs]
theorem pcs_mem (c : Int) : ∀ (l cur : List Int) (x : Int), x ∈ cur ∨ x ∈ l → x = c ∨ ∃ p ∈ pcs c cur l, x ∈ p
 | [], cur, x, h => .inr ⟨cur, by simp [pcs], by simpa using h⟩
 | y :: r, cur, x, h => by
  rw [pcs]
  by_cases hy : y = c
  ·rw [if_pos hy]
   rcases h with h | h
   ·exact .inr ⟨cur, by simp, h⟩
   ·rcases List.mem_cons.1 h with h | h
    ·exact .inl (h.trans hy)
    ·exact (pcs_mem c r [] x (.inr h)).imp id fun ⟨p, hp, hx⟩ => ⟨p, List.mem_cons_of_mem _ hp, hx⟩
  ·rw [if_neg hy]
   refine pcs_mem c r (cur ++ [y]) x ?_
   rcases h with h | h
   ·exact .inl (List.mem_append_left _ h)
   ·rcases List.mem_cons.1 h with h | h
    ·exact .inl (List.mem_append_right _ (by simp [h]))
    ·exact .inr h
theorem pcs_sub (c : Int) : ∀ (l cur p : List Int), p ∈ pcs c cur l → p.length ≤ cur.length + l.length
 | [], cur, p, h => by
  simp [pcs] at h
  rw [h]; simp
 | y :: r, cur, p, h => by
  rw [pcs] at h
  by_cases hy : y = c
  ·rw [if_pos hy] at h
   rcases List.mem_cons.1 h with h | h
   ·rw [h]; omega
   ·have := pcs_sub c r [] p h
    simp only [List.length_nil, List.length_cons] at this ⊢
    omega
  ·rw [if_neg hy] at h
   have := pcs_sub c r (cur ++ [y]) p h
   simp only [List.length_append, List.length_cons, List.length_nil] at this ⊢
   omega
def isLow (x : Int) : Bool := decide ((97 ≤ x ∧ x ≤ 122) ∨ (48 ≤ x ∧ x ≤ 57) ∨ x = 45)
def labelOk (p : List Int) : Bool := decide (p ≠ []) && (decide (p.head? ≠ some 45) && (decide (p.getLast? ≠ some 45) && p.all isLow))
def localOk (l : List Int) : Bool := decide (l.length ≤ 30) && (pcs 46 [] l).all atomOk
def domOk (l : List Int) : Bool := decide (l.length ≤ 40) && (pcs 46 [] l).all labelOk
def addrOk (n lo d : List Int) : Bool := textOk n && (decide (n.length ≤ 40) && (localOk lo && domOk d))
theorem addrOk_iff {n lo d : List Int} : addrOk n lo d = true ↔ textOk n = true ∧ n.length ≤ 40 ∧ localOk lo = true ∧ domOk d = true := by
 simp [addrOk]
theorem low_ne {x : Int} (h : isLow x = true) : x ≠ 32 ∧ x ≠ 34 ∧ x ≠ 92 ∧ x ≠ 44 ∧ x ≠ 60 ∧ x ≠ 62 ∧ x ≠ 64 ∧ 32 ≤ x ∧ x ≤ 126 ∧ ¬ (65 ≤ x ∧ x ≤ 90) := by
 simp only [isLow, decide_eq_true_eq] at h
 omega
theorem labelOk_iff {p : List Int} : labelOk p = true ↔ p ≠ [] ∧ p.head? ≠ some 45 ∧ p.getLast? ≠ some 45 ∧ ∀ x ∈ p, isLow x = true := by
 simp [labelOk, List.all_eq_true]
theorem local_mem {l : List Int} (h : localOk l = true) : l ≠ [] ∧ l.length ≤ 30 ∧ ∀ x ∈ l, x = 46 ∨ isAtm x = true := by
 simp only [localOk, Bool.and_eq_true, decide_eq_true_eq, List.all_eq_true] at h
 refine ⟨fun e => ?_, h.1, fun x hx => ?_⟩
 ·have := h.2 [] (by rw [e]; simp [pcs])
  simp [atomOk] at this
 ·rcases pcs_mem 46 l [] x (.inr hx) with e | ⟨p, hp, hxp⟩
  ·exact .inl e
  ·exact .inr (((atomOk_iff p).1 (h.2 p hp)).2.2 x hxp)
theorem dom_mem {l : List Int} (h : domOk l = true) : l ≠ [] ∧ l.length ≤ 40 ∧ ∀ x ∈ l, x = 46 ∨ isLow x = true := by
 simp only [domOk, Bool.and_eq_true, decide_eq_true_eq, List.all_eq_true] at h
 refine ⟨fun e => ?_, h.1, fun x hx => ?_⟩
 ·have := h.2 [] (by rw [e]; simp [pcs])
  simp [labelOk] at this
 ·rcases pcs_mem 46 l [] x (.inr hx) with e | ⟨p, hp, hxp⟩
  ·exact .inl e
  ·exact .inr ((labelOk_iff.1 (h.2 p hp)).2.2.2 x hxp)
/-- Formatted addresses. -/
def boxL (lo d : List Int) : List Int := lo ++ 64 :: d
def fmtA (n lo d : List Int) : List Int := if addrOk n lo d = true then (if n = [] then boxL lo d else quoteW n ++ (32 :: 60 :: (boxL lo d ++ [62]))) else []
def outQ (c : Int) (l : List Int) : Option Nat :=
 match l with
 | [] => none
 | x :: r => if x = 34 then (match h : readQ r with
   | none => none
   | some (_, r') => (outQ c r').map (· + (r.length + 1 - r'.length))) else if x = c then some 0 else (outQ c r).map (· + 1)
termination_by l.length
decreasing_by
 ·have := readQ_lt h; simp only [List.length_cons]; omega
 ·simp only [List.length_cons]; omega
theorem outQ_q (c : Int) (r w r' : List Int) (h : readQ r = some (w, r')) : outQ c (34 :: r) = (outQ c r').map (· + (r.length + 1 - r'.length)) := by
 rw [outQ.eq_def]
 simp only [if_true]
 split
 ·rename_i h2; rw [h] at h2; cases h2
 ·rename_i h2; rw [h] at h2; injection h2 with h2; injection h2 with h3 h4; subst h3; subst h4; rfl
theorem outQ_cons (c x : Int) (r : List Int) (h : x ≠ 34) (hc : x ≠ c) : outQ c (x :: r) = (outQ c r).map (· + 1) := by
 rw [outQ.eq_def]
 simp only [if_neg h, if_neg hc]
/-- No such byte in it outside of quotes, and its quotes are closed. -/
def Closed (c : Int) (a : List Int) : Prop := ∀ t, outQ c (a ++ t) = (outQ c t).map (· + a.length)
theorem closed_nil (c : Int) : Closed c [] := by
 intro t
 simp
theorem closed_append {c : Int} {a b : List Int} (ha : Closed c a) (hb : Closed c b) : Closed c (a ++ b) := by
 intro t
 rw [List.append_assoc, ha, hb, Option.map_map]
 congr 1
 funext n
 simp only [Function.comp_apply, List.length_append]
 omega
theorem closed_one {c x : Int} (h : x ≠ 34) (hc : x ≠ c) : Closed c [x] := by
 intro t
 rw [List.singleton_append, outQ_cons c x t h hc]
 rfl
theorem closed_cons {c x : Int} {a : List Int} (h : x ≠ 34) (hc : x ≠ c) (ha : Closed c a) : Closed c (x :: a) := closed_append (closed_one h hc) ha
theorem closed_plain {c : Int} : ∀ {a : List Int}, (∀ x ∈ a, x ≠ 34 ∧ x ≠ c) → Closed c a
 | [], _ => closed_nil c
 | x :: a, h => closed_cons (h x (by simp)).1 (h x (by simp)).2 (closed_plain fun y hy => h y (List.mem_cons_of_mem _ hy))
theorem closed_esc (c : Int) (w : List Int) : Closed c (34 :: (esc w ++ [34])) := by
 intro t
 have e : (34 :: (esc w ++ [34])) ++ t = 34 :: (esc w ++ 34 :: t) := by simp
 rw [e, outQ_q c _ w t (readQ_esc w t)]
 congr 1
 funext n
 simp only [List.length_append, List.length_cons, List.length_nil]
 omega
theorem closed_quoteW {c : Int} (w : List Int) (hc : isAtm c = false) (h34 : c ≠ 34) : Closed c (quoteW w) := by
 unfold quoteW
 split
 ·split
  ·rename_i h
   rw [atomOk_iff] at h
   exact closed_plain fun x hx => ⟨(atm_ne (h.2.2 x hx)).2.1, fun e => by rw [e] at hx; have := h.2.2 c hx; rw [hc] at this; cases this⟩
  ·exact closed_esc c w
 ·exact closed_nil c
/-- What neither begins nor ends with a space. -/
def Tight (l : List Int) : Prop := l.head? ≠ some 32 ∧ l.getLast? ≠ some 32
structure Adr where
 n : List Int
 lo : List Int
 d : List Int
def Adr.ok (a : Adr) : Bool := addrOk a.n a.lo a.d
def Adr.fmt (a : Adr) : List Int := fmtA a.n a.lo a.d
theorem box_mem {lo d : List Int} (h3 : localOk lo = true) (h4 : domOk d = true) : ∀ x ∈ boxL lo d, 33 ≤ x ∧ x ≤ 126 ∧ x ≠ 34 ∧ x ≠ 44 ∧ x ≠ 60 ∧ x ≠ 62 := by
 intro x hx
 unfold boxL at hx
 rcases List.mem_append.1 hx with h | h
 ·rcases (local_mem h3).2.2 x h with e | e
  ·omega
  ·have := atm_ne e; omega
 ·rcases List.mem_cons.1 h with e | h
  ·omega
  ·rcases (dom_mem h4).2.2 x h with e | e
   ·omega
   ·have := low_ne e; omega
theorem box_len {lo d : List Int} (h3 : localOk lo = true) (h4 : domOk d = true) : 3 ≤ (boxL lo d).length ∧ (boxL lo d).length ≤ 71 := by
 have h5 := local_mem h3
 have h6 := dom_mem h4
 have h7 : 1 ≤ lo.length := List.length_pos_iff.2 h5.1
 have h8 : 1 ≤ d.length := List.length_pos_iff.2 h6.1
 unfold boxL
 simp only [List.length_append, List.length_cons]
 omega
theorem quoteW_len (w : List Int) (h : w.length ≤ 40) : (quoteW w).length ≤ 82 := by
 have := esc_length w
 unfold quoteW
 split
 ·split
  ·omega
  ·simp only [List.length_cons, List.length_append, List.length_nil]; omega
 ·simp
theorem quoteW_head {w : List Int} (h : textOk w = true) : ∃ x r, quoteW w = x :: r ∧ x ≠ 32 := by
 rcases quoteW_cases w h with ⟨ha, hq⟩ | ⟨_, hq⟩
 ·rw [hq]
  rw [atomOk_iff] at ha
  match w, ha with
  | x :: r, ha => exact ⟨x, r, rfl, (atm_ne (ha.2.2 x (by simp))).1⟩
 ·exact ⟨34, _, hq, by decide⟩
theorem quoteW_text {w : List Int} (h : textOk w = true) : ∀ x ∈ quoteW w, 32 ≤ x ∧ x ≤ 126 := by
 intro x hx
 rcases quoteW_mem hx with e | e | e
 ·omega
 ·omega
 ·exact ((textOk_iff w).1 h).2 x e
/-- What is to be known of a formatted address. -/
theorem fmt_facts {n lo d : List Int} (h : addrOk n lo d = true) : 3 ≤ (fmtA n lo d).length ∧ (fmtA n lo d).length ≤ 156 ∧ (∀ x ∈ fmtA n lo d, 32 ≤ x ∧ x ≤ 126) ∧ Tight (fmtA n lo d) ∧ Closed 44 (fmtA n lo d) := by
 obtain ⟨h1, h2, h3, h4⟩ := addrOk_iff.1 h
 have hb := box_mem h3 h4
 have hl := box_len h3 h4
 unfold fmtA
 rw [if_pos h]
 by_cases hn : n = []
 ·rw [if_pos hn]
  refine ⟨hl.1, by omega, fun x hx => ?_, ⟨fun e => ?_, fun e => ?_⟩, closed_plain fun x hx => ?_⟩
  ·have := hb x hx; omega
  ·have := hb 32 (List.mem_of_mem_head? (by rw [e]; rfl)); omega
  ·have := hb 32 (List.mem_of_mem_getLast? (by rw [e]; rfl)); omega
  ·have := hb x hx; omega
 ·rw [if_neg hn]
  have hq := quoteW_len n h2
  obtain ⟨y, r, hy, hy2⟩ := quoteW_head h1
  refine ⟨?_, ?_, fun x hx => ?_, ⟨?_, ?_⟩, ?_⟩
  ·simp only [List.length_append, List.length_cons, List.length_nil]; omega
  ·simp only [List.length_append, List.length_cons, List.length_nil]; omega
  ·rcases List.mem_append.1 hx with h | h
   ·exact quoteW_text h1 x h
   ·rcases List.mem_cons.1 h with e | h
    ·omega
    ·rcases List.mem_cons.1 h with e | h
     ·omega
     ·rcases List.mem_append.1 h with h | h
      ·have := hb x h; omega
      ·have : x = 62 := by simpa using h
       omega
  ·rw [hy]; simpa using hy2
  ·have e : quoteW n ++ (32 :: 60 :: (boxL lo d ++ [62])) = (quoteW n ++ (32 :: 60 :: boxL lo d)) ++ [62] := by simp
   rw [e, List.getLast?_append]
   simp
  ·refine closed_append (closed_quoteW n (by decide) (by decide)) (closed_cons (by decide) (by decide) (closed_cons (by decide) (by decide) (closed_append (closed_plain fun x hx => ?_) (closed_one (by decide) (by decide)))))
   have := hb x hx; omega
/-- A comma and a space before each. -/
def tailC : List (List Int) → List Int
 | [] => []
 | x :: r => 44 :: 32 :: (x ++ tailC r)
def joinC : List (List Int) → List Int
 | [] => []
 | x :: r => x ++ tailC r
def fmtL (l : List Adr) : List Int := if l.length ≤ 10 ∧ l.all Adr.ok = true ∧ (joinC (l.map Adr.fmt)).length ≤ 200 then joinC (l.map Adr.fmt) else []
theorem pcs_in (c : Int) : ∀ (l cur p : List Int), p ∈ pcs c cur l → ∀ x ∈ p, x ∈ cur ++ l
 | [], cur, p, h => by
  simp [pcs] at h
  rw [h]; simp
 | y :: r, cur, p, h => by
  intro x hx
  rw [pcs] at h
  by_cases hy : y = c
  ·rw [if_pos hy] at h
   rcases List.mem_cons.1 h with h | h
   ·rw [h] at hx; exact List.mem_append_left _ hx
   ·have := pcs_in c r [] p h x hx
    exact List.mem_append_right _ (List.mem_cons_of_mem _ (by simpa using this))
  ·rw [if_neg hy] at h
   have := pcs_in c r (cur ++ [y]) p h x hx
   simpa using this
theorem pcs_len (c : Int) : ∀ (l cur : List Int), (pcs c cur l).length ≤ l.length + 1
 | [], cur => by simp [pcs]
 | y :: r, cur => by
  rw [pcs]
  split
  ·have := pcs_len c r []
   simp only [List.length_cons]
   omega
  ·have := pcs_len c r (cur ++ [y])
   simp only [List.length_cons]
   omega
def nb (l : List UInt8) : List Int := l.map fun b => (b.toNat : Int)
theorem indexByte_cases (c : UInt8) : ∀ l : List UInt8, (Lib.indexByte l c = -1 ∧ c ∉ l) ∨ ∃ a b, l = a ++ c :: b ∧ c ∉ a ∧ Lib.indexByte l c = (a.length : Int)
 | [] => .inl ⟨rfl, by simp⟩
 | x :: r => by
  by_cases h : x = c
  ·subst h
   exact .inr ⟨[], r, rfl, by simp, by simp [Lib.indexByte]⟩
  ·rcases indexByte_cases c r with ⟨h1, h2⟩ | ⟨a, b, h1, h2, h3⟩
   ·refine .inl ⟨?_, by simp [h2, Ne.symm h]⟩
    simp [Lib.indexByte, h, h1]
   ·refine .inr ⟨x :: a, b, by rw [h1]; rfl, by simp [h2, Ne.symm h], ?_⟩
    simp only [Lib.indexByte, h3, List.length_cons]
    simp [h]
    try omega
theorem nb_ne {c : UInt8} {a : List UInt8} (h : c ∉ a) : ∀ x ∈ nb a, x ≠ (c.toNat : Int) := by
 intro x hx
 obtain ⟨b, hb, rfl⟩ := List.mem_map.1 hx
 intro e
 have : b = c := UInt8.toNat_inj.1 (by omega)
 exact h (this ▸ hb)
theorem splitK_pcs (c : UInt8) : ∀ (k : Nat) (l : List UInt8), l.count c = k → (Lib.splitK [c] 0 k l).map nb = pcs (c.toNat : Int) [] (nb l) := by
 intro k
 induction k with
 | zero =>
  intro l hk
  rw [Lib.splitK, pcs_none _ _ _ (nb_ne (List.count_eq_zero.1 hk))]
  rfl
 | succ k ih =>
  intro l hk
  rcases indexByte_cases c l with ⟨h1, h2⟩ | ⟨a, b, h1, h2, h3⟩
  ·rw [List.count_eq_zero.2 h2] at hk
   omega
  ·have hc : b.count c = k := by
    rw [h1, List.count_append, List.count_cons_self, List.count_eq_zero.2 h2] at hk
    omega
   have hn : ¬ (Lib.index l [c] == -1) = true := by
    rw [Lib.index_one, h3]
    intro e
    have := beq_iff_eq.1 e
    omega
   rw [Lib.splitK, if_neg hn, Lib.index_one, h3, Int.toNat_natCast, List.map_cons, Nat.add_zero]
   have e1 : l.take a.length = a := by rw [h1]; exact List.take_left
   have e2 : l.drop (a.length + [c].length) = b := by
    rw [h1, ← List.drop_drop, List.drop_left]; rfl
   rw [e1, e2, ih b hc]
   have e3 : nb l = nb a ++ (c.toNat : Int) :: nb b := by rw [h1]; simp [nb]
   rw [e3, pcs_hit _ _ _ _ (nb_ne h2)]
   rfl
theorem strings_Split_eq (s : ByteArray) (hs : s.size < 4294967281) : ∃ ps, strings_Split.f s (⟨#[46]⟩ : ByteArray) = some ps ∧ ps.map bytesOf = pcs 46 [] (bytesOf s) ∧ ps.length ≤ s.size + 1 := by
 refine ⟨Lib.splitB (⟨#[46]⟩ : ByteArray) 0 (Lib.countB s (⟨#[46]⟩ : ByteArray)) s, ?_, ?_, ?_⟩
 ·unfold strings_Split.f
  rw [if_pos ⟨hs, rfl⟩]
 ·have h := Lib.splitB_data (⟨#[46]⟩ : ByteArray) 0 (Lib.countB s (⟨#[46]⟩ : ByteArray)) s
  have e : (Lib.splitB (⟨#[46]⟩ : ByteArray) 0 (Lib.countB s (⟨#[46]⟩ : ByteArray)) s).map bytesOf = ((Lib.splitB (⟨#[46]⟩ : ByteArray) 0 (Lib.countB s (⟨#[46]⟩ : ByteArray)) s).map (·.data.toList)).map nb := by
   rw [List.map_map]; rfl
  rw [e, h]
  exact splitK_pcs 46 _ _ (Lib.count_one 46 s.data.toList).symm
 ·rw [Lib.splitB_all (⟨#[46]⟩ : ByteArray) (Nat.le_refl 1) 0 _ s rfl]
  have := Lib.countB_le (⟨#[46]⟩ : ByteArray) (Nat.le_refl 1) s.size s (Nat.le_refl _)
  omega
theorem wrap_succ (i : Nat) (h : (i : Int) < 9223372036854775807) : wrap64 ((i : Int) + 1) = ((i + 1 : Nat) : Int) := by
 rw [wrap_id (by omega) (by omega)]; rfl
theorem allO_some {α : Type} {p : α → Option Bool} {q : α → Bool} (l : List α) (h : ∀ x ∈ l, p x = some (q x)) : allO p l = some (l.all q) := by
 induction l with
 | nil => rfl
 | cons x r ih =>
  rw [allO, h x (by simp), Option.bind_some, ih fun y hy => h y (List.mem_cons_of_mem _ hy), List.all_cons]
  cases q x <;> rfl
theorem anyO_some {α : Type} {p : α → Option Bool} {q : α → Bool} (l : List α) (h : ∀ x ∈ l, p x = some (q x)) : anyO p l = some (l.any q) := by
 induction l with
 | nil => rfl
 | cons x r ih =>
  rw [anyO, h x (by simp), Option.bind_some, ih fun y hy => h y (List.mem_cons_of_mem _ hy), List.any_cons]
  cases q x <;> rfl
theorem ev_anyO {α : Type} {p : Nat → α → Option Bool} {q : α → Bool} (l : List α) (h : ∀ x ∈ l, Ev (fun k => p k x) (q x)) : Ev (fun k => anyO (p k) l) (l.any q) := by
 induction l with
 | nil => exact Ev.now _
 | cons x r ih =>
  have h1 := h x (by simp)
  have h2 := ih fun y hy => h y (List.mem_cons_of_mem _ hy)
  simp only [anyO]
  refine ev_bind h1 ?_
  rw [List.any_cons]
  cases q x with
  | true => exact ev_pos rfl (Ev.now _)
  | false => exact ev_neg (by decide) h2
theorem impl_isLetter_eq (x : Int) : impl_isLetter.f x = some (isLet x) := by
 unfold impl_isLetter.f isLet
 repeat' split
 all_goals first | exact congrArg some (decide_eq_true (by omega)).symm | exact congrArg some (decide_eq_false (by omega)).symm | exact congrArg some (decide_eq_decide.2 (by omega))
theorem impl_isDigit_eq (x : Int) : impl_isDigit.f x = some (isDig x) := by
 unfold impl_isDigit.f isDig
 repeat' split
 all_goals first | exact congrArg some (decide_eq_true (by omega)).symm | exact congrArg some (decide_eq_false (by omega)).symm | exact congrArg some (decide_eq_decide.2 (by omega))
theorem or_if {c P : Prop} [Decidable c] [Decidable P] {r : Option Bool} (h : r = some (decide P)) : (if c then some true else r) = some (decide (c ∨ P)) := by
 by_cases hc : c
 ·rw [if_pos hc, decide_eq_true (Or.inl hc)]
 ·rw [if_neg hc, h]
  exact congrArg some (decide_eq_decide.2 ⟨Or.inr, fun h => h.resolve_left hc⟩)
theorem impl_isAtomByte_eq (x : Int) : impl_isAtomByte.f x = some (isAtm x) := by
 unfold impl_isAtomByte.f
 have m : (if x ≥ 94 then (if x ≤ 96 then some true else (if x ≥ 123 then some (decide (x ≤ 126)) else some false)) else (if x ≥ 123 then some (decide (x ≤ 126)) else some false)) = some (decide ((94 ≤ x ∧ x ≤ 96) ∨ (123 ≤ x ∧ x ≤ 126))) := by
  repeat' split
  all_goals first | exact congrArg some (decide_eq_true (by omega)).symm | exact congrArg some (decide_eq_false (by omega)).symm | exact congrArg some (decide_eq_decide.2 (by omega))
 have t := or_if (c := x = 42) (or_if (c := x = 43) (or_if (c := x = 45) (or_if (c := x = 47) (or_if (c := x = 61) (or_if (c := x = 63) m)))))
 rw [t, impl_isLetter_eq, Option.bind_some, impl_isDigit_eq, Option.bind_some]
 have hL : isLet x = true ↔ (97 ≤ x ∧ x ≤ 122) ∨ (65 ≤ x ∧ x ≤ 90) := by simp [isLet]
 have hD : isDig x = true ↔ (48 ≤ x ∧ x ≤ 57) := by simp [isDig]
 have u : (if x ≥ 35 then (if x ≤ 39 then some true else some (decide (x = 42 ∨ x = 43 ∨ x = 45 ∨ x = 47 ∨ x = 61 ∨ x = 63 ∨ (94 ≤ x ∧ x ≤ 96) ∨ (123 ≤ x ∧ x ≤ 126)))) else some (decide (x = 42 ∨ x = 43 ∨ x = 45 ∨ x = 47 ∨ x = 61 ∨ x = 63 ∨ (94 ≤ x ∧ x ≤ 96) ∨ (123 ≤ x ∧ x ≤ 126)))) = some (decide ((35 ≤ x ∧ x ≤ 39) ∨ x = 42 ∨ x = 43 ∨ x = 45 ∨ x = 47 ∨ x = 61 ∨ x = 63 ∨ (94 ≤ x ∧ x ≤ 96) ∨ (123 ≤ x ∧ x ≤ 126))) := by
  by_cases h1 : x ≥ 35
  ·by_cases h2 : x ≤ 39
   ·rw [if_pos h1, if_pos h2]; exact congrArg some (decide_eq_true (by omega)).symm
   ·rw [if_pos h1, if_neg h2]; exact congrArg some (decide_eq_decide.2 (by omega))
  ·rw [if_neg h1]; exact congrArg some (decide_eq_decide.2 (by omega))
 rw [or_if (c := isLet x = true) (or_if (c := isDig x = true) (or_if (c := x = 33) u))]
 refine congrArg some (decide_eq_decide.2 ?_)
 rw [hL, hD]
 omega
theorem spec_l1Letter_eq (x : Int) : spec_l1Letter.f x = some (decide ((97 ≤ x ∧ x ≤ 122) ∨ (65 ≤ x ∧ x ≤ 90) ∨ (48 ≤ x ∧ x ≤ 57))) := by
 unfold spec_l1Letter.f
 repeat' split
 all_goals first | exact congrArg some (decide_eq_true (by omega)).symm | exact congrArg some (decide_eq_false (by omega)).symm | exact congrArg some (decide_eq_decide.2 (by omega))
theorem spec_l1Atom_ev (x : Int) : Ev (fun k => spec_l1Atom.f k x) (isAtm x) := by
 have e : ∀ k, spec_l1Atom.f (k + 20) x = some (isAtm x) := by
  intro k
  unfold spec_l1Atom.f
  have b0 : bt (⟨#[33, 35, 36, 37, 38, 39, 42, 43, 45, 47, 61, 63, 94, 95, 96, 123, 124, 125, 126]⟩ : ByteArray) 0 = 33 := by rfl
  have b1 : bt (⟨#[33, 35, 36, 37, 38, 39, 42, 43, 45, 47, 61, 63, 94, 95, 96, 123, 124, 125, 126]⟩ : ByteArray) 1 = 35 := by rfl
  have b2 : bt (⟨#[33, 35, 36, 37, 38, 39, 42, 43, 45, 47, 61, 63, 94, 95, 96, 123, 124, 125, 126]⟩ : ByteArray) 2 = 36 := by rfl
  have b3 : bt (⟨#[33, 35, 36, 37, 38, 39, 42, 43, 45, 47, 61, 63, 94, 95, 96, 123, 124, 125, 126]⟩ : ByteArray) 3 = 37 := by rfl
  have b4 : bt (⟨#[33, 35, 36, 37, 38, 39, 42, 43, 45, 47, 61, 63, 94, 95, 96, 123, 124, 125, 126]⟩ : ByteArray) 4 = 38 := by rfl
  have b5 : bt (⟨#[33, 35, 36, 37, 38, 39, 42, 43, 45, 47, 61, 63, 94, 95, 96, 123, 124, 125, 126]⟩ : ByteArray) 5 = 39 := by rfl
  have b6 : bt (⟨#[33, 35, 36, 37, 38, 39, 42, 43, 45, 47, 61, 63, 94, 95, 96, 123, 124, 125, 126]⟩ : ByteArray) 6 = 42 := by rfl
  have b7 : bt (⟨#[33, 35, 36, 37, 38, 39, 42, 43, 45, 47, 61, 63, 94, 95, 96, 123, 124, 125, 126]⟩ : ByteArray) 7 = 43 := by rfl
  have b8 : bt (⟨#[33, 35, 36, 37, 38, 39, 42, 43, 45, 47, 61, 63, 94, 95, 96, 123, 124, 125, 126]⟩ : ByteArray) 8 = 45 := by rfl
  have b9 : bt (⟨#[33, 35, 36, 37, 38, 39, 42, 43, 45, 47, 61, 63, 94, 95, 96, 123, 124, 125, 126]⟩ : ByteArray) 9 = 47 := by rfl
  have b10 : bt (⟨#[33, 35, 36, 37, 38, 39, 42, 43, 45, 47, 61, 63, 94, 95, 96, 123, 124, 125, 126]⟩ : ByteArray) 10 = 61 := by rfl
  have b11 : bt (⟨#[33, 35, 36, 37, 38, 39, 42, 43, 45, 47, 61, 63, 94, 95, 96, 123, 124, 125, 126]⟩ : ByteArray) 11 = 63 := by rfl
  have b12 : bt (⟨#[33, 35, 36, 37, 38, 39, 42, 43, 45, 47, 61, 63, 94, 95, 96, 123, 124, 125, 126]⟩ : ByteArray) 12 = 94 := by rfl
  have b13 : bt (⟨#[33, 35, 36, 37, 38, 39, 42, 43, 45, 47, 61, 63, 94, 95, 96, 123, 124, 125, 126]⟩ : ByteArray) 13 = 95 := by rfl
  have b14 : bt (⟨#[33, 35, 36, 37, 38, 39, 42, 43, 45, 47, 61, 63, 94, 95, 96, 123, 124, 125, 126]⟩ : ByteArray) 14 = 96 := by rfl
  have b15 : bt (⟨#[33, 35, 36, 37, 38, 39, 42, 43, 45, 47, 61, 63, 94, 95, 96, 123, 124, 125, 126]⟩ : ByteArray) 15 = 123 := by rfl
  have b16 : bt (⟨#[33, 35, 36, 37, 38, 39, 42, 43, 45, 47, 61, 63, 94, 95, 96, 123, 124, 125, 126]⟩ : ByteArray) 16 = 124 := by rfl
  have b17 : bt (⟨#[33, 35, 36, 37, 38, 39, 42, 43, 45, 47, 61, 63, 94, 95, 96, 123, 124, 125, 126]⟩ : ByteArray) 17 = 125 := by rfl
  have b18 : bt (⟨#[33, 35, 36, 37, 38, 39, 42, 43, 45, 47, 61, 63, 94, 95, 96, 123, 124, 125, 126]⟩ : ByteArray) 18 = 126 := by rfl
  simp only [spec_l1Atom.l0, spec_l1Letter_eq, Option.bind_some, show wrap64 (0 + 1) = 1 by unfold wrap64; omega, show wrap64 (1 + 1) = 2 by unfold wrap64; omega, show wrap64 (2 + 1) = 3 by unfold wrap64; omega, show wrap64 (3 + 1) = 4 by unfold wrap64; omega, show wrap64 (4 + 1) = 5 by unfold wrap64; omega, show wrap64 (5 + 1) = 6 by unfold wrap64; omega, show wrap64 (6 + 1) = 7 by unfold wrap64; omega, show wrap64 (7 + 1) = 8 by unfold wrap64; omega, show wrap64 (8 + 1) = 9 by unfold wrap64; omega, show wrap64 (9 + 1) = 10 by unfold wrap64; omega, show wrap64 (10 + 1) = 11 by unfold wrap64; omega, show wrap64 (11 + 1) = 12 by unfold wrap64; omega, show wrap64 (12 + 1) = 13 by unfold wrap64; omega, show wrap64 (13 + 1) = 14 by unfold wrap64; omega, show wrap64 (14 + 1) = 15 by unfold wrap64; omega, show wrap64 (15 + 1) = 16 by unfold wrap64; omega, show wrap64 (16 + 1) = 17 by unfold wrap64; omega, show wrap64 (17 + 1) = 18 by unfold wrap64; omega, show wrap64 (18 + 1) = 19 by unfold wrap64; omega, Int.reduceLT, Int.reduceLE, if_true, if_false, b0, b1, b2, b3, b4, b5, b6, b7, b8, b9, b10, b11, b12, b13, b14, b15, b16, b17, b18]
  rw [or_if (c := x = 33) (or_if (c := x = 35) (or_if (c := x = 36) (or_if (c := x = 37) (or_if (c := x = 38) (or_if (c := x = 39) (or_if (c := x = 42) (or_if (c := x = 43) (or_if (c := x = 45) (or_if (c := x = 47) (or_if (c := x = 61) (or_if (c := x = 63) (or_if (c := x = 94) (or_if (c := x = 95) (or_if (c := x = 96) (or_if (c := x = 123) (or_if (c := x = 124) (or_if (c := x = 125) (or_if (c := x = 126) rfl))))))))))))))))))]
  exact congrArg some (decide_eq_decide.2 (by omega))
 refine ⟨20, fun k hk => ?_⟩
 obtain ⟨m, rfl⟩ : ∃ m, k = m + 20 := ⟨k - 20, by omega⟩
 exact e m
theorem impl_TextValid_l0 (s : ByteArray) (hs : s.size ≤ 4611686018427387904) : ∀ (d i : Nat), i + d = s.size → Ev (fun k => impl_TextValid.l0 k s (s.size : Int) (i : Int)) (decide (s.size ≤ 200) && ((bytesOf s).drop i).all isTxt) := by
 intro d
 induction d with
 | zero =>
  intro i hi
  refine ev_succ ?_
  simp only [impl_TextValid.l0]
  refine ev_neg (by omega) ?_
  rw [L_drop_nil s i (by omega), List.all_nil, Bool.and_true]
  exact ev_of (congrArg some (decide_eq_decide.2 (by omega)))
 | succ d ih =>
  intro i hi
  refine ev_succ ?_
  simp only [impl_TextValid.l0]
  refine ev_pos (by omega) (ev_pos (by omega) (ev_pos (by omega) ?_))
  rw [L_drop s i (by omega), List.all_cons, wrap_succ i (by omega)]
  by_cases h1 : bt s i < 32
  ·refine ev_pos h1 (ev_of ?_)
   rw [show isTxt (bt s i) = false from decide_eq_false (by omega), Bool.false_and, Bool.and_false]
  ·refine ev_neg h1 ?_
   by_cases h2 : bt s i > 126
   ·refine ev_pos h2 (ev_of ?_)
    rw [show isTxt (bt s i) = false from decide_eq_false (by omega), Bool.false_and, Bool.and_false]
   ·refine ev_neg h2 ?_
    rw [show isTxt (bt s i) = true from decide_eq_true (by omega), Bool.true_and]
    exact ih (i + 1) (by omega)
theorem impl_TextValid_ev (s : ByteArray) (hs : s.size ≤ 4611686018427387904) : Ev (fun k => impl_TextValid.f k s) (textOk (bytesOf s)) := by
 have h := impl_TextValid_l0 s hs s.size 0 (by omega)
 rw [List.drop_zero] at h
 unfold textOk
 rw [L_len]
 exact h
theorem spec_TextValid_l0 (s : ByteArray) (hs : s.size ≤ 4611686018427387904) : ∀ (d i : Nat), i + d = s.size → i ≤ 201 → Ev (fun k => spec_TextValid.l0 k s (i : Int)) (decide (s.size ≤ 200) && ((bytesOf s).drop i).all isTxt) := by
 intro d
 induction d with
 | zero =>
  intro i hi _
  refine ev_succ ?_
  simp only [spec_TextValid.l0]
  refine ev_neg (by omega) (ev_succ ?_)
  simp only [spec_TextValid.j1, if_true, Bool.false_eq_true, if_false]
  rw [L_drop_nil s i (by omega), List.all_nil, Bool.and_true]
  exact ev_of (congrArg some (decide_eq_decide.2 (by omega)))
 | succ d ih =>
  intro i hi h201
  refine ev_succ ?_
  simp only [spec_TextValid.l0]
  refine ev_pos (by omega) (ev_succ ?_)
  by_cases h0 : (i : Int) ≤ 200
  ·simp only [decide_eq_true h0, spec_TextValid.j1, if_true]
   refine ev_pos (by omega) (ev_pos (by omega) ?_)
   rw [L_drop s i (by omega), List.all_cons, wrap_succ i (by omega)]
   by_cases h1 : bt s i < 32
   ·refine ev_pos h1 (ev_of ?_)
    rw [show isTxt (bt s i) = false from decide_eq_false (by omega), Bool.false_and, Bool.and_false]
   ·refine ev_neg h1 ?_
    by_cases h2 : bt s i > 126
    ·refine ev_pos h2 (ev_of ?_)
     rw [show isTxt (bt s i) = false from decide_eq_false (by omega), Bool.false_and, Bool.and_false]
    ·refine ev_neg h2 ?_
     rw [show isTxt (bt s i) = true from decide_eq_true (by omega), Bool.true_and]
     exact ih (i + 1) (by omega) (by omega)
  ·simp only [decide_eq_false h0, spec_TextValid.j1, Bool.false_eq_true, if_false]
   refine ev_of ?_
   rw [show decide (s.size ≤ 200) = false from decide_eq_false (by omega), Bool.false_and]
   exact congrArg some (decide_eq_false (by omega))
theorem spec_TextValid_ev (s : ByteArray) (hs : s.size ≤ 4611686018427387904) : Ev (fun k => spec_TextValid.f k s) (textOk (bytesOf s)) := by
 have h := spec_TextValid_l0 s hs s.size 0 (by omega) (by omega)
 rw [List.drop_zero] at h
 unfold textOk
 rw [L_len]
 exact h
theorem impl_AtomValid_eq (s : ByteArray) : impl_AtomValid.f s = some (atomOk (bytesOf s)) := by
 unfold impl_AtomValid.f
 by_cases h1 : (s.size : Int) ≥ 1
 ·rw [if_pos h1]
  by_cases h2 : (s.size : Int) ≤ 40
  ·rw [if_pos h2, allBytes__impl_isAtomByte.f, if_pos (by omega), allO_some (q := isAtm) _ fun x _ => impl_isAtomByte_eq x, Option.bind_some]
   unfold atomOk
   rw [decide_eq_true (by rw [L_len]; omega), Bool.true_and]
  ·rw [if_neg h2]
   unfold atomOk
   rw [decide_eq_false (by rw [L_len]; omega), Bool.false_and]
 ·rw [if_neg h1]
  unfold atomOk
  rw [decide_eq_false (by rw [L_len]; omega), Bool.false_and]
theorem spec_AtomValid_l0 (s : ByteArray) (hs : s.size ≤ 4611686018427387904) : ∀ (d i : Nat), i + d = s.size → i ≤ 41 → Ev (fun k => spec_AtomValid.l0 k s (i : Int)) (decide (1 ≤ s.size ∧ s.size ≤ 40) && ((bytesOf s).drop i).all isAtm) := by
 have fin : ∀ i : Nat, (i = s.size ∨ 40 < i) → i ≤ s.size → Ev (fun _ => (if (s.size : Int) ≥ 1 then some (decide ((s.size : Int) ≤ 40)) else some false)) (decide (1 ≤ s.size ∧ s.size ≤ 40) && ((bytesOf s).drop i).all isAtm) := by
  intro i hi hle
  have e : (decide (1 ≤ s.size ∧ s.size ≤ 40) && ((bytesOf s).drop i).all isAtm) = decide (1 ≤ s.size ∧ s.size ≤ 40) := by
   rcases hi with hi | hi
   ·rw [L_drop_nil s i (by omega), List.all_nil, Bool.and_true]
   ·rw [show decide (1 ≤ s.size ∧ s.size ≤ 40) = false from decide_eq_false (by omega), Bool.false_and]
  rw [e]
  by_cases h1 : (s.size : Int) ≥ 1
  ·exact ev_pos h1 (ev_of (congrArg some (decide_eq_decide.2 (by omega))))
  ·exact ev_neg h1 (ev_of (congrArg some (decide_eq_false (by omega)).symm))
 intro d
 induction d with
 | zero =>
  intro i hi _
  refine ev_succ ?_
  simp only [spec_AtomValid.l0]
  refine ev_neg (by omega) (ev_succ ?_)
  simp only [spec_AtomValid.j1, Bool.false_eq_true, if_false]
  exact fin i (by omega) (by omega)
 | succ d ih =>
  intro i hi h41
  refine ev_succ ?_
  simp only [spec_AtomValid.l0]
  refine ev_pos (by omega) (ev_succ ?_)
  by_cases h0 : (i : Int) ≤ 40
  ·simp only [decide_eq_true h0, spec_AtomValid.j1, if_true]
   refine ev_pos (by omega) (ev_pos (by omega) (ev_bind (spec_l1Atom_ev _) ?_))
   rw [L_drop s i (by omega), List.all_cons, wrap_succ i (by omega)]
   cases hA : isAtm (bt s i) with
   | true =>
    refine ev_pos rfl ?_
    rw [Bool.true_and]
    exact ih (i + 1) (by omega) (by omega)
   | false =>
    refine ev_neg (by decide) (ev_of ?_)
    rw [Bool.false_and, Bool.and_false]
  ·simp only [decide_eq_false h0, spec_AtomValid.j1, Bool.false_eq_true, if_false]
   exact fin i (by omega) (by omega)
theorem spec_AtomValid_ev (s : ByteArray) (hs : s.size ≤ 4611686018427387904) : Ev (fun k => spec_AtomValid.f k s) (atomOk (bytesOf s)) := by
 have h := spec_AtomValid_l0 s hs s.size 0 (by omega) (by omega)
 rw [List.drop_zero] at h
 unfold atomOk
 rw [L_len]
 exact h
theorem rdOf_get (l : List ByteArray) (i : Nat) (h : i < l.length) : rdOf ByteArray.empty l (i : Int) = l[i] := by
 rw [rdOf, Int.toNat_natCast, List.getD_eq_getElem?_getD, List.getElem?_eq_getElem h]
 rfl
theorem impl_isLocal_eq (s : ByteArray) : impl_isLocal.f s = some (localOk (bytesOf s)) := by
 unfold impl_isLocal.f localOk
 by_cases h : (s.size : Int) ≤ 30
 ·obtain ⟨ps, h1, h2, h3⟩ := strings_Split_eq s (by omega)
  rw [if_pos h, h1, Option.bind_some, ContainsFunc__impl_isLocal_1.f, anyO_some (q := fun x => !atomOk (bytesOf x)) ps (fun x _ => by unfold impl_isLocal_1.f; rw [impl_AtomValid_eq, Option.bind_some]), Option.bind_some, decide_eq_true (by rw [L_len]; omega), Bool.true_and, ← h2, List.all_map, List.not_any_eq_all_not]
  simp [Function.comp_def]
 ·rw [if_neg h, decide_eq_false (by rw [L_len]; omega), Bool.false_and]
theorem impl_isLabel_1_eq (x : Int) : impl_isLabel_1.f x = some (isLow x) := by
 unfold impl_isLabel_1.f isLow
 rw [impl_isDigit_eq]
 simp only [Option.bind_some, isDig, decide_eq_true_eq]
 repeat' split
 all_goals first | exact congrArg some (decide_eq_true (by omega)).symm | exact congrArg some (decide_eq_false (by omega)).symm | (rw [show (x == 45) = decide (x = 45) from (Bool.decide_eq_eq_eq_beq x 45)]; exact congrArg some (decide_eq_decide.2 (by omega))) | (refine congrArg some ?_; rw [Bool.eq_iff_iff, beq_iff_eq, decide_eq_true_eq]; omega)
theorem impl_isLabel_eq (s : ByteArray) (hs : s.size ≤ 1048576) : impl_isLabel.f s = some (labelOk (bytesOf s)) := by
 unfold impl_isLabel.f labelOk
 by_cases h0 : s.toList = ([] : List UInt8)
 ·rw [if_pos h0]
  have e : bytesOf s = [] := by
   have : s = (⟨#[]⟩ : ByteArray) := toList_iff.1 (by rw [h0, toList_nil])
   rw [this]; rfl
  rw [e]; rfl
 ·have hp : 0 < s.size := by
   rcases Nat.eq_zero_or_pos s.size with h | h
   ·exact absurd (by rw [← toList_nil, toList_iff, ← L_iff, L_nil]; exact (size_nil_iff s).1 h) h0
   ·exact h
  have hne : bytesOf s ≠ [] := fun e => by rw [← size_nil_iff] at e; omega
  have h1 : (bytesOf s).head? = some (bt s 0) := by rw [List.head?_eq_getElem?]; exact bt_get s 0 hp
  have h2 : (bytesOf s).getLast? = some (bt s ((s.size - 1 : Nat) : Int)) := by rw [List.getLast?_eq_getElem?, L_len]; exact bt_get s (s.size - 1) (by omega)
  have ew : wrap64 ((s.size : Int) - 1) = ((s.size - 1 : Nat) : Int) := by rw [wrap_id (by omega) (by omega)]; omega
  rw [if_neg h0, if_pos (by omega), ew, decide_eq_true hne, Bool.true_and, h1, h2]
  by_cases h3 : bt s 0 = 45
  ·rw [if_pos h3, decide_eq_false (by simp [h3]), Bool.false_and]
  ·rw [if_neg h3, if_pos (by omega), if_pos (by omega), decide_eq_true (by simpa using h3), Bool.true_and]
   by_cases h4 : bt s ((s.size - 1 : Nat) : Int) = 45
   ·rw [if_pos h4, decide_eq_false (by simp [h4]), Bool.false_and]
   ·rw [if_neg h4, decide_eq_true (by simpa using h4), Bool.true_and, allBytes__impl_isLabel_1.f, if_pos (by omega), allO_some (q := isLow) _ fun x _ => impl_isLabel_1_eq x, Option.bind_some]
theorem impl_isDomain_eq (s : ByteArray) : impl_isDomain.f s = some (domOk (bytesOf s)) := by
 unfold impl_isDomain.f domOk
 by_cases h : (s.size : Int) ≤ 40
 ·obtain ⟨ps, h1, h2, h3⟩ := strings_Split_eq s (by omega)
  have hz : ∀ x ∈ ps, x.size ≤ 1048576 := fun x hx => by
   have := pcs_sub 46 (bytesOf s) [] (bytesOf x) (by rw [← h2]; exact List.mem_map_of_mem hx)
   rw [L_len, L_len] at this
   simp only [List.length_nil] at this
   omega
  rw [if_pos h, h1, Option.bind_some, ContainsFunc__impl_isDomain_1.f, anyO_some (q := fun x => !labelOk (bytesOf x)) ps (fun x hx => by unfold impl_isDomain_1.f; rw [impl_isLabel_eq x (hz x hx), Option.bind_some]), Option.bind_some, decide_eq_true (by rw [L_len]; omega), Bool.true_and, ← h2, List.all_map, List.not_any_eq_all_not]
  simp [Function.comp_def]
 ·rw [if_neg h, decide_eq_false (by rw [L_len]; omega), Bool.false_and]
theorem impl_AddressValid_ev (a b c : ByteArray) (ha : a.size ≤ 1048576) (hb : b.size ≤ 1048576) (hc : c.size ≤ 1048576) : Ev (fun k => impl_AddressValid.f k a b c) (addrOk (bytesOf a) (bytesOf b) (bytesOf c)) := by
 unfold impl_AddressValid.f addrOk
 refine ev_bind (impl_TextValid_ev a (by omega)) ?_
 cases textOk (bytesOf a) with
 | false => exact ev_neg (by decide) (Ev.now _)
 | true =>
  refine ev_pos rfl ?_
  by_cases h : (a.size : Int) ≤ 40
  ·rw [decide_eq_true (by rw [L_len]; omega), Bool.true_and, Bool.true_and]
   refine ev_pos h (ev_bind1 (impl_isLocal_eq b) ?_)
   cases localOk (bytesOf b) with
   | false => exact ev_neg (by decide) (Ev.now _)
   | true => exact ev_pos rfl (ev_bind1 (impl_isDomain_eq c) (Ev.now _))
  ·rw [decide_eq_false (by rw [L_len]; omega)]
   exact ev_neg h (Ev.now _)
theorem spec_l2Parts_l0 (s : ByteArray) (hs : s.size ≤ 1048576) (c : Int) : ∀ (d i st : Nat) (out : List ByteArray), i + d = s.size → st ≤ i → out.length ≤ st → Ev (fun k => spec_l2Parts.l0 k s c out (st : Int) (i : Int)) (out ++ (pcs c (((bytesOf s).drop st).take (i - st)) ((bytesOf s).drop i)).map strOfNums) := by
 intro d
 induction d with
 | zero =>
  intro i st out hi hst ho
  refine ev_succ ?_
  simp only [spec_l2Parts.l0]
  rw [L_drop_nil s i (by omega), pcs, Int.toNat_natCast, Int.toNat_natCast]
  have e : s.extract st s.size = strOfNums (((bytesOf s).drop st).take (i - st)) := by rw [extract_S, show i = s.size by omega]
  refine ev_neg (by omega) (ev_pos (by omega) (ev_pos (by omega) (ev_pos (by omega) (ev_of ?_))))
  rw [e]; rfl
 | succ d ih =>
  intro i st out hi hst ho
  refine ev_succ ?_
  simp only [spec_l2Parts.l0]
  rw [L_drop s i (by omega), wrap_succ i (by omega)]
  refine ev_pos (by omega) (ev_pos (by omega) ?_)
  rw [pcs]
  by_cases h : bt s i = c
  ·rw [if_pos h]
   refine ev_pos h (ev_pos (by omega) (ev_pos (by omega) (ev_pos (by omega) (ev_pos (by omega) ?_))))
   rw [Int.toNat_natCast, Int.toNat_natCast, extract_S s st i]
   refine ev_cast (ih (i + 1) (i + 1) _ (by omega) (by omega) (by simp; omega)) ?_
   rw [Nat.sub_self, List.take_zero, List.map_cons, List.append_assoc]
   rfl
  ·rw [if_neg h]
   refine ev_neg h (ev_cast (ih (i + 1) st out (by omega) (by omega) (by omega)) ?_)
   rw [show i + 1 - st = (i - st) + 1 by omega, List.take_succ_eq_append_getElem (by rw [List.length_drop, L_len]; omega), List.getElem_drop]
   congr 3
   have := bytesOf_at s i (by omega)
   simp only [show st + (i - st) = i by omega]
   rw [this]
theorem spec_l2Parts_ev (s : ByteArray) (hs : s.size ≤ 1048576) (c : Int) : Ev (fun k => spec_l2Parts.f k s c) ((pcs c [] (bytesOf s)).map strOfNums) := by
 have h := spec_l2Parts_l0 s hs c s.size 0 0 [] (by omega) (by omega) (by simp)
 rw [List.drop_zero, Nat.sub_zero, List.take_zero, List.nil_append] at h
 unfold spec_l2Parts.f
 exact h
theorem all_drop {α : Type} (p : α → Bool) (l : List α) (i : Nat) (h : i < l.length) : (l.drop i).all p = (p l[i] && (l.drop (i + 1)).all p) := by
 rw [List.drop_eq_getElem_cons h, List.all_cons]
theorem spec_l2Local_l0 (s : ByteArray) (ps : List ByteArray) (hp : ∀ p ∈ ps, p.size ≤ 1048576) (hl : ps.length ≤ 1048577) : ∀ (d i : Nat), i + d = ps.length → Ev (fun k => spec_l2Local.l0 k s ps (i : Int)) ((ps.drop i).all (fun p => atomOk (bytesOf p)) && decide (s.size ≤ 30)) := by
 intro d
 induction d with
 | zero =>
  intro i hi
  refine ev_succ ?_
  simp only [spec_l2Local.l0]
  rw [List.drop_eq_nil_of_le (by omega), List.all_nil, Bool.true_and]
  exact ev_neg (by omega) (ev_of (congrArg some (decide_eq_decide.2 (by omega))))
 | succ d ih =>
  intro i hi
  have hlt : i < ps.length := by omega
  have hz := hp _ (List.getElem_mem hlt)
  refine ev_succ ?_
  simp only [spec_l2Local.l0]
  rw [rdOf_get ps i hlt, wrap_succ i (by omega), all_drop _ _ _ hlt]
  refine ev_pos (by omega) (ev_pos (by omega) ((ev_bind (spec_AtomValid_ev _ (by omega)) ?_)))
  cases h : atomOk (bytesOf ps[i]) with
  | true => exact ev_pos rfl (ev_cast (ih (i + 1) (by omega)) (by rw [Bool.true_and]))
  | false => exact ev_neg (by decide) (Ev.now _)
theorem pcs_S (s : ByteArray) (c : Int) : ((pcs c [] (bytesOf s)).map strOfNums).map bytesOf = pcs c [] (bytesOf s) := by
 rw [List.map_map]
 conv => rhs; rw [← List.map_id (pcs c [] (bytesOf s))]
 refine List.map_congr_left fun p hp => ?_
 exact L_S ((L_IsB s).sub fun x hx => pcs_in c (bytesOf s) [] p hp x hx)
theorem pcs_size (s : ByteArray) (c : Int) : (∀ p ∈ (pcs c [] (bytesOf s)).map strOfNums, p.size ≤ s.size) ∧ ((pcs c [] (bytesOf s)).map strOfNums).length ≤ s.size + 1 := by
 refine ⟨fun p hp => ?_, ?_⟩
 ·obtain ⟨q, hq, rfl⟩ := List.mem_map.1 hp
  have := pcs_sub c (bytesOf s) [] q hq
  rw [S_size]
  rw [L_len] at this
  simpa using this
 ·rw [List.length_map, ← L_len s]
  exact pcs_len c (bytesOf s) []
theorem spec_l2Local_ev (s : ByteArray) (hs : s.size ≤ 1048576) : Ev (fun k => spec_l2Local.f k s) (localOk (bytesOf s)) := by
 unfold spec_l2Local.f
 obtain ⟨h1, h2⟩ := pcs_size s 46
 refine ev_bind (spec_l2Parts_ev s hs 46) ?_
 have h := spec_l2Local_l0 s _ (fun p hp => by have := h1 p hp; omega) (by omega) _ 0 (Nat.zero_add _)
 refine ev_cast h ?_
 unfold localOk
 rw [List.drop_zero, Bool.and_comm, L_len]
 congr 1
 have := pcs_S s 46
 conv => rhs; rw [← this]
 simp only [List.all_map]
 rfl
theorem labelOk_def (p : List Int) : labelOk p = (decide (p ≠ []) && (decide (p.head? ≠ some 45) && (decide (p.getLast? ≠ some 45) && p.all isLow))) := rfl
theorem spec_letter_low (x : Int) : (decide ((97 ≤ x ∧ x ≤ 122) ∨ (65 ≤ x ∧ x ≤ 90) ∨ (48 ≤ x ∧ x ≤ 57)) = true ∧ ¬ (65 ≤ x ∧ x ≤ 90)) ∨ x = 45 ↔ isLow x = true := by
 simp only [isLow, decide_eq_true_eq]
 omega
theorem spec_l2Domain_l1 (s : ByteArray) (ps : List ByteArray) (i : Nat) (hi : i < 1048577) (p : ByteArray) (hz : p.size ≤ 1048576) (R : Bool) (hR : Ev (fun k => spec_l2Domain.l0 k s ps ((i + 1 : Nat) : Int)) R) : ∀ (d j : Nat), j + d = p.size → Ev (fun k => spec_l2Domain.l1 k s ps (i : Int) p (j : Int)) (((bytesOf p).drop j).all isLow && R) := by
 intro d
 induction d with
 | zero =>
  intro j hj
  refine ev_succ ?_
  simp only [spec_l2Domain.l1]
  rw [L_drop_nil p j (by omega), List.all_nil, Bool.true_and, wrap_succ i (by omega)]
  exact ev_neg (by omega) hR
 | succ d ih =>
  intro j hj
  refine ev_succ ?_
  simp only [spec_l2Domain.l1]
  rw [L_drop p j (by omega), List.all_cons, wrap_succ j (by omega)]
  have hiff := spec_letter_low (bt p j)
  have hgo := ih (j + 1) (by omega)
  refine ev_pos (by omega) (ev_pos (by omega) (ev_bind1 (spec_l1Letter_eq _) ?_))
  cases hl : isLow (bt p j) with
  | true =>
   rw [Bool.true_and]
   rcases hiff.2 hl with ⟨h1, h2⟩ | h1
   ·refine ev_pos h1 ?_
    by_cases h3 : bt p j ≥ 65
    ·exact ev_pos h3 (ev_neg (by omega) hgo)
    ·exact ev_neg h3 hgo
   ·refine ev_neg (by rw [h1]; decide) (ev_pos h1 (ev_neg (by omega) hgo))
  | false =>
   have h1 : ¬ _ := fun h => by have := hiff.1 h; rw [hl] at this; cases this
   rw [Bool.false_and]
   by_cases h2 : decide ((97 ≤ bt p j ∧ bt p j ≤ 122) ∨ (65 ≤ bt p j ∧ bt p j ≤ 90) ∨ (48 ≤ bt p j ∧ bt p j ≤ 57)) = true
   ·have h3 : 65 ≤ bt p j ∧ bt p j ≤ 90 := Classical.not_not.1 fun h => h1 (.inl ⟨h2, h⟩)
    exact ev_pos h2 (ev_pos (by omega) (ev_pos (by omega) (Ev.now _)))
   ·exact ev_neg h2 (ev_neg (fun h => h1 (.inr h)) (Ev.now _))
theorem spec_l2Domain_l0 (s : ByteArray) (ps : List ByteArray) (hp : ∀ p ∈ ps, p.size ≤ 1048576) (hl : ps.length ≤ 1048577) : ∀ (d i : Nat), i + d = ps.length → Ev (fun k => spec_l2Domain.l0 k s ps (i : Int)) ((ps.drop i).all (fun p => labelOk (bytesOf p)) && decide (s.size ≤ 40)) := by
 intro d
 induction d with
 | zero =>
  intro i hi
  refine ev_succ ?_
  simp only [spec_l2Domain.l0]
  rw [List.drop_eq_nil_of_le (by omega), List.all_nil, Bool.true_and]
  exact ev_neg (by omega) (ev_of (congrArg some (decide_eq_decide.2 (by omega))))
 | succ d ih =>
  intro i hi
  have hlt : i < ps.length := by omega
  have hz := hp _ (List.getElem_mem hlt)
  refine ev_succ ?_
  simp only [spec_l2Domain.l0]
  rw [rdOf_get ps i hlt, all_drop _ _ _ hlt]
  generalize ps[i] = p at hz
  refine ev_pos (by omega) (ev_pos (by omega) ?_)
  by_cases h0 : p.toList = ([] : List UInt8)
  ·have e : bytesOf p = [] := by
    have : p = (⟨#[]⟩ : ByteArray) := toList_iff.1 (by rw [h0, toList_nil])
    rw [this]; rfl
   rw [e, show labelOk [] = false from rfl, Bool.false_and, Bool.false_and]
   refine ev_pos h0 (ev_succ ?_)
   simp only [spec_l2Domain.j1, if_true]
   exact Ev.now _
  ·have hpos : 0 < p.size := by
    rcases Nat.eq_zero_or_pos p.size with h | h
    ·exact absurd (by rw [← toList_nil, toList_iff, ← L_iff, L_nil]; exact (size_nil_iff p).1 h) h0
    ·exact h
   have hne : bytesOf p ≠ [] := fun e => by rw [← size_nil_iff] at e; omega
   have h1 : (bytesOf p).head? = some (bt p 0) := by rw [List.head?_eq_getElem?]; exact bt_get p 0 hpos
   have h2 : (bytesOf p).getLast? = some (bt p ((p.size - 1 : Nat) : Int)) := by rw [List.getLast?_eq_getElem?, L_len]; exact bt_get p (p.size - 1) (by omega)
   have ew : wrap64 ((p.size : Int) - 1) = ((p.size - 1 : Nat) : Int) := by rw [wrap_id (by omega) (by omega)]; omega
   have hgo := spec_l2Domain_l1 s ps i (by omega) p hz _ (ih (i + 1) (by omega)) p.size 0 (by omega)
   rw [List.drop_zero] at hgo
   rw [ew]
   refine ev_neg h0 (ev_pos (by omega) ?_)
   rw [labelOk_def (bytesOf p), decide_eq_true hne, Bool.true_and, h1, h2]
   by_cases h3 : bt p 0 = 45
   ·rw [decide_eq_false (by simp [h3]), Bool.false_and, Bool.false_and]
    refine ev_pos h3 (ev_succ ?_)
    simp only [spec_l2Domain.j1, if_true]
    exact Ev.now _
   ·rw [decide_eq_true (p := some (bt p 0) ≠ some 45) (by simpa using h3), Bool.true_and]
    refine ev_neg h3 (ev_pos (by omega) (ev_pos (by omega) (ev_succ ?_)))
    simp only [spec_l2Domain.j1]
    by_cases h4 : bt p ((p.size - 1 : Nat) : Int) = 45
    ·rw [decide_eq_false (by simp [h4]), Bool.false_and, Bool.false_and]
     exact ev_pos (by rw [h4]; rfl) (Ev.now _)
    ·rw [decide_eq_true (p := some (bt p ((p.size - 1 : Nat) : Int)) ≠ some 45) (by simpa using h4), Bool.true_and]
     rw [Bool.and_assoc]
     exact ev_neg (by simpa using h4) hgo
theorem spec_l2Domain_ev (s : ByteArray) (hs : s.size ≤ 1048576) : Ev (fun k => spec_l2Domain.f k s) (domOk (bytesOf s)) := by
 unfold spec_l2Domain.f
 obtain ⟨h1, h2⟩ := pcs_size s 46
 refine ev_bind (spec_l2Parts_ev s hs 46) ?_
 have h := spec_l2Domain_l0 s _ (fun p hp => by have := h1 p hp; omega) (by omega) _ 0 (Nat.zero_add _)
 refine ev_cast h ?_
 unfold domOk
 rw [List.drop_zero, Bool.and_comm, L_len]
 congr 1
 have := pcs_S s 46
 conv => rhs; rw [← this]
 simp only [List.all_map]
 rfl
theorem spec_AddressValid_ev (a b c : ByteArray) (ha : a.size ≤ 1048576) (hb : b.size ≤ 1048576) (hc : c.size ≤ 1048576) : Ev (fun k => spec_AddressValid.f k a b c) (addrOk (bytesOf a) (bytesOf b) (bytesOf c)) := by
 unfold spec_AddressValid.f addrOk
 have hn : Ev (fun k => spec_l2Name.f k a) (textOk (bytesOf a) && decide ((bytesOf a).length ≤ 40)) := by
  unfold spec_l2Name.f
  refine ev_bind (spec_TextValid_ev a (by omega)) ?_
  cases textOk (bytesOf a) with
  | false => exact ev_neg (by decide) (Ev.now _)
  | true => exact ev_pos rfl (ev_of (congrArg some (by rw [Bool.true_and]; exact decide_eq_decide.2 (by rw [L_len]; omega))))
 refine ev_bind hn ?_
 rw [← Bool.and_assoc]
 cases textOk (bytesOf a) && decide ((bytesOf a).length ≤ 40) with
 | false => exact ev_neg (by decide) (Ev.now _)
 | true =>
  rw [Bool.true_and]
  refine ev_pos rfl ?_
  by_cases h : (b.size : Int) ≤ 30
  ·refine ev_pos h (ev_bind (spec_l2Local_ev b hb) ?_)
   cases localOk (bytesOf b) with
   | false => exact ev_neg (by decide) (Ev.now _)
   | true =>
    rw [Bool.true_and]
    refine ev_pos rfl ?_
    by_cases h2 : (c.size : Int) ≤ 40
    ·exact ev_pos h2 (ev_bind (spec_l2Domain_ev c hc) (Ev.now _))
    ·refine ev_neg h2 (ev_of (congrArg some ?_))
     unfold domOk
     rw [decide_eq_false (by rw [L_len]; omega), Bool.false_and]
  ·refine ev_neg h (ev_of (congrArg some ?_))
   unfold localOk
   rw [decide_eq_false (by rw [L_len]; omega), Bool.false_and, Bool.false_and]
def qB (s : ByteArray) : ByteArray := strOfNums (quoteW (bytesOf s))
theorem extract_one (s : ByteArray) (i : Nat) (h : i < s.size) : s.extract i (i + 1) = strOfNums [bt s i] := by
 rw [extract_S, L_drop s i h, show i + 1 - i = 1 by omega]
 rfl
theorem quoteW_IsB {l : List Int} (h : IsB l) : IsB (quoteW l) := by
 intro x hx
 rcases quoteW_mem hx with rfl | rfl | hx
 ·omega
 ·omega
 ·exact h x hx
theorem L_qB (s : ByteArray) : bytesOf (qB s) = quoteW (bytesOf s) := L_S (quoteW_IsB (L_IsB s))
theorem qB_size (s : ByteArray) : (qB s).size ≤ 402 := by
 rw [← L_len, L_qB]
 unfold quoteW
 split
 ·rename_i ht
  rw [textOk_iff] at ht
  have := esc_length (bytesOf s)
  split
  ·omega
  ·simp only [List.length_cons, List.length_append, List.length_nil]; omega
 ·simp
theorem impl_QuoteWord_l0 (s : ByteArray) (hs : s.size ≤ 1048576) : ∀ (d i : Nat) (acc : List Int), i + d = s.size → acc.length ≤ 2 * i + 1 → Ev (fun k => impl_QuoteWord.l0 k s acc (s.size : Int) (i : Int)) (strOfNums (acc ++ (esc ((bytesOf s).drop i) ++ [34]))) := by
 intro d
 induction d with
 | zero =>
  intro i acc hi ha
  refine ev_succ ?_
  simp only [impl_QuoteWord.l0]
  rw [L_drop_nil s i (by omega), esc, List.nil_append]
  exact ev_neg (by omega) (ev_pos (by omega) (Ev.now _))
 | succ d ih =>
  intro i acc hi ha
  refine ev_succ ?_
  simp only [impl_QuoteWord.l0]
  rw [L_drop s i (by omega), wrap_succ i (by omega)]
  refine ev_pos (by omega) (ev_pos (by omega) (ev_pos (by omega) ?_))
  by_cases h1 : bt s i = 34
  ·refine ev_pos h1 (ev_pos (by omega) (ev_bind1 rfl (ev_pos (by simp only [List.length_append, List.length_cons, List.length_nil]; omega) ?_)))
   refine ev_cast (ih (i + 1) _ (by omega) (by simp only [List.length_append, List.length_cons, List.length_nil]; omega)) ?_
   rw [esc, if_pos (.inl h1)]
   simp only [List.append_assoc, List.cons_append, List.nil_append]
  ·refine ev_neg h1 ?_
   by_cases h2 : bt s i = 92
   ·refine ev_pos h2 (ev_pos (by omega) (ev_bind1 rfl (ev_pos (by simp only [List.length_append, List.length_cons, List.length_nil]; omega) ?_)))
    refine ev_cast (ih (i + 1) _ (by omega) (by simp only [List.length_append, List.length_cons, List.length_nil]; omega)) ?_
    rw [esc, if_pos (.inr h2)]
    simp only [List.append_assoc, List.cons_append, List.nil_append]
   ·refine ev_neg h2 (ev_pos (by omega) ?_)
    refine ev_cast (ih (i + 1) _ (by omega) (by simp only [List.length_append, List.length_cons, List.length_nil]; omega)) ?_
    rw [esc, if_neg (fun h => h.elim h1 h2)]
    simp only [List.append_assoc, List.cons_append, List.nil_append]
theorem impl_QuoteWord_ev (s : ByteArray) (hs : s.size ≤ 1048576) : Ev (fun k => impl_QuoteWord.f k s) (qB s) := by
 unfold impl_QuoteWord.f qB
 refine ev_bind (impl_TextValid_ev s (by omega)) ?_
 unfold quoteW
 cases ht : textOk (bytesOf s) with
 | false => exact ev_neg (by decide) (Ev.now _)
 | true =>
  rw [if_pos rfl]
  refine ev_pos rfl (ev_bind1 (impl_AtomValid_eq s) ?_)
  cases ha : atomOk (bytesOf s) with
  | true =>
   rw [if_pos rfl, S_L]
   exact ev_pos rfl (Ev.now _)
  | false =>
   rw [if_neg (by decide)]
   have hz := (textOk_iff _).1 ht
   rw [L_len] at hz
   exact ev_neg (by decide) (impl_QuoteWord_l0 s (by omega) s.size 0 [34] (by omega) (by simp))
theorem spec_l1Quote_l0 (s : ByteArray) (hs : s.size ≤ 1048576) : ∀ (d i : Nat) (acc : List Int), i + d = s.size → acc.length ≤ 2 * i + 1 → Ev (fun k => spec_l1Quote.l0 k s (strOfNums acc) (i : Int)) (strOfNums (acc ++ (esc ((bytesOf s).drop i) ++ [34]))) := by
 intro d
 induction d with
 | zero =>
  intro i acc hi ha
  refine ev_succ ?_
  simp only [spec_l1Quote.l0]
  rw [L_drop_nil s i (by omega), esc, List.nil_append, ← S_append]
  exact ev_neg (by omega) (ev_pos (by rw [S_size]; omega) (Ev.now _))
 | succ d ih =>
  intro i acc hi ha
  refine ev_succ ?_
  simp only [spec_l1Quote.l0]
  rw [L_drop s i (by omega), wrap_succ i (by omega), Int.toNat_natCast, Int.toNat_natCast, extract_one s i (by omega)]
  refine ev_pos (by omega) (ev_pos (by omega) ?_)
  by_cases h1 : bt s i = 34
  ·refine ev_pos h1 (ev_bind1 rfl (ev_pos (by rw [S_size, S_size]; simp; omega) (ev_pos (by omega) (ev_pos (by omega) (ev_pos (by rw [S_append, S_size, S_size]; simp; omega) ?_)))))
   rw [S_append, S_append]
   refine ev_cast (ih (i + 1) _ (by omega) (by simp only [List.length_append, List.length_cons, List.length_nil]; omega)) ?_
   rw [esc, if_pos (.inl h1)]
   simp only [List.append_assoc, List.cons_append, List.nil_append]
  ·refine ev_neg h1 ?_
   by_cases h2 : bt s i = 92
   ·refine ev_pos h2 (ev_bind1 rfl (ev_pos (by rw [S_size, S_size]; simp; omega) (ev_pos (by omega) (ev_pos (by omega) (ev_pos (by rw [S_append, S_size, S_size]; simp; omega) ?_)))))
    rw [S_append, S_append]
    refine ev_cast (ih (i + 1) _ (by omega) (by simp only [List.length_append, List.length_cons, List.length_nil]; omega)) ?_
    rw [esc, if_pos (.inr h2)]
    simp only [List.append_assoc, List.cons_append, List.nil_append]
   ·refine ev_neg h2 (ev_pos (by omega) (ev_pos (by omega) (ev_pos (by rw [S_size, S_size]; simp; omega) ?_)))
    rw [S_append]
    refine ev_cast (ih (i + 1) _ (by omega) (by simp only [List.length_append, List.length_cons, List.length_nil]; omega)) ?_
    rw [esc, if_neg (fun h => h.elim h1 h2)]
    simp only [List.append_assoc, List.cons_append, List.nil_append]
theorem spec_QuoteWord_ev (s : ByteArray) (hs : s.size ≤ 1048576) : Ev (fun k => spec_QuoteWord.f k s) (qB s) := by
 unfold spec_QuoteWord.f qB
 refine ev_bind (spec_TextValid_ev s (by omega)) ?_
 unfold quoteW
 cases ht : textOk (bytesOf s) with
 | false => exact ev_neg (by decide) (Ev.now _)
 | true =>
  rw [if_pos rfl]
  refine ev_pos rfl (ev_bind (spec_AtomValid_ev s (by omega)) ?_)
  cases ha : atomOk (bytesOf s) with
  | true =>
   rw [if_pos rfl, S_L]
   exact ev_pos rfl (Ev.now _)
  | false =>
   rw [if_neg (by decide)]
   have hz := (textOk_iff _).1 ht
   rw [L_len] at hz
   refine ev_neg (by decide) (ev_bind (a := strOfNums ([34] ++ (esc ((bytesOf s).drop 0) ++ [34]))) ?_ (Ev.now _))
   exact spec_l1Quote_l0 s (by omega) s.size 0 [34] (by omega) (by simp)
def fmtS (a b c : ByteArray) : ByteArray := strOfNums (fmtA (bytesOf a) (bytesOf b) (bytesOf c))
theorem fmtA_IsB (n lo d : List Int) : IsB (fmtA n lo d) := by
 intro x hx
 by_cases h : addrOk n lo d = true
 ·have := (fmt_facts h).2.2.1 x hx
  omega
 ·unfold fmtA at hx
  rw [if_neg h] at hx
  cases hx
theorem L_fmtS (a b c : ByteArray) : bytesOf (fmtS a b c) = fmtA (bytesOf a) (bytesOf b) (bytesOf c) := L_S (fmtA_IsB _ _ _)
theorem fmtS_size (a b c : ByteArray) : (fmtS a b c).size ≤ 156 := by
 rw [← L_len, L_fmtS]
 by_cases h : addrOk (bytesOf a) (bytesOf b) (bytesOf c) = true
 ·exact (fmt_facts h).2.1
 ·unfold fmtA
  rw [if_neg h]; simp
theorem nil_iff (a : ByteArray) : a.toList = ([] : List UInt8) ↔ bytesOf a = [] := by rw [← toList_nil, toList_iff, ← L_iff, L_nil]
theorem size1 (x : UInt8) : (⟨#[x]⟩ : ByteArray).size = 1 := rfl
theorem size2 (x y : UInt8) : (⟨#[x, y]⟩ : ByteArray).size = 2 := rfl
theorem box_S (b c : ByteArray) : b ++ (⟨#[64]⟩ : ByteArray) ++ c = strOfNums (boxL (bytesOf b) (bytesOf c)) := by
 rw [← S_L (b ++ (⟨#[64]⟩ : ByteArray) ++ c), L_append, L_append]
 congr 1
 unfold boxL
 rw [List.append_assoc]
 rfl
theorem named_S (a b c : ByteArray) : qB a ++ (⟨#[32, 60]⟩ : ByteArray) ++ b ++ (⟨#[64]⟩ : ByteArray) ++ c ++ (⟨#[62]⟩ : ByteArray) = strOfNums (quoteW (bytesOf a) ++ (32 :: 60 :: (boxL (bytesOf b) (bytesOf c) ++ [62]))) := by
 rw [← S_L (qB a ++ (⟨#[32, 60]⟩ : ByteArray) ++ b ++ (⟨#[64]⟩ : ByteArray) ++ c ++ (⟨#[62]⟩ : ByteArray)), L_append, L_append, L_append, L_append, L_append, L_qB]
 congr 1
 unfold boxL
 simp only [List.append_assoc, List.cons_append]
 rfl
theorem addr_sizes {a b c : ByteArray} (h : addrOk (bytesOf a) (bytesOf b) (bytesOf c) = true) : a.size ≤ 40 ∧ b.size ≤ 30 ∧ c.size ≤ 40 := by
 obtain ⟨_, h2, h3, h4⟩ := addrOk_iff.1 h
 have h5 := (local_mem h3).2.1
 have h6 := (dom_mem h4).2.1
 rw [L_len] at h2 h5 h6
 exact ⟨h2, h5, h6⟩
theorem impl_FormatAddress_ev (a b c : ByteArray) (ha : a.size ≤ 1048576) (hb : b.size ≤ 1048576) (hc : c.size ≤ 1048576) : Ev (fun k => impl_FormatAddress.f k a b c) (fmtS a b c) := by
 unfold impl_FormatAddress.f fmtS fmtA
 refine ev_bind (impl_AddressValid_ev a b c ha hb hc) ?_
 cases h : addrOk (bytesOf a) (bytesOf b) (bytesOf c) with
 | false => rw [if_neg (show ¬ (false = true) by decide)]; exact ev_neg (by decide) (Ev.now _)
 | true =>
  obtain ⟨z1, z2, z3⟩ := addr_sizes h
  have zq := qB_size a
  rw [if_pos rfl]
  refine ev_pos rfl ?_
  by_cases hn : bytesOf a = []
  ·rw [if_pos hn, ← box_S]
   refine ev_pos ((nil_iff a).2 hn) (ev_pos (by omega) (ev_pos (by rw [size_append, size1]; omega) (Ev.now _)))
  ·rw [if_neg hn, ← named_S]
   refine ev_neg (fun e => hn ((nil_iff a).1 e)) (ev_bind (impl_QuoteWord_ev a (by omega)) ?_)
   refine ev_pos (by omega) (ev_pos (by simp only [size_append, size1, size2]; omega) (ev_pos (by simp only [size_append, size1, size2]; omega) (ev_pos (by simp only [size_append, size1, size2]; omega) (ev_pos (by simp only [size_append, size1, size2]; omega) (Ev.now _)))))
theorem spec_FormatAddress_ev (a b c : ByteArray) (ha : a.size ≤ 1048576) (hb : b.size ≤ 1048576) (hc : c.size ≤ 1048576) : Ev (fun k => spec_FormatAddress.f k a b c) (fmtS a b c) := by
 unfold spec_FormatAddress.f fmtS fmtA
 refine ev_bind (spec_AddressValid_ev a b c ha hb hc) ?_
 cases h : addrOk (bytesOf a) (bytesOf b) (bytesOf c) with
 | false => rw [if_neg (show ¬ (false = true) by decide)]; exact ev_neg (by decide) (Ev.now _)
 | true =>
  obtain ⟨z1, z2, z3⟩ := addr_sizes h
  have zq := qB_size a
  rw [if_pos rfl]
  refine ev_pos rfl (ev_pos (by omega) (ev_pos (by rw [size_append, size1]; omega) ?_))
  by_cases hn : bytesOf a = []
  ·rw [if_pos hn, ← box_S]
   exact ev_pos ((nil_iff a).2 hn) (Ev.now _)
  ·rw [if_neg hn, ← named_S]
   refine ev_neg (fun e => hn ((nil_iff a).1 e)) (ev_bind (spec_QuoteWord_ev a (by omega)) ?_)
   refine ev_pos (by omega) (ev_pos (by simp only [size_append, size1, size2]; omega) (ev_pos (by simp only [size_append, size1, size2]; omega) (ev_of ?_)))
   congr 1
   apply L_inj
   simp only [L_append, List.append_assoc]
def tailS (sep : List Int) : List (List Int) → List Int
 | [] => []
 | x :: r => sep ++ (x ++ tailS sep r)
def joinS (sep : List Int) : List (List Int) → List Int
 | [] => []
 | x :: r => x ++ tailS sep r
theorem tailS_len (sep : List Int) (m : Nat) (l : List (List Int)) (h : ∀ x ∈ l, x.length ≤ m) : (tailS sep l).length ≤ l.length * (sep.length + m) := by
 induction l with
 | nil => simp [tailS]
 | cons x r ih =>
  have h1 := h x (by simp)
  have h2 := ih fun y hy => h y (List.mem_cons_of_mem _ hy)
  simp only [tailS, List.length_append, List.length_cons, Nat.add_mul, Nat.one_mul]
  omega
theorem joinS_len (sep : List Int) (m : Nat) (l : List (List Int)) (h : ∀ x ∈ l, x.length ≤ m) : (joinS sep l).length ≤ l.length * (sep.length + m) := by
 cases l with
 | nil => simp [joinS]
 | cons x r =>
  have h1 := h x (by simp)
  have h2 := tailS_len sep m r fun y hy => h y (List.mem_cons_of_mem _ hy)
  simp only [joinS, List.length_append, List.length_cons, Nat.add_mul, Nat.one_mul]
  omega
def nl (l : List UInt8) : List Int := l.map fun b => (b.toNat : Int)
theorem nl_tail (sep : List UInt8) (l : List (List UInt8)) : nl (Lib.joinTail sep l) = tailS (nl sep) (l.map nl) := by
 induction l with
 | nil => rfl
 | cons x r ih =>
  rw [List.map_cons, tailS, ← ih]
  simp only [Lib.joinTail, List.map_cons, List.flatten_cons, nl, List.map_append, List.append_assoc]
theorem nl_join (sep : List UInt8) (l : List (List UInt8)) : nl (Lib.join l sep) = joinS (nl sep) (l.map nl) := by
 cases l with
 | nil => rfl
 | cons x r =>
  rw [Lib.join_cons, List.map_cons, joinS, ← nl_tail]
  simp only [nl, List.map_append]
theorem join_S (l : List ByteArray) (sep : ByteArray) : (⟨(Lib.join (l.map (·.data.toList)) sep.data.toList).toArray⟩ : ByteArray) = strOfNums (joinS (bytesOf sep) (l.map bytesOf)) := by
 rw [← S_L (⟨(Lib.join (l.map (·.data.toList)) sep.data.toList).toArray⟩ : ByteArray)]
 congr 1
 have := nl_join sep.data.toList (l.map (·.data.toList))
 rw [List.map_map] at this
 exact this
theorem join_len (l : List ByteArray) (sep : ByteArray) : (Lib.join (l.map (·.data.toList)) sep.data.toList).length = (joinS (bytesOf sep) (l.map bytesOf)).length := by
 have := nl_join sep.data.toList (l.map (·.data.toList))
 rw [List.map_map] at this
 have h2 := congrArg List.length this
 rw [nl, List.length_map] at h2
 exact h2
theorem strings_Join_eq (l : List ByteArray) (sep : ByteArray) (m : Nat) (hl : l.length ≤ 1048576) (hm : ∀ x ∈ l, x.size ≤ m) (hm2 : sep.size + m ≤ 1000000) : strings_Join.f l sep = some (strOfNums (joinS (bytesOf sep) (l.map bytesOf))) := by
 have h1 := joinS_len (bytesOf sep) m (l.map bytesOf) (fun x hx => by obtain ⟨y, hy, rfl⟩ := List.mem_map.1 hx; rw [L_len]; exact hm y hy)
 rw [List.length_map, L_len] at h1
 have h2 : l.length * (sep.size + m) ≤ 1048576 * 1000000 := Nat.mul_le_mul hl hm2
 unfold strings_Join.f
 rw [if_pos ⟨by omega, by rw [join_len]; omega⟩, join_S]
theorem rdA (l : List S31) (i : Nat) (h : i < l.length) : rd_T31 l (i : Int) = l[i] := by
 rw [rd_T31, Int.toNat_natCast, List.getD_eq_getElem?_getD, List.getElem?_eq_getElem h]
 rfl
theorem wrap_upA (i : Nat) (h : i < 9223372036854775807) : wrap64 ((i : Int) + 1) = ((i + 1 : Nat) : Int) := by
 rw [wrap_id (by omega) (by omega)]
 omega
theorem extA {a b : S31} : a = b ↔ a.f0 = b.f0 ∧ a.f1 = b.f1 ∧ a.f2 = b.f2 := by
 cases a; cases b
 simp
instance decA : DecidableEq S31 := fun _ _ => decidable_of_iff _ extA.symm
def adr (x : S31) : Adr := ⟨bytesOf x.f0, bytesOf x.f1, bytesOf x.f2⟩
def smAd (l : List S31) : Prop := ∀ x ∈ l, x.f0.size ≤ 1048576 ∧ x.f1.size ≤ 1048576 ∧ x.f2.size ≤ 1048576
def fmtLS (l : List S31) : ByteArray := strOfNums (fmtL (l.map adr))
theorem tailS_c (l : List (List Int)) : tailS [44, 32] l = tailC l := by
 induction l with
 | nil => rfl
 | cons x r ih => simp only [tailS, tailC, ih, List.cons_append, List.nil_append]
theorem joinS_c (l : List (List Int)) : joinS [44, 32] l = joinC l := by
 cases l with
 | nil => rfl
 | cons x r => simp only [joinS, joinC, tailS_c]
theorem litc : bytesOf (⟨#[44, 32]⟩ : ByteArray) = [44, 32] := rfl
def fmtX (x : S31) : ByteArray := fmtS x.f0 x.f1 x.f2
theorem L_fmtX (x : S31) : bytesOf (fmtX x) = (adr x).fmt := L_fmtS _ _ _
theorem impl_FormatList_l0 (l : List S31) (hl : l.length ≤ 10) (hx : smAd l) : ∀ (d i : Nat), i + d = l.length → Ev (fun k => impl_FormatList.l0 k ((l.take i).map fmtX) l (l.length : Int) (i : Int)) (strOfNums (if (joinC (l.map fun x => (adr x).fmt)).length ≤ 200 then joinC (l.map fun x => (adr x).fmt) else [])) := by
 intro d
 induction d with
 | zero =>
  intro i hi
  refine ev_succ ?_
  simp only [impl_FormatList.l0]
  rw [List.take_of_length_le (by omega)]
  have hj := strings_Join_eq (l.map fmtX) (⟨#[44, 32]⟩ : ByteArray) 156 (by rw [List.length_map]; omega) (fun x hx => by obtain ⟨y, _, rfl⟩ := List.mem_map.1 hx; exact fmtS_size _ _ _) (by rw [size2]; omega)
  rw [litc, joinS_c, List.map_map, show (bytesOf ∘ fmtX) = (fun x => (adr x).fmt) from funext L_fmtX] at hj
  refine ev_neg (by omega) (ev_bind1 hj ?_)
  rw [S_size]
  by_cases h : (joinC (l.map fun x => (adr x).fmt)).length ≤ 200
  ·rw [if_pos h]
   exact ev_neg (by omega) (Ev.now _)
  ·rw [if_neg h]
   exact ev_pos (by omega) (Ev.now _)
 | succ d ih =>
  intro i hi
  have hlt : i < l.length := by omega
  obtain ⟨z1, z2, z3⟩ := hx _ (List.getElem_mem hlt)
  refine ev_succ ?_
  simp only [impl_FormatList.l0]
  rw [rdA l i hlt, wrap_succ i (by omega)]
  refine ev_pos (by omega) (ev_pos (by omega) (ev_pos (by omega) (ev_bind (impl_FormatAddress_ev l[i].f0 l[i].f1 l[i].f2 z1 z2 z3) (ev_pos (by rw [List.length_map, List.length_take]; omega) ?_))))
  have := ih (i + 1) (by omega)
  rw [List.take_succ_eq_append_getElem hlt, List.map_append, List.map_cons, List.map_nil] at this
  exact this
theorem impl_FormatList_ev (l : List S31) (hx : smAd l) (hl : l.length ≤ 1000000000) : Ev (fun k => impl_FormatList.f k l) (fmtLS l) := by
 unfold impl_FormatList.f fmtLS fmtL
 rw [List.length_map, List.all_map, List.map_map]
 by_cases h10 : (l.length : Int) > 10
 ·refine ev_pos h10 (ev_succ ?_)
  simp only [impl_FormatList.j0, if_true]
  rw [if_neg (fun h => by omega)]
  exact Ev.now _
 ·have ha : Ev (fun k => anyO (fun x : S31 => impl_FormatList_1.f k x.f0 x.f1 x.f2) l) (l.any fun x => !(adr x).ok) := by
   refine ev_anyO l fun x hm => ?_
   obtain ⟨z1, z2, z3⟩ := hx x hm
   unfold impl_FormatList_1.f
   exact ev_bind (impl_AddressValid_ev x.f0 x.f1 x.f2 z1 z2 z3) (Ev.now _)
  have hall : (l.all fun x => (adr x).ok) = !(l.any fun x => !(adr x).ok) := by
   rw [List.not_any_eq_all_not]
   simp [Function.comp_def]
  refine ev_neg h10 (ev_bind (a := l.any fun x => !(adr x).ok) (by unfold ContainsFunc__impl_FormatList_1.f; exact ha) (ev_succ ?_))
  simp only [impl_FormatList.j0]
  have hc : (l.length ≤ 10 ∧ (l.all (Adr.ok ∘ adr)) = true ∧ (joinC (l.map (Adr.fmt ∘ adr))).length ≤ 200) ↔ ((l.any fun x => !(adr x).ok) = false ∧ (joinC (l.map fun x => (adr x).fmt)).length ≤ 200) := by
   have e : (l.all (Adr.ok ∘ adr)) = (l.all fun x => (adr x).ok) := rfl
   have e2 : (l.map (Adr.fmt ∘ adr)) = (l.map fun x => (adr x).fmt) := rfl
   rw [e, e2, hall]
   constructor
   ·rintro ⟨_, h1, h2⟩; exact ⟨by simpa using h1, h2⟩
   ·rintro ⟨h1, h2⟩; exact ⟨by omega, by simpa using h1, h2⟩
  have hR : (if (l.length ≤ 10 ∧ (l.all (Adr.ok ∘ adr)) = true ∧ (joinC (l.map (Adr.fmt ∘ adr))).length ≤ 200) then joinC (l.map (Adr.fmt ∘ adr)) else []) = (if ((l.any fun x => !(adr x).ok) = false ∧ (joinC (l.map fun x => (adr x).fmt)).length ≤ 200) then joinC (l.map fun x => (adr x).fmt) else []) := by
   by_cases hq : ((l.any fun x => !(adr x).ok) = false ∧ (joinC (l.map fun x => (adr x).fmt)).length ≤ 200)
   ·rw [if_pos hq, if_pos (hc.2 hq)]; rfl
   ·rw [if_neg hq, if_neg (fun h => hq (hc.1 h))]
  rw [hR]
  cases h : (l.any fun x => !(adr x).ok) with
  | true =>
   refine ev_pos rfl (ev_of ?_)
   rw [if_neg (by simp)]
   rfl
  | false =>
   refine ev_neg (by decide) (ev_cast (impl_FormatList_l0 l (by omega) hx l.length 0 (by omega)) ?_)
   simp only [true_and]
theorem spec_FormatList_l0 (l : List S31) (hl : l.length ≤ 10) (hx : smAd l) : ∀ (d i : Nat) (acc : List Int), i + d = l.length → acc.length ≤ 200 * i → (i = 0 → acc = []) → ∀ T, T = (if i = 0 then joinC ((l.drop i).map fun x => (adr x).fmt) else tailC ((l.drop i).map fun x => (adr x).fmt)) →
  Ev (fun k => spec_FormatList.l0 k l (strOfNums acc) (i : Int)) (strOfNums (if ((l.drop i).all fun x => (adr x).ok) = true ∧ (acc ++ T).length ≤ 200 then acc ++ T else [])) := by
 intro d
 induction d with
 | zero =>
  intro i acc hi ha h0 T hT
  refine ev_succ ?_
  simp only [spec_FormatList.l0]
  refine ev_neg (by omega) (ev_succ ?_)
  simp only [spec_FormatList.j1, Bool.false_eq_true, if_false]
  rw [List.drop_eq_nil_of_le (by omega)] at hT ⊢
  have : T = [] := by rw [hT]; simp [joinC, tailC]
  rw [this, List.append_nil, S_size]
  by_cases h : acc.length ≤ 200
  ·refine ev_neg (by omega) (ev_of ?_)
   rw [if_pos ⟨rfl, h⟩]
  ·refine ev_pos (by omega) (ev_of ?_)
   rw [if_neg (fun q => h q.2)]
   rfl
 | succ d ih =>
  intro i acc hi ha h0 T hT
  have hlt : i < l.length := by omega
  obtain ⟨z1, z2, z3⟩ := hx _ (List.getElem_mem hlt)
  have hfz := fmtS_size l[i].f0 l[i].f1 l[i].f2
  have hfl : (adr l[i]).fmt.length ≤ 156 := by rw [← L_fmtX, L_len]; exact hfz
  refine ev_succ ?_
  simp only [spec_FormatList.l0]
  refine ev_pos (by omega) (ev_succ ?_)
  simp only [show decide ((l.length : Int) ≤ 10) = true from decide_eq_true (by omega), spec_FormatList.j1, if_true]
  rw [rdA l i hlt, wrap_succ i (by omega)]
  refine ev_pos (by omega) (ev_pos (by omega) (ev_bind (spec_AddressValid_ev l[i].f0 l[i].f1 l[i].f2 z1 z2 z3) ?_))
  rw [List.drop_eq_getElem_cons hlt, List.map_cons] at hT
  rw [List.drop_eq_getElem_cons hlt, List.all_cons]
  have hok : addrOk (bytesOf l[i].f0) (bytesOf l[i].f1) (bytesOf l[i].f2) = (adr l[i]).ok := rfl
  have hq : fmtS l[i].f0 l[i].f1 l[i].f2 = strOfNums ((adr l[i]).fmt) := rfl
  rw [hok]
  cases ht : (adr l[i]).ok with
  | false =>
   rw [if_neg (by simp)]
   exact ev_neg (by decide) (Ev.now _)
  | true =>
   rw [Bool.true_and]
   refine ev_pos rfl ?_
   have hT' : ∀ acc', acc' ++ tailC ((l.drop (i + 1)).map fun x => (adr x).fmt) = acc' ++ (if i + 1 = 0 then joinC ((l.drop (i + 1)).map fun x => (adr x).fmt) else tailC ((l.drop (i + 1)).map fun x => (adr x).fmt)) := fun acc' => by rw [if_neg (by omega)]
   by_cases hi0 : i = 0
   ·have hacc := h0 hi0
    rw [if_pos hi0, joinC] at hT
    subst hacc
    have hl0 : ([] : List Int).length = 0 := rfl
    refine ev_neg (by omega) (ev_bind (spec_FormatAddress_ev l[i].f0 l[i].f1 l[i].f2 z1 z2 z3) ?_)
    rw [hq, S_size, S_size, S_append, List.nil_append]
    refine ev_pos (by rw [hl0]; omega) (ev_cast (ih (i + 1) _ (by omega) (by omega) (by omega) _ rfl) ?_)
    rw [hT, List.nil_append, hT']
   ·rw [if_neg hi0, tailC] at hT
    refine ev_pos (by omega) (ev_pos (by rw [S_size]; omega) (ev_bind (spec_FormatAddress_ev l[i].f0 l[i].f1 l[i].f2 z1 z2 z3) ?_))
    rw [show (⟨#[44, 32]⟩ : ByteArray) = strOfNums [44, 32] from rfl, hq, S_append, S_append, S_size, S_size]
    refine ev_pos (by simp only [List.length_append, List.length_cons, List.length_nil]; omega) (ev_cast (ih (i + 1) _ (by omega) (by simp only [List.length_append, List.length_cons, List.length_nil]; omega) (by omega) _ rfl) ?_)
    rw [hT, ← hT']
    simp only [List.append_assoc, List.cons_append, List.nil_append]
theorem spec_FormatList_ev (l : List S31) (hx : smAd l) (hl : l.length ≤ 1000000000) : Ev (fun k => spec_FormatList.f k l) (fmtLS l) := by
 unfold spec_FormatList.f
 by_cases h10 : l.length ≤ 10
 ·have h := spec_FormatList_l0 l h10 hx l.length 0 [] (by omega) (by simp) (fun _ => rfl) _ rfl
  rw [List.drop_zero, if_pos rfl, List.nil_append] at h
  refine ev_cast h ?_
  unfold fmtLS fmtL
  rw [List.length_map, List.all_map, List.map_map]
  congr 1
  by_cases hc : (l.all fun x => (adr x).ok) = true ∧ (joinC (l.map fun x => (adr x).fmt)).length ≤ 200
  ·rw [if_pos hc]
   exact (if_pos ⟨h10, hc⟩).symm
  ·rw [if_neg hc]
   exact (if_neg (fun q => hc q.2)).symm
 ·refine ev_succ ?_
  simp only [spec_FormatList.l0]
  refine ev_pos (by omega) (ev_succ ?_)
  simp only [show decide ((l.length : Int) ≤ 10) = false from decide_eq_false (by omega), spec_FormatList.j1, Bool.false_eq_true, if_false]
  unfold fmtLS fmtL
  refine ev_neg (by decide) (ev_of ?_)
  rw [List.length_map, if_neg (fun q => h10 q.1)]
  rfl
theorem szAddress_eq (a b c : ByteArray) (n : Int) (hn : n ≤ 1048576) (h0 : 0 ≤ n) (ha : a.size ≤ 9223372036854775807) (hb : b.size ≤ 9223372036854775807) (hc : c.size ≤ 9223372036854775807) : ∃ r, laws_szAddress.f a b c n = some r ∧ r ≤ n ∧ (0 ≤ r → (a.size : Int) ≤ n ∧ (b.size : Int) ≤ n ∧ (c.size : Int) ≤ n) := by
 unfold laws_szAddress.f
 rw [wrap_id (x := n - (a.size : Int)) (by omega) (by omega)]
 by_cases h1 : n - (a.size : Int) < 0
 ·rw [if_pos h1]; exact ⟨_, rfl, by omega, fun h => by omega⟩
 rw [if_neg h1, wrap_id (x := n - (a.size : Int) - (b.size : Int)) (by omega) (by omega)]
 by_cases h2 : n - (a.size : Int) - (b.size : Int) < 0
 ·rw [if_pos h2]; exact ⟨_, rfl, by omega, fun h => by omega⟩
 rw [if_neg h2, wrap_id (x := n - (a.size : Int) - (b.size : Int) - (c.size : Int)) (by omega) (by omega)]
 by_cases h3 : n - (a.size : Int) - (b.size : Int) - (c.size : Int) < 0
 ·rw [if_pos h3]; exact ⟨_, rfl, by omega, fun h => by omega⟩
 rw [if_neg h3]
 exact ⟨_, rfl, by omega, fun _ => by omega⟩
theorem rdAL (l : List S68) (i : Nat) (h : i < l.length) : rd_T68 l (i : Int) = l[i] := by
 rw [rd_T68, Int.toNat_natCast, List.getD_eq_getElem?_getD, List.getElem?_eq_getElem h]
 rfl
def toA (x : S68) : S31 := ⟨x.f0, x.f1, x.f2⟩
theorem toAddressS_l0 (a : List S68) (hz : a.length ≤ 1000000000000) : ∀ (d i : Nat) (b : List S31), i + d = a.length → b.length = a.length → b.take i = (a.map toA).take i → Ev (fun k => laws_toAddressS.l0 k a b (i : Int)) (a.map toA) := by
 intro d
 induction d with
 | zero =>
  intro i b hi hl ht
  refine ev_succ ?_
  simp only [laws_toAddressS.l0]
  rw [List.take_of_length_le (by omega), List.take_of_length_le (by simp; omega)] at ht
  rw [← ht]
  exact ev_neg (by omega) (Ev.now _)
 | succ d ih =>
  intro i b hi hl ht
  have ha : i < a.length := by omega
  refine ev_succ ?_
  simp only [laws_toAddressS.l0]
  rw [rdAL a i ha, wrap_upA i (by omega)]
  refine ev_pos (by omega) (ev_pos (by omega) (ev_bind1 (show laws_toAddress.f a[i].f0 a[i].f1 a[i].f2 = some (a[i].f0, a[i].f1, a[i].f2) from rfl) (ev_pos (by omega) ?_)))
  rw [Int.toNat_natCast]
  refine ih (i + 1) _ (by omega) (by simpa using hl) ?_
  rw [List.take_succ_eq_append_getElem (by simp; omega), List.take_succ_eq_append_getElem (by simp; omega), List.take_set_of_le (by omega), ht, List.getElem_set_self, List.getElem_map]
  rfl
theorem toAddressS_ev (a : List S68) (hz : a.length ≤ 1000000000000) : Ev (fun k => laws_toAddressS.f k a) (a.map toA) := by
 unfold laws_toAddressS.f
 refine ev_pos (by omega) (ev_pos (by omega) ?_)
 rw [Int.toNat_natCast]
 exact toAddressS_l0 a hz a.length 0 _ (by omega) (by simp) (by simp)
theorem szAddressS_l0 (a : List S68) (hz : a.length ≤ 1000000000000) (hs : ∀ x ∈ a, x.f0.size ≤ 9223372036854775807 ∧ x.f1.size ≤ 9223372036854775807 ∧ x.f2.size ≤ 9223372036854775807) : ∀ (d i : Nat) (n : Int), i + d = a.length → 0 ≤ n → n ≤ 1048576 → ∃ r, Ev (fun k => laws_szAddressS.l0 k a n (i : Int)) r ∧ r ≤ n ∧ (0 ≤ r → ∀ x ∈ a.drop i, (x.f0.size : Int) ≤ n ∧ (x.f1.size : Int) ≤ n ∧ (x.f2.size : Int) ≤ n) := by
 intro d
 induction d with
 | zero =>
  intro i n hi h0 hn
  refine ⟨n, ev_succ ?_, by omega, ?_⟩
  ·simp only [laws_szAddressS.l0]
   exact ev_neg (by omega) (Ev.now _)
  ·rw [List.drop_eq_nil_of_le (by omega)]
   simp
 | succ d ih =>
  intro i n hi h0 hn
  have ha : i < a.length := by omega
  obtain ⟨g1, g2, g3⟩ := hs a[i] (List.getElem_mem ha)
  obtain ⟨r, e1, h1, h2⟩ := szAddress_eq a[i].f0 a[i].f1 a[i].f2 n hn h0 g1 g2 g3
  by_cases h3 : r < 0
  ·refine ⟨-1, ev_succ ?_, by omega, fun h => by omega⟩
   simp only [laws_szAddressS.l0]
   rw [rdAL a i ha]
   exact ev_pos (by omega) (ev_pos (by omega) (ev_bind1 e1 (ev_pos h3 (Ev.now _))))
  ·obtain ⟨r', e2, h4, h5⟩ := ih (i + 1) r (by omega) (by omega) (by omega)
   refine ⟨r', ev_succ ?_, by omega, fun h => ?_⟩
   ·simp only [laws_szAddressS.l0]
    rw [rdAL a i ha, wrap_upA i (by omega)]
    exact ev_pos (by omega) (ev_pos (by omega) (ev_bind1 e1 (ev_neg h3 e2)))
   ·rw [List.drop_eq_getElem_cons ha]
    intro x hx
    rcases List.mem_cons.1 hx with e | hx
    ·rw [e]; exact h2 (by omega)
    ·have := h5 h x hx
     omega
/-- Too much, or what has a size. -/
theorem szAddressS_ev (a : List S68) (n : Int) (hn : n ≤ 1048576) (h0 : 0 ≤ n) (hz : a.length ≤ 9223372036854775807) (hs : ∀ x ∈ a, x.f0.size ≤ 9223372036854775807 ∧ x.f1.size ≤ 9223372036854775807 ∧ x.f2.size ≤ 9223372036854775807) : ∃ r, Ev (fun k => laws_szAddressS.f k a n) r ∧ r ≤ n ∧ (0 ≤ r → (a.length : Int) ≤ n ∧ ∀ x ∈ a, (x.f0.size : Int) ≤ n ∧ (x.f1.size : Int) ≤ n ∧ (x.f2.size : Int) ≤ n) := by
 unfold laws_szAddressS.f
 rw [wrap_id (x := n - (a.length : Int)) (by omega) (by omega)]
 by_cases h : n - (a.length : Int) < 0
 ·exact ⟨-1, ev_pos h (Ev.now _), by omega, fun h => by omega⟩
 ·obtain ⟨r, e1, h1, h2⟩ := szAddressS_l0 a (by omega) hs a.length 0 (n - (a.length : Int)) (by omega) (by omega) (by omega)
  refine ⟨r, ev_neg h e1, by omega, fun h3 => ⟨by omega, fun x hx => ?_⟩⟩
  have := h2 h3 x (by simpa using hx)
  omega
theorem eqAddress_eq (a b : S31) : laws_eqAddress.f a.f0 a.f1 a.f2 b.f0 b.f1 b.f2 = some (decide (a = b)) := by
 unfold laws_eqAddress.f
 by_cases h : a.f0 = b.f0
 ·rw [if_pos (toList_iff.2 h)]
  by_cases h' : a.f1 = b.f1
  ·rw [if_pos (toList_iff.2 h')]
   by_cases h2 : a.f2 = b.f2
   ·rw [if_pos (toList_iff.2 h2)]
    exact congrArg some (decide_eq_true (extA.2 ⟨h, h', h2⟩)).symm
   ·rw [if_neg (fun e => h2 (toList_iff.1 e))]
    exact congrArg some (decide_eq_false (fun e => h2 (extA.1 e).2.2)).symm
  ·rw [if_neg (fun e => h' (toList_iff.1 e))]
   exact congrArg some (decide_eq_false (fun e => h' (extA.1 e).2.1)).symm
 ·rw [if_neg (fun e => h (toList_iff.1 e))]
  exact congrArg some (decide_eq_false (fun e => h (extA.1 e).1)).symm
theorem eqAddressS_l0 (a b : List S31) (hl : a.length = b.length) (hz : a.length ≤ 1000000000000) : ∀ (d i : Nat), i + d = a.length → Ev (fun k => laws_eqAddressS.l0 k a b (i : Int)) (decide (a.drop i = b.drop i)) := by
 intro d
 induction d with
 | zero =>
  intro i hi
  refine ev_succ ?_
  simp only [laws_eqAddressS.l0]
  rw [List.drop_eq_nil_of_le (by omega), List.drop_eq_nil_of_le (by omega)]
  exact ev_neg (by omega) (Ev.now _)
 | succ d ih =>
  intro i hi
  have ha : i < a.length := by omega
  have hb : i < b.length := by omega
  refine ev_succ ?_
  simp only [laws_eqAddressS.l0]
  rw [rdA a i ha, rdA b i hb, wrap_upA i (by omega), List.drop_eq_getElem_cons ha, List.drop_eq_getElem_cons hb]
  refine ev_pos (by omega) (ev_pos (by omega) (ev_pos (by omega) (ev_bind1 (eqAddress_eq a[i] b[i]) ?_)))
  by_cases h : a[i] = b[i]
  ·refine ev_pos (by simp [h]) (ev_cast (ih (i + 1) (by omega)) ?_)
   exact decide_eq_decide.2 ⟨fun e => by rw [h, e], fun e => (List.cons.inj e).2⟩
  ·refine ev_neg (by simp [h]) (ev_of ?_)
   exact congrArg some (decide_eq_false (fun e => h (List.cons.inj e).1)).symm
theorem eqAddressS_ev (a b : List S31) (hz : a.length ≤ 1000000000000) : Ev (fun k => laws_eqAddressS.f k a b) (decide (a = b)) := by
 unfold laws_eqAddressS.f
 by_cases hl : a.length = b.length
 ·exact ev_pos (by omega) (eqAddressS_l0 a b hl hz a.length 0 (by omega))
 ·refine ev_neg (by omega) (ev_of ?_)
  exact congrArg some (decide_eq_false (fun e => hl (by rw [e]))).symm
end Go.Proofs.YtmehlmhpgbjddaaDoor.Q
