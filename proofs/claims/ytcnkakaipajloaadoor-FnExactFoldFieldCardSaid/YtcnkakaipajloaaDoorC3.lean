/- Plain lemmas on fields as lists of bytes; no condition. -/
import Derived.Test.YtcnkakaipajloaaDoorC2
set_option linter.unusedVariables false
set_option linter.unusedSimpArgs false
namespace Go.Proofs.YtcnkakaipajloaaDoor.Q
open Go.RowKit Go.Proofs.YtcnkakaipajloaaDoorV.PrintWords Go.Proofs.YtcnkakaipajloaaDoorV.PrintLast Go.Proofs.YtcnkakaipajloaaDoorV.PrintMore
/-! ## Fields: plain functions on lists of bytes -/
def isNm (x : Int) : Bool := decide ((97 ≤ x ∧ x ≤ 122) ∨ (65 ≤ x ∧ x ≤ 90) ∨ (48 ≤ x ∧ x ≤ 57) ∨ x = 45)
def nameOk (l : List Int) : Bool := decide (1 ≤ l.length ∧ l.length ≤ 30) && ((match l with | [] => false | x :: _ => isLet x) && l.all isNm)
def fieldOk (n v : List Int) : Bool := nameOk n && (textOk v && (decide (v.length ≤ 150) && decide (trimT v = v)))
theorem fieldOk_iff {n v : List Int} : fieldOk n v = true ↔ nameOk n = true ∧ textOk v = true ∧ v.length ≤ 150 ∧ trimT v = v := by simp [fieldOk]
theorem nameOk_len {l : List Int} (h : nameOk l = true) : 1 ≤ l.length ∧ l.length ≤ 30 := by
  simp only [nameOk, Bool.and_eq_true, decide_eq_true_eq] at h
  exact h.1
theorem isNm_lo (x : Int) : isNm (lo8 x) = isNm x := by
  unfold isNm lo8
  exact decide_eq_decide.2 (by split <;> omega)
theorem isLet_lo (x : Int) : isLet (lo8 x) = isLet x := by
  unfold isLet lo8
  exact decide_eq_decide.2 (by split <;> omega)
theorem nameOk_lo (l : List Int) : nameOk (l.map lo8) = nameOk l := by
  unfold nameOk
  rw [List.length_map, List.all_map, show (isNm ∘ lo8) = isNm from funext isNm_lo]
  cases l with
  | nil => rfl
  | cons x r => simp only [List.map_cons, isLet_lo]
/-- May a line be broken here? -/
def okB (l : List Int) (i : Nat) : Bool := decide (l[i]? = some 32) && (decide (l[i - 1]? ≠ some 32) && decide (l[i + 1]? ≠ some 32))
def brkN (l : List Int) : Nat → Nat → Option Nat → Option Nat
  | 0, _, a => a
  | d + 1, i, a => brkN l d (i + 1) (if okB l i = true ∧ (a = none ∨ i ≤ 40) then some i else a)
def brk (l : List Int) (i : Nat) : Option Nat := brkN l (l.length - 1 - i) i none
theorem brkN_some (l : List Int) : ∀ (d i a : Nat), ∃ j, brkN l d i (some a) = some j ∧ (j = a ∨ (i ≤ j ∧ j < i + d ∧ j ≤ 40))
  | 0, i, a => ⟨a, rfl, .inl rfl⟩
  | d + 1, i, a => by
    rw [brkN]
    split
    · rename_i h
      obtain ⟨j, h1, h2⟩ := brkN_some l d (i + 1) i
      have h3 : i ≤ 40 := h.2.resolve_left (by simp)
      refine ⟨j, h1, .inr ?_⟩
      omega
    · obtain ⟨j, h1, h2⟩ := brkN_some l d (i + 1) a
      refine ⟨j, h1, ?_⟩
      omega
theorem brkN_none (l : List Int) : ∀ (d i : Nat), (brkN l d i none = none → ∀ k, i ≤ k → k < i + d → okB l k = false) ∧ (∀ j, brkN l d i none = some j → i ≤ j ∧ j < i + d ∧ (j ≤ 40 ∨ ∀ k, i ≤ k → k < j → okB l k = false))
  | 0, i => ⟨fun _ k h1 h2 => by omega, fun j h => by simp [brkN] at h⟩
  | d + 1, i => by
    rw [brkN]
    by_cases hb : okB l i = true
    · rw [if_pos ⟨hb, .inl rfl⟩]
      obtain ⟨j, h1, h2⟩ := brkN_some l d (i + 1) i
      rw [h1]
      refine ⟨fun h => by simp at h, fun j' h => ?_⟩
      obtain rfl := Option.some.inj h
      rcases h2 with h2 | h2
      · exact ⟨by omega, by omega, .inr fun k h3 h4 => by omega⟩
      · exact ⟨by omega, by omega, .inl h2.2.2⟩
    · rw [if_neg (fun h => hb h.1)]
      obtain ⟨g1, g2⟩ := brkN_none l d (i + 1)
      have hb' : okB l i = false := by simpa using hb
      refine ⟨fun h k h1 h2 => ?_, fun j h => ?_⟩
      · by_cases e : k = i
        · rw [e]; exact hb'
        · exact g1 h k (by omega) (by omega)
      · obtain ⟨h1, h2, h3⟩ := g2 j h
        refine ⟨by omega, by omega, h3.imp id fun h4 k h5 h6 => ?_⟩
        by_cases e : k = i
        · rw [e]; exact hb'
        · exact h4 k (by omega) (by omega)
theorem brk_some {l : List Int} {i j : Nat} (h : brk l i = some j) : i ≤ j ∧ j + 1 < l.length ∧ (j ≤ 40 ∨ ∀ k, i ≤ k → k < j → okB l k = false) := by
  have := (brkN_none l (l.length - 1 - i) i).2 j h
  exact ⟨this.1, by omega, this.2.2⟩
theorem brk_none {l : List Int} {i : Nat} (h : brk l i = none) : ∀ k, i ≤ k → k + 1 < l.length → okB l k = false := fun k h1 h2 => (brkN_none l (l.length - 1 - i) i).1 h k h1 (by omega)
/-- The lines of a long line; at most n breaks. -/
def foldF : Nat → List Int → Nat → List (List Int)
  | 0, l, _ => [l]
  | n + 1, l, i => if 40 < l.length then (match brk l i with
    | none => [l]
    | some a => l.take a :: foldF n (l.drop a) 2) else [l]
/-- No place to break, behind i, where it is wide. -/
def Wide (i : Nat) (l : List Int) : Prop := 40 < l.length → ∀ k, i ≤ k → k + 1 < l.length → okB l k = false
theorem okB_take {l : List Int} {a k : Nat} (hk : k + 1 < a) (ha : a ≤ l.length) : okB (l.take a) k = okB l k := by
  unfold okB
  rw [List.getElem?_take_of_lt (by omega), List.getElem?_take_of_lt (by omega), List.getElem?_take_of_lt (by omega)]
theorem foldF_wide : ∀ (n : Nat) (l : List Int) (i : Nat), l.length ≤ n → 2 ≤ i → ∃ h t, foldF n l i = h :: t ∧ Wide i h ∧ (∀ x ∈ t, Wide 2 x) ∧ (h :: t).flatten = l
  | 0, l, i, hl, _ => ⟨l, [], rfl, (fun h => by omega), (fun x hx => by cases hx), by simp⟩
  | n + 1, l, i, hl, hi => by
    rw [foldF]
    by_cases h40 : 40 < l.length
    · rw [if_pos h40]
      cases hb : brk l i with
      | none => exact ⟨l, [], rfl, fun _ => brk_none hb, (fun x hx => by cases hx), by simp⟩
      | some a =>
        obtain ⟨h1, h2, h3⟩ := brk_some hb
        obtain ⟨g, t, e1, e2, e3, e4⟩ := foldF_wide n (l.drop a) 2 (by rw [List.length_drop]; omega) (Nat.le_refl _)
        refine ⟨l.take a, g :: t, by simp only [e1], fun h4 k h5 h6 => ?_, fun x hx => ?_, ?_⟩
        · rw [List.length_take] at h4 h6
          rw [okB_take (by omega) (by omega)]
          exact (h3.resolve_left (by omega)) k h5 (by omega)
        · rcases List.mem_cons.1 hx with e | hx
          · rw [e]; exact e2
          · exact e3 x hx
        · rw [List.flatten_cons, e4, List.take_append_drop]
    · rw [if_neg h40]
      exact ⟨l, [], rfl, fun h => absurd h h40, (fun x hx => by cases hx), by simp⟩
theorem foldF_len (n : Nat) (l : List Int) (i : Nat) : (foldF n l i).length ≤ n + 1 := by
  induction n generalizing l i with
  | zero => simp [foldF]
  | succ n ih =>
    rw [foldF]
    split
    · split
      · simp
      · rw [List.length_cons]
        have := ih (l.drop ‹Nat›) 2
        omega
    · simp
/-- The lines of a field. -/
def lineF (n v : List Int) : List Int := n ++ 58 :: (if v = [] then [] else 32 :: v)
def foldL (n v : List Int) : List (List Int) := foldF (lineF n v).length (lineF n v) (n.length + 3)
theorem lineF_len (n v : List Int) : (lineF n v).length = n.length + 1 + (if v = [] then 0 else 1) + v.length := by
  unfold lineF
  by_cases h : v = []
  · rw [if_pos h, if_pos h, h]; simp
  · rw [if_neg h, if_neg h]
    simp only [List.length_append, List.length_cons]
    omega
theorem foldL_wide (n v : List Int) : ∃ h t, foldL n v = h :: t ∧ Wide (n.length + 3) h ∧ (∀ x ∈ t, Wide 2 x) ∧ (h :: t).flatten = lineF n v := foldF_wide _ _ _ (Nat.le_refl _) (by omega)

end Go.Proofs.YtcnkakaipajloaaDoor.Q
