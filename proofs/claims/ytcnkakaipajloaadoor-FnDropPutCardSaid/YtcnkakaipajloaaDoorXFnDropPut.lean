/- Plain lemmas, and what the printed functions come to; no condition. -/
import Derived.Test.YtcnkakaipajloaaDoorQH
import Derived.Lib.Strings
import Derived.Test.YtcnkakaipajloaaDoorQ0
import Derived.Test.YtcnkakaipajloaaDoorQ10
import Derived.Test.YtcnkakaipajloaaDoorQ11
import Derived.Test.YtcnkakaipajloaaDoorQ12
import Derived.Test.YtcnkakaipajloaaDoorQ13
import Derived.Test.YtcnkakaipajloaaDoorQ14
import Derived.Test.YtcnkakaipajloaaDoorQ2
import Derived.Test.YtcnkakaipajloaaDoorQ3
import Derived.Test.YtcnkakaipajloaaDoorQ4
import Derived.Test.YtcnkakaipajloaaDoorQ5
import Derived.Test.YtcnkakaipajloaaDoorQ8
set_option linter.unusedVariables false
set_option linter.unusedSimpArgs false
namespace Go.Proofs.YtcnkakaipajloaaDoor.Q
open Go.RowKit Go.Proofs.YtcnkakaipajloaaDoorV.PrintWords Go.Proofs.YtcnkakaipajloaaDoorV.PrintLast Go.Proofs.YtcnkakaipajloaaDoorV.PrintMore
/-! ## Bytes and lists -/
def IsB (l : List Int) : Prop := ∀ x ∈ l, 0 ≤ x ∧ x ≤ 255
theorem IsB.nil : IsB [] := by intro x hx; cases hx
theorem IsB.cons {x : Int} {l : List Int} (h1 : 0 ≤ x ∧ x ≤ 255) (h2 : IsB l) : IsB (x :: l) := by
  intro y hy
  rcases List.mem_cons.1 hy with rfl | hy
  · exact h1
  · exact h2 y hy
theorem IsB.append {a b : List Int} (h1 : IsB a) (h2 : IsB b) : IsB (a ++ b) := by
  intro y hy
  rcases List.mem_append.1 hy with hy | hy
  · exact h1 y hy
  · exact h2 y hy
theorem IsB.sub {a b : List Int} (h : IsB a) (hs : ∀ x ∈ b, x ∈ a) : IsB b := fun x hx => h x (hs x hx)
theorem IsB.take {a : List Int} (h : IsB a) (n : Nat) : IsB (a.take n) := h.sub fun _ hx => List.mem_of_mem_take hx
theorem IsB.drop {a : List Int} (h : IsB a) (n : Nat) : IsB (a.drop n) := h.sub fun _ hx => List.mem_of_mem_drop hx
theorem L_IsB (s : ByteArray) : IsB (bytesOf s) := by
  intro x hx
  simp only [bytesOf, List.mem_map] at hx
  obtain ⟨b, _, rfl⟩ := hx
  have := b.toNat_lt
  omega
theorem L_len (s : ByteArray) : (bytesOf s).length = s.size := bytesOf_length s
theorem S_L (s : ByteArray) : strOfNums (bytesOf s) = s := by
  apply ByteArray.ext
  apply Array.ext'
  rw [strOfNums_data, bytesOf, List.map_map]
  have : ((fun n : Int => UInt8.ofNat n.toNat) ∘ fun b : UInt8 => (b.toNat : Int)) = id := by
    funext b
    simp
  rw [this, List.map_id]
theorem L_S {l : List Int} (h : IsB l) : bytesOf (strOfNums l) = l := by
  rw [bytesOf, strOfNums_data, List.map_map]
  have : ∀ x ∈ l, ((fun b : UInt8 => (b.toNat : Int)) ∘ fun n : Int => UInt8.ofNat n.toNat) x = id x := by
    intro x hx
    have := h x hx
    simp only [Function.comp_apply, id, UInt8.toNat_ofNat']
    omega
  rw [List.map_congr_left this, List.map_id]
theorem L_inj {s t : ByteArray} (h : bytesOf s = bytesOf t) : s = t := by rw [← S_L s, h, S_L]
theorem L_append (s t : ByteArray) : bytesOf (s ++ t) = bytesOf s ++ bytesOf t := by
  simp only [bytesOf, ByteArray.data_append, Array.toList_append, List.map_append]
theorem L_extract (s : ByteArray) (a b : Nat) : bytesOf (s.extract a b) = ((bytesOf s).drop a).take (b - a) := by
  simp only [bytesOf, Lib.extract_data, List.map_take, List.map_drop]
theorem L_from (s : ByteArray) (a : Nat) : bytesOf (s.extract a s.size) = (bytesOf s).drop a := by
  rw [L_extract, List.take_of_length_le]
  rw [List.length_drop, L_len]; exact Nat.le_refl _
theorem L_to (s : ByteArray) (a : Nat) : bytesOf (s.extract 0 a) = (bytesOf s).take a := by
  rw [L_extract, List.drop_zero, Nat.sub_zero]
theorem toList_iff {s t : ByteArray} : s.toList = t.toList ↔ s = t := by
  constructor
  · intro h
    rw [Lib.toList_data, Lib.toList_data] at h
    exact ByteArray.ext (Array.ext' h)
  · intro h; rw [h]
theorem toList_beq (s t : ByteArray) : (s.toList == t.toList) = decide (s = t) := by
  by_cases h : s = t
  · subst h; simp
  · rw [decide_eq_false h, beq_eq_false_iff_ne]
    exact fun e => h (toList_iff.1 e)
theorem toList_nil : (⟨#[]⟩ : ByteArray).toList = [] := by rw [Lib.toList_data]
theorem L_iff {s t : ByteArray} : bytesOf s = bytesOf t ↔ s = t := ⟨L_inj, fun h => by rw [h]⟩
theorem size_extract_le (s : ByteArray) (a b : Nat) : (s.extract a b).size ≤ s.size := by
  rw [← L_len, L_extract, ← L_len s, List.length_take, List.length_drop]; omega
theorem bt_get (s : ByteArray) (i : Nat) (h : i < s.size) : (bytesOf s)[i]? = some (bt s i) := by
  rw [List.getElem?_eq_getElem (by rw [L_len]; exact h), bytesOf_at s i h]
theorem L_drop (s : ByteArray) (i : Nat) (h : i < s.size) : (bytesOf s).drop i = bt s i :: (bytesOf s).drop (i + 1) := bytesOf_drop s i h
theorem L_drop_nil (s : ByteArray) (i : Nat) (h : s.size ≤ i) : (bytesOf s).drop i = [] := List.drop_eq_nil_of_le (by rw [L_len]; exact h)
theorem L_nil : bytesOf (⟨#[]⟩ : ByteArray) = [] := rfl
theorem S_nil : strOfNums [] = (⟨#[]⟩ : ByteArray) := rfl
theorem size_nil_iff (s : ByteArray) : s.size = 0 ↔ bytesOf s = [] := by rw [← L_len, List.length_eq_zero_iff]
theorem S_size (l : List Int) : (strOfNums l).size = l.length := strOfNums_size l
theorem S_append (a b : List Int) : strOfNums a ++ strOfNums b = strOfNums (a ++ b) := by
  apply ByteArray.ext
  apply Array.ext'
  simp only [ByteArray.data_append, Array.toList_append, strOfNums_data, List.map_append]
theorem append_S (s t : ByteArray) : s ++ t = strOfNums (bytesOf s ++ bytesOf t) := by rw [← S_append, S_L, S_L]
theorem extract_S (s : ByteArray) (a b : Nat) : s.extract a b = strOfNums (((bytesOf s).drop a).take (b - a)) := by rw [← L_extract, S_L]
theorem size_append (s t : ByteArray) : (s ++ t).size = s.size + t.size := by rw [← L_len, L_append, List.length_append, L_len, L_len]
theorem wrap_id {x : Int} (h1 : -9223372036854775808 ≤ x) (h2 : x ≤ 9223372036854775807) : wrap64 x = x := by unfold wrap64; omega
theorem nat_i (i : Nat) : ((i : Int)).toNat = i := Int.toNat_natCast i
/-! ## Rounds -/
theorem ev_succ {α : Type} {g : Nat → Option α} {r : α} (h : Ev (fun k => g (k + 1)) r) : Ev g r := Ev.step (fun _ => rfl) h
theorem ev_of {α : Type} {g : Option α} {r : α} (h : g = some r) : Ev (fun _ => g) r := ⟨0, fun _ _ => h⟩
theorem ev_bind {α β : Type} {g : Nat → Option α} {f : Nat → α → Option β} {a : α} {r : β} (h : Ev g a) (k : Ev (fun n => f n a) r) : Ev (fun n => (g n).bind fun t => f n t) r := Ev.bind h k
theorem ev_bind1 {α β : Type} {g : Option α} {f : Nat → α → Option β} {a : α} {r : β} (h : g = some a) (k : Ev (fun n => f n a) r) : Ev (fun n => g.bind fun t => f n t) r := by
  subst h; exact k
theorem ev_pos {α : Type} {c : Prop} [Decidable c] {a b : Nat → Option α} {r : α} (hc : c) (h : Ev a r) : Ev (fun k => if c then a k else b k) r := by
  simp only [if_pos hc]; exact h
theorem ev_neg {α : Type} {c : Prop} [Decidable c] {a b : Nat → Option α} {r : α} (hc : ¬ c) (h : Ev b r) : Ev (fun k => if c then a k else b k) r := by
  simp only [if_neg hc]; exact h
theorem ev_cast {α : Type} {g : Nat → Option α} {r r' : α} (h : Ev g r) (e : r = r') : Ev g r' := e ▸ h
/-! ## xor on small numbers -/
theorem xor_i64 (a b : Nat) (ha : a < 4611686018427387904) (hb : b < 4611686018427387904) : bits .xor .i64 (a : Int) (b : Int) = ((a ^^^ b : Nat) : Int) := by
  have hx : a ^^^ b < 2 ^ 62 := Nat.xor_lt_two_pow (by omega) (by omega)
  have h1 : (BitVec.ofInt 64 (a : Int)).toNat = a := by
    rw [BitVec.ofInt_natCast, BitVec.toNat_ofNat]; exact Nat.mod_eq_of_lt (by omega)
  have h2 : (BitVec.ofInt 64 (b : Int)).toNat = b := by
    rw [BitVec.ofInt_natCast, BitVec.toNat_ofNat]; exact Nat.mod_eq_of_lt (by omega)
  show IntKind.i64.wrap ((BitVec.ofInt 64 (a : Int) ^^^ BitVec.ofInt 64 (b : Int)).toNat : Int) = _
  rw [BitVec.toNat_xor, h1, h2, i64_w]
  exact wrap_id (by omega) (by omega)
theorem xor_nonneg (x : Int) (h1 : 0 ≤ x) (h2 : x < 4611686018427387904) : 0 ≤ bits .xor .i64 x (wrap64 (Int.tdiv x 64)) := by
  obtain ⟨n, rfl⟩ : ∃ n : Nat, x = n := ⟨x.toNat, by omega⟩
  have e : wrap64 (Int.tdiv (n : Int) 64) = ((n / 64 : Nat) : Int) := by
    rw [Int.tdiv_eq_ediv_of_nonneg (by omega), wrap_id (by omega) (by omega)]
    omega
  rw [e, xor_i64 n (n / 64) (by omega) (by omega)]
  omega

/-! ## Words: plain functions on lists of bytes -/
def isLet (x : Int) : Bool := decide ((97 ≤ x ∧ x ≤ 122) ∨ (65 ≤ x ∧ x ≤ 90))
def isDig (x : Int) : Bool := decide (48 ≤ x ∧ x ≤ 57)
def isAtm (x : Int) : Bool := decide ((97 ≤ x ∧ x ≤ 122) ∨ (65 ≤ x ∧ x ≤ 90) ∨ (48 ≤ x ∧ x ≤ 57) ∨ x = 33 ∨ (35 ≤ x ∧ x ≤ 39) ∨ x = 42 ∨ x = 43 ∨ x = 45 ∨ x = 47 ∨ x = 61 ∨ x = 63 ∨ (94 ≤ x ∧ x ≤ 96) ∨ (123 ≤ x ∧ x ≤ 126))
def isTxt (x : Int) : Bool := decide (32 ≤ x ∧ x ≤ 126)
def textOk (l : List Int) : Bool := decide (l.length ≤ 200) && l.all isTxt
def atomOk (l : List Int) : Bool := decide (1 ≤ l.length ∧ l.length ≤ 40) && l.all isAtm
def esc : List Int → List Int
  | [] => []
  | x :: r => if x = 34 ∨ x = 92 then 92 :: x :: esc r else x :: esc r
def quoteW (l : List Int) : List Int := if textOk l = true then (if atomOk l = true then l else 34 :: (esc l ++ [34])) else []
/-- Behind an opening quote: the text, and what is behind the closing one. -/
def readQ : List Int → Option (List Int × List Int)
  | [] => none
  | x :: r => if x = 34 then some ([], r) else if x = 92 then (match r with
    | [] => none
    | y :: r' => (readQ r').map fun p => (y :: p.1, p.2)) else (readQ r).map fun p => (x :: p.1, p.2)
def unquoteW (l : List Int) : List Int × Bool :=
  if atomOk l = true then (l, true) else match l with
  | [] => ([], false)
  | x :: r => if x = 34 then (match readQ r with
    | none => ([], false)
    | some (out, _) => if quoteW out = l then (out, true) else ([], false)) else ([], false)
theorem atm_ne {x : Int} (h : isAtm x = true) : x ≠ 32 ∧ x ≠ 34 ∧ x ≠ 92 ∧ x ≠ 44 ∧ x ≠ 60 ∧ x ≠ 62 ∧ x ≠ 64 ∧ x ≠ 46 ∧ 32 ≤ x ∧ x ≤ 126 := by
  simp only [isAtm, decide_eq_true_eq] at h
  omega
theorem textOk_iff (l : List Int) : textOk l = true ↔ l.length ≤ 200 ∧ ∀ x ∈ l, 32 ≤ x ∧ x ≤ 126 := by
  simp [textOk, isTxt, List.all_eq_true]
theorem atomOk_iff (l : List Int) : atomOk l = true ↔ 1 ≤ l.length ∧ l.length ≤ 40 ∧ ∀ x ∈ l, isAtm x = true := by
  simp [atomOk, List.all_eq_true, and_assoc]
theorem atomOk_text {l : List Int} (h : atomOk l = true) : textOk l = true := by
  rw [atomOk_iff] at h
  rw [textOk_iff]
  refine ⟨by omega, fun x hx => ?_⟩
  have := atm_ne (h.2.2 x hx)
  omega
theorem esc_length (l : List Int) : l.length ≤ (esc l).length ∧ (esc l).length ≤ 2 * l.length := by
  induction l with
  | nil => simp [esc]
  | cons x r ih =>
    simp only [esc]
    split <;> simp only [List.length_cons] <;> omega
theorem esc_append (a b : List Int) : esc (a ++ b) = esc a ++ esc b := by
  induction a with
  | nil => rfl
  | cons x r ih =>
    simp only [List.cons_append, esc, ih]
    split <;> rfl
theorem readQ_cons (x : Int) (r : List Int) (h1 : x ≠ 34) (h2 : x ≠ 92) : readQ (x :: r) = (readQ r).map fun p => (x :: p.1, p.2) := by
  rw [readQ.eq_def]
  simp only [if_neg h1, if_neg h2]
theorem readQ_bs (y : Int) (r : List Int) : readQ (92 :: y :: r) = (readQ r).map fun p => (y :: p.1, p.2) := by
  rw [readQ.eq_def]
  simp
theorem readQ_end (r : List Int) : readQ (34 :: r) = some ([], r) := by rw [readQ.eq_def]; simp
theorem readQ_bs_nil : readQ [92] = none := by rw [readQ.eq_def]; simp
theorem readQ_esc (l rest : List Int) : readQ (esc l ++ 34 :: rest) = some (l, rest) := by
  induction l with
  | nil => exact readQ_end rest
  | cons x r ih =>
    simp only [esc]
    split
    · rw [List.cons_append, List.cons_append, readQ_bs, ih]; rfl
    · rename_i h
      rw [List.cons_append, readQ_cons x _ (fun e => h (.inl e)) (fun e => h (.inr e)), ih]; rfl
/-- Induction along readQ. -/
theorem readQ_ind {p : List Int → Prop} (h0 : p []) (h1 : ∀ r, p (34 :: r)) (h2 : p [92]) (h3 : ∀ y r, p r → p (92 :: y :: r)) (h4 : ∀ x r, x ≠ 34 → x ≠ 92 → p r → p (x :: r)) (l : List Int) : p l := by
  have key : ∀ n, ∀ l : List Int, l.length ≤ n → p l := by
    intro n
    induction n with
    | zero => intro l hl; rw [List.length_eq_zero_iff.1 (Nat.le_zero.1 hl)]; exact h0
    | succ n ih =>
      intro l hl
      match l, hl with
      | [], _ => exact h0
      | x :: r, hl =>
        simp only [List.length_cons] at hl
        by_cases e1 : x = 34
        · subst e1; exact h1 r
        · by_cases e2 : x = 92
          · subst e2
            match r, hl with
            | [], _ => exact h2
            | y :: r', hl => simp only [List.length_cons] at hl; exact h3 y r' (ih r' (by omega))
          · exact h4 x r e1 e2 (ih r (by omega))
  exact key l.length l (Nat.le_refl _)
theorem readQ_some {l t rest : List Int} (h : readQ l = some (t, rest)) : ∃ pre, l = pre ++ 34 :: rest ∧ t.length ≤ pre.length ∧ ∀ x ∈ t, x ∈ l := by
  revert t rest
  refine readQ_ind (p := fun l => ∀ {t rest}, readQ l = some (t, rest) → ∃ pre, l = pre ++ 34 :: rest ∧ t.length ≤ pre.length ∧ ∀ x ∈ t, x ∈ l) ?_ ?_ ?_ ?_ ?_ l
  · intro t rest h; cases h
  · intro r t rest h
    rw [readQ_end] at h
    injection h with h; injection h with h h'
    subst h; subst h'
    exact ⟨[], rfl, by simp, by simp⟩
  · intro t rest h; rw [readQ_bs_nil] at h; cases h
  · intro y r ih t rest h
    rw [readQ_bs] at h
    obtain ⟨⟨t', rest'⟩, hq, he⟩ := Option.map_eq_some_iff.1 h
    injection he with h1 h2
    subst h1; subst h2
    obtain ⟨pre, rfl, hl, hm⟩ := ih hq
    refine ⟨92 :: y :: pre, rfl, by simp only [List.length_cons]; omega, fun x hx => ?_⟩
    rcases List.mem_cons.1 hx with rfl | hx
    · simp
    · exact List.mem_cons_of_mem _ (List.mem_cons_of_mem _ (hm x hx))
  · intro y r h1 h2 ih t rest h
    rw [readQ_cons y r h1 h2] at h
    obtain ⟨⟨t', rest'⟩, hq, he⟩ := Option.map_eq_some_iff.1 h
    injection he with h1 h2
    subst h1; subst h2
    obtain ⟨pre, rfl, hl, hm⟩ := ih hq
    refine ⟨y :: pre, rfl, by simp only [List.length_cons]; omega, fun x hx => ?_⟩
    rcases List.mem_cons.1 hx with rfl | hx
    · simp
    · exact List.mem_cons_of_mem _ (hm x hx)
theorem readQ_lt {l t rest : List Int} (h : readQ l = some (t, rest)) : rest.length < l.length := by
  obtain ⟨pre, rfl, _, _⟩ := readQ_some h
  simp only [List.length_append, List.length_cons]
  omega
theorem readQ_append {l t rest : List Int} (h : readQ l = some (t, rest)) (u : List Int) : readQ (l ++ u) = some (t, rest ++ u) := by
  revert t rest
  refine readQ_ind (p := fun l => ∀ {t rest}, readQ l = some (t, rest) → readQ (l ++ u) = some (t, rest ++ u)) ?_ ?_ ?_ ?_ ?_ l
  · intro t rest h; cases h
  · intro r t rest h
    rw [readQ_end] at h
    injection h with h; injection h with h h'
    subst h; subst h'
    exact readQ_end _
  · intro t rest h; rw [readQ_bs_nil] at h; cases h
  · intro y r ih t rest h
    rw [readQ_bs] at h
    obtain ⟨⟨t', rest'⟩, hq, he⟩ := Option.map_eq_some_iff.1 h
    injection he with h1 h2
    subst h1; subst h2
    rw [List.cons_append, List.cons_append, readQ_bs, ih hq]; rfl
  · intro y r h1 h2 ih t rest h
    rw [readQ_cons y r h1 h2] at h
    obtain ⟨⟨t', rest'⟩, hq, he⟩ := Option.map_eq_some_iff.1 h
    injection he with h1' h2'
    subst h1'; subst h2'
    rw [List.cons_append, readQ_cons y _ h1 h2, ih hq]; rfl
theorem quoteW_cases (l : List Int) (h : textOk l = true) : (atomOk l = true ∧ quoteW l = l) ∨ (atomOk l = false ∧ quoteW l = 34 :: (esc l ++ [34])) := by
  unfold quoteW
  rw [if_pos h]
  cases ha : atomOk l with
  | true => exact .inl ⟨rfl, if_pos rfl⟩
  | false => exact .inr ⟨rfl, if_neg (by decide)⟩
theorem quoteW_ne_nil {l : List Int} (h : textOk l = true) : quoteW l ≠ [] := by
  rcases quoteW_cases l h with ⟨ha, hq⟩ | ⟨_, hq⟩ <;> rw [hq]
  · rw [atomOk_iff] at ha
    intro e; rw [e] at ha; simp at ha
  · simp
theorem quoteW_nil_iff (l : List Int) : quoteW l = [] ↔ textOk l = false := by
  constructor
  · intro h
    cases ht : textOk l with
    | false => rfl
    | true => exact absurd h (quoteW_ne_nil ht)
  · intro h
    unfold quoteW
    rw [if_neg (by rw [h]; decide)]
theorem not_atom_quote (r : List Int) : atomOk (34 :: r) = false := by
  cases h : atomOk (34 :: r) with
  | false => rfl
  | true =>
    rw [atomOk_iff] at h
    have := (atm_ne (h.2.2 34 (by simp))).2.1
    exact absurd rfl this
/-- What a word in quotes is read as. -/
theorem quoteW_read {out r : List Int} (h : quoteW out = 34 :: r) : textOk out = true ∧ atomOk out = false ∧ readQ r = some (out, []) ∧ r.length + 1 ≤ 2 * out.length + 2 ∧ out.length + 1 ≤ r.length := by
  cases ht : textOk out with
  | false => rw [(quoteW_nil_iff out).2 ht] at h; cases h
  | true =>
    rcases quoteW_cases out ht with ⟨ha, hq⟩ | ⟨ha, hq⟩
    · rw [hq] at h
      subst h
      rw [not_atom_quote] at ha; cases ha
    · rw [hq] at h
      injection h with _ h
      subst h
      have := esc_length out
      refine ⟨rfl, ha, readQ_esc out [], ?_, ?_⟩ <;> simp only [List.length_append, List.length_cons, List.length_nil] <;> omega
theorem unquote_quote {l : List Int} (h : textOk l = true) : unquoteW (quoteW l) = (l, true) := by
  rcases quoteW_cases l h with ⟨ha, hq⟩ | ⟨ha, hq⟩
  · rw [hq, unquoteW.eq_def, if_pos ha]
  · rw [unquoteW.eq_def, hq, if_neg (by rw [not_atom_quote]; decide)]
    simp only [if_true]
    rw [readQ_esc l []]
    simp only [hq, if_true]
theorem unquote_nil : unquoteW [] = ([], false) := by decide
theorem unquote_some {l t : List Int} (h : unquoteW l = (t, true)) : textOk t = true ∧ quoteW t = l ∧ t.length ≤ l.length := by
  unfold unquoteW at h
  split at h
  · rename_i ha
    injection h with h _
    subst h
    have ht := atomOk_text ha
    refine ⟨ht, ?_, Nat.le_refl _⟩
    unfold quoteW
    rw [if_pos ht, if_pos ha]
  · split at h
    · simp at h
    · rename_i x r _
      split at h
      · rename_i hx
        subst hx
        split at h
        · simp at h
        · rename_i out rest hr
          split at h
          · rename_i hq
            injection h with h _
            subst h
            have := quoteW_read hq
            exact ⟨this.1, hq, by simp only [List.length_cons]; omega⟩
          · simp at h
      · simp at h
theorem unquote_false {l t : List Int} (h : unquoteW l = (t, false)) : t = [] := by
  unfold unquoteW at h
  split at h
  · simp at h
  · split at h
    · simp at h; exact h
    · split at h
      · split at h
        · simp at h; exact h
        · split at h
          · simp at h
          · simp at h; exact h
      · simp at h; exact h
/-! ### Words of a text -/
/-- What is written: atoms and texts in quotes, divided by spaces; ap: may a word begin here? -/
def words (ap : Bool) (l : List Int) : Option (List (List Int)) :=
  match l with
  | [] => some []
  | x :: r => if x = 32 then words true r else if ap = false then none else if x = 34 then
      (match h : readQ r with
      | none => none
      | some (w, r') => (words false r').map (w :: ·))
    else if isAtm x = true then (words false (r.dropWhile isAtm)).map ((x :: r.takeWhile isAtm) :: ·) else none
termination_by l.length
decreasing_by
  · simp only [List.length_cons]; omega
  · have := readQ_lt h; simp only [List.length_cons]; omega
  · have : (r.dropWhile isAtm).length ≤ r.length := (List.dropWhile_suffix _).length_le
    simp only [List.length_cons]; omega
theorem words_nil (ap : Bool) : words ap [] = some [] := by rw [words.eq_def]
theorem words_sp (ap : Bool) (r : List Int) : words ap (32 :: r) = words true r := by rw [words.eq_def]; simp
theorem words_glued (x : Int) (r : List Int) (h : x ≠ 32) : words false (x :: r) = none := by rw [words.eq_def]; simp [h]
theorem words_q_none (r : List Int) (h : readQ r = none) : words true (34 :: r) = none := by
  rw [words.eq_def]
  simp only [show ¬ (34 : Int) = 32 by decide, if_false, reduceCtorEq, if_true]
  split
  · rfl
  · rename_i h2; rw [h] at h2; cases h2
theorem words_q (r w r' : List Int) (h : readQ r = some (w, r')) : words true (34 :: r) = (words false r').map (w :: ·) := by
  rw [words.eq_def]
  simp only [show ¬ (34 : Int) = 32 by decide, if_false, reduceCtorEq, if_true]
  split
  · rename_i h2; rw [h] at h2; cases h2
  · rename_i h2; rw [h] at h2; injection h2 with h2; injection h2 with h3 h4; subst h3; subst h4; rfl
theorem words_atm (x : Int) (r : List Int) (h : isAtm x = true) : words true (x :: r) = (words false (r.dropWhile isAtm)).map ((x :: r.takeWhile isAtm) :: ·) := by
  have := atm_ne h
  rw [words.eq_def]
  simp only [this.1, this.2.1, if_false, reduceCtorEq, h, if_true]
theorem words_bad (x : Int) (r : List Int) (h1 : x ≠ 32) (h2 : x ≠ 34) (h : isAtm x = false) : words true (x :: r) = none := by
  rw [words.eq_def]
  simp only [h1, h2, if_false, reduceCtorEq, h]
def splitW (l : List Int) : List (List Int) × Bool :=
  if textOk l = true then (match words true l with
  | none => ([], false)
  | some ws => (ws, true)) else ([], false)
/-- Induction along words. -/
theorem words_ind {p : Bool → List Int → Prop} (h0 : ∀ ap, p ap []) (h1 : ∀ ap r, p true r → p ap (32 :: r)) (h2 : ∀ x r, x ≠ 32 → p false (x :: r)) (h3 : ∀ r, readQ r = none → p true (34 :: r)) (h4 : ∀ r w r', readQ r = some (w, r') → p false r' → p true (34 :: r))
    (h5 : ∀ x r, isAtm x = true → p false (r.dropWhile isAtm) → p true (x :: r)) (h6 : ∀ x r, x ≠ 32 → x ≠ 34 → isAtm x = false → p true (x :: r)) (ap : Bool) (l : List Int) : p ap l := by
  have key : ∀ n, ∀ (ap : Bool) (l : List Int), l.length ≤ n → p ap l := by
    intro n
    induction n with
    | zero => intro ap l hl; rw [List.length_eq_zero_iff.1 (Nat.le_zero.1 hl)]; exact h0 ap
    | succ n ih =>
      intro ap l hl
      match l, hl with
      | [], _ => exact h0 ap
      | x :: r, hl =>
        simp only [List.length_cons] at hl
        by_cases e1 : x = 32
        · subst e1; exact h1 ap r (ih true r (by omega))
        · cases ap with
          | false => exact h2 x r e1
          | true =>
            by_cases e2 : x = 34
            · subst e2
              cases hq : readQ r with
              | none => exact h3 r hq
              | some q =>
                obtain ⟨w, r'⟩ := q
                have := readQ_lt hq
                exact h4 r w r' hq (ih false r' (by omega))
            · cases ha : isAtm x with
              | true =>
                have : (r.dropWhile isAtm).length ≤ r.length := (List.dropWhile_suffix _).length_le
                exact h5 x r ha (ih false _ (by omega))
              | false => exact h6 x r e1 e2 ha
  exact key l.length ap l (Nat.le_refl _)
theorem words_end (l : List Int) (h : l = [] ∨ ∃ r, l = 32 :: r) : words false l = words true l := by
  rcases h with rfl | ⟨r, rfl⟩
  · rw [words_nil, words_nil]
  · rw [words_sp, words_sp]
/-- Texts behind each other, a space between. -/
theorem words_append (ap : Bool) (l t : List Int) (ws us : List (List Int)) (h : words ap l = some ws) (ht : words true t = some us) : words ap (l ++ 32 :: t) = some (ws ++ us) := by
  revert ws
  refine words_ind (p := fun ap l => ∀ ws, words ap l = some ws → words ap (l ++ 32 :: t) = some (ws ++ us)) ?_ ?_ ?_ ?_ ?_ ?_ ?_ ap l
  · intro ap ws h
    rw [words_nil] at h
    obtain rfl := Option.some.inj h
    rw [List.nil_append, words_sp, ht]; rfl
  · intro ap r ih ws h
    rw [words_sp] at h
    rw [List.cons_append, words_sp]
    exact ih ws h
  · intro x r hx ws h
    rw [words_glued x r hx] at h; cases h
  · intro r hq ws h
    rw [words_q_none r hq] at h; cases h
  · intro r w r' hq ih ws h
    rw [words_q r w r' hq] at h
    obtain ⟨ws', hw, rfl⟩ := Option.map_eq_some_iff.1 h
    rw [List.cons_append, words_q _ w _ (readQ_append hq _), ih ws' hw]; rfl
  · intro x r hx ih ws h
    rw [words_atm x r hx] at h
    obtain ⟨ws', hw, rfl⟩ := Option.map_eq_some_iff.1 h
    have e1 : (r ++ 32 :: t).dropWhile isAtm = r.dropWhile isAtm ++ 32 :: t := by
      rw [List.dropWhile_append]
      split
      · rename_i hn
        rw [List.isEmpty_iff.1 hn, List.nil_append, List.dropWhile_cons_of_neg (by decide)]
      · rfl
    have e2 : (r ++ 32 :: t).takeWhile isAtm = r.takeWhile isAtm := by
      rw [List.takeWhile_append]
      split
      · rename_i hn
        rw [List.takeWhile_cons_of_neg (by decide), List.append_nil]
        have := List.takeWhile_prefix isAtm (l := r)
        exact (List.IsPrefix.eq_of_length this hn).symm
      · rfl
    rw [List.cons_append, words_atm x _ hx, e1, e2, ih ws' hw]; rfl
  · intro x r h1 h2 h3 ws h
    rw [words_bad x r h1 h2 h3] at h; cases h
theorem drop_all {r : List Int} (h : ∀ y ∈ r, isAtm y = true) : r.dropWhile isAtm = [] ∧ r.takeWhile isAtm = r := by
  induction r with
  | nil => exact ⟨rfl, rfl⟩
  | cons y r ih =>
    have h1 := h y (by simp)
    have h2 := ih fun z hz => h z (List.mem_cons_of_mem _ hz)
    rw [List.dropWhile_cons_of_pos h1, List.takeWhile_cons_of_pos h1, h2.1, h2.2]
    exact ⟨rfl, rfl⟩
theorem words_quote {w : List Int} (h : textOk w = true) : words true (quoteW w) = some [w] := by
  rcases quoteW_cases w h with ⟨ha, hq⟩ | ⟨ha, hq⟩ <;> rw [hq]
  · rw [atomOk_iff] at ha
    match w, ha with
    | x :: r, ha =>
      have hx := ha.2.2 x (by simp)
      have hr : ∀ y ∈ r, isAtm y = true := fun y hy => ha.2.2 y (List.mem_cons_of_mem _ hy)
      rw [words_atm x r hx, (drop_all hr).1, words_nil, (drop_all hr).2]
      rfl
  · rw [words_q _ w [] (readQ_esc w []), words_nil]; rfl
/-- Pieces with a space between. -/
def tailJ : List (List Int) → List Int
  | [] => []
  | x :: r => 32 :: (x ++ tailJ r)
def joinL : List (List Int) → List Int
  | [] => []
  | x :: r => x ++ tailJ r
theorem tailJ_append (a b : List (List Int)) : tailJ (a ++ b) = tailJ a ++ tailJ b := by
  induction a with
  | nil => rfl
  | cons x r ih => simp only [List.cons_append, tailJ, ih, List.append_assoc]
theorem joinL_cons2 (x y : List Int) (r : List (List Int)) : joinL (x :: y :: r) = x ++ 32 :: joinL (y :: r) := rfl
theorem words_joined (ws : List (List Int)) (h : ∀ w ∈ ws, textOk w = true) : words true (joinL (ws.map quoteW)) = some ws := by
  induction ws with
  | nil => rw [List.map_nil, joinL, words_nil]
  | cons w r ih =>
    match r, ih, h with
    | [], _, h =>
      rw [List.map_cons, List.map_nil, joinL, tailJ, List.append_nil]
      exact words_quote (h w (by simp))
    | u :: r', ih, h =>
      rw [List.map_cons, List.map_cons, joinL_cons2, ← List.map_cons]
      exact words_append true _ _ [w] (u :: r') (words_quote (h w (by simp))) (ih fun y hy => h y (List.mem_cons_of_mem _ hy))
def joinW (ws : List (List Int)) : List Int := if ws.all textOk = true ∧ (joinL (ws.map quoteW)).length ≤ 200 then joinL (ws.map quoteW) else []
theorem esc_mem {l : List Int} {x : Int} (h : x ∈ esc l) : x = 92 ∨ x ∈ l := by
  induction l with
  | nil => cases h
  | cons y r ih =>
    simp only [esc] at h
    split at h
    · rcases List.mem_cons.1 h with h | h
      · exact .inl h
      · rcases List.mem_cons.1 h with h | h
        · exact .inr (by rw [h]; simp)
        · exact (ih h).imp id (List.mem_cons_of_mem _)
    · rcases List.mem_cons.1 h with h | h
      · exact .inr (by rw [h]; simp)
      · exact (ih h).imp id (List.mem_cons_of_mem _)
theorem quoteW_mem {l : List Int} {x : Int} (h : x ∈ quoteW l) : x = 92 ∨ x = 34 ∨ x ∈ l := by
  unfold quoteW at h
  split at h
  · split at h
    · exact .inr (.inr h)
    · rcases List.mem_cons.1 h with h | h
      · exact .inr (.inl h)
      · rcases List.mem_append.1 h with h | h
        · exact (esc_mem h).imp id .inr
        · exact .inr (.inl (by simpa using h))
  · cases h
theorem tailJ_mem {ws : List (List Int)} {x : Int} (h : x ∈ tailJ ws) : x = 32 ∨ ∃ w ∈ ws, x ∈ w := by
  induction ws with
  | nil => cases h
  | cons y r ih =>
    simp only [tailJ] at h
    rcases List.mem_cons.1 h with h | h
    · exact .inl h
    · rcases List.mem_append.1 h with h | h
      · exact .inr ⟨y, by simp, h⟩
      · exact (ih h).imp id fun ⟨w, hw, hx⟩ => ⟨w, List.mem_cons_of_mem _ hw, hx⟩
theorem joinL_mem {ws : List (List Int)} {x : Int} (h : x ∈ joinL ws) : x = 32 ∨ ∃ w ∈ ws, x ∈ w := by
  cases ws with
  | nil => cases h
  | cons y r =>
    simp only [joinL] at h
    rcases List.mem_append.1 h with h | h
    · exact .inr ⟨y, by simp, h⟩
    · exact (tailJ_mem h).imp id fun ⟨w, hw, hx⟩ => ⟨w, List.mem_cons_of_mem _ hw, hx⟩
theorem joinW_text (ws : List (List Int)) : textOk (joinW ws) = true := by
  unfold joinW
  split
  · rename_i h
    rw [textOk_iff]
    refine ⟨h.2, fun x hx => ?_⟩
    rcases joinL_mem hx with rfl | ⟨q, hq, hx⟩
    · omega
    · obtain ⟨w, hw, rfl⟩ := List.mem_map.1 hq
      have ht := (textOk_iff w).1 (List.all_eq_true.1 h.1 w hw)
      rcases quoteW_mem hx with rfl | rfl | hx
      · omega
      · omega
      · exact ht.2 x hx
  · decide
theorem words_mem {ap : Bool} {l : List Int} {ws : List (List Int)} (h : words ap l = some ws) : ∀ w ∈ ws, w.length ≤ l.length ∧ ∀ x ∈ w, x ∈ l := by
  revert ws
  refine words_ind (p := fun ap l => ∀ {ws}, words ap l = some ws → ∀ w ∈ ws, w.length ≤ l.length ∧ ∀ x ∈ w, x ∈ l) ?_ ?_ ?_ ?_ ?_ ?_ ?_ ap l
  · intro ap ws h w hw
    rw [words_nil] at h
    obtain rfl := Option.some.inj h
    cases hw
  · intro ap r ih ws h w hw
    rw [words_sp] at h
    have := ih h w hw
    exact ⟨by simp only [List.length_cons]; omega, fun x hx => List.mem_cons_of_mem _ (this.2 x hx)⟩
  · intro x r hx ws h
    rw [words_glued x r hx] at h; cases h
  · intro r hq ws h
    rw [words_q_none r hq] at h; cases h
  · intro r w r' hq ih ws h u hu
    rw [words_q r w r' hq] at h
    obtain ⟨ws', hw, rfl⟩ := Option.map_eq_some_iff.1 h
    obtain ⟨pre, rfl, hl, hm⟩ := readQ_some hq
    rcases List.mem_cons.1 hu with rfl | hu
    · exact ⟨by simp only [List.length_cons, List.length_append]; omega, fun x hx => List.mem_cons_of_mem _ (hm x hx)⟩
    · have := ih hw u hu
      exact ⟨by simp only [List.length_cons, List.length_append]; omega, fun x hx => List.mem_cons_of_mem _ (List.mem_append_right _ (List.mem_cons_of_mem _ (this.2 x hx)))⟩
  · intro x r hx ih ws h u hu
    rw [words_atm x r hx] at h
    obtain ⟨ws', hw, rfl⟩ := Option.map_eq_some_iff.1 h
    have l1 : (r.dropWhile isAtm).length ≤ r.length := (List.dropWhile_suffix _).length_le
    have l2 : (r.takeWhile isAtm).length ≤ r.length := (List.takeWhile_prefix _).length_le
    rcases List.mem_cons.1 hu with rfl | hu
    · refine ⟨by simp only [List.length_cons]; omega, fun y hy => ?_⟩
      rcases List.mem_cons.1 hy with rfl | hy
      · simp
      · exact List.mem_cons_of_mem _ ((List.takeWhile_prefix _).subset hy)
    · have := ih hw u hu
      exact ⟨by simp only [List.length_cons]; omega, fun y hy => List.mem_cons_of_mem _ ((List.dropWhile_suffix _).subset (this.2 y hy))⟩
  · intro x r h1 h2 h3 ws h
    rw [words_bad x r h1 h2 h3] at h; cases h
theorem words_texts {l : List Int} {ws : List (List Int)} (ht : textOk l = true) (h : words true l = some ws) : ws.all textOk = true := by
  rw [List.all_eq_true]
  intro w hw
  have := words_mem h w hw
  rw [textOk_iff] at ht ⊢
  exact ⟨by omega, fun x hx => ht.2 x (this.2 x hx)⟩
theorem splitW_some {l : List Int} {ws : List (List Int)} (h : splitW l = (ws, true)) : textOk l = true ∧ words true l = some ws := by
  unfold splitW at h
  split at h
  · rename_i ht
    split at h
    · simp at h
    · rename_i us hu
      injection h with h _
      subst h
      exact ⟨ht, hu⟩
  · simp at h
theorem splitW_of {l : List Int} {ws : List (List Int)} (ht : textOk l = true) (h : words true l = some ws) : splitW l = (ws, true) := by
  unfold splitW
  rw [if_pos ht, h]
theorem split_join (ws : List (List Int)) (h : joinW ws ≠ []) : splitW (joinW ws) = (ws, true) := by
  refine splitW_of (joinW_text ws) ?_
  unfold joinW at h ⊢
  split
  · rename_i hc
    exact words_joined ws fun w hw => List.all_eq_true.1 hc.1 w hw
  · rename_i hc
    rw [if_neg hc] at h
    exact absurd rfl h
theorem words_len {ap : Bool} {l : List Int} {ws : List (List Int)} (h : words ap l = some ws) : ws.length ≤ l.length := by
  revert ws
  refine words_ind (p := fun ap l => ∀ {ws}, words ap l = some ws → ws.length ≤ l.length) ?_ ?_ ?_ ?_ ?_ ?_ ?_ ap l
  · intro ap ws h
    rw [words_nil] at h
    obtain rfl := Option.some.inj h
    exact Nat.le_refl _
  · intro ap r ih ws h
    rw [words_sp] at h
    have := ih h
    simp only [List.length_cons]; omega
  · intro x r hx ws h
    rw [words_glued x r hx] at h; cases h
  · intro r hq ws h
    rw [words_q_none r hq] at h; cases h
  · intro r w r' hq ih ws h
    rw [words_q r w r' hq] at h
    obtain ⟨ws', hw, rfl⟩ := Option.map_eq_some_iff.1 h
    have h1 := ih hw
    have h2 := readQ_lt hq
    simp only [List.length_cons]; omega
  · intro x r hx ih ws h
    rw [words_atm x r hx] at h
    obtain ⟨ws', hw, rfl⟩ := Option.map_eq_some_iff.1 h
    have h1 := ih hw
    have h2 : (r.dropWhile isAtm).length ≤ r.length := (List.dropWhile_suffix _).length_le
    simp only [List.length_cons]; omega
  · intro x r h1 h2 h3 ws h
    rw [words_bad x r h1 h2 h3] at h; cases h
theorem splitW_len (l : List Int) : (splitW l).1.length ≤ l.length := by
  unfold splitW
  split
  · split
    · simp
    · rename_i ws hw
      exact words_len hw
  · simp

/-! ## Addresses: plain functions on lists of bytes -/
/-- What stands between the places of a byte; cur: what of the piece has been read. -/
def pcs (c : Int) : List Int → List Int → List (List Int)
  | cur, [] => [cur]
  | cur, x :: r => if x = c then cur :: pcs c [] r else pcs c (cur ++ [x]) r
theorem pcs_run (c : Int) : ∀ (a cur t : List Int), (∀ x ∈ a, x ≠ c) → pcs c cur (a ++ t) = pcs c (cur ++ a) t
  | [], cur, t, _ => by simp
  | x :: a, cur, t, h => by
    rw [List.cons_append, pcs, if_neg (h x (by simp)), pcs_run c a _ t (fun y hy => h y (List.mem_cons_of_mem _ hy)), List.append_assoc]
    rfl
theorem pcs_hit (c : Int) (a cur b : List Int) (h : ∀ x ∈ a, x ≠ c) : pcs c cur (a ++ c :: b) = (cur ++ a) :: pcs c [] b := by
  rw [pcs_run c a cur _ h, pcs, if_pos rfl]
theorem pcs_none (c : Int) (a cur : List Int) (h : ∀ x ∈ a, x ≠ c) : pcs c cur a = [cur ++ a] := by
  have := pcs_run c a cur [] h
  rw [List.append_nil] at this
  rw [this, pcs]
theorem pcs_mem (c : Int) : ∀ (l cur : List Int) (x : Int), x ∈ cur ∨ x ∈ l → x = c ∨ ∃ p ∈ pcs c cur l, x ∈ p
  | [], cur, x, h => .inr ⟨cur, by simp [pcs], by simpa using h⟩
  | y :: r, cur, x, h => by
    rw [pcs]
    by_cases hy : y = c
    · rw [if_pos hy]
      rcases h with h | h
      · exact .inr ⟨cur, by simp, h⟩
      · rcases List.mem_cons.1 h with h | h
        · exact .inl (h.trans hy)
        · exact (pcs_mem c r [] x (.inr h)).imp id fun ⟨p, hp, hx⟩ => ⟨p, List.mem_cons_of_mem _ hp, hx⟩
    · rw [if_neg hy]
      refine pcs_mem c r (cur ++ [y]) x ?_
      rcases h with h | h
      · exact .inl (List.mem_append_left _ h)
      · rcases List.mem_cons.1 h with h | h
        · exact .inl (List.mem_append_right _ (by simp [h]))
        · exact .inr h
theorem pcs_sub (c : Int) : ∀ (l cur p : List Int), p ∈ pcs c cur l → p.length ≤ cur.length + l.length
  | [], cur, p, h => by
    simp [pcs] at h
    rw [h]; simp
  | y :: r, cur, p, h => by
    rw [pcs] at h
    by_cases hy : y = c
    · rw [if_pos hy] at h
      rcases List.mem_cons.1 h with h | h
      · rw [h]; omega
      · have := pcs_sub c r [] p h
        simp only [List.length_nil, List.length_cons] at this ⊢
        omega
    · rw [if_neg hy] at h
      have := pcs_sub c r (cur ++ [y]) p h
      simp only [List.length_append, List.length_cons, List.length_nil] at this ⊢
      omega
def isLow (x : Int) : Bool := decide ((97 ≤ x ∧ x ≤ 122) ∨ (48 ≤ x ∧ x ≤ 57) ∨ x = 45)
def labelOk (p : List Int) : Bool := decide (p ≠ []) && (decide (p.head? ≠ some 45) && (decide (p.getLast? ≠ some 45) && p.all isLow))
def localOk (l : List Int) : Bool := decide (l.length ≤ 30) && (pcs 46 [] l).all atomOk
def domOk (l : List Int) : Bool := decide (l.length ≤ 40) && (pcs 46 [] l).all labelOk
def addrOk (n lo d : List Int) : Bool := textOk n && (decide (n.length ≤ 40) && (localOk lo && domOk d))
theorem addrOk_iff {n lo d : List Int} : addrOk n lo d = true ↔ textOk n = true ∧ n.length ≤ 40 ∧ localOk lo = true ∧ domOk d = true := by
  simp [addrOk]
theorem low_ne {x : Int} (h : isLow x = true) : x ≠ 32 ∧ x ≠ 34 ∧ x ≠ 92 ∧ x ≠ 44 ∧ x ≠ 60 ∧ x ≠ 62 ∧ x ≠ 64 ∧ 32 ≤ x ∧ x ≤ 126 ∧ ¬ (65 ≤ x ∧ x ≤ 90) := by
  simp only [isLow, decide_eq_true_eq] at h
  omega
theorem labelOk_iff {p : List Int} : labelOk p = true ↔ p ≠ [] ∧ p.head? ≠ some 45 ∧ p.getLast? ≠ some 45 ∧ ∀ x ∈ p, isLow x = true := by
  simp [labelOk, List.all_eq_true]
theorem local_mem {l : List Int} (h : localOk l = true) : l ≠ [] ∧ l.length ≤ 30 ∧ ∀ x ∈ l, x = 46 ∨ isAtm x = true := by
  simp only [localOk, Bool.and_eq_true, decide_eq_true_eq, List.all_eq_true] at h
  refine ⟨fun e => ?_, h.1, fun x hx => ?_⟩
  · have := h.2 [] (by rw [e]; simp [pcs])
    simp [atomOk] at this
  · rcases pcs_mem 46 l [] x (.inr hx) with e | ⟨p, hp, hxp⟩
    · exact .inl e
    · exact .inr (((atomOk_iff p).1 (h.2 p hp)).2.2 x hxp)
theorem dom_mem {l : List Int} (h : domOk l = true) : l ≠ [] ∧ l.length ≤ 40 ∧ ∀ x ∈ l, x = 46 ∨ isLow x = true := by
  simp only [domOk, Bool.and_eq_true, decide_eq_true_eq, List.all_eq_true] at h
  refine ⟨fun e => ?_, h.1, fun x hx => ?_⟩
  · have := h.2 [] (by rw [e]; simp [pcs])
    simp [labelOk] at this
  · rcases pcs_mem 46 l [] x (.inr hx) with e | ⟨p, hp, hxp⟩
    · exact .inl e
    · exact .inr ((labelOk_iff.1 (h.2 p hp)).2.2.2 x hxp)
/-- Formatted addresses. -/
def boxL (lo d : List Int) : List Int := lo ++ 64 :: d
def fmtA (n lo d : List Int) : List Int := if addrOk n lo d = true then (if n = [] then boxL lo d else quoteW n ++ (32 :: 60 :: (boxL lo d ++ [62]))) else []
/-! ### The first place of a byte outside of quotes -/
def outQ (c : Int) (l : List Int) : Option Nat :=
  match l with
  | [] => none
  | x :: r => if x = 34 then (match h : readQ r with
      | none => none
      | some (_, r') => (outQ c r').map (· + (r.length + 1 - r'.length))) else if x = c then some 0 else (outQ c r).map (· + 1)
termination_by l.length
decreasing_by
  · have := readQ_lt h; simp only [List.length_cons]; omega
  · simp only [List.length_cons]; omega
theorem outQ_nil (c : Int) : outQ c [] = none := by rw [outQ.eq_def]
theorem outQ_q_none (c : Int) (r : List Int) (h : readQ r = none) : outQ c (34 :: r) = none := by
  rw [outQ.eq_def]
  simp only [if_true]
  split
  · rfl
  · rename_i h2; rw [h] at h2; cases h2
theorem outQ_q (c : Int) (r w r' : List Int) (h : readQ r = some (w, r')) : outQ c (34 :: r) = (outQ c r').map (· + (r.length + 1 - r'.length)) := by
  rw [outQ.eq_def]
  simp only [if_true]
  split
  · rename_i h2; rw [h] at h2; cases h2
  · rename_i h2; rw [h] at h2; injection h2 with h2; injection h2 with h3 h4; subst h3; subst h4; rfl
theorem outQ_hit (c : Int) (r : List Int) (h : c ≠ 34) : outQ c (c :: r) = some 0 := by
  rw [outQ.eq_def]
  simp only [if_neg h, if_true]
theorem outQ_cons (c x : Int) (r : List Int) (h : x ≠ 34) (hc : x ≠ c) : outQ c (x :: r) = (outQ c r).map (· + 1) := by
  rw [outQ.eq_def]
  simp only [if_neg h, if_neg hc]
/-- Induction along outQ. -/
theorem outQ_ind {p : List Int → Prop} (h0 : p []) (h1 : ∀ r, readQ r = none → p (34 :: r)) (h2 : ∀ r w r', readQ r = some (w, r') → p r' → p (34 :: r)) (h3 : ∀ x r, x ≠ 34 → p r → p (x :: r)) (l : List Int) : p l := by
  have key : ∀ n, ∀ l : List Int, l.length ≤ n → p l := by
    intro n
    induction n with
    | zero => intro l hl; rw [List.length_eq_zero_iff.1 (Nat.le_zero.1 hl)]; exact h0
    | succ n ih =>
      intro l hl
      match l, hl with
      | [], _ => exact h0
      | x :: r, hl =>
        simp only [List.length_cons] at hl
        by_cases e1 : x = 34
        · subst e1
          cases hq : readQ r with
          | none => exact h1 r hq
          | some q =>
            obtain ⟨w, r'⟩ := q
            have := readQ_lt hq
            exact h2 r w r' hq (ih r' (by omega))
        · exact h3 x r e1 (ih r (by omega))
  exact key l.length l (Nat.le_refl _)
theorem outQ_lt (c : Int) (l : List Int) : ∀ i, outQ c l = some i → i < l.length := by
  refine outQ_ind (p := fun l => ∀ i, outQ c l = some i → i < l.length) ?_ ?_ ?_ ?_ l
  · intro i h; rw [outQ_nil] at h; cases h
  · intro r hq i h; rw [outQ_q_none c r hq] at h; cases h
  · intro r w r' hq ih i h
    rw [outQ_q c r w r' hq] at h
    obtain ⟨j, hj, rfl⟩ := Option.map_eq_some_iff.1 h
    have h1 := ih j hj
    have h2 := readQ_lt hq
    simp only [List.length_cons]
    omega
  · intro x r hx ih i h
    by_cases hc : x = c
    · subst hc
      rw [outQ_hit x r hx] at h
      obtain rfl := Option.some.inj h
      simp
    · rw [outQ_cons c x r hx hc] at h
      obtain ⟨j, hj, rfl⟩ := Option.map_eq_some_iff.1 h
      have := ih j hj
      simp only [List.length_cons]
      omega
/-- No such byte in it outside of quotes, and its quotes are closed. -/
def Closed (c : Int) (a : List Int) : Prop := ∀ t, outQ c (a ++ t) = (outQ c t).map (· + a.length)
theorem closed_nil (c : Int) : Closed c [] := by
  intro t
  simp
theorem closed_append {c : Int} {a b : List Int} (ha : Closed c a) (hb : Closed c b) : Closed c (a ++ b) := by
  intro t
  rw [List.append_assoc, ha, hb, Option.map_map]
  congr 1
  funext n
  simp only [Function.comp_apply, List.length_append]
  omega
theorem closed_one {c x : Int} (h : x ≠ 34) (hc : x ≠ c) : Closed c [x] := by
  intro t
  rw [List.singleton_append, outQ_cons c x t h hc]
  rfl
theorem closed_cons {c x : Int} {a : List Int} (h : x ≠ 34) (hc : x ≠ c) (ha : Closed c a) : Closed c (x :: a) := closed_append (closed_one h hc) ha
theorem closed_plain {c : Int} : ∀ {a : List Int}, (∀ x ∈ a, x ≠ 34 ∧ x ≠ c) → Closed c a
  | [], _ => closed_nil c
  | x :: a, h => closed_cons (h x (by simp)).1 (h x (by simp)).2 (closed_plain fun y hy => h y (List.mem_cons_of_mem _ hy))
theorem closed_esc (c : Int) (w : List Int) : Closed c (34 :: (esc w ++ [34])) := by
  intro t
  have e : (34 :: (esc w ++ [34])) ++ t = 34 :: (esc w ++ 34 :: t) := by simp
  rw [e, outQ_q c _ w t (readQ_esc w t)]
  congr 1
  funext n
  simp only [List.length_append, List.length_cons, List.length_nil]
  omega
theorem closed_quoteW {c : Int} (w : List Int) (hc : isAtm c = false) (h34 : c ≠ 34) : Closed c (quoteW w) := by
  unfold quoteW
  split
  · split
    · rename_i h
      rw [atomOk_iff] at h
      exact closed_plain fun x hx => ⟨(atm_ne (h.2.2 x hx)).2.1, fun e => by rw [e] at hx; have := h.2.2 c hx; rw [hc] at this; cases this⟩
    · exact closed_esc c w
  · exact closed_nil c
theorem closed_none {c : Int} {a : List Int} (h : Closed c a) : outQ c a = none := by
  have := h []
  rw [List.append_nil, outQ_nil] at this
  exact this
theorem closed_hit {c : Int} {a : List Int} (h : Closed c a) (hc : c ≠ 34) (t : List Int) : outQ c (a ++ c :: t) = some a.length := by
  rw [h, outQ_hit c t hc]
  simp
/-- The parts between the places of a byte outside of quotes. -/
def splitQ (c : Int) (l : List Int) : List (List Int) :=
  match h : outQ c l with
  | none => [l]
  | some i => l.take i :: splitQ c (l.drop (i + 1))
termination_by l.length
decreasing_by
  have := outQ_lt c l i h
  rw [List.length_drop]
  omega
theorem splitQ_none {c : Int} {l : List Int} (h : outQ c l = none) : splitQ c l = [l] := by
  rw [splitQ.eq_def]
  split
  · rfl
  · rename_i h2; rw [h] at h2; cases h2
theorem splitQ_some {c : Int} {l : List Int} {i : Nat} (h : outQ c l = some i) : splitQ c l = l.take i :: splitQ c (l.drop (i + 1)) := by
  rw [splitQ.eq_def]
  split
  · rename_i h2; rw [h] at h2; cases h2
  · rename_i h2; rw [h] at h2; injection h2 with h2; subst h2; rfl
theorem splitQ_hit {c : Int} {a : List Int} (h : Closed c a) (hc : c ≠ 34) (t : List Int) : splitQ c (a ++ c :: t) = a :: splitQ c t := by
  rw [splitQ_some (closed_hit h hc t), List.take_left]
  congr 2
  rw [← List.drop_drop, List.drop_left]
  rfl
/-! ### Spaces at the ends -/
def ltrim (l : List Int) : List Int := l.dropWhile (fun x => decide (x = 32))
def rtrim (l : List Int) : List Int := (ltrim l.reverse).reverse
def trimT (l : List Int) : List Int := rtrim (ltrim l)
theorem ltrim_sp (r : List Int) : ltrim (32 :: r) = ltrim r := by simp [ltrim]
theorem ltrim_ne {x : Int} (r : List Int) (h : x ≠ 32) : ltrim (x :: r) = x :: r := by
  unfold ltrim
  rw [List.dropWhile_cons_of_neg (by simp [h])]
theorem ltrim_nil : ltrim [] = [] := rfl
theorem rtrim_sp (l : List Int) : rtrim (l ++ [32]) = rtrim l := by
  unfold rtrim
  rw [List.reverse_append]
  simp [ltrim_sp]
theorem rtrim_ne {x : Int} (l : List Int) (h : x ≠ 32) : rtrim (l ++ [x]) = l ++ [x] := by
  unfold rtrim
  rw [List.reverse_append]
  simp [ltrim_ne _ h]
theorem rtrim_nil : rtrim [] = [] := rfl
theorem ltrim_sub (l : List Int) : (ltrim l).Sublist l := List.dropWhile_sublist _
theorem rtrim_sub (l : List Int) : (rtrim l).Sublist l := by
  have := (ltrim_sub l.reverse).reverse
  rwa [List.reverse_reverse] at this
theorem trim_sub (l : List Int) : (trimT l).Sublist l := (rtrim_sub _).trans (ltrim_sub l)
/-- What neither begins nor ends with a space. -/
def Tight (l : List Int) : Prop := l.head? ≠ some 32 ∧ l.getLast? ≠ some 32
theorem ltrim_of {l : List Int} (h : l.head? ≠ some 32) : ltrim l = l := by
  cases l with
  | nil => rfl
  | cons x r => exact ltrim_ne r (fun e => h (by rw [e]; rfl))
theorem rtrim_of {l : List Int} (h : l.getLast? ≠ some 32) : rtrim l = l := by
  unfold rtrim
  rw [ltrim_of (by rw [List.head?_reverse]; exact h), List.reverse_reverse]
theorem trim_of {l : List Int} (h : Tight l) : trimT l = l := by
  unfold trimT
  rw [ltrim_of h.1, rtrim_of h.2]
theorem ltrim_head (l : List Int) : (ltrim l).head? ≠ some 32 := by
  induction l with
  | nil => simp [ltrim]
  | cons x r ih =>
    by_cases h : x = 32
    · subst h; rw [ltrim_sp]; exact ih
    · rw [ltrim_ne r h]; simpa using h
theorem rtrim_last (l : List Int) : (rtrim l).getLast? ≠ some 32 := by
  unfold rtrim
  rw [List.getLast?_reverse]
  exact ltrim_head _
theorem trim_iff {l : List Int} : trimT l = l ↔ Tight l := by
  refine ⟨fun h => ?_, trim_of⟩
  have h1 : ltrim l = l := by
    have h2 := (rtrim_sub (ltrim l)).length_le
    have h3 := (ltrim_sub l)
    refine h3.eq_of_length_le ?_
    have h4 := congrArg List.length h
    unfold trimT at h4
    omega
  refine ⟨h1 ▸ ltrim_head l, ?_⟩
  have := rtrim_last (ltrim l)
  unfold trimT at h
  rwa [h] at this
/-- Both orders of cutting come to one. -/
theorem ltrim_append_sp (l : List Int) : ltrim (l ++ [32]) = if ltrim l = [] then [] else ltrim l ++ [32] := by
  induction l with
  | nil => simp [ltrim]
  | cons x r ih =>
    by_cases h : x = 32
    · subst h; rw [List.cons_append, ltrim_sp, ltrim_sp, ih]
    · rw [List.cons_append, ltrim_ne _ h, ltrim_ne _ h, if_neg (by simp), List.cons_append]
theorem ltrim_append_ne (l : List Int) {x : Int} (hx : x ≠ 32) : ltrim (l ++ [x]) = ltrim l ++ [x] := by
  induction l with
  | nil => rw [List.nil_append, ltrim_ne _ hx]; rfl
  | cons y r ih =>
    by_cases h : y = 32
    · subst h; rw [List.cons_append, ltrim_sp, ltrim_sp, ih]
    · rw [List.cons_append, ltrim_ne _ h, ltrim_ne _ h, List.cons_append]
theorem snoc_ind {p : List Int → Prop} (h0 : p []) (h1 : ∀ l x, p l → p (l ++ [x])) (l : List Int) : p l := by
  have : ∀ m : List Int, p m.reverse := by
    intro m
    induction m with
    | nil => exact h0
    | cons x r ih => rw [List.reverse_cons]; exact h1 _ _ ih
  have := this l.reverse
  rwa [List.reverse_reverse] at this
theorem trim_comm (l : List Int) : ltrim (rtrim l) = trimT l := by
  unfold trimT
  refine snoc_ind (p := fun l => ltrim (rtrim l) = rtrim (ltrim l)) rfl (fun l x ih => ?_) l
  by_cases h : x = 32
  · subst h
    rw [rtrim_sp, ltrim_append_sp, ih]
    by_cases he : ltrim l = []
    · rw [if_pos he, he]
    · rw [if_neg he, rtrim_sp]
  · rw [rtrim_ne l h, ltrim_append_ne l h, rtrim_ne _ h]
theorem trim_sp (l : List Int) : trimT (32 :: l) = trimT l := by
  unfold trimT
  rw [ltrim_sp]
theorem trim_sp_end (l : List Int) : trimT (l ++ [32]) = trimT l := by
  rw [← trim_comm, rtrim_sp, trim_comm]
theorem trim_text {l : List Int} (h : textOk l = true) : textOk (trimT l) = true := by
  rw [textOk_iff] at h ⊢
  have := (trim_sub l).length_le
  exact ⟨by omega, fun x hx => h.2 x ((trim_sub l).subset hx)⟩
/-! ### Reading addresses -/
/-- Small letters. -/
def lo8 (x : Int) : Int := if 65 ≤ x ∧ x ≤ 90 then x + 32 else x
structure Adr where
  n : List Int
  lo : List Int
  d : List Int
def Adr.ok (a : Adr) : Bool := addrOk a.n a.lo a.d
def Adr.fmt (a : Adr) : List Int := fmtA a.n a.lo a.d
/-- A mailbox, with a name. -/
def boxR (n l : List Int) : Option Adr :=
  match outQ 64 l with
  | none => none
  | some i => if addrOk n (l.take i) ((l.drop (i + 1)).map lo8) = true then some ⟨n, l.take i, (l.drop (i + 1)).map lo8⟩ else none
/-- Words, and a mailbox up to a closing sign. -/
def angleR (nm rest : List Int) : Option Adr :=
  match words true nm with
  | none => none
  | some ws => if rest.getLast? = some 62 then boxR (joinL ws) rest.dropLast else none
theorem angleR_open {nm rest : List Int} (h : rest.getLast? ≠ some 62) : angleR nm rest = none := by
  unfold angleR
  split
  · rfl
  · rw [if_neg h]
theorem angleR_none {nm rest : List Int} (h : words true nm = none) : angleR nm rest = none := by
  unfold angleR
  rw [h]
theorem angleR_some {nm rest : List Int} {ws : List (List Int)} (h : words true nm = some ws) (h2 : rest.getLast? = some 62) : angleR nm rest = boxR (joinL ws) rest.dropLast := by
  unfold angleR
  rw [h]
  simp only [if_pos h2]
def parseA (l : List Int) : Option Adr :=
  if textOk l = true then (match outQ 60 (trimT l) with
    | none => boxR [] (trimT l)
    | some i => angleR ((trimT l).take i) ((trimT l).drop (i + 1))) else none
theorem boxR_ok {n l : List Int} {a : Adr} (h : boxR n l = some a) : a.ok = true := by
  unfold boxR at h
  split at h
  · cases h
  · split at h
    · rename_i hc
      obtain rfl := Option.some.inj h
      exact hc
    · cases h
theorem parseA_ok {l : List Int} {a : Adr} (h : parseA l = some a) : a.ok = true := by
  unfold parseA at h
  split at h
  · split at h
    · exact boxR_ok h
    · unfold angleR at h
      split at h
      · cases h
      · split at h
        · exact boxR_ok h
        · cases h
  · cases h
theorem lo8_dom {d : List Int} (h : domOk d = true) : d.map lo8 = d := by
  have := (dom_mem h).2.2
  conv => rhs; rw [← List.map_id d]
  refine List.map_congr_left fun x hx => ?_
  unfold lo8
  rw [if_neg, id]
  rcases this x hx with e | e
  · omega
  · exact (low_ne e).2.2.2.2.2.2.2.2.2
theorem boxR_box {n lo d : List Int} (h : addrOk n lo d = true) : boxR n (boxL lo d) = some ⟨n, lo, d⟩ := by
  obtain ⟨_, _, h3, h4⟩ := addrOk_iff.1 h
  have hc : Closed 64 lo := closed_plain fun x hx => by
    rcases (local_mem h3).2.2 x hx with e | e
    · omega
    · have := atm_ne e; omega
  have hd : (boxL lo d).drop (lo.length + 1) = d := by
    unfold boxL
    rw [← List.drop_drop, List.drop_left]; rfl
  have ht : (boxL lo d).take lo.length = lo := by unfold boxL; exact List.take_left
  unfold boxR
  rw [show outQ 64 (boxL lo d) = some lo.length from closed_hit hc (by decide) d]
  simp only [hd, ht, lo8_dom h4, h, if_true]
theorem box_mem {lo d : List Int} (h3 : localOk lo = true) (h4 : domOk d = true) : ∀ x ∈ boxL lo d, 33 ≤ x ∧ x ≤ 126 ∧ x ≠ 34 ∧ x ≠ 44 ∧ x ≠ 60 ∧ x ≠ 62 := by
  intro x hx
  unfold boxL at hx
  rcases List.mem_append.1 hx with h | h
  · rcases (local_mem h3).2.2 x h with e | e
    · omega
    · have := atm_ne e; omega
  · rcases List.mem_cons.1 h with e | h
    · omega
    · rcases (dom_mem h4).2.2 x h with e | e
      · omega
      · have := low_ne e; omega
theorem box_len {lo d : List Int} (h3 : localOk lo = true) (h4 : domOk d = true) : 3 ≤ (boxL lo d).length ∧ (boxL lo d).length ≤ 71 := by
  have h5 := local_mem h3
  have h6 := dom_mem h4
  have h7 : 1 ≤ lo.length := List.length_pos_iff.2 h5.1
  have h8 : 1 ≤ d.length := List.length_pos_iff.2 h6.1
  unfold boxL
  simp only [List.length_append, List.length_cons]
  omega
theorem quoteW_len (w : List Int) (h : w.length ≤ 40) : (quoteW w).length ≤ 82 := by
  have := esc_length w
  unfold quoteW
  split
  · split
    · omega
    · simp only [List.length_cons, List.length_append, List.length_nil]; omega
  · simp
theorem quoteW_head {w : List Int} (h : textOk w = true) : ∃ x r, quoteW w = x :: r ∧ x ≠ 32 := by
  rcases quoteW_cases w h with ⟨ha, hq⟩ | ⟨_, hq⟩
  · rw [hq]
    rw [atomOk_iff] at ha
    match w, ha with
    | x :: r, ha => exact ⟨x, r, rfl, (atm_ne (ha.2.2 x (by simp))).1⟩
  · exact ⟨34, _, hq, by decide⟩
theorem quoteW_text {w : List Int} (h : textOk w = true) : ∀ x ∈ quoteW w, 32 ≤ x ∧ x ≤ 126 := by
  intro x hx
  rcases quoteW_mem hx with e | e | e
  · omega
  · omega
  · exact ((textOk_iff w).1 h).2 x e
/-- What is to be known of a formatted address. -/
theorem fmt_facts {n lo d : List Int} (h : addrOk n lo d = true) : 3 ≤ (fmtA n lo d).length ∧ (fmtA n lo d).length ≤ 156 ∧ (∀ x ∈ fmtA n lo d, 32 ≤ x ∧ x ≤ 126) ∧ Tight (fmtA n lo d) ∧ Closed 44 (fmtA n lo d) := by
  obtain ⟨h1, h2, h3, h4⟩ := addrOk_iff.1 h
  have hb := box_mem h3 h4
  have hl := box_len h3 h4
  unfold fmtA
  rw [if_pos h]
  by_cases hn : n = []
  · rw [if_pos hn]
    refine ⟨hl.1, by omega, fun x hx => ?_, ⟨fun e => ?_, fun e => ?_⟩, closed_plain fun x hx => ?_⟩
    · have := hb x hx; omega
    · have := hb 32 (List.mem_of_mem_head? (by rw [e]; rfl)); omega
    · have := hb 32 (List.mem_of_mem_getLast? (by rw [e]; rfl)); omega
    · have := hb x hx; omega
  · rw [if_neg hn]
    have hq := quoteW_len n h2
    obtain ⟨y, r, hy, hy2⟩ := quoteW_head h1
    refine ⟨?_, ?_, fun x hx => ?_, ⟨?_, ?_⟩, ?_⟩
    · simp only [List.length_append, List.length_cons, List.length_nil]; omega
    · simp only [List.length_append, List.length_cons, List.length_nil]; omega
    · rcases List.mem_append.1 hx with h | h
      · exact quoteW_text h1 x h
      · rcases List.mem_cons.1 h with e | h
        · omega
        · rcases List.mem_cons.1 h with e | h
          · omega
          · rcases List.mem_append.1 h with h | h
            · have := hb x h; omega
            · have : x = 62 := by simpa using h
              omega
    · rw [hy]; simpa using hy2
    · have e : quoteW n ++ (32 :: 60 :: (boxL lo d ++ [62])) = (quoteW n ++ (32 :: 60 :: boxL lo d)) ++ [62] := by simp
      rw [e, List.getLast?_append]
      simp
    · refine closed_append (closed_quoteW n (by decide) (by decide)) (closed_cons (by decide) (by decide) (closed_cons (by decide) (by decide) (closed_append (closed_plain fun x hx => ?_) (closed_one (by decide) (by decide)))))
      have := hb x hx; omega
theorem words_quote_sp {w : List Int} (h : textOk w = true) : words true (quoteW w ++ [32]) = some [w] := words_append true (quoteW w) [] [w] [] (words_quote h) (words_nil true)
/-- A formatted address is read back, whatever spaces are round it. -/
theorem parseA_fmt {n lo d l : List Int} (h : addrOk n lo d = true) (ht : trimT l = fmtA n lo d) (hl : textOk l = true) : parseA l = some ⟨n, lo, d⟩ := by
  obtain ⟨h1, h2, h3, h4⟩ := addrOk_iff.1 h
  have hb := box_mem h3 h4
  unfold parseA
  rw [if_pos hl, ht]
  unfold fmtA
  rw [if_pos h]
  by_cases hn : n = []
  · rw [if_pos hn]
    have : outQ 60 (boxL lo d) = none := closed_none (closed_plain fun x hx => by have := hb x hx; omega)
    simp only [this]
    subst hn
    exact boxR_box h
  · rw [if_neg hn]
    have hc : Closed 60 (quoteW n ++ [32]) := closed_append (closed_quoteW n (by decide) (by decide)) (closed_one (by decide) (by decide))
    have e : quoteW n ++ (32 :: 60 :: (boxL lo d ++ [62])) = (quoteW n ++ [32]) ++ 60 :: (boxL lo d ++ [62]) := by simp
    have hd : ((quoteW n ++ [32]) ++ 60 :: (boxL lo d ++ [62])).drop ((quoteW n ++ [32]).length + 1) = boxL lo d ++ [62] := by
      rw [← List.drop_drop, List.drop_left]; rfl
    rw [e, closed_hit hc (by decide)]
    simp only [List.take_left, hd]
    rw [angleR_some (words_quote_sp h1) (by rw [List.getLast?_append]; simp), List.dropLast_concat]
    have : joinL [n] = n := by simp [joinL, tailJ]
    rw [this]
    exact boxR_box h
/-! ### Lists of addresses -/
def parseAll : List (List Int) → Option (List Adr)
  | [] => some []
  | p :: ps => match parseA p with
    | none => none
    | some a => (parseAll ps).map (a :: ·)
def parseL (l : List Int) : List Adr × Bool :=
  if textOk l = true then (if trimT l = [] then ([], true) else match parseAll (splitQ 44 l) with
    | none => ([], false)
    | some az => if az.length ≤ 10 then (az, true) else ([], false)) else ([], false)
theorem parseAll_ok : ∀ {ps : List (List Int)} {az : List Adr}, parseAll ps = some az → ∀ a ∈ az, a.ok = true
  | [], az, h => by
    obtain rfl := Option.some.inj h
    intro a ha; cases ha
  | p :: ps, az, h => by
    rw [parseAll] at h
    split at h
    · cases h
    · rename_i b hb
      obtain ⟨az', h1, rfl⟩ := Option.map_eq_some_iff.1 h
      intro a ha
      rcases List.mem_cons.1 ha with e | ha
      · rw [e]; exact parseA_ok hb
      · exact parseAll_ok h1 a ha
theorem parseL_ok {l : List Int} {az : List Adr} {b : Bool} (h : parseL l = (az, b)) : az.length ≤ 10 ∧ ∀ a ∈ az, a.ok = true := by
  unfold parseL at h
  have hz : az = [] → az.length ≤ 10 ∧ ∀ a ∈ az, a.ok = true := fun e => by subst e; exact ⟨by simp, fun a ha => by cases ha⟩
  split at h
  · split at h
    · injection h with h1 h2; exact hz h1.symm
    · split at h
      · injection h with h1 h2; exact hz h1.symm
      · rename_i az' he
        split at h
        · rename_i hl
          injection h with h1 h2
          subst h1
          exact ⟨hl, parseAll_ok he⟩
        · injection h with h1 h2; exact hz h1.symm
  · injection h with h1 h2; exact hz h1.symm
/-- A comma and a space before each. -/
def tailC : List (List Int) → List Int
  | [] => []
  | x :: r => 44 :: 32 :: (x ++ tailC r)
def joinC : List (List Int) → List Int
  | [] => []
  | x :: r => x ++ tailC r
def fmtL (l : List Adr) : List Int := if l.length ≤ 10 ∧ l.all Adr.ok = true ∧ (joinC (l.map Adr.fmt)).length ≤ 200 then joinC (l.map Adr.fmt) else []
theorem splitQ_tail : ∀ (x : List Int) (r : List (List Int)), Closed 44 x → (∀ y ∈ r, Closed 44 y) → splitQ 44 (x ++ tailC r) = x :: r.map (32 :: ·)
  | x, [], hx, _ => by
    simp only [tailC, List.append_nil, List.map_nil]
    exact splitQ_none (closed_none hx)
  | x, y :: r, hx, h => by
    rw [tailC, splitQ_hit hx (by decide), List.map_cons]
    congr 1
    exact splitQ_tail (32 :: y) r (closed_cons (by decide) (by decide) (h y (by simp))) (fun z hz => h z (List.mem_cons_of_mem _ hz))
theorem parseAll_fmt : ∀ (l : List Adr), (∀ a ∈ l, a.ok = true) → parseAll ((l.map Adr.fmt).map (32 :: ·)) = some l
  | [], _ => rfl
  | a :: l, h => by
    have ha := h a (by simp)
    obtain ⟨f1, f2, f3, f4, f5⟩ := fmt_facts ha
    have hp : parseA (32 :: a.fmt) = some a := parseA_fmt (n := a.n) (lo := a.lo) (d := a.d) ha (by rw [trim_sp]; exact trim_of f4) (by
      rw [textOk_iff]
      refine ⟨by simp only [List.length_cons, Adr.fmt]; omega, fun x hx => ?_⟩
      rcases List.mem_cons.1 hx with e | hx
      · omega
      · exact f3 x hx)
    rw [List.map_cons, List.map_cons, parseAll, hp]
    simp only
    rw [parseAll_fmt l fun b hb => h b (List.mem_cons_of_mem _ hb)]
    rfl
theorem tailC_mem {ws : List (List Int)} {x : Int} (h : x ∈ tailC ws) : x = 44 ∨ x = 32 ∨ ∃ w ∈ ws, x ∈ w := by
  induction ws with
  | nil => cases h
  | cons y r ih =>
    simp only [tailC] at h
    rcases List.mem_cons.1 h with h | h
    · exact .inl h
    · rcases List.mem_cons.1 h with h | h
      · exact .inr (.inl h)
      · rcases List.mem_append.1 h with h | h
        · exact .inr (.inr ⟨y, by simp, h⟩)
        · exact (ih h).imp id (Or.imp id fun ⟨w, hw, hx⟩ => ⟨w, List.mem_cons_of_mem _ hw, hx⟩)
theorem joinC_mem {ws : List (List Int)} {x : Int} (h : x ∈ joinC ws) : x = 44 ∨ x = 32 ∨ ∃ w ∈ ws, x ∈ w := by
  cases ws with
  | nil => cases h
  | cons y r =>
    simp only [joinC] at h
    rcases List.mem_append.1 h with h | h
    · exact .inr (.inr ⟨y, by simp, h⟩)
    · exact (tailC_mem h).imp id (Or.imp id fun ⟨w, hw, hx⟩ => ⟨w, List.mem_cons_of_mem _ hw, hx⟩)
theorem fmtL_text (l : List Adr) : textOk (fmtL l) = true := by
  unfold fmtL
  split
  · rename_i h
    rw [textOk_iff]
    refine ⟨h.2.2, fun x hx => ?_⟩
    rcases joinC_mem hx with e | e | ⟨w, hw, hx⟩
    · omega
    · omega
    · obtain ⟨a, ha, rfl⟩ := List.mem_map.1 hw
      exact (fmt_facts (List.all_eq_true.1 h.2.1 a ha)).2.2.1 x hx
  · decide
theorem fmtL_cases (l : List Adr) (h : fmtL l ≠ []) : l.length ≤ 10 ∧ (∀ a ∈ l, a.ok = true) ∧ (joinC (l.map Adr.fmt)).length ≤ 200 ∧ fmtL l = joinC (l.map Adr.fmt) ∧ l ≠ [] := by
  unfold fmtL at h ⊢
  split
  · rename_i hc
    refine ⟨hc.1, List.all_eq_true.1 hc.2.1, hc.2.2, rfl, fun e => ?_⟩
    rw [if_pos hc, e] at h
    exact h rfl
  · rename_i hc
    rw [if_neg hc] at h
    exact absurd rfl h
/-- A formatted list is read back. -/
theorem parseL_fmt (l : List Adr) (h : fmtL l ≠ []) : parseL (fmtL l) = (l, true) := by
  have ht := fmtL_text l
  obtain ⟨h1, h2, h3, h4, h5⟩ := fmtL_cases l h
  unfold parseL
  rw [if_pos ht, h4]
  match l, h1, h2, h5 with
  | a :: r, h1, h2, _ =>
    have ha := h2 a (by simp)
    obtain ⟨f1, f2, f3, f4, f5⟩ := fmt_facts ha
    have hne : trimT (joinC ((a :: r).map Adr.fmt)) ≠ [] := by
      rw [List.map_cons, joinC]
      obtain ⟨x, y, hx⟩ : ∃ x y, a.fmt = x :: y := by
        cases hf : a.fmt with
        | nil => unfold Adr.fmt at hf; rw [hf] at f1; simp at f1
        | cons x y => exact ⟨x, y, rfl⟩
      have hx32 : x ≠ 32 := fun e => f4.1 (by show (Adr.fmt a).head? = _; rw [hx, e]; rfl)
      intro e
      rw [← trim_comm] at e
      rw [hx] at e
      have h7 : ∀ (t : List Int), rtrim (x :: t) ≠ [] ∧ (rtrim (x :: t)).head? = some x := by
        intro t
        have : rtrim ([x] ++ t) = if rtrim t = [] then [x] else x :: rtrim t := by
          refine snoc_ind (p := fun t => rtrim ([x] ++ t) = if rtrim t = [] then [x] else x :: rtrim t) ?_ (fun l z ih => ?_) t
          · rw [rtrim_nil, if_pos rfl, List.append_nil]
            exact rtrim_ne [] hx32
          · rw [← List.append_assoc]
            by_cases hz : z = 32
            · subst hz; rw [rtrim_sp, rtrim_sp, ih]
            · rw [rtrim_ne _ hz, rtrim_ne _ hz, if_neg (by simp)]; simp
        rw [List.singleton_append] at this
        rw [this]
        split
        · exact ⟨by simp, rfl⟩
        · exact ⟨by simp, rfl⟩
      have h8 := h7 (y ++ tailC (r.map Adr.fmt))
      rw [List.cons_append, ltrim_of (by rw [h8.2]; simpa using hx32)] at e
      exact h8.1 e
    rw [if_neg hne, List.map_cons, joinC]
    rw [splitQ_tail a.fmt (r.map Adr.fmt) f5 (fun y hy => by
      obtain ⟨b, hb, rfl⟩ := List.mem_map.1 hy
      exact (fmt_facts (h2 b (List.mem_cons_of_mem _ hb))).2.2.2.2)]
    have hp : parseA a.fmt = some a := parseA_fmt (n := a.n) (lo := a.lo) (d := a.d) ha (trim_of f4) (by rw [textOk_iff]; exact ⟨by simp only [Adr.fmt]; omega, f3⟩)
    rw [parseAll, hp]
    simp only
    rw [parseAll_fmt r fun b hb => h2 b (List.mem_cons_of_mem _ hb)]
    simp only [Option.map_some]
    rw [if_pos h1]
theorem pcs_in (c : Int) : ∀ (l cur p : List Int), p ∈ pcs c cur l → ∀ x ∈ p, x ∈ cur ++ l
  | [], cur, p, h => by
    simp [pcs] at h
    rw [h]; simp
  | y :: r, cur, p, h => by
    intro x hx
    rw [pcs] at h
    by_cases hy : y = c
    · rw [if_pos hy] at h
      rcases List.mem_cons.1 h with h | h
      · rw [h] at hx; exact List.mem_append_left _ hx
      · have := pcs_in c r [] p h x hx
        exact List.mem_append_right _ (List.mem_cons_of_mem _ (by simpa using this))
    · rw [if_neg hy] at h
      have := pcs_in c r (cur ++ [y]) p h x hx
      simpa using this
theorem pcs_len (c : Int) : ∀ (l cur : List Int), (pcs c cur l).length ≤ l.length + 1
  | [], cur => by simp [pcs]
  | y :: r, cur => by
    rw [pcs]
    split
    · have := pcs_len c r []
      simp only [List.length_cons]
      omega
    · have := pcs_len c r (cur ++ [y])
      simp only [List.length_cons]
      omega

/-! ## Fields: plain functions on lists of bytes -/
def isNm (x : Int) : Bool := decide ((97 ≤ x ∧ x ≤ 122) ∨ (65 ≤ x ∧ x ≤ 90) ∨ (48 ≤ x ∧ x ≤ 57) ∨ x = 45)
def nameOk (l : List Int) : Bool := decide (1 ≤ l.length ∧ l.length ≤ 30) && ((match l with | [] => false | x :: _ => isLet x) && l.all isNm)
def fieldOk (n v : List Int) : Bool := nameOk n && (textOk v && (decide (v.length ≤ 150) && decide (trimT v = v)))
theorem fieldOk_iff {n v : List Int} : fieldOk n v = true ↔ nameOk n = true ∧ textOk v = true ∧ v.length ≤ 150 ∧ trimT v = v := by simp [fieldOk]
theorem nameOk_len {l : List Int} (h : nameOk l = true) : 1 ≤ l.length ∧ l.length ≤ 30 := by
  simp only [nameOk, Bool.and_eq_true, decide_eq_true_eq] at h
  exact h.1
theorem isNm_lo (x : Int) : isNm (lo8 x) = isNm x := by
  unfold isNm lo8
  exact decide_eq_decide.2 (by split <;> omega)
theorem isLet_lo (x : Int) : isLet (lo8 x) = isLet x := by
  unfold isLet lo8
  exact decide_eq_decide.2 (by split <;> omega)
theorem nameOk_lo (l : List Int) : nameOk (l.map lo8) = nameOk l := by
  unfold nameOk
  rw [List.length_map, List.all_map, show (isNm ∘ lo8) = isNm from funext isNm_lo]
  cases l with
  | nil => rfl
  | cons x r => simp only [List.map_cons, isLet_lo]
/-- May a line be broken here? -/
def okB (l : List Int) (i : Nat) : Bool := decide (l[i]? = some 32) && (decide (l[i - 1]? ≠ some 32) && decide (l[i + 1]? ≠ some 32))
def brkN (l : List Int) : Nat → Nat → Option Nat → Option Nat
  | 0, _, a => a
  | d + 1, i, a => brkN l d (i + 1) (if okB l i = true ∧ (a = none ∨ i ≤ 40) then some i else a)
def brk (l : List Int) (i : Nat) : Option Nat := brkN l (l.length - 1 - i) i none
theorem brkN_some (l : List Int) : ∀ (d i a : Nat), ∃ j, brkN l d i (some a) = some j ∧ (j = a ∨ (i ≤ j ∧ j < i + d ∧ j ≤ 40))
  | 0, i, a => ⟨a, rfl, .inl rfl⟩
  | d + 1, i, a => by
    rw [brkN]
    split
    · rename_i h
      obtain ⟨j, h1, h2⟩ := brkN_some l d (i + 1) i
      have h3 : i ≤ 40 := h.2.resolve_left (by simp)
      refine ⟨j, h1, .inr ?_⟩
      omega
    · obtain ⟨j, h1, h2⟩ := brkN_some l d (i + 1) a
      refine ⟨j, h1, ?_⟩
      omega
theorem brkN_none (l : List Int) : ∀ (d i : Nat), (brkN l d i none = none → ∀ k, i ≤ k → k < i + d → okB l k = false) ∧ (∀ j, brkN l d i none = some j → i ≤ j ∧ j < i + d ∧ (j ≤ 40 ∨ ∀ k, i ≤ k → k < j → okB l k = false))
  | 0, i => ⟨fun _ k h1 h2 => by omega, fun j h => by simp [brkN] at h⟩
  | d + 1, i => by
    rw [brkN]
    by_cases hb : okB l i = true
    · rw [if_pos ⟨hb, .inl rfl⟩]
      obtain ⟨j, h1, h2⟩ := brkN_some l d (i + 1) i
      rw [h1]
      refine ⟨fun h => by simp at h, fun j' h => ?_⟩
      obtain rfl := Option.some.inj h
      rcases h2 with h2 | h2
      · exact ⟨by omega, by omega, .inr fun k h3 h4 => by omega⟩
      · exact ⟨by omega, by omega, .inl h2.2.2⟩
    · rw [if_neg (fun h => hb h.1)]
      obtain ⟨g1, g2⟩ := brkN_none l d (i + 1)
      have hb' : okB l i = false := by simpa using hb
      refine ⟨fun h k h1 h2 => ?_, fun j h => ?_⟩
      · by_cases e : k = i
        · rw [e]; exact hb'
        · exact g1 h k (by omega) (by omega)
      · obtain ⟨h1, h2, h3⟩ := g2 j h
        refine ⟨by omega, by omega, h3.imp id fun h4 k h5 h6 => ?_⟩
        by_cases e : k = i
        · rw [e]; exact hb'
        · exact h4 k (by omega) (by omega)
theorem brk_some {l : List Int} {i j : Nat} (h : brk l i = some j) : i ≤ j ∧ j + 1 < l.length ∧ (j ≤ 40 ∨ ∀ k, i ≤ k → k < j → okB l k = false) := by
  have := (brkN_none l (l.length - 1 - i) i).2 j h
  exact ⟨this.1, by omega, this.2.2⟩
theorem brk_none {l : List Int} {i : Nat} (h : brk l i = none) : ∀ k, i ≤ k → k + 1 < l.length → okB l k = false := fun k h1 h2 => (brkN_none l (l.length - 1 - i) i).1 h k h1 (by omega)
/-- The lines of a long line; at most n breaks. -/
def foldF : Nat → List Int → Nat → List (List Int)
  | 0, l, _ => [l]
  | n + 1, l, i => if 40 < l.length then (match brk l i with
    | none => [l]
    | some a => l.take a :: foldF n (l.drop a) 2) else [l]
/-- No place to break, behind i, where it is wide. -/
def Wide (i : Nat) (l : List Int) : Prop := 40 < l.length → ∀ k, i ≤ k → k + 1 < l.length → okB l k = false
theorem okB_take {l : List Int} {a k : Nat} (hk : k + 1 < a) (ha : a ≤ l.length) : okB (l.take a) k = okB l k := by
  unfold okB
  rw [List.getElem?_take_of_lt (by omega), List.getElem?_take_of_lt (by omega), List.getElem?_take_of_lt (by omega)]
theorem foldF_wide : ∀ (n : Nat) (l : List Int) (i : Nat), l.length ≤ n → 2 ≤ i → ∃ h t, foldF n l i = h :: t ∧ Wide i h ∧ (∀ x ∈ t, Wide 2 x) ∧ (h :: t).flatten = l
  | 0, l, i, hl, _ => ⟨l, [], rfl, (fun h => by omega), (fun x hx => by cases hx), by simp⟩
  | n + 1, l, i, hl, hi => by
    rw [foldF]
    by_cases h40 : 40 < l.length
    · rw [if_pos h40]
      cases hb : brk l i with
      | none => exact ⟨l, [], rfl, fun _ => brk_none hb, (fun x hx => by cases hx), by simp⟩
      | some a =>
        obtain ⟨h1, h2, h3⟩ := brk_some hb
        obtain ⟨g, t, e1, e2, e3, e4⟩ := foldF_wide n (l.drop a) 2 (by rw [List.length_drop]; omega) (Nat.le_refl _)
        refine ⟨l.take a, g :: t, by simp only [e1], fun h4 k h5 h6 => ?_, fun x hx => ?_, ?_⟩
        · rw [List.length_take] at h4 h6
          rw [okB_take (by omega) (by omega)]
          exact (h3.resolve_left (by omega)) k h5 (by omega)
        · rcases List.mem_cons.1 hx with e | hx
          · rw [e]; exact e2
          · exact e3 x hx
        · rw [List.flatten_cons, e4, List.take_append_drop]
    · rw [if_neg h40]
      exact ⟨l, [], rfl, fun h => absurd h h40, (fun x hx => by cases hx), by simp⟩
theorem foldF_len (n : Nat) (l : List Int) (i : Nat) : (foldF n l i).length ≤ n + 1 := by
  induction n generalizing l i with
  | zero => simp [foldF]
  | succ n ih =>
    rw [foldF]
    split
    · split
      · simp
      · rw [List.length_cons]
        have := ih (l.drop ‹Nat›) 2
        omega
    · simp
/-- The lines of a field. -/
def lineF (n v : List Int) : List Int := n ++ 58 :: (if v = [] then [] else 32 :: v)
def foldL (n v : List Int) : List (List Int) := foldF (lineF n v).length (lineF n v) (n.length + 3)
theorem lineF_len (n v : List Int) : (lineF n v).length = n.length + 1 + (if v = [] then 0 else 1) + v.length := by
  unfold lineF
  by_cases h : v = []
  · rw [if_pos h, if_pos h, h]; simp
  · rw [if_neg h, if_neg h]
    simp only [List.length_append, List.length_cons]
    omega
theorem foldL_wide (n v : List Int) : ∃ h t, foldL n v = h :: t ∧ Wide (n.length + 3) h ∧ (∀ x ∈ t, Wide 2 x) ∧ (h :: t).flatten = lineF n v := foldF_wide _ _ _ (Nat.le_refl _) (by omega)

/-! ## Fields -/
theorem rdF (l : List S26) (i : Nat) (h : i < l.length) : rd_T26 l (i : Int) = l[i] := by
  rw [rd_T26, Int.toNat_natCast, List.getD_eq_getElem?_getD, List.getElem?_eq_getElem h]
  rfl
theorem wrap_up (i : Nat) (h : i < 9223372036854775807) : wrap64 ((i : Int) + 1) = ((i + 1 : Nat) : Int) := by
  rw [wrap_id (by omega) (by omega)]
  omega
theorem extF {a b : S26} : a = b ↔ a.f0 = b.f0 ∧ a.f1 = b.f1 := by
  cases a; cases b
  simp
instance decF : DecidableEq S26 := fun _ _ => decidable_of_iff _ extF.symm
theorem neF (a b : S26) : (!((a.f0.toList) == (b.f0.toList)) || (!((a.f1.toList) == (b.f1.toList)))) = !decide (a = b) := by
  rw [toList_beq, toList_beq, ← Bool.not_and, ← Bool.decide_and]
  exact congrArg _ (decide_eq_decide.2 extF.symm)
theorem Equal_l0 (a b : List S26) (hl : a.length = b.length) (hz : a.length ≤ 9223372036854775806) : ∀ (d i : Nat), i + d = a.length → Ev (fun k => slices_Equal_impl_Field_impl_Field.l0 k a b (a.length : Int) (i : Int)) (decide (a.drop i = b.drop i)) := by
  intro d
  induction d with
  | zero =>
    intro i hi
    refine ev_succ ?_
    simp only [slices_Equal_impl_Field_impl_Field.l0]
    rw [List.drop_eq_nil_of_le (by omega), List.drop_eq_nil_of_le (by omega)]
    exact ev_neg (by omega) (Ev.now _)
  | succ d ih =>
    intro i hi
    have ha : i < a.length := by omega
    have hb : i < b.length := by omega
    refine ev_succ ?_
    simp only [slices_Equal_impl_Field_impl_Field.l0]
    rw [rdF a i ha, rdF b i hb, wrap_up i (by omega), List.drop_eq_getElem_cons ha, List.drop_eq_getElem_cons hb, neF]
    refine ev_pos (by omega) (ev_pos (by omega) (ev_pos (by omega) (ev_pos (by omega) ?_)))
    by_cases h : a[i] = b[i]
    · refine ev_neg (by simp [h]) (ev_cast (ih (i + 1) (by omega)) ?_)
      exact decide_eq_decide.2 ⟨fun e => by rw [h, e], fun e => (List.cons.inj e).2⟩
    · refine ev_pos (by simp [h]) (ev_of ?_)
      exact congrArg some (decide_eq_false (fun e => h (List.cons.inj e).1)).symm
theorem impl_FieldsSame_ev (a b : List S26) (hz : a.length ≤ 9223372036854775806) : Ev (fun k => impl_FieldsSame.f k a b) (decide (a = b)) := by
  unfold impl_FieldsSame.f
  refine ev_bind ?_ (Ev.now _)
  unfold slices_Equal_impl_Field_impl_Field.f
  by_cases hl : a.length = b.length
  · exact ev_pos (by omega) (Equal_l0 a b hl hz a.length 0 (by omega))
  · refine ev_neg (by omega) (ev_of ?_)
    exact congrArg some (decide_eq_false (fun e => hl (by rw [e]))).symm

/-! ## Small letters -/
theorem low8_range {x : Int} (h : 0 ≤ x ∧ x ≤ 255) : 0 ≤ low8 x ∧ low8 x ≤ 255 := by
  unfold low8; split <;> omega
theorem low8_low8 (x : Int) : low8 (low8 x) = low8 x := by
  by_cases h : 65 ≤ x ∧ x ≤ 90
  · rw [show low8 x = x + 32 from if_pos h]
    exact if_neg (by omega)
  · rw [show low8 x = x from if_neg h]
    exact if_neg h
theorem L_lowT (s : ByteArray) : bytesOf (lowT s) = (bytesOf s).map low8 := by
  unfold lowT
  refine L_S fun x hx => ?_
  obtain ⟨y, hy, rfl⟩ := List.mem_map.1 hx
  exact low8_range (L_IsB s y hy)
theorem lowT_size (s : ByteArray) : (lowT s).size = s.size := by rw [← L_len, L_lowT, List.length_map, L_len]
theorem lowT_lowT (s : ByteArray) : lowT (lowT s) = lowT s := by
  apply L_inj
  rw [L_lowT, L_lowT, List.map_map]
  exact List.map_congr_left fun x _ => low8_low8 x
theorem bt_lowT (s : ByteArray) (i : Nat) (hi : i < s.size) : bt (lowT s) i = low8 (bt s i) := by
  have h1 := bt_get (lowT s) i (by rw [lowT_size]; exact hi)
  rw [L_lowT, List.getElem?_map, bt_get s i hi] at h1
  exact (Option.some.inj h1).symm
theorem impl_LowerText_eq (s : ByteArray) (hs : s.size < 140737488355328) : impl_LowerText.f s = some (lowT s) := by rw [impl_LowerText.f, if_pos hs]
theorem spec_LowerText_eq (s : ByteArray) (hs : s.size < 140737488355328) : spec_LowerText.f s = some (lowT s) := by rw [spec_LowerText.f, if_pos hs]
theorem impl_SameText_eq (s t : ByteArray) (hs : s.size < 140737488355328) (ht : t.size < 140737488355328) : impl_SameText.f s t = some (decide (lowT s = lowT t)) := by
  rw [impl_SameText.f, impl_LowerText_eq s hs, Option.bind_some, impl_LowerText_eq t ht, Option.bind_some, toList_beq]
theorem spec_SameText_eq (s t : ByteArray) (hs : s.size < 140737488355328) (ht : t.size < 140737488355328) : spec_SameText.f s t = some (decide (lowT s = lowT t)) := by
  rw [spec_SameText.f, spec_LowerText_eq s hs, Option.bind_some, spec_LowerText_eq t ht, Option.bind_some, toList_beq]

/-! ## Fields with a name: found, counted, dropped -/
def sameF (x : S26) (a : ByteArray) : Bool := decide (lowT x.f0 = lowT a)
/-- The place of the first one, from i on. -/
def plc (a : ByteArray) : Nat → List S26 → Int
  | _, [] => -1
  | i, x :: xs => if sameF x a = true then (i : Int) else plc a (i + 1) xs
def getF (a : ByteArray) : List S26 → ByteArray × Bool
  | [] => ((⟨#[]⟩ : ByteArray), false)
  | x :: xs => if sameF x a = true then (x.f1, true) else getF a xs
def drp (a : ByteArray) (l : List S26) : List S26 := l.filter fun x => !sameF x a
def smF (l : List S26) : Prop := ∀ x ∈ l, x.f0.size < 140737488355328
theorem smF_tail {x : S26} {l : List S26} (h : smF (x :: l)) : smF l := fun y hy => h y (List.mem_cons_of_mem _ hy)
theorem smF_drp {l : List S26} (h : smF l) (a : ByteArray) : smF (drp a l) := fun y hy => h y (List.mem_filter.1 hy).1
theorem plc_get (a : ByteArray) : ∀ (l : List S26) (i : Nat), (plc a i l = -1 ∧ getF a l = ((⟨#[]⟩ : ByteArray), false)) ∨ ∃ j, ∃ h : j < l.length, plc a i l = ((i + j : Nat) : Int) ∧ getF a l = ((l[j]).f1, true)
  | [], i => .inl ⟨rfl, rfl⟩
  | x :: xs, i => by
    simp only [plc, getF]
    by_cases h : sameF x a = true
    · rw [if_pos h, if_pos h]
      exact .inr ⟨0, by simp, rfl, rfl⟩
    · rw [if_neg h, if_neg h]
      rcases plc_get a xs (i + 1) with ⟨h1, h2⟩ | ⟨j, hj, h1, h2⟩
      · exact .inl ⟨h1, h2⟩
      · exact .inr ⟨j + 1, by simpa using hj, by rw [h1]; omega, by simpa using h2⟩
theorem get_of_plc (a : ByteArray) (l : List S26) : (if plc a 0 l < 0 then (some ((⟨#[]⟩ : ByteArray), false)) else (if 0 ≤ plc a 0 l then (if plc a 0 l < (l.length : Int) then (some ((rd_T26 l (plc a 0 l)).f1, true)) else (none)) else (none))) = some (getF a l) := by
  rcases plc_get a l 0 with ⟨h1, h2⟩ | ⟨j, hj, h1, h2⟩
  · rw [h1, h2, if_pos (by omega)]
  · rw [h1, h2, Nat.zero_add, if_neg (by omega), if_pos (by omega), if_pos (by omega), rdF l j hj]
theorem getF_low (a b : ByteArray) (h : lowT a = lowT b) : ∀ l, getF a l = getF b l
  | [] => rfl
  | x :: xs => by
    have e : sameF x a = sameF x b := by unfold sameF; rw [h]
    rw [getF, getF, e, getF_low a b h xs]
theorem drp_pos {x : S26} {xs : List S26} {a : ByteArray} (h : sameF x a = true) : drp a (x :: xs) = drp a xs := by
  simp only [drp]
  rw [List.filter_cons_of_neg (by simp [h])]
theorem drp_neg {x : S26} {xs : List S26} {a : ByteArray} (h : ¬ sameF x a = true) : drp a (x :: xs) = x :: drp a xs := by
  simp only [drp]
  rw [List.filter_cons_of_pos (by simp [h])]
theorem drp_le (a : ByteArray) (l : List S26) : (drp a l).length ≤ l.length := List.length_filter_le _ _
theorem getF_none (a : ByteArray) : ∀ l : List S26, (getF a l).2 = true ↔ (drp a l).length < l.length
  | [] => by simp [getF, drp]
  | x :: xs => by
    have h1 := getF_none a xs
    have h2 := drp_le a xs
    by_cases h : sameF x a = true
    · rw [drp_pos h, getF, if_pos h]
      simp only [List.length_cons, true_iff]
      omega
    · rw [drp_neg h, getF, if_neg h, h1]
      simp only [List.length_cons]
      omega
theorem drp_drp (a : ByteArray) (l : List S26) : drp a (drp a l) = drp a l := by
  simp only [drp, List.filter_filter, Bool.and_self]
theorem getF_drp (a : ByteArray) (l : List S26) : (getF a (drp a l)).2 = false := by
  have := getF_none a (drp a l)
  rw [drp_drp] at this
  cases h : (getF a (drp a l)).2 with
  | false => rfl
  | true => exact absurd (this.1 h) (Nat.lt_irrefl _)
theorem same_impl (x : S26) (a : ByteArray) (hx : x.f0.size < 140737488355328) (ha : a.size < 140737488355328) : impl_SameText.f x.f0 a = some (sameF x a) := impl_SameText_eq x.f0 a hx ha
theorem idxO_plc (a : ByteArray) (ha : a.size < 140737488355328) : ∀ (l : List S26) (i : Nat), smF l → idxO (fun x : S26 => impl_SameText.f x.f0 a) i l = some (plc a i l)
  | [], i, _ => rfl
  | x :: xs, i, h => by
    simp only [idxO, plc]
    rw [same_impl x a (h x (by simp)) ha, Option.bind_some]
    by_cases hs : sameF x a = true
    · rw [if_pos hs, if_pos hs]
    · rw [if_neg hs, if_neg hs]
      exact idxO_plc a ha xs (i + 1) (smF_tail h)
theorem impl_fieldPlace_eq (l : List S26) (a : ByteArray) (hl : smF l) (ha : a.size < 140737488355328) : impl_fieldPlace.f l a = some (plc a 0 l) := idxO_plc a ha l 0 hl
theorem delO_drp (a : ByteArray) (ha : a.size < 140737488355328) : ∀ (l : List S26), smF l → delO (fun x : S26 => impl_SameText.f x.f0 a) l = some (drp a l)
  | [], _ => rfl
  | x :: xs, h => by
    simp only [delO, drp]
    rw [same_impl x a (h x (by simp)) ha, delO_drp a ha xs (smF_tail h), Option.bind_some, Option.bind_some]
    by_cases hs : sameF x a = true
    · rw [if_pos hs, List.filter_cons_of_neg (by simp [hs])]; rfl
    · rw [if_neg hs, List.filter_cons_of_pos (by simp [hs])]; rfl
theorem impl_DropField_eq (l : List S26) (a : ByteArray) (hz : l.length ≤ 1000000000000) (hl : smF l) (ha : a.size < 140737488355328) : impl_DropField.f l a = some (drp a l) := by
  unfold impl_DropField.f slices_Clone_impl_Field_impl_Field.f
  rw [if_pos (by omega), Option.bind_some]
  exact delO_drp a ha l hl
/-- How many have the name. -/
def cntF (a : ByteArray) (l : List S26) : Int := (l.length : Int) - ((drp a l).length : Int)
theorem wrap_cnt (a : ByteArray) (l : List S26) (hz : l.length ≤ 1000000000000) : wrap64 ((l.length : Int) - ((drp a l).length : Int)) = cntF a l := by
  have := drp_le a l
  exact wrap_id (by omega) (by omega)
theorem impl_CountField_eq (l : List S26) (a : ByteArray) (hz : l.length ≤ 1000000000000) (hl : smF l) (ha : a.size < 140737488355328) : impl_CountField.f l a = some (cntF a l) := by
  unfold impl_CountField.f
  rw [impl_DropField_eq l a hz hl ha, Option.bind_some, wrap_cnt a l hz]
theorem spec_DropField_l0 (a : ByteArray) (ha : a.size < 140737488355328) (l : List S26) (hz : l.length ≤ 1000000000000) (hl : smF l) : ∀ (d i : Nat) (acc : List S26), i + d = l.length → acc.length ≤ i → Ev (fun k => spec_DropField.l0 k l a acc (i : Int)) (acc ++ drp a (l.drop i)) := by
  intro d
  induction d with
  | zero =>
    intro i acc hi hacc
    refine ev_succ ?_
    simp only [spec_DropField.l0]
    rw [List.drop_eq_nil_of_le (by omega)]
    refine ev_neg (by omega) (ev_of ?_)
    simp [drp]
  | succ d ih =>
    intro i acc hi hacc
    have hlt : i < l.length := by omega
    refine ev_succ ?_
    simp only [spec_DropField.l0]
    rw [rdF l i hlt, wrap_up i (by omega), List.drop_eq_getElem_cons hlt]
    refine ev_pos (by omega) (ev_pos (by omega) (ev_bind1 (spec_SameText_eq _ a (hl _ (List.getElem_mem hlt)) ha) ?_))
    by_cases hs : sameF l[i] a = true
    · refine ev_pos hs (ev_cast (ih (i + 1) acc (by omega) (by omega)) ?_)
      simp only [drp]
      rw [List.filter_cons_of_neg (by simp [hs])]
    · refine ev_neg hs (ev_pos (by omega) (ev_cast (ih (i + 1) (acc ++ [l[i]]) (by omega) (by simp; omega)) ?_))
      simp only [drp]
      rw [List.filter_cons_of_pos (by simp [hs]), List.append_assoc]
      rfl
theorem spec_DropField_ev (l : List S26) (a : ByteArray) (hz : l.length ≤ 1000000000000) (hl : smF l) (ha : a.size < 140737488355328) : Ev (fun k => spec_DropField.f k l a) (drp a l) := by
  unfold spec_DropField.f
  exact spec_DropField_l0 a ha l hz hl l.length 0 [] (by omega) (by simp)

/-! ## Fields that are put -/
def fOk (x : S26) : Bool := fieldOk (bytesOf x.f0) (bytesOf x.f1)
def fsOk (l : List S26) : Bool := decide (l.length ≤ 20) && l.all fOk
theorem fsOk_iff {l : List S26} : fsOk l = true ↔ l.length ≤ 20 ∧ ∀ x ∈ l, fOk x = true := by simp [fsOk, List.all_eq_true]
/-- With a value put. -/
def putO (l : List S26) (a b : ByteArray) : List S26 := if 0 ≤ plc a 0 l then l.set (plc a 0 l).toNat ⟨(rd_T26 l (plc a 0 l)).f0, b⟩ else l ++ [⟨a, b⟩]
def putV (l : List S26) (a b : ByteArray) : List S26 × Bool := if fieldOk (bytesOf a) (bytesOf b) = true ∧ fsOk l = true ∧ fsOk (putO l a b) = true then (putO l a b, true) else ([], false)
theorem plc_cases (a : ByteArray) : ∀ (l : List S26) (i : Nat), (plc a i l = -1 ∧ ∀ x ∈ l, sameF x a = false) ∨ ∃ j, ∃ h : j < l.length, plc a i l = ((i + j : Nat) : Int) ∧ sameF l[j] a = true ∧ ∀ m, ∀ hm : m < l.length, m < j → sameF l[m] a = false
  | [], i => .inl ⟨rfl, by simp⟩
  | x :: xs, i => by
    simp only [plc]
    by_cases h : sameF x a = true
    · rw [if_pos h]
      exact .inr ⟨0, by simp, rfl, h, fun m hm hlt => by omega⟩
    · rw [if_neg h]
      have h' : sameF x a = false := by simpa using h
      rcases plc_cases a xs (i + 1) with ⟨h1, h2⟩ | ⟨j, hj, h1, h2, h3⟩
      · refine .inl ⟨h1, fun y hy => ?_⟩
        rcases List.mem_cons.1 hy with e | e
        · rw [e]; exact h'
        · exact h2 y e
      · refine .inr ⟨j + 1, by simpa using hj, by rw [h1]; omega, by simpa using h2, fun m hm hlt => ?_⟩
        match m, hm, hlt with
        | 0, _, _ => simpa using h'
        | m + 1, hm, hlt => simpa using h3 m (by simpa using hm) (by omega)
theorem plc_of {a : ByteArray} {l : List S26} {j : Nat} (hj : j < l.length) (h1 : sameF l[j] a = true) (h2 : ∀ m, ∀ hm : m < l.length, m < j → sameF l[m] a = false) : plc a 0 l = (j : Int) := by
  rcases plc_cases a l 0 with ⟨g1, g2⟩ | ⟨i, hi, g1, g2, g3⟩
  · rw [g2 _ (List.getElem_mem hj)] at h1; cases h1
  · rw [g1, Nat.zero_add]
    by_cases e : i = j
    · rw [e]
    · by_cases hlt : i < j
      · rw [h2 i hi hlt] at g2; cases g2
      · rw [g3 j hj (by omega)] at h1; cases h1
theorem sameF_name {x : S26} {a b : ByteArray} (y : ByteArray) : sameF (⟨x.f0, y⟩ : S26) a = sameF x a := rfl
/-- What is put: where it was found, or behind. -/
theorem put_cases (l : List S26) (a b : ByteArray) :
    (plc a 0 l = -1 ∧ (∀ x ∈ l, sameF x a = false) ∧ putO l a b = l ++ [⟨a, b⟩]) ∨
    ∃ j, ∃ h : j < l.length, plc a 0 l = (j : Int) ∧ sameF l[j] a = true ∧ (∀ m, ∀ hm : m < l.length, m < j → sameF l[m] a = false) ∧ putO l a b = l.set j ⟨l[j].f0, b⟩ := by
  unfold putO
  rcases plc_cases a l 0 with ⟨h1, h2⟩ | ⟨j, hj, h1, h2, h3⟩
  · exact .inl ⟨h1, h2, by rw [h1, if_neg (by omega)]⟩
  · rw [Nat.zero_add] at h1
    refine .inr ⟨j, hj, h1, h2, h3, ?_⟩
    rw [h1, if_pos (by omega), Int.toNat_natCast, rdF l j hj]
theorem putO_all {l : List S26} {a b : ByteArray} (hf : fieldOk (bytesOf a) (bytesOf b) = true) (h : ∀ x ∈ l, fOk x = true) : ∀ x ∈ putO l a b, fOk x = true := by
  intro x hx
  rcases put_cases l a b with ⟨_, _, e⟩ | ⟨j, hj, _, _, _, e⟩
  · rw [e] at hx
    rcases List.mem_append.1 hx with hx | hx
    · exact h x hx
    · obtain rfl : x = ⟨a, b⟩ := by simpa using hx
      exact hf
  · rw [e] at hx
    rcases List.mem_or_eq_of_mem_set hx with hx | hx
    · exact h x hx
    · have h1 := h _ (List.getElem_mem hj)
      unfold fOk at h1 ⊢
      rw [fieldOk_iff] at h1 hf
      rw [hx, fieldOk_iff]
      exact ⟨h1.1, hf.2⟩
theorem same_self (a b : ByteArray) : sameF (⟨a, b⟩ : S26) a = true := by simp [sameF]
theorem getF_at {l : List S26} {a : ByteArray} {j : Nat} (hj : j < l.length) (h : plc a 0 l = (j : Int)) : getF a l = (l[j].f1, true) := by
  rcases plc_get a l 0 with ⟨h1, h2⟩ | ⟨i, hi, h1, h2⟩
  · rw [h1] at h; omega
  · rw [h1, Nat.zero_add] at h
    have e : i = j := by omega
    subst e
    exact h2
/-- Behind a value that was put: where it stands, and what it is. -/
theorem put_place (l : List S26) (a b : ByteArray) : ∃ j, ∃ h : j < (putO l a b).length, plc a 0 (putO l a b) = (j : Int) ∧ (putO l a b)[j].f1 = b := by
  rcases put_cases l a b with ⟨_, h2, e⟩ | ⟨j, hj, _, h2, h3, e⟩
  · refine ⟨l.length, by rw [e]; simp, ?_, by simp [e]⟩
    refine plc_of (by rw [e]; simp) (by simp only [e, List.getElem_concat_length]; exact same_self a b) fun m hm hlt => ?_
    simp only [e]
    rw [List.getElem_append_left hlt]
    exact h2 _ (List.getElem_mem hlt)
  · refine ⟨j, by rw [e]; simpa using hj, ?_, by simp [e]⟩
    refine plc_of (by rw [e]; simpa using hj) (by simp only [e, List.getElem_set_self]; exact h2) fun m hm hlt => ?_
    simp only [e]
    rw [List.getElem_set_ne (by omega)]
    exact h3 m (by omega) hlt
theorem put_len (l : List S26) (a b : ByteArray) : (putO l a b).length = if (getF a l).2 = true then l.length else l.length + 1 := by
  rcases put_cases l a b with ⟨h1, _, e⟩ | ⟨j, hj, h1, _, _, e⟩
  · have : getF a l = ((⟨#[]⟩ : ByteArray), false) := by
      rcases plc_get a l 0 with ⟨_, g⟩ | ⟨i, hi, g, _⟩
      · exact g
      · rw [h1] at g; omega
    rw [e, this, if_neg (by simp)]
    simp
  · rw [e, getF_at hj h1, if_pos rfl]
    simp
/-- Put once more: the last value holds. -/
theorem put_put (l : List S26) (a b c : ByteArray) : putO (putO (putO l a b) a c) a b = putO l a b := by
  obtain ⟨j, hj, h1, h2⟩ := put_place l a b
  generalize putO l a b = x at hj h1 h2
  have e1 : putO x a c = x.set j ⟨x[j].f0, c⟩ := by
    rcases put_cases x a c with ⟨g, _, _⟩ | ⟨i, hi, g, _, _, e⟩
    · rw [h1] at g; omega
    · have : i = j := by rw [h1] at g; omega
      subst this
      exact e
  obtain ⟨i, hi, g1, g2⟩ := put_place x a c
  have hij : plc a 0 (putO x a c) = (j : Int) := by
    rcases plc_cases a x 0 with ⟨k1, _⟩ | ⟨m, hm, k1, k2, k3⟩
    · rw [h1] at k1; omega
    · rw [Nat.zero_add, h1] at k1
      have : m = j := by omega
      subst this
      refine plc_of (by rw [e1]; simpa using hj) (by simp only [e1, List.getElem_set_self]; exact k2) fun n hn hlt => ?_
      simp only [e1]
      rw [List.getElem_set_ne (by omega)]
      exact k3 n (by omega) hlt
  rcases put_cases (putO x a c) a b with ⟨k, _, _⟩ | ⟨m, hm, k, _, _, e⟩
  · rw [hij] at k; omega
  · have : m = j := by rw [hij] at k; omega
    subst this
    rw [e]
    simp only [e1, List.getElem_set_self, List.set_set]
    have hx : (⟨x[m].f0, b⟩ : S26) = x[m] := by rw [← h2]
    rw [hx, List.set_getElem_self]

/-! ## Trim and Split at one byte, on lists of bytes -/
def nb (l : List UInt8) : List Int := l.map fun b => (b.toNat : Int)
theorem nb_bytes (s : ByteArray) : bytesOf s = nb s.data.toList := rfl
theorem nb_mk (l : List UInt8) : bytesOf (⟨l.toArray⟩ : ByteArray) = nb l := rfl
theorem nb_inj32 (b : UInt8) : ((b.toNat : Int) = 32) ↔ b = 32 := by
  constructor
  · intro h
    apply UInt8.toNat_inj.1
    have : (32 : UInt8).toNat = 32 := rfl
    omega
  · intro h; rw [h]; rfl
theorem nb_ltrim (l : List UInt8) : nb (Lib.trimLeftB l 32) = ltrim (nb l) := by
  induction l with
  | nil => rfl
  | cons b r ih =>
    by_cases h : b = 32
    · subst h
      have e : nb ((32 : UInt8) :: r) = 32 :: nb r := rfl
      rw [e, ltrim_sp, ← ih]
      unfold Lib.trimLeftB
      rw [List.dropWhile_cons_of_pos (by simp)]
    · have e : nb (b :: r) = (b.toNat : Int) :: nb r := rfl
      rw [e, ltrim_ne _ (fun q => h ((nb_inj32 b).1 q))]
      unfold Lib.trimLeftB
      rw [List.dropWhile_cons_of_neg (by simpa using h), e]
theorem nb_rtrim (l : List UInt8) : nb (Lib.trimRightB l 32) = rtrim (nb l) := by
  have h : ∀ m : List UInt8, nb m.reverse = (nb m).reverse := fun m => by simp [nb]
  have e : Lib.trimRightB l 32 = (Lib.trimLeftB l.reverse 32).reverse := rfl
  rw [e, h, nb_ltrim, h]
  rfl
def trimS (s : ByteArray) : ByteArray := strOfNums (trimT (bytesOf s))
theorem trimT_IsB {l : List Int} (h : IsB l) : IsB (trimT l) := h.sub (trim_sub l).subset
theorem L_trimS (s : ByteArray) : bytesOf (trimS s) = trimT (bytesOf s) := L_S (trimT_IsB (L_IsB s))
theorem trimS_size (s : ByteArray) : (trimS s).size ≤ s.size := by
  rw [← L_len, L_trimS, ← L_len s]
  exact (trim_sub _).length_le
theorem strings_Trim_eq (s : ByteArray) (hs : s.size ≤ 9223372036854775807) : strings_Trim.f s (⟨#[32]⟩ : ByteArray) = some (trimS s) := by
  unfold strings_Trim.f
  show (if (32 : UInt8).toNat < 128 ∧ s.size ≤ 9223372036854775807 then _ else _) = _
  rw [if_pos ⟨by decide, hs⟩]
  refine congrArg some (L_inj ?_)
  rw [L_trimS, nb_mk, ← trim_comm]
  unfold Lib.trimB
  rw [nb_ltrim, nb_rtrim]
  rfl
theorem indexByte_cases (c : UInt8) : ∀ l : List UInt8, (Lib.indexByte l c = -1 ∧ c ∉ l) ∨ ∃ a b, l = a ++ c :: b ∧ c ∉ a ∧ Lib.indexByte l c = (a.length : Int)
  | [] => .inl ⟨rfl, by simp⟩
  | x :: r => by
    by_cases h : x = c
    · subst h
      exact .inr ⟨[], r, rfl, by simp, by simp [Lib.indexByte]⟩
    · rcases indexByte_cases c r with ⟨h1, h2⟩ | ⟨a, b, h1, h2, h3⟩
      · refine .inl ⟨?_, by simp [h2, Ne.symm h]⟩
        simp [Lib.indexByte, h, h1]
      · refine .inr ⟨x :: a, b, by rw [h1]; rfl, by simp [h2, Ne.symm h], ?_⟩
        simp only [Lib.indexByte, h3, List.length_cons]
        simp [h]
        try omega
theorem nb_ne {c : UInt8} {a : List UInt8} (h : c ∉ a) : ∀ x ∈ nb a, x ≠ (c.toNat : Int) := by
  intro x hx
  obtain ⟨b, hb, rfl⟩ := List.mem_map.1 hx
  intro e
  have : b = c := UInt8.toNat_inj.1 (by omega)
  exact h (this ▸ hb)
theorem splitK_pcs (c : UInt8) : ∀ (k : Nat) (l : List UInt8), l.count c = k → (Lib.splitK [c] 0 k l).map nb = pcs (c.toNat : Int) [] (nb l) := by
  intro k
  induction k with
  | zero =>
    intro l hk
    rw [Lib.splitK, pcs_none _ _ _ (nb_ne (List.count_eq_zero.1 hk))]
    rfl
  | succ k ih =>
    intro l hk
    rcases indexByte_cases c l with ⟨h1, h2⟩ | ⟨a, b, h1, h2, h3⟩
    · rw [List.count_eq_zero.2 h2] at hk
      omega
    · have hc : b.count c = k := by
        rw [h1, List.count_append, List.count_cons_self, List.count_eq_zero.2 h2] at hk
        omega
      have hn : ¬ (Lib.index l [c] == -1) = true := by
        rw [Lib.index_one, h3]
        intro e
        have := beq_iff_eq.1 e
        omega
      rw [Lib.splitK, if_neg hn, Lib.index_one, h3, Int.toNat_natCast, List.map_cons, Nat.add_zero]
      have e1 : l.take a.length = a := by rw [h1]; exact List.take_left
      have e2 : l.drop (a.length + [c].length) = b := by
        rw [h1, ← List.drop_drop, List.drop_left]; rfl
      rw [e1, e2, ih b hc]
      have e3 : nb l = nb a ++ (c.toNat : Int) :: nb b := by rw [h1]; simp [nb]
      rw [e3, pcs_hit _ _ _ _ (nb_ne h2)]
      rfl
theorem strings_Split_eq (s : ByteArray) (hs : s.size < 4294967281) : ∃ ps, strings_Split.f s (⟨#[46]⟩ : ByteArray) = some ps ∧ ps.map bytesOf = pcs 46 [] (bytesOf s) ∧ ps.length ≤ s.size + 1 := by
  refine ⟨Lib.splitB (⟨#[46]⟩ : ByteArray) 0 (Lib.countB s (⟨#[46]⟩ : ByteArray)) s, ?_, ?_, ?_⟩
  · unfold strings_Split.f
    rw [if_pos ⟨hs, rfl⟩]
  · have h := Lib.splitB_data (⟨#[46]⟩ : ByteArray) 0 (Lib.countB s (⟨#[46]⟩ : ByteArray)) s
    have e : (Lib.splitB (⟨#[46]⟩ : ByteArray) 0 (Lib.countB s (⟨#[46]⟩ : ByteArray)) s).map bytesOf = ((Lib.splitB (⟨#[46]⟩ : ByteArray) 0 (Lib.countB s (⟨#[46]⟩ : ByteArray)) s).map (·.data.toList)).map nb := by
      rw [List.map_map]; rfl
    rw [e, h]
    exact splitK_pcs 46 _ _ (Lib.count_one 46 s.data.toList).symm
  · rw [Lib.splitB_all (⟨#[46]⟩ : ByteArray) (Nat.le_refl 1) 0 _ s rfl]
    have := Lib.countB_le (⟨#[46]⟩ : ByteArray) (Nat.le_refl 1) s.size s (Nat.le_refl _)
    omega
theorem nilB (a : ByteArray) : a.toList = ([] : List UInt8) ↔ bytesOf a = [] := by rw [← toList_nil, toList_iff, ← L_iff, L_nil]
theorem head_bt (s : ByteArray) (h : 0 < s.size) : ∃ r, bytesOf s = bt s 0 :: r := by
  have := L_drop s 0 h
  rw [List.drop_zero] at this
  exact ⟨_, this⟩
theorem lt_cons (s : ByteArray) (h : 0 < s.size) (h32 : bt s 0 = 32) : ltrim (bytesOf s) = ltrim (bytesOf (s.extract 1 s.size)) := by
  have e := L_drop s 0 h
  rw [List.drop_zero] at e
  have h32' : bt s ((0 : Nat) : Int) = 32 := h32
  rw [L_from, e, h32', ltrim_sp]
  rfl
theorem snoc_bt (s : ByteArray) (h : 0 < s.size) : bytesOf s = bytesOf (s.extract 0 (s.size - 1)) ++ [bt s ((s.size - 1 : Nat) : Int)] := by
  have hl : s.size - 1 < (bytesOf s).length := by rw [L_len]; omega
  have e := List.take_succ_eq_append_getElem hl
  rw [show s.size - 1 + 1 = s.size by omega, List.take_of_length_le (by rw [L_len]; exact Nat.le_refl _), bytesOf_at s (s.size - 1) (by omega)] at e
  rw [L_to]
  exact e
theorem spec_l2Trim_l1 : ∀ (n : Nat) (s : ByteArray), s.size ≤ n → n ≤ 1048576 → Ev (fun k => spec_l2Trim.l1 k s) (strOfNums (rtrim (bytesOf s))) := by
  intro n
  induction n with
  | zero =>
    intro s hs hn
    refine ev_succ ?_
    simp only [spec_l2Trim.l1]
    have e : bytesOf s = [] := (size_nil_iff s).1 (by omega)
    refine ev_neg (by omega) (ev_of ?_)
    rw [e, rtrim_nil, ← e, S_L]
  | succ n ih =>
    intro s hs hn
    refine ev_succ ?_
    simp only [spec_l2Trim.l1]
    by_cases h0 : 0 < s.size
    · have ew : wrap64 ((s.size : Int) - 1) = ((s.size - 1 : Nat) : Int) := by rw [wrap_id (by omega) (by omega)]; omega
      rw [ew]
      have hz : (s.extract 0 (s.size - 1)).size = s.size - 1 := by rw [← L_len, L_to, List.length_take, L_len]; omega
      refine ev_pos (by omega) (ev_pos (by omega) (ev_pos (by omega) ?_))
      have e := snoc_bt s h0
      by_cases h32 : bt s ((s.size - 1 : Nat) : Int) = 32
      · rw [h32] at e ⊢
        rw [e, rtrim_sp, Int.toNat_natCast]
        exact ev_pos rfl (ev_pos (by omega) (ih _ (by omega) (by omega)))
      · refine ev_neg h32 (ev_of ?_)
        rw [e, rtrim_ne _ h32, ← e, S_L]
    · have e : bytesOf s = [] := (size_nil_iff s).1 (by omega)
      refine ev_neg (by omega) (ev_of ?_)
      rw [e, rtrim_nil, ← e, S_L]
theorem spec_l2Trim_l0 : ∀ (n : Nat) (s : ByteArray), s.size ≤ n → n ≤ 1048576 → Ev (fun k => spec_l2Trim.l0 k s) (trimS s) := by
  intro n
  induction n with
  | zero =>
    intro s hs hn
    refine ev_succ ?_
    simp only [spec_l2Trim.l0]
    have e : bytesOf s = [] := (size_nil_iff s).1 (by omega)
    refine ev_neg (by omega) (ev_succ ?_)
    simp only [spec_l2Trim.j1]
    refine ev_cast (spec_l2Trim_l1 0 s hs (by omega)) ?_
    unfold trimS trimT
    rw [e]; rfl
  | succ n ih =>
    intro s hs hn
    refine ev_succ ?_
    simp only [spec_l2Trim.l0]
    by_cases h0 : 0 < s.size
    · have hz : (s.extract 1 s.size).size = s.size - 1 := by rw [← L_len, L_from, List.length_drop, L_len]
      refine ev_pos (by omega) (ev_pos (by omega) ?_)
      by_cases h32 : bt s 0 = 32
      · refine ev_pos h32 (ev_pos (by omega) (ev_cast (ih _ (by omega) (by omega)) ?_))
        unfold trimS trimT
        rw [lt_cons s h0 h32]
      · refine ev_neg h32 (ev_succ ?_)
        simp only [spec_l2Trim.j1]
        refine ev_cast (spec_l2Trim_l1 (n + 1) s hs hn) ?_
        obtain ⟨r, e⟩ := head_bt s h0
        unfold trimS trimT
        rw [e, ltrim_ne r h32]
    · have e : bytesOf s = [] := (size_nil_iff s).1 (by omega)
      refine ev_neg (by omega) (ev_succ ?_)
      simp only [spec_l2Trim.j1]
      refine ev_cast (spec_l2Trim_l1 (n + 1) s hs hn) ?_
      unfold trimS trimT
      rw [e]; rfl
theorem spec_l2Trim_ev (s : ByteArray) (hs : s.size ≤ 1048576) : Ev (fun k => spec_l2Trim.f k s) (trimS s) := spec_l2Trim_l0 s.size s (Nat.le_refl _) hs
theorem trimS_eq (s : ByteArray) : ((trimS s).toList == s.toList) = decide (trimT (bytesOf s) = bytesOf s) := by
  rw [toList_beq]
  exact decide_eq_decide.2 (by rw [← L_iff, L_trimS])

/-! ## Words: what the printed functions of chapter 1 come to -/
theorem wrap_succ (i : Nat) (h : (i : Int) < 9223372036854775807) : wrap64 ((i : Int) + 1) = ((i + 1 : Nat) : Int) := by
  rw [wrap_id (by omega) (by omega)]; rfl
theorem allO_some {α : Type} {p : α → Option Bool} {q : α → Bool} (l : List α) (h : ∀ x ∈ l, p x = some (q x)) : allO p l = some (l.all q) := by
  induction l with
  | nil => rfl
  | cons x r ih =>
    rw [allO, h x (by simp), Option.bind_some, ih fun y hy => h y (List.mem_cons_of_mem _ hy), List.all_cons]
    cases q x <;> rfl
theorem anyO_some {α : Type} {p : α → Option Bool} {q : α → Bool} (l : List α) (h : ∀ x ∈ l, p x = some (q x)) : anyO p l = some (l.any q) := by
  induction l with
  | nil => rfl
  | cons x r ih =>
    rw [anyO, h x (by simp), Option.bind_some, ih fun y hy => h y (List.mem_cons_of_mem _ hy), List.any_cons]
    cases q x <;> rfl
theorem ev_anyO {α : Type} {p : Nat → α → Option Bool} {q : α → Bool} (l : List α) (h : ∀ x ∈ l, Ev (fun k => p k x) (q x)) : Ev (fun k => anyO (p k) l) (l.any q) := by
  induction l with
  | nil => exact Ev.now _
  | cons x r ih =>
    have h1 := h x (by simp)
    have h2 := ih fun y hy => h y (List.mem_cons_of_mem _ hy)
    simp only [anyO]
    refine ev_bind h1 ?_
    rw [List.any_cons]
    cases q x with
    | true => exact ev_pos rfl (Ev.now _)
    | false => exact ev_neg (by decide) h2

/-! ## Chapter 1 -/
theorem impl_isLetter_eq (x : Int) : impl_isLetter.f x = some (isLet x) := by
  unfold impl_isLetter.f isLet
  repeat' split
  all_goals first | exact congrArg some (decide_eq_true (by omega)).symm | exact congrArg some (decide_eq_false (by omega)).symm | exact congrArg some (decide_eq_decide.2 (by omega))
theorem impl_isDigit_eq (x : Int) : impl_isDigit.f x = some (isDig x) := by
  unfold impl_isDigit.f isDig
  repeat' split
  all_goals first | exact congrArg some (decide_eq_true (by omega)).symm | exact congrArg some (decide_eq_false (by omega)).symm | exact congrArg some (decide_eq_decide.2 (by omega))
theorem or_if {c P : Prop} [Decidable c] [Decidable P] {r : Option Bool} (h : r = some (decide P)) : (if c then some true else r) = some (decide (c ∨ P)) := by
  by_cases hc : c
  · rw [if_pos hc, decide_eq_true (Or.inl hc)]
  · rw [if_neg hc, h]
    exact congrArg some (decide_eq_decide.2 ⟨Or.inr, fun h => h.resolve_left hc⟩)
theorem impl_isAtomByte_eq (x : Int) : impl_isAtomByte.f x = some (isAtm x) := by
  unfold impl_isAtomByte.f
  have m : (if x ≥ 94 then (if x ≤ 96 then some true else (if x ≥ 123 then some (decide (x ≤ 126)) else some false)) else (if x ≥ 123 then some (decide (x ≤ 126)) else some false)) = some (decide ((94 ≤ x ∧ x ≤ 96) ∨ (123 ≤ x ∧ x ≤ 126))) := by
    repeat' split
    all_goals first | exact congrArg some (decide_eq_true (by omega)).symm | exact congrArg some (decide_eq_false (by omega)).symm | exact congrArg some (decide_eq_decide.2 (by omega))
  have t := or_if (c := x = 42) (or_if (c := x = 43) (or_if (c := x = 45) (or_if (c := x = 47) (or_if (c := x = 61) (or_if (c := x = 63) m)))))
  rw [t, impl_isLetter_eq, Option.bind_some, impl_isDigit_eq, Option.bind_some]
  have hL : isLet x = true ↔ (97 ≤ x ∧ x ≤ 122) ∨ (65 ≤ x ∧ x ≤ 90) := by simp [isLet]
  have hD : isDig x = true ↔ (48 ≤ x ∧ x ≤ 57) := by simp [isDig]
  have u : (if x ≥ 35 then (if x ≤ 39 then some true else some (decide (x = 42 ∨ x = 43 ∨ x = 45 ∨ x = 47 ∨ x = 61 ∨ x = 63 ∨ (94 ≤ x ∧ x ≤ 96) ∨ (123 ≤ x ∧ x ≤ 126)))) else some (decide (x = 42 ∨ x = 43 ∨ x = 45 ∨ x = 47 ∨ x = 61 ∨ x = 63 ∨ (94 ≤ x ∧ x ≤ 96) ∨ (123 ≤ x ∧ x ≤ 126)))) = some (decide ((35 ≤ x ∧ x ≤ 39) ∨ x = 42 ∨ x = 43 ∨ x = 45 ∨ x = 47 ∨ x = 61 ∨ x = 63 ∨ (94 ≤ x ∧ x ≤ 96) ∨ (123 ≤ x ∧ x ≤ 126))) := by
    by_cases h1 : x ≥ 35
    · by_cases h2 : x ≤ 39
      · rw [if_pos h1, if_pos h2]; exact congrArg some (decide_eq_true (by omega)).symm
      · rw [if_pos h1, if_neg h2]; exact congrArg some (decide_eq_decide.2 (by omega))
    · rw [if_neg h1]; exact congrArg some (decide_eq_decide.2 (by omega))
  rw [or_if (c := isLet x = true) (or_if (c := isDig x = true) (or_if (c := x = 33) u))]
  refine congrArg some (decide_eq_decide.2 ?_)
  rw [hL, hD]
  omega
theorem spec_l1Letter_eq (x : Int) : spec_l1Letter.f x = some (decide ((97 ≤ x ∧ x ≤ 122) ∨ (65 ≤ x ∧ x ≤ 90) ∨ (48 ≤ x ∧ x ≤ 57))) := by
  unfold spec_l1Letter.f
  repeat' split
  all_goals first | exact congrArg some (decide_eq_true (by omega)).symm | exact congrArg some (decide_eq_false (by omega)).symm | exact congrArg some (decide_eq_decide.2 (by omega))
theorem spec_l1Atom_ev (x : Int) : Ev (fun k => spec_l1Atom.f k x) (isAtm x) := by
  have e : ∀ k, spec_l1Atom.f (k + 20) x = some (isAtm x) := by
    intro k
    unfold spec_l1Atom.f
    have b0 : bt (⟨#[33, 35, 36, 37, 38, 39, 42, 43, 45, 47, 61, 63, 94, 95, 96, 123, 124, 125, 126]⟩ : ByteArray) 0 = 33 := by rfl
    have b1 : bt (⟨#[33, 35, 36, 37, 38, 39, 42, 43, 45, 47, 61, 63, 94, 95, 96, 123, 124, 125, 126]⟩ : ByteArray) 1 = 35 := by rfl
    have b2 : bt (⟨#[33, 35, 36, 37, 38, 39, 42, 43, 45, 47, 61, 63, 94, 95, 96, 123, 124, 125, 126]⟩ : ByteArray) 2 = 36 := by rfl
    have b3 : bt (⟨#[33, 35, 36, 37, 38, 39, 42, 43, 45, 47, 61, 63, 94, 95, 96, 123, 124, 125, 126]⟩ : ByteArray) 3 = 37 := by rfl
    have b4 : bt (⟨#[33, 35, 36, 37, 38, 39, 42, 43, 45, 47, 61, 63, 94, 95, 96, 123, 124, 125, 126]⟩ : ByteArray) 4 = 38 := by rfl
    have b5 : bt (⟨#[33, 35, 36, 37, 38, 39, 42, 43, 45, 47, 61, 63, 94, 95, 96, 123, 124, 125, 126]⟩ : ByteArray) 5 = 39 := by rfl
    have b6 : bt (⟨#[33, 35, 36, 37, 38, 39, 42, 43, 45, 47, 61, 63, 94, 95, 96, 123, 124, 125, 126]⟩ : ByteArray) 6 = 42 := by rfl
    have b7 : bt (⟨#[33, 35, 36, 37, 38, 39, 42, 43, 45, 47, 61, 63, 94, 95, 96, 123, 124, 125, 126]⟩ : ByteArray) 7 = 43 := by rfl
    have b8 : bt (⟨#[33, 35, 36, 37, 38, 39, 42, 43, 45, 47, 61, 63, 94, 95, 96, 123, 124, 125, 126]⟩ : ByteArray) 8 = 45 := by rfl
    have b9 : bt (⟨#[33, 35, 36, 37, 38, 39, 42, 43, 45, 47, 61, 63, 94, 95, 96, 123, 124, 125, 126]⟩ : ByteArray) 9 = 47 := by rfl
    have b10 : bt (⟨#[33, 35, 36, 37, 38, 39, 42, 43, 45, 47, 61, 63, 94, 95, 96, 123, 124, 125, 126]⟩ : ByteArray) 10 = 61 := by rfl
    have b11 : bt (⟨#[33, 35, 36, 37, 38, 39, 42, 43, 45, 47, 61, 63, 94, 95, 96, 123, 124, 125, 126]⟩ : ByteArray) 11 = 63 := by rfl
    have b12 : bt (⟨#[33, 35, 36, 37, 38, 39, 42, 43, 45, 47, 61, 63, 94, 95, 96, 123, 124, 125, 126]⟩ : ByteArray) 12 = 94 := by rfl
    have b13 : bt (⟨#[33, 35, 36, 37, 38, 39, 42, 43, 45, 47, 61, 63, 94, 95, 96, 123, 124, 125, 126]⟩ : ByteArray) 13 = 95 := by rfl
    have b14 : bt (⟨#[33, 35, 36, 37, 38, 39, 42, 43, 45, 47, 61, 63, 94, 95, 96, 123, 124, 125, 126]⟩ : ByteArray) 14 = 96 := by rfl
    have b15 : bt (⟨#[33, 35, 36, 37, 38, 39, 42, 43, 45, 47, 61, 63, 94, 95, 96, 123, 124, 125, 126]⟩ : ByteArray) 15 = 123 := by rfl
    have b16 : bt (⟨#[33, 35, 36, 37, 38, 39, 42, 43, 45, 47, 61, 63, 94, 95, 96, 123, 124, 125, 126]⟩ : ByteArray) 16 = 124 := by rfl
    have b17 : bt (⟨#[33, 35, 36, 37, 38, 39, 42, 43, 45, 47, 61, 63, 94, 95, 96, 123, 124, 125, 126]⟩ : ByteArray) 17 = 125 := by rfl
    have b18 : bt (⟨#[33, 35, 36, 37, 38, 39, 42, 43, 45, 47, 61, 63, 94, 95, 96, 123, 124, 125, 126]⟩ : ByteArray) 18 = 126 := by rfl
    simp only [spec_l1Atom.l0, spec_l1Letter_eq, Option.bind_some, show wrap64 (0 + 1) = 1 by unfold wrap64; omega, show wrap64 (1 + 1) = 2 by unfold wrap64; omega, show wrap64 (2 + 1) = 3 by unfold wrap64; omega, show wrap64 (3 + 1) = 4 by unfold wrap64; omega, show wrap64 (4 + 1) = 5 by unfold wrap64; omega, show wrap64 (5 + 1) = 6 by unfold wrap64; omega, show wrap64 (6 + 1) = 7 by unfold wrap64; omega, show wrap64 (7 + 1) = 8 by unfold wrap64; omega, show wrap64 (8 + 1) = 9 by unfold wrap64; omega, show wrap64 (9 + 1) = 10 by unfold wrap64; omega, show wrap64 (10 + 1) = 11 by unfold wrap64; omega, show wrap64 (11 + 1) = 12 by unfold wrap64; omega, show wrap64 (12 + 1) = 13 by unfold wrap64; omega, show wrap64 (13 + 1) = 14 by unfold wrap64; omega, show wrap64 (14 + 1) = 15 by unfold wrap64; omega, show wrap64 (15 + 1) = 16 by unfold wrap64; omega, show wrap64 (16 + 1) = 17 by unfold wrap64; omega, show wrap64 (17 + 1) = 18 by unfold wrap64; omega, show wrap64 (18 + 1) = 19 by unfold wrap64; omega, Int.reduceLT, Int.reduceLE, if_true, if_false, b0, b1, b2, b3, b4, b5, b6, b7, b8, b9, b10, b11, b12, b13, b14, b15, b16, b17, b18]
    rw [or_if (c := x = 33) (or_if (c := x = 35) (or_if (c := x = 36) (or_if (c := x = 37) (or_if (c := x = 38) (or_if (c := x = 39) (or_if (c := x = 42) (or_if (c := x = 43) (or_if (c := x = 45) (or_if (c := x = 47) (or_if (c := x = 61) (or_if (c := x = 63) (or_if (c := x = 94) (or_if (c := x = 95) (or_if (c := x = 96) (or_if (c := x = 123) (or_if (c := x = 124) (or_if (c := x = 125) (or_if (c := x = 126) rfl))))))))))))))))))]
    exact congrArg some (decide_eq_decide.2 (by omega))
  refine ⟨20, fun k hk => ?_⟩
  obtain ⟨m, rfl⟩ : ∃ m, k = m + 20 := ⟨k - 20, by omega⟩
  exact e m
theorem impl_TextValid_l0 (s : ByteArray) (hs : s.size ≤ 4611686018427387904) : ∀ (d i : Nat), i + d = s.size → Ev (fun k => impl_TextValid.l0 k s (s.size : Int) (i : Int)) (decide (s.size ≤ 200) && ((bytesOf s).drop i).all isTxt) := by
  intro d
  induction d with
  | zero =>
    intro i hi
    refine ev_succ ?_
    simp only [impl_TextValid.l0]
    refine ev_neg (by omega) ?_
    rw [L_drop_nil s i (by omega), List.all_nil, Bool.and_true]
    exact ev_of (congrArg some (decide_eq_decide.2 (by omega)))
  | succ d ih =>
    intro i hi
    refine ev_succ ?_
    simp only [impl_TextValid.l0]
    refine ev_pos (by omega) (ev_pos (by omega) (ev_pos (by omega) ?_))
    rw [L_drop s i (by omega), List.all_cons, wrap_succ i (by omega)]
    by_cases h1 : bt s i < 32
    · refine ev_pos h1 (ev_of ?_)
      rw [show isTxt (bt s i) = false from decide_eq_false (by omega), Bool.false_and, Bool.and_false]
    · refine ev_neg h1 ?_
      by_cases h2 : bt s i > 126
      · refine ev_pos h2 (ev_of ?_)
        rw [show isTxt (bt s i) = false from decide_eq_false (by omega), Bool.false_and, Bool.and_false]
      · refine ev_neg h2 ?_
        rw [show isTxt (bt s i) = true from decide_eq_true (by omega), Bool.true_and]
        exact ih (i + 1) (by omega)
theorem impl_TextValid_ev (s : ByteArray) (hs : s.size ≤ 4611686018427387904) : Ev (fun k => impl_TextValid.f k s) (textOk (bytesOf s)) := by
  have h := impl_TextValid_l0 s hs s.size 0 (by omega)
  rw [List.drop_zero] at h
  unfold textOk
  rw [L_len]
  exact h
theorem spec_TextValid_l0 (s : ByteArray) (hs : s.size ≤ 4611686018427387904) : ∀ (d i : Nat), i + d = s.size → i ≤ 201 → Ev (fun k => spec_TextValid.l0 k s (i : Int)) (decide (s.size ≤ 200) && ((bytesOf s).drop i).all isTxt) := by
  intro d
  induction d with
  | zero =>
    intro i hi _
    refine ev_succ ?_
    simp only [spec_TextValid.l0]
    refine ev_neg (by omega) (ev_succ ?_)
    simp only [spec_TextValid.j1, if_true, Bool.false_eq_true, if_false]
    rw [L_drop_nil s i (by omega), List.all_nil, Bool.and_true]
    exact ev_of (congrArg some (decide_eq_decide.2 (by omega)))
  | succ d ih =>
    intro i hi h201
    refine ev_succ ?_
    simp only [spec_TextValid.l0]
    refine ev_pos (by omega) (ev_succ ?_)
    by_cases h0 : (i : Int) ≤ 200
    · simp only [decide_eq_true h0, spec_TextValid.j1, if_true]
      refine ev_pos (by omega) (ev_pos (by omega) ?_)
      rw [L_drop s i (by omega), List.all_cons, wrap_succ i (by omega)]
      by_cases h1 : bt s i < 32
      · refine ev_pos h1 (ev_of ?_)
        rw [show isTxt (bt s i) = false from decide_eq_false (by omega), Bool.false_and, Bool.and_false]
      · refine ev_neg h1 ?_
        by_cases h2 : bt s i > 126
        · refine ev_pos h2 (ev_of ?_)
          rw [show isTxt (bt s i) = false from decide_eq_false (by omega), Bool.false_and, Bool.and_false]
        · refine ev_neg h2 ?_
          rw [show isTxt (bt s i) = true from decide_eq_true (by omega), Bool.true_and]
          exact ih (i + 1) (by omega) (by omega)
    · simp only [decide_eq_false h0, spec_TextValid.j1, Bool.false_eq_true, if_false]
      refine ev_of ?_
      rw [show decide (s.size ≤ 200) = false from decide_eq_false (by omega), Bool.false_and]
      exact congrArg some (decide_eq_false (by omega))
theorem spec_TextValid_ev (s : ByteArray) (hs : s.size ≤ 4611686018427387904) : Ev (fun k => spec_TextValid.f k s) (textOk (bytesOf s)) := by
  have h := spec_TextValid_l0 s hs s.size 0 (by omega) (by omega)
  rw [List.drop_zero] at h
  unfold textOk
  rw [L_len]
  exact h
theorem impl_AtomValid_eq (s : ByteArray) : impl_AtomValid.f s = some (atomOk (bytesOf s)) := by
  unfold impl_AtomValid.f
  by_cases h1 : (s.size : Int) ≥ 1
  · rw [if_pos h1]
    by_cases h2 : (s.size : Int) ≤ 40
    · rw [if_pos h2, allBytes__impl_isAtomByte.f, if_pos (by omega), allO_some (q := isAtm) _ fun x _ => impl_isAtomByte_eq x, Option.bind_some]
      unfold atomOk
      rw [decide_eq_true (by rw [L_len]; omega), Bool.true_and]
    · rw [if_neg h2]
      unfold atomOk
      rw [decide_eq_false (by rw [L_len]; omega), Bool.false_and]
  · rw [if_neg h1]
    unfold atomOk
    rw [decide_eq_false (by rw [L_len]; omega), Bool.false_and]
theorem spec_AtomValid_l0 (s : ByteArray) (hs : s.size ≤ 4611686018427387904) : ∀ (d i : Nat), i + d = s.size → i ≤ 41 → Ev (fun k => spec_AtomValid.l0 k s (i : Int)) (decide (1 ≤ s.size ∧ s.size ≤ 40) && ((bytesOf s).drop i).all isAtm) := by
  have fin : ∀ i : Nat, (i = s.size ∨ 40 < i) → i ≤ s.size → Ev (fun _ => (if (s.size : Int) ≥ 1 then some (decide ((s.size : Int) ≤ 40)) else some false)) (decide (1 ≤ s.size ∧ s.size ≤ 40) && ((bytesOf s).drop i).all isAtm) := by
    intro i hi hle
    have e : (decide (1 ≤ s.size ∧ s.size ≤ 40) && ((bytesOf s).drop i).all isAtm) = decide (1 ≤ s.size ∧ s.size ≤ 40) := by
      rcases hi with hi | hi
      · rw [L_drop_nil s i (by omega), List.all_nil, Bool.and_true]
      · rw [show decide (1 ≤ s.size ∧ s.size ≤ 40) = false from decide_eq_false (by omega), Bool.false_and]
    rw [e]
    by_cases h1 : (s.size : Int) ≥ 1
    · exact ev_pos h1 (ev_of (congrArg some (decide_eq_decide.2 (by omega))))
    · exact ev_neg h1 (ev_of (congrArg some (decide_eq_false (by omega)).symm))
  intro d
  induction d with
  | zero =>
    intro i hi _
    refine ev_succ ?_
    simp only [spec_AtomValid.l0]
    refine ev_neg (by omega) (ev_succ ?_)
    simp only [spec_AtomValid.j1, Bool.false_eq_true, if_false]
    exact fin i (by omega) (by omega)
  | succ d ih =>
    intro i hi h41
    refine ev_succ ?_
    simp only [spec_AtomValid.l0]
    refine ev_pos (by omega) (ev_succ ?_)
    by_cases h0 : (i : Int) ≤ 40
    · simp only [decide_eq_true h0, spec_AtomValid.j1, if_true]
      refine ev_pos (by omega) (ev_pos (by omega) (ev_bind (spec_l1Atom_ev _) ?_))
      rw [L_drop s i (by omega), List.all_cons, wrap_succ i (by omega)]
      cases hA : isAtm (bt s i) with
      | true =>
        refine ev_pos rfl ?_
        rw [Bool.true_and]
        exact ih (i + 1) (by omega) (by omega)
      | false =>
        refine ev_neg (by decide) (ev_of ?_)
        rw [Bool.false_and, Bool.and_false]
    · simp only [decide_eq_false h0, spec_AtomValid.j1, Bool.false_eq_true, if_false]
      exact fin i (by omega) (by omega)
theorem spec_AtomValid_ev (s : ByteArray) (hs : s.size ≤ 4611686018427387904) : Ev (fun k => spec_AtomValid.f k s) (atomOk (bytesOf s)) := by
  have h := spec_AtomValid_l0 s hs s.size 0 (by omega) (by omega)
  rw [List.drop_zero] at h
  unfold atomOk
  rw [L_len]
  exact h

/-! ## What the printed checks of fields come to -/
theorem impl_isName_1_eq (x : Int) : impl_isName_1.f x = some (isNm x) := by
  unfold impl_isName_1.f isNm
  rw [impl_isLetter_eq, Option.bind_some, impl_isDigit_eq, Option.bind_some]
  simp only [isLet, isDig, decide_eq_true_eq]
  by_cases h1 : (97 ≤ x ∧ x ≤ 122) ∨ (65 ≤ x ∧ x ≤ 90)
  · rw [if_pos h1]; exact congrArg some (decide_eq_true (by omega)).symm
  · rw [if_neg h1]
    by_cases h2 : 48 ≤ x ∧ x ≤ 57
    · rw [if_pos h2]; exact congrArg some (decide_eq_true (by omega)).symm
    · rw [if_neg h2]
      refine congrArg some ?_
      rw [Bool.eq_iff_iff, beq_iff_eq, decide_eq_true_eq]
      omega
theorem impl_isName_eq (s : ByteArray) : impl_isName.f s = some (nameOk (bytesOf s)) := by
  unfold impl_isName.f nameOk
  rw [L_len]
  by_cases h1 : (s.size : Int) ≥ 1
  · rw [if_pos h1]
    by_cases h2 : (s.size : Int) ≤ 30
    · obtain ⟨r, e⟩ := head_bt s (by omega)
      rw [if_pos h2, if_pos (by omega), impl_isLetter_eq, Option.bind_some, decide_eq_true (by omega), Bool.true_and, e]
      simp only
      cases isLet (bt s 0) with
      | false => rw [if_neg (by decide), Bool.false_and]
      | true => rw [if_pos rfl, Bool.true_and, ← e, allBytes__impl_isName_1.f, if_pos (by omega), allO_some (q := isNm) _ fun x _ => impl_isName_1_eq x, Option.bind_some]
    · rw [if_neg h2, decide_eq_false (by omega), Bool.false_and]
  · rw [if_neg h1, decide_eq_false (by omega), Bool.false_and]
theorem impl_FieldValid_ev (a b : ByteArray) (ha : a.size ≤ 1048576) (hb : b.size ≤ 1048576) : Ev (fun k => impl_FieldValid.f k a b) (fieldOk (bytesOf a) (bytesOf b)) := by
  unfold impl_FieldValid.f fieldOk
  refine ev_bind1 (impl_isName_eq a) ?_
  cases nameOk (bytesOf a) with
  | false => exact ev_neg (by decide) (Ev.now _)
  | true =>
    refine ev_pos rfl (ev_bind (impl_TextValid_ev b (by omega)) ?_)
    cases textOk (bytesOf b) with
    | false => exact ev_neg (by decide) (Ev.now _)
    | true =>
      refine ev_pos rfl ?_
      by_cases h : (b.size : Int) ≤ 150
      · refine ev_pos h (ev_bind1 (strings_Trim_eq b (by omega)) (ev_of ?_))
        rw [trimS_eq, decide_eq_true (p := (bytesOf b).length ≤ 150) (by rw [L_len]; omega)]
        rfl
      · refine ev_neg h (ev_of ?_)
        rw [decide_eq_false (p := (bytesOf b).length ≤ 150) (by rw [L_len]; omega)]
        rfl
theorem spec_nm (x : Int) : decide ((97 ≤ x ∧ x ≤ 122) ∨ (65 ≤ x ∧ x ≤ 90) ∨ (48 ≤ x ∧ x ≤ 57)) = true ∨ x = 45 ↔ isNm x = true := by
  simp only [isNm, decide_eq_true_eq]
  omega
theorem spec_l3Name_l0 (s : ByteArray) (hs : s.size ≤ 1048576) : ∀ (d i : Nat), i + d = s.size → 1 ≤ i → i ≤ 31 → Ev (fun k => spec_l3Name.l0 k s (i : Int)) (decide (s.size ≤ 30) && ((bytesOf s).drop i).all isNm) := by
  intro d
  induction d with
  | zero =>
    intro i hi h1 h31
    refine ev_succ ?_
    simp only [spec_l3Name.l0]
    refine ev_neg (by omega) (ev_succ ?_)
    simp only [spec_l3Name.j1, Bool.false_eq_true, if_false]
    rw [L_drop_nil s i (by omega), List.all_nil, Bool.and_true]
    exact ev_pos (by omega) (ev_of (congrArg some (decide_eq_decide.2 (by omega))))
  | succ d ih =>
    intro i hi h1 h31
    refine ev_succ ?_
    simp only [spec_l3Name.l0]
    refine ev_pos (by omega) (ev_succ ?_)
    by_cases h0 : (i : Int) ≤ 30
    · simp only [decide_eq_true h0, spec_l3Name.j1, if_true]
      rw [L_drop s i (by omega), List.all_cons, wrap_succ i (by omega)]
      have hiff := spec_nm (bt s i)
      have hgo := ih (i + 1) (by omega) (by omega) (by omega)
      refine ev_pos (by omega) (ev_pos (by omega) (ev_bind1 (spec_l1Letter_eq _) ?_))
      cases hn : isNm (bt s i) with
      | true =>
        rw [Bool.true_and]
        by_cases h2 : decide ((97 ≤ bt s i ∧ bt s i ≤ 122) ∨ (65 ≤ bt s i ∧ bt s i ≤ 90) ∨ (48 ≤ bt s i ∧ bt s i ≤ 57)) = true
        · exact ev_pos h2 (ev_neg (by omega) hgo)
        · exact ev_neg h2 (ev_pos ((hiff.2 hn).resolve_left h2) (ev_neg (by omega) hgo))
      | false =>
        have h3 : ¬ _ := fun h => by have := hiff.1 h; rw [hn] at this; cases this
        rw [Bool.false_and, Bool.and_false]
        exact ev_neg (fun h => h3 (.inl h)) (ev_neg (fun h => h3 (.inr h)) (Ev.now _))
    · simp only [decide_eq_false h0, spec_l3Name.j1, Bool.false_eq_true, if_false]
      rw [decide_eq_false (p := s.size ≤ 30) (by omega), Bool.false_and]
      exact ev_pos (by omega) (ev_of (congrArg some (decide_eq_false (by omega))))
theorem spec_l3Name_ev (s : ByteArray) (hs : s.size ≤ 1048576) : Ev (fun k => spec_l3Name.f k s) (nameOk (bytesOf s)) := by
  unfold spec_l3Name.f nameOk
  rw [L_len]
  refine ev_succ ?_
  simp only [spec_l3Name.l0]
  by_cases h0 : 0 < s.size
  · obtain ⟨r, e⟩ := head_bt s h0
    have er : r = (bytesOf s).drop 1 := by rw [e]; rfl
    have hgo := spec_l3Name_l0 s hs (s.size - 1) 1 (by omega) (by omega) (by omega)
    have hw : wrap64 ((0 : Int) + 1) = ((1 : Nat) : Int) := by unfold wrap64; omega
    refine ev_pos (by omega) (ev_succ ?_)
    simp only [show decide ((0 : Int) ≤ 30) = true from rfl, spec_l3Name.j1, if_true]
    rw [e, hw]
    simp only [List.all_cons]
    have hiff := spec_nm (bt s 0)
    have key : (decide (1 ≤ s.size ∧ s.size ≤ 30) && (isLet (bt s 0) && (isNm (bt s 0) && r.all isNm))) = (if isLet (bt s 0) = true then (decide (s.size ≤ 30) && r.all isNm) else false) := by
      cases hl : isLet (bt s 0) with
      | true =>
        have : isNm (bt s 0) = true := by
          simp only [isLet, isNm, decide_eq_true_eq] at hl ⊢
          omega
        rw [this, if_pos rfl, Bool.true_and, Bool.true_and]
        congr 1
        exact decide_eq_decide.2 (by omega)
      | false => simp
    rw [key, er]
    have hlet : isLet (bt s 0) = true ↔ (97 ≤ bt s 0 ∧ bt s 0 ≤ 122) ∨ (65 ≤ bt s 0 ∧ bt s 0 ≤ 90) := by simp [isLet]
    refine ev_pos (by omega) (ev_pos (by omega) (ev_bind1 (spec_l1Letter_eq _) ?_))
    by_cases h2 : decide ((97 ≤ bt s 0 ∧ bt s 0 ≤ 122) ∨ (65 ≤ bt s 0 ∧ bt s 0 ≤ 90) ∨ (48 ≤ bt s 0 ∧ bt s 0 ≤ 57)) = true
    · have h2' := of_decide_eq_true h2
      refine ev_pos h2 ?_
      by_cases h3 : bt s 0 ≤ 57
      · rw [if_neg (fun h => by have := hlet.1 h; omega)]
        exact ev_pos h3 (Ev.now _)
      · rw [if_pos (hlet.2 (by omega))]
        exact ev_neg h3 hgo
    · have h2' : ¬ _ := fun h => h2 (decide_eq_true h)
      rw [if_neg (fun h => h2' (by have := hlet.1 h; omega))]
      refine ev_neg h2 ?_
      by_cases h4 : bt s 0 = 45
      · exact ev_pos h4 (ev_pos (by omega) (Ev.now _))
      · exact ev_neg h4 (Ev.now _)
  · refine ev_neg (by omega) (ev_succ ?_)
    simp only [spec_l3Name.j1, Bool.false_eq_true, if_false]
    rw [decide_eq_false (p := 1 ≤ s.size ∧ s.size ≤ 30) (by omega), Bool.false_and]
    exact ev_neg (by omega) (Ev.now _)
theorem spec_FieldValid_ev (a b : ByteArray) (ha : a.size ≤ 1048576) (hb : b.size ≤ 1048576) : Ev (fun k => spec_FieldValid.f k a b) (fieldOk (bytesOf a) (bytesOf b)) := by
  unfold spec_FieldValid.f fieldOk
  refine ev_bind (spec_l3Name_ev a ha) ?_
  cases nameOk (bytesOf a) with
  | false => exact ev_neg (by decide) (Ev.now _)
  | true =>
    refine ev_pos rfl (ev_bind (spec_TextValid_ev b (by omega)) ?_)
    cases textOk (bytesOf b) with
    | false => exact ev_neg (by decide) (Ev.now _)
    | true =>
      refine ev_pos rfl ?_
      by_cases h : (b.size : Int) ≤ 150
      · refine ev_pos h (ev_bind (spec_l2Trim_ev b hb) (ev_of ?_))
        rw [trimS_eq, decide_eq_true (p := (bytesOf b).length ≤ 150) (by rw [L_len]; omega)]
        rfl
      · refine ev_neg h (ev_of ?_)
        rw [decide_eq_false (p := (bytesOf b).length ≤ 150) (by rw [L_len]; omega)]
        rfl

/-! ## What the printed checks of lists of fields, and PutField, come to -/
/-- Each of them small. -/
def smV (l : List S26) : Prop := ∀ x ∈ l, x.f0.size ≤ 1048576 ∧ x.f1.size ≤ 1048576
theorem smV_smF {l : List S26} (h : smV l) : smF l := fun x hx => by have := (h x hx).1; omega
theorem smV_put {l : List S26} (h : smV l) {a b : ByteArray} (ha : a.size ≤ 1048576) (hb : b.size ≤ 1048576) : smV (putO l a b) := by
  intro x hx
  rcases put_cases l a b with ⟨_, _, e⟩ | ⟨j, hj, _, _, _, e⟩
  · rw [e] at hx
    rcases List.mem_append.1 hx with hx | hx
    · exact h x hx
    · obtain rfl : x = ⟨a, b⟩ := by simpa using hx
      exact ⟨ha, hb⟩
  · rw [e] at hx
    rcases List.mem_or_eq_of_mem_set hx with hx | hx
    · exact h x hx
    · rw [hx]; exact ⟨(h _ (List.getElem_mem hj)).1, hb⟩
theorem fsOk_any (l : List S26) : (!(l.any fun x => !fOk x)) = l.all fOk := by rw [List.not_any_eq_all_not]; simp
theorem impl_fieldsValid_ev (l : List S26) (h : smV l) : Ev (fun k => impl_fieldsValid.f k l) (fsOk l) := by
  unfold impl_fieldsValid.f fsOk
  by_cases hz : (l.length : Int) ≤ 20
  · rw [decide_eq_true (p := l.length ≤ 20) (by omega), Bool.true_and]
    have ha : Ev (fun k => anyO (fun x : S26 => impl_fieldsValid_1.f k x.f0 x.f1) l) (l.any fun x => !fOk x) := by
      refine ev_anyO l fun x hm => ?_
      obtain ⟨h1, h2⟩ := h x hm
      unfold impl_fieldsValid_1.f
      exact ev_bind (impl_FieldValid_ev x.f0 x.f1 h1 h2) (Ev.now _)
    refine ev_pos hz (ev_bind ha (ev_of ?_))
    rw [fsOk_any]
  · rw [decide_eq_false (p := l.length ≤ 20) (by omega), Bool.false_and]
    exact ev_neg hz (Ev.now _)
theorem impl_PutField_j0 (l o : List S26) (a b : ByteArray) (h : smV l) (ho : smV o) (ha : a.size ≤ 1048576) (hb : b.size ≤ 1048576) : Ev (fun k => impl_PutField.j0 k l o a b) (if fieldOk (bytesOf a) (bytesOf b) = true ∧ fsOk l = true ∧ fsOk o = true then (o, true) else ([], false)) := by
  refine ev_succ ?_
  simp only [impl_PutField.j0]
  refine ev_bind (impl_FieldValid_ev a b ha hb) ?_
  by_cases h1 : fieldOk (bytesOf a) (bytesOf b) = true
  · refine ev_pos h1 (ev_bind (impl_fieldsValid_ev l h) ?_)
    by_cases h2 : fsOk l = true
    · refine ev_pos h2 (ev_bind (impl_fieldsValid_ev o ho) ?_)
      by_cases h3 : fsOk o = true
      · exact ev_pos h3 (ev_of (congrArg some (if_pos ⟨h1, h2, h3⟩).symm))
      · exact ev_neg h3 (ev_of (congrArg some (if_neg fun e => h3 e.2.2).symm))
    · exact ev_neg h2 (ev_of (congrArg some (if_neg fun e => h2 e.2.1).symm))
  · exact ev_neg h1 (ev_of (congrArg some (if_neg fun e => h1 e.1).symm))
theorem impl_PutField_ev (l : List S26) (a b : ByteArray) (hz : l.length ≤ 1000000000000) (h : smV l) (ha : a.size ≤ 1048576) (hb : b.size ≤ 1048576) : Ev (fun k => impl_PutField.f k l a b) (putV l a b) := by
  have hp := smV_put h ha hb
  have hj := impl_PutField_j0 l (putO l a b) a b h hp ha hb
  unfold impl_PutField.f slices_Clone_impl_Field_impl_Field.f
  refine ev_bind1 (if_pos (by omega)) (ev_bind1 (impl_fieldPlace_eq l a (smV_smF h) (by omega)) ?_)
  rcases put_cases l a b with ⟨h1, _, e⟩ | ⟨j, hj', h1, _, _, e⟩
  · refine ev_neg (by omega) (ev_pos (by omega) ?_)
    rw [e] at hj
    unfold putV
    rw [e]
    exact hj
  · rw [h1, Int.toNat_natCast, rdF l j hj']
    refine ev_pos (by omega) (ev_pos (by omega) (ev_pos (by omega) ?_))
    rw [e] at hj
    unfold putV
    rw [e]
    exact hj

/-! ## Draws: each comes to something small -/
theorem ev_k1 {α : Type} {g : Nat → Option α} {r : α} (h : ∀ k, g (k + 1) = some r) : Ev g r := by
  refine ⟨1, fun k hk => ?_⟩
  obtain ⟨m, rfl⟩ : ∃ m, k = m + 1 := ⟨k - 1, by omega⟩
  exact h m
theorem rd_range (b : List Int) (hb : IsB b) (i : Int) : 0 ≤ rd b i ∧ rd b i ≤ 255 := by
  unfold rd
  rw [List.getD_eq_getElem?_getD]
  cases h : b[i.toNat]? with
  | none => exact ⟨by decide, by decide⟩
  | some x => exact hb x (List.mem_of_getElem? h)
theorem pick_some (b : List Int) (hb : IsB b) (hl : b.length ≤ 2000) (p n : Int) (hp0 : 0 ≤ p) (hp1 : p ≤ 1000000) (hn : n ≤ 1000000) :
    ∃ v, Ev (fun k => spec_l13Rd_pick.f k b p n) (v, p + 1) ∧ 0 ≤ v ∧ (1 ≤ n → v < n) := by
  have e1 : wrap64 (p + 1) = p + 1 := wrap_id (by omega) (by omega)
  have e2 : wrap64 (p + 1 - 1) = p := by rw [wrap_id (by omega) (by omega)]; omega
  by_cases hn1 : n < 1
  · refine ⟨0, ev_k1 fun k => ?_, by omega, fun h => by omega⟩
    unfold spec_l13Rd_pick.f
    rw [if_pos hn1, e1]
    simp only [spec_l13Rd_pick.j0, if_true]
  · by_cases hz : b.length = 0
    · refine ⟨0, ev_k1 fun k => ?_, by omega, fun h => by omega⟩
      unfold spec_l13Rd_pick.f
      rw [if_neg hn1, e1, show ((b.length : Int) == 0) = true from beq_iff_eq.2 (by omega)]
      simp only [spec_l13Rd_pick.j0, if_true]
    · have hz' : ((b.length : Int) == 0) = false := beq_eq_false_iff_ne.2 (by omega)
      by_cases hlt : p < (b.length : Int)
      · have hr := rd_range b hb p
        refine ⟨Int.tmod (rd b p) n, ev_k1 fun k => ?_, Int.tmod_nonneg _ hr.1, fun _ => Int.tmod_lt_of_pos _ (by omega)⟩
        unfold spec_l13Rd_pick.f
        rw [if_neg hn1, e1, hz']
        simp only [spec_l13Rd_pick.j0, Bool.false_eq_true, if_false]
        rw [e2, if_pos hlt, if_pos hp0, if_neg (by omega), wrap_id (x := rd b p) (by omega) (by omega)]
      · have h1 : 0 ≤ Int.tmod p b.length := Int.tmod_nonneg _ hp0
        have h2 : Int.tmod p b.length < b.length := Int.tmod_lt_of_pos _ (by omega)
        have e3 : wrap64 (wrap64 (p * 7) + 3) = p * 7 + 3 := by rw [wrap_id (x := p * 7) (by omega) (by omega), wrap_id (by omega) (by omega)]
        have h3 : 0 ≤ Int.tmod (p * 7 + 3) b.length := Int.tmod_nonneg _ (by omega)
        have h4 : Int.tmod (p * 7 + 3) b.length < b.length := Int.tmod_lt_of_pos _ (by omega)
        have r1 := rd_range b hb (Int.tmod p b.length)
        have r2 := rd_range b hb (Int.tmod (p * 7 + 3) b.length)
        have q1 : 0 ≤ Int.tdiv p b.length := Int.tdiv_nonneg hp0 (by omega)
        have q2 : Int.tdiv p b.length ≤ p := by
          rw [Int.tdiv_eq_ediv_of_nonneg hp0]
          exact Int.ediv_le_self _ hp0
        obtain ⟨x, hx, x0, x1⟩ : ∃ x, wrap64 (wrap64 (wrap64 (wrap64 (wrap64 (rd b (Int.tmod p b.length)) * 131) + wrap64 (wrap64 (rd b (Int.tmod (p * 7 + 3) b.length)) * 1117)) + wrap64 (p * 29)) + wrap64 (wrap64 (Int.tdiv p b.length) * 53)) = x ∧ 0 ≤ x ∧ x < 4611686018427387904 := by
          generalize rd b (Int.tmod p b.length) = a1 at r1
          generalize rd b (Int.tmod (p * 7 + 3) b.length) = a2 at r2
          generalize Int.tdiv p b.length = a3 at q1 q2
          refine ⟨a1 * 131 + a2 * 1117 + p * 29 + a3 * 53, ?_, by omega, by omega⟩
          rw [wrap_id (x := a1) (by omega) (by omega), wrap_id (x := a2) (by omega) (by omega), wrap_id (x := a3) (by omega) (by omega), wrap_id (x := a1 * 131) (by omega) (by omega), wrap_id (x := a2 * 1117) (by omega) (by omega), wrap_id (x := p * 29) (by omega) (by omega), wrap_id (x := a3 * 53) (by omega) (by omega), wrap_id (x := a1 * 131 + a2 * 1117) (by omega) (by omega), wrap_id (x := a1 * 131 + a2 * 1117 + p * 29) (by omega) (by omega), wrap_id (by omega) (by omega)]
        refine ⟨Int.tmod (bits .xor .i64 x (wrap64 (Int.tdiv x 64))) n, ev_k1 fun k => ?_, Int.tmod_nonneg _ (xor_nonneg x x0 x1), fun _ => Int.tmod_lt_of_pos _ (by omega)⟩
        unfold spec_l13Rd_pick.f
        rw [if_neg hn1, e1, hz']
        simp only [spec_l13Rd_pick.j0, Bool.false_eq_true, if_false]
        rw [e2, if_neg hlt, if_neg (by omega), if_pos h1, if_pos h2, e3, if_pos h3, if_pos h4, if_neg (by omega), hx]
theorem of_some (b : List Int) (hb : IsB b) (hl : b.length ≤ 2000) (p : Int) (l : List ByteArray) (hp0 : 0 ≤ p) (hp1 : p ≤ 1000000) (hn : l.length ≤ 1000000) (h0 : 0 < l.length) :
    ∃ v, Ev (fun k => spec_l13Rd_of.f k b p l) (v, p + 1) ∧ v ∈ l := by
  obtain ⟨v, hv, v0, v1⟩ := pick_some b hb hl p l.length hp0 hp1 (by omega)
  have v1 := v1 (by omega)
  have hlt : v.toNat < l.length := by omega
  refine ⟨l[v.toNat], ?_, List.getElem_mem hlt⟩
  unfold spec_l13Rd_of.f
  refine ev_bind hv ?_
  refine ev_pos v0 (ev_pos v1 (ev_of ?_))
  rw [rdOf, List.getD_eq_getElem?_getD, List.getElem?_eq_getElem hlt]
  rfl
theorem open_some (l : List Int) (hw : ∀ x ∈ l, (Lit.int .u8 x).wf = true) : ∃ b, spec_l13Open.f l = some (b, 0) ∧ IsB b ∧ b.length ≤ 2000 := by
  have hB : IsB l := by
    intro x hx
    have := hw x hx
    simp only [Lit.wf, IntKind.min, IntKind.max, IntKind.signed, IntKind.bits, Bool.and_eq_true, decide_eq_true_eq] at this
    simp at this
    omega
  unfold spec_l13Open.f
  by_cases h : (l.length : Int) > 2000
  · rw [if_pos h, if_pos (by omega)]
    exact ⟨_, rfl, hB.take 2000, by rw [List.length_take]; omega⟩
  · rw [if_neg h]
    exact ⟨_, rfl, hB, by omega⟩

theorem num_some (b : List Int) (hb : IsB b) (hl : b.length ≤ 2000) (p : Int) (l : List Int) (hp0 : 0 ≤ p) (hp1 : p ≤ 1000000) (hn : l.length ≤ 1000000) (h0 : 0 < l.length) :
    ∃ v, Ev (fun k => spec_l13Rd_num.f k b p l) (v, p + 1) ∧ v ∈ l := by
  obtain ⟨v, hv, v0, v1⟩ := pick_some b hb hl p l.length hp0 hp1 (by omega)
  have v1 := v1 (by omega)
  have hlt : v.toNat < l.length := by omega
  refine ⟨l[v.toNat], ?_, List.getElem_mem hlt⟩
  unfold spec_l13Rd_num.f
  refine ev_bind hv ?_
  refine ev_pos v0 (ev_pos v1 (ev_of ?_))
  rw [rd, List.getD_eq_getElem?_getD, List.getElem?_eq_getElem hlt]
  rfl

/-! ## Draws of fields -/
def szF (n : Nat) (x : S26) : Prop := x.f0.size ≤ n ∧ x.f1.size ≤ n
theorem l3Draw_some (b : List Int) (hb : IsB b) (hl : b.length ≤ 2000) (p : Int) (hp0 : 0 ≤ p) (hp1 : p ≤ 900000) :
    ∃ x y, Ev (fun k => spec_l3Draw.f k b p) (x, y, p + 1 + 1) ∧ x.size ≤ 100 ∧ y.size ≤ 100 := by
  unfold spec_l3Draw.f
  generalize hg1 : ([(⟨#[84, 111]⟩ : ByteArray), (⟨#[70, 114, 111, 109]⟩ : ByteArray), (⟨#[83, 117, 98, 106, 101, 99, 116]⟩ : ByteArray), (⟨#[88, 45, 89]⟩ : ByteArray), (⟨#[82, 101, 99, 101, 105, 118, 101, 100]⟩ : ByteArray), (⟨#[116, 111]⟩ : ByteArray), (⟨#[68, 97, 116, 101]⟩ : ByteArray)] : List ByteArray) = q1
  generalize hg2 : ([(⟨#[]⟩ : ByteArray), (⟨#[120]⟩ : ByteArray), (⟨#[97, 32, 98]⟩ : ByteArray), (⟨#[104, 101, 108, 108, 111, 32, 116, 104, 101, 114, 101, 44, 32, 116, 104, 105, 115, 32, 105, 115, 32, 97, 32, 108, 111, 110, 103, 101, 114, 32, 118, 97, 108, 117, 101, 32, 116, 104, 97, 116, 32, 105, 115, 32, 98, 114, 111, 107, 101, 110]⟩ : ByteArray), (⟨#[97, 97, 97, 97, 97, 97, 97, 97, 97, 97, 97, 97, 97, 97, 97, 97, 97, 97, 97, 97, 97, 97, 97, 97, 97, 97, 97, 97, 97, 97, 97, 97, 97, 97, 97, 97, 97, 97, 97, 97, 97, 97, 97, 97, 97, 97, 97, 97, 97, 97, 97, 32, 98]⟩ : ByteArray), (⟨#[116, 119, 111, 32, 32, 115, 112, 97, 99, 101, 115, 32, 115, 116, 97, 121, 32, 32, 116, 111, 103, 101, 116, 104, 101, 114, 32, 105, 110, 32, 104, 101, 114, 101, 44, 32, 97, 110, 100, 32, 115, 111, 32, 100, 111, 32, 116, 104, 101, 115, 101, 32, 32, 111, 110, 101, 115]⟩ : ByteArray), (⟨#[97, 58, 98]⟩ : ByteArray), (⟨#[111, 110, 101, 32, 116, 119, 111, 32, 116, 104, 114, 101, 101, 32, 102, 111, 117, 114, 32, 102, 105, 118, 101, 32, 115, 105, 120, 32, 115, 101, 118, 101, 110, 32, 101, 105, 103, 104, 116, 32, 110, 105, 110, 101, 32, 116, 101, 110, 32, 101, 108, 101, 118, 101, 110]⟩ : ByteArray)] : List ByteArray) = q2
  have hz1 : (∀ x ∈ q1, x.size ≤ 100) ∧ q1.length = 7 := by subst hg1; exact ⟨by decide, rfl⟩
  have hz2 : (∀ x ∈ q2, x.size ≤ 100) ∧ q2.length = 8 := by subst hg2; exact ⟨by decide, rfl⟩
  obtain ⟨x, hx, mx⟩ := of_some b hb hl p q1 (by omega) (by omega) (by omega) (by omega)
  obtain ⟨y, hy, my⟩ := of_some b hb hl (p + 1) q2 (by omega) (by omega) (by omega) (by omega)
  exact ⟨x, y, ev_bind hx (ev_bind hy (Ev.now _)), hz1.1 x mx, hz2.1 y my⟩
theorem l3List_l0 (b : List Int) (hb : IsB b) (hl : b.length ≤ 2000) : ∀ (d : Nat) (n : Int) (acc : List S26) (p : Int), n = d → d ≤ 100 → acc.length + d ≤ 100000 → 0 ≤ p → p + 2 * d ≤ 900000 → (∀ x ∈ acc, szF 100 x) →
    ∃ r, Ev (fun k => spec_l3List.l0 k acc n b p) (r, p + 2 * d) ∧ r.length = acc.length + d ∧ ∀ x ∈ r, szF 100 x := by
  intro d
  induction d with
  | zero =>
    intro n acc p hn hd ha h0 h1 hx
    refine ⟨acc, ev_succ ?_, rfl, hx⟩
    simp only [spec_l3List.l0]
    rw [show p + 2 * ((0 : Nat) : Int) = p by omega]
    exact ev_neg (by omega) (Ev.now _)
  | succ d ih =>
    intro n acc p hn hd ha h0 h1 hx
    obtain ⟨s, t, hs, hz1, hz2⟩ := l3Draw_some b hb hl p h0 (by omega)
    obtain ⟨r, hr, hrl, hrx⟩ := ih (n - 1) (acc ++ [⟨s, t⟩]) (p + 1 + 1) (by omega) (by omega) (by simp; omega) (by omega) (by omega) (fun x hxm => by
      rcases List.mem_append.1 hxm with h | h
      · exact hx x h
      · have : x = ⟨s, t⟩ := by simpa using h
        rw [this]; exact ⟨hz1, hz2⟩)
    refine ⟨r, ev_succ ?_, by rw [hrl, List.length_append, List.length_singleton]; omega, hrx⟩
    simp only [spec_l3List.l0]
    rw [show p + 2 * ((d + 1 : Nat) : Int) = p + 1 + 1 + 2 * (d : Int) by omega]
    refine ev_pos (by omega) (ev_bind hs (ev_pos (by omega) ?_))
    rw [wrap_id (by omega) (by omega)]
    exact hr
theorem l3List_some (b : List Int) (hb : IsB b) (hl : b.length ≤ 2000) (p : Int) (hp0 : 0 ≤ p) (hp1 : p ≤ 800000) :
    ∃ r p', Ev (fun k => spec_l3List.f k b p) (r, p') ∧ r.length ≤ 4 ∧ (∀ x ∈ r, szF 100 x) ∧ p ≤ p' ∧ p' ≤ p + 9 := by
  obtain ⟨n, hn, hm⟩ := num_some b hb hl p [2, 3, 1, 0, 4] hp0 (by omega) (by decide) (by decide)
  have hr : 0 ≤ n ∧ n ≤ 4 := by
    simp only [List.mem_cons, List.mem_nil_iff, or_false] at hm
    omega
  obtain ⟨r, h1, h2, h3⟩ := l3List_l0 b hb hl n.toNat n [] (p + 1) (by omega) (by omega) (by simp; omega) (by omega) (by omega) (by simp)
  refine ⟨r, p + 1 + 2 * (n.toNat : Int), ?_, by rw [h2]; simp; omega, h3, ?_, ?_⟩
  · unfold spec_l3List.f
    exact ev_bind hn h1
  · omega
  · omega

theorem l3Wrong_some (b : List Int) (hb : IsB b) (hl : b.length ≤ 2000) (p : Int) (x y : ByteArray) (hp0 : 0 ≤ p) (hp1 : p ≤ 900000) (hx : x.size ≤ 100) (hy : y.size ≤ 100) :
    ∃ x' y' p', Ev (fun k => spec_l3Wrong.f k b p x y) (x', y', p') ∧ x'.size ≤ 100 ∧ y'.size ≤ 100 ∧ p ≤ p' ∧ p' ≤ p + 2 := by
  unfold spec_l3Wrong.f
  generalize hg1 : ([(⟨#[]⟩ : ByteArray), (⟨#[45, 97]⟩ : ByteArray), (⟨#[49, 97]⟩ : ByteArray), (⟨#[97, 32, 98]⟩ : ByteArray), (⟨#[97, 95, 98]⟩ : ByteArray), (⟨#[97, 97, 97, 97, 97, 97, 97, 97, 97, 97, 97, 97, 97, 97, 97, 97, 97, 97, 97, 97, 97, 97, 97, 97, 97, 97, 97, 97, 97, 97, 97]⟩ : ByteArray)] : List ByteArray) = q1
  generalize hg2 : ([(⟨#[32, 97]⟩ : ByteArray), (⟨#[97, 32]⟩ : ByteArray), (⟨#[10]⟩ : ByteArray)] : List ByteArray) = q2
  have hz1 : (∀ x ∈ q1, x.size ≤ 100) ∧ q1.length = 6 := by subst hg1; exact ⟨by decide, rfl⟩
  have hz2 : (∀ x ∈ q2, x.size ≤ 100) ∧ q2.length = 3 := by subst hg2; exact ⟨by decide, rfl⟩
  obtain ⟨v, hv, v0, v1⟩ := pick_some b hb hl p 20 hp0 (by omega) (by omega)
  by_cases h0 : v = 0
  · obtain ⟨s, hs, ms⟩ := of_some b hb hl (p + 1) q1 (by omega) (by omega) (by omega) (by omega)
    exact ⟨s, y, p + 1 + 1, ev_bind hv (ev_pos h0 (ev_bind hs (Ev.now _))), hz1.1 s ms, hy, by omega, by omega⟩
  · by_cases h1 : v = 1
    · obtain ⟨s, hs, ms⟩ := of_some b hb hl (p + 1) q2 (by omega) (by omega) (by omega) (by omega)
      exact ⟨x, s, p + 1 + 1, ev_bind hv (ev_neg h0 (ev_pos h1 (ev_bind hs (Ev.now _)))), hx, hz2.1 s ms, by omega, by omega⟩
    · exact ⟨x, y, p + 1, ev_bind hv (ev_neg h0 (ev_neg h1 (Ev.now _))), hx, hy, by omega, by omega⟩
theorem l3Some_some (b : List Int) (hb : IsB b) (hl : b.length ≤ 2000) (p : Int) (hp0 : 0 ≤ p) (hp1 : p ≤ 700000) :
    ∃ r p', Ev (fun k => spec_l3Some.f k b p) (r, p') ∧ r.length ≤ 4 ∧ (∀ x ∈ r, szF 100 x) ∧ p ≤ p' ∧ p' ≤ p + 20 := by
  obtain ⟨r, p1, hr, r1, r2, p2, p3⟩ := l3List_some b hb hl p hp0 (by omega)
  unfold spec_l3Some.f
  by_cases h0 : 0 < r.length
  · obtain ⟨v, hv, v0, v1⟩ := pick_some b hb hl p1 r.length (by omega) (by omega) (by omega)
    have v1 := v1 (by omega)
    have hlt : v.toNat < r.length := by omega
    have hm := r2 _ (List.getElem_mem hlt)
    obtain ⟨x', y', p4, hw, w1, w2, w3, w4⟩ := l3Wrong_some b hb hl (p1 + 1) r[v.toNat].f0 r[v.toNat].f1 (by omega) (by omega) hm.1 hm.2
    have he : rd_T26 r v = r[v.toNat] := by
      rw [rd_T26, List.getD_eq_getElem?_getD, List.getElem?_eq_getElem hlt]
      rfl
    refine ⟨r.set v.toNat ⟨x', y'⟩, p4, ev_bind hr (ev_pos (show (r.length : Int) > 0 by omega) (ev_bind hv (ev_pos v0 (ev_pos v1 (ev_bind (a := (x', y', p4)) ?_ (Ev.now _)))))), by simpa using r1, fun x hx => ?_, by omega, by omega⟩
    · show Ev (fun k => spec_l3Wrong.f k b (p1 + 1) (rd_T26 r v).f0 (rd_T26 r v).f1) _
      rw [he]
      exact hw
    · rcases List.mem_or_eq_of_mem_set hx with h | h
      · exact r2 x h
      · rw [h]; exact ⟨w1, w2⟩
  · exact ⟨r, p1, ev_bind hr (ev_neg (show ¬ (r.length : Int) > 0 by omega) (Ev.now _)), r1, r2, by omega, by omega⟩
theorem l3Case_some (l : List Int) (hw : ∀ x ∈ l, (Lit.int .u8 x).wf = true) : ∃ r a, Ev (fun k => spec_l3Case.f k l) (r, a) ∧ r.length ≤ 4 ∧ (∀ x ∈ r, szF 100 x) ∧ a.size ≤ 20 := by
  obtain ⟨b, ho, hb, hl⟩ := open_some l hw
  obtain ⟨r, p, hr, r1, r2, p1, p2⟩ := l3Some_some b hb hl 0 (by omega) (by omega)
  unfold spec_l3Case.f
  generalize hg1 : ([(⟨#[116, 111]⟩ : ByteArray), (⟨#[70, 82, 79, 77]⟩ : ByteArray), (⟨#[83, 117, 98, 106, 101, 99, 116]⟩ : ByteArray), (⟨#[120, 45, 121]⟩ : ByteArray), (⟨#[110, 111, 110, 101]⟩ : ByteArray), (⟨#[]⟩ : ByteArray)] : List ByteArray) = q1
  have hz1 : (∀ x ∈ q1, x.size ≤ 20) ∧ q1.length = 6 := by subst hg1; exact ⟨by decide, rfl⟩
  obtain ⟨s, hs, ms⟩ := of_some b hb hl p q1 (by omega) (by omega) (by omega) (by omega)
  exact ⟨r, s, ev_bind1 ho (ev_bind hr (ev_bind hs (Ev.now _))), r1, r2, hz1.1 s ms⟩
theorem DrawDropField_some (l : List Int) (hw : ∀ x ∈ l, (Lit.int .u8 x).wf = true) : ∃ r a, Ev (fun k => spec_DrawDropField.f k l) (r, a) ∧ r.length ≤ 4 ∧ (∀ x ∈ r, szF 100 x) ∧ a.size ≤ 20 := by
  obtain ⟨r, a, h, h1⟩ := l3Case_some l hw
  exact ⟨r, a, ev_bind h (Ev.now _), h1⟩

end Go.Proofs.YtcnkakaipajloaaDoor.Q
