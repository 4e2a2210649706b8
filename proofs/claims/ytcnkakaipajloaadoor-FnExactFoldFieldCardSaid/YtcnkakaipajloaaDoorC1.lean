/- Plain lemmas on bytes, rounds and words; no condition. -/
import Derived.Test.YtcnkakaipajloaaDoorQH
import Derived.Lib.Strings
set_option linter.unusedVariables false
set_option linter.unusedSimpArgs false
namespace Go.Proofs.YtcnkakaipajloaaDoor.Q
open Go.RowKit Go.Proofs.YtcnkakaipajloaaDoorV.PrintWords Go.Proofs.YtcnkakaipajloaaDoorV.PrintLast Go.Proofs.YtcnkakaipajloaaDoorV.PrintMore
/-! ## Bytes and lists -/
def IsB (l : List Int) : Prop := ∀ x ∈ l, 0 ≤ x ∧ x ≤ 255
theorem IsB.nil : IsB [] := by intro x hx; cases hx
theorem IsB.cons {x : Int} {l : List Int} (h1 : 0 ≤ x ∧ x ≤ 255) (h2 : IsB l) : IsB (x :: l) := by
  intro y hy
  rcases List.mem_cons.1 hy with rfl | hy
  · exact h1
  · exact h2 y hy
theorem IsB.append {a b : List Int} (h1 : IsB a) (h2 : IsB b) : IsB (a ++ b) := by
  intro y hy
  rcases List.mem_append.1 hy with hy | hy
  · exact h1 y hy
  · exact h2 y hy
theorem IsB.sub {a b : List Int} (h : IsB a) (hs : ∀ x ∈ b, x ∈ a) : IsB b := fun x hx => h x (hs x hx)
theorem IsB.take {a : List Int} (h : IsB a) (n : Nat) : IsB (a.take n) := h.sub fun _ hx => List.mem_of_mem_take hx
theorem IsB.drop {a : List Int} (h : IsB a) (n : Nat) : IsB (a.drop n) := h.sub fun _ hx => List.mem_of_mem_drop hx
theorem L_IsB (s : ByteArray) : IsB (bytesOf s) := by
  intro x hx
  simp only [bytesOf, List.mem_map] at hx
  obtain ⟨b, _, rfl⟩ := hx
  have := b.toNat_lt
  omega
theorem L_len (s : ByteArray) : (bytesOf s).length = s.size := bytesOf_length s
theorem S_L (s : ByteArray) : strOfNums (bytesOf s) = s := by
  apply ByteArray.ext
  apply Array.ext'
  rw [strOfNums_data, bytesOf, List.map_map]
  have : ((fun n : Int => UInt8.ofNat n.toNat) ∘ fun b : UInt8 => (b.toNat : Int)) = id := by
    funext b
    simp
  rw [this, List.map_id]
theorem L_S {l : List Int} (h : IsB l) : bytesOf (strOfNums l) = l := by
  rw [bytesOf, strOfNums_data, List.map_map]
  have : ∀ x ∈ l, ((fun b : UInt8 => (b.toNat : Int)) ∘ fun n : Int => UInt8.ofNat n.toNat) x = id x := by
    intro x hx
    have := h x hx
    simp only [Function.comp_apply, id, UInt8.toNat_ofNat']
    omega
  rw [List.map_congr_left this, List.map_id]
theorem L_inj {s t : ByteArray} (h : bytesOf s = bytesOf t) : s = t := by rw [← S_L s, h, S_L]
theorem L_append (s t : ByteArray) : bytesOf (s ++ t) = bytesOf s ++ bytesOf t := by
  simp only [bytesOf, ByteArray.data_append, Array.toList_append, List.map_append]
theorem L_extract (s : ByteArray) (a b : Nat) : bytesOf (s.extract a b) = ((bytesOf s).drop a).take (b - a) := by
  simp only [bytesOf, Lib.extract_data, List.map_take, List.map_drop]
theorem L_from (s : ByteArray) (a : Nat) : bytesOf (s.extract a s.size) = (bytesOf s).drop a := by
  rw [L_extract, List.take_of_length_le]
  rw [List.length_drop, L_len]; exact Nat.le_refl _
theorem L_to (s : ByteArray) (a : Nat) : bytesOf (s.extract 0 a) = (bytesOf s).take a := by
  rw [L_extract, List.drop_zero, Nat.sub_zero]
theorem toList_iff {s t : ByteArray} : s.toList = t.toList ↔ s = t := by
  constructor
  · intro h
    rw [Lib.toList_data, Lib.toList_data] at h
    exact ByteArray.ext (Array.ext' h)
  · intro h; rw [h]
theorem toList_beq (s t : ByteArray) : (s.toList == t.toList) = decide (s = t) := by
  by_cases h : s = t
  · subst h; simp
  · rw [decide_eq_false h, beq_eq_false_iff_ne]
    exact fun e => h (toList_iff.1 e)
theorem toList_nil : (⟨#[]⟩ : ByteArray).toList = [] := by rw [Lib.toList_data]
theorem L_iff {s t : ByteArray} : bytesOf s = bytesOf t ↔ s = t := ⟨L_inj, fun h => by rw [h]⟩
theorem size_extract_le (s : ByteArray) (a b : Nat) : (s.extract a b).size ≤ s.size := by
  rw [← L_len, L_extract, ← L_len s, List.length_take, List.length_drop]; omega
theorem bt_get (s : ByteArray) (i : Nat) (h : i < s.size) : (bytesOf s)[i]? = some (bt s i) := by
  rw [List.getElem?_eq_getElem (by rw [L_len]; exact h), bytesOf_at s i h]
theorem L_drop (s : ByteArray) (i : Nat) (h : i < s.size) : (bytesOf s).drop i = bt s i :: (bytesOf s).drop (i + 1) := bytesOf_drop s i h
theorem L_drop_nil (s : ByteArray) (i : Nat) (h : s.size ≤ i) : (bytesOf s).drop i = [] := List.drop_eq_nil_of_le (by rw [L_len]; exact h)
theorem L_nil : bytesOf (⟨#[]⟩ : ByteArray) = [] := rfl
theorem S_nil : strOfNums [] = (⟨#[]⟩ : ByteArray) := rfl
theorem size_nil_iff (s : ByteArray) : s.size = 0 ↔ bytesOf s = [] := by rw [← L_len, List.length_eq_zero_iff]
theorem S_size (l : List Int) : (strOfNums l).size = l.length := strOfNums_size l
theorem S_append (a b : List Int) : strOfNums a ++ strOfNums b = strOfNums (a ++ b) := by
  apply ByteArray.ext
  apply Array.ext'
  simp only [ByteArray.data_append, Array.toList_append, strOfNums_data, List.map_append]
theorem append_S (s t : ByteArray) : s ++ t = strOfNums (bytesOf s ++ bytesOf t) := by rw [← S_append, S_L, S_L]
theorem extract_S (s : ByteArray) (a b : Nat) : s.extract a b = strOfNums (((bytesOf s).drop a).take (b - a)) := by rw [← L_extract, S_L]
theorem size_append (s t : ByteArray) : (s ++ t).size = s.size + t.size := by rw [← L_len, L_append, List.length_append, L_len, L_len]
theorem wrap_id {x : Int} (h1 : -9223372036854775808 ≤ x) (h2 : x ≤ 9223372036854775807) : wrap64 x = x := by unfold wrap64; omega
theorem nat_i (i : Nat) : ((i : Int)).toNat = i := Int.toNat_natCast i
/-! ## Rounds -/
theorem ev_succ {α : Type} {g : Nat → Option α} {r : α} (h : Ev (fun k => g (k + 1)) r) : Ev g r := Ev.step (fun _ => rfl) h
theorem ev_of {α : Type} {g : Option α} {r : α} (h : g = some r) : Ev (fun _ => g) r := ⟨0, fun _ _ => h⟩
theorem ev_bind {α β : Type} {g : Nat → Option α} {f : Nat → α → Option β} {a : α} {r : β} (h : Ev g a) (k : Ev (fun n => f n a) r) : Ev (fun n => (g n).bind fun t => f n t) r := Ev.bind h k
theorem ev_bind1 {α β : Type} {g : Option α} {f : Nat → α → Option β} {a : α} {r : β} (h : g = some a) (k : Ev (fun n => f n a) r) : Ev (fun n => g.bind fun t => f n t) r := by
  subst h; exact k
theorem ev_pos {α : Type} {c : Prop} [Decidable c] {a b : Nat → Option α} {r : α} (hc : c) (h : Ev a r) : Ev (fun k => if c then a k else b k) r := by
  simp only [if_pos hc]; exact h
theorem ev_neg {α : Type} {c : Prop} [Decidable c] {a b : Nat → Option α} {r : α} (hc : ¬ c) (h : Ev b r) : Ev (fun k => if c then a k else b k) r := by
  simp only [if_neg hc]; exact h
theorem ev_cast {α : Type} {g : Nat → Option α} {r r' : α} (h : Ev g r) (e : r = r') : Ev g r' := e ▸ h
/-! ## xor on small numbers -/
theorem xor_i64 (a b : Nat) (ha : a < 4611686018427387904) (hb : b < 4611686018427387904) : bits .xor .i64 (a : Int) (b : Int) = ((a ^^^ b : Nat) : Int) := by
  have hx : a ^^^ b < 2 ^ 62 := Nat.xor_lt_two_pow (by omega) (by omega)
  have h1 : (BitVec.ofInt 64 (a : Int)).toNat = a := by
    rw [BitVec.ofInt_natCast, BitVec.toNat_ofNat]; exact Nat.mod_eq_of_lt (by omega)
  have h2 : (BitVec.ofInt 64 (b : Int)).toNat = b := by
    rw [BitVec.ofInt_natCast, BitVec.toNat_ofNat]; exact Nat.mod_eq_of_lt (by omega)
  show IntKind.i64.wrap ((BitVec.ofInt 64 (a : Int) ^^^ BitVec.ofInt 64 (b : Int)).toNat : Int) = _
  rw [BitVec.toNat_xor, h1, h2, i64_w]
  exact wrap_id (by omega) (by omega)
theorem xor_nonneg (x : Int) (h1 : 0 ≤ x) (h2 : x < 4611686018427387904) : 0 ≤ bits .xor .i64 x (wrap64 (Int.tdiv x 64)) := by
  obtain ⟨n, rfl⟩ : ∃ n : Nat, x = n := ⟨x.toNat, by omega⟩
  have e : wrap64 (Int.tdiv (n : Int) 64) = ((n / 64 : Nat) : Int) := by
    rw [Int.tdiv_eq_ediv_of_nonneg (by omega), wrap_id (by omega) (by omega)]
    omega
  rw [e, xor_i64 n (n / 64) (by omega) (by omega)]
  omega

/-! ## Words: plain functions on lists of bytes -/
def isLet (x : Int) : Bool := decide ((97 ≤ x ∧ x ≤ 122) ∨ (65 ≤ x ∧ x ≤ 90))
def isDig (x : Int) : Bool := decide (48 ≤ x ∧ x ≤ 57)
def isAtm (x : Int) : Bool := decide ((97 ≤ x ∧ x ≤ 122) ∨ (65 ≤ x ∧ x ≤ 90) ∨ (48 ≤ x ∧ x ≤ 57) ∨ x = 33 ∨ (35 ≤ x ∧ x ≤ 39) ∨ x = 42 ∨ x = 43 ∨ x = 45 ∨ x = 47 ∨ x = 61 ∨ x = 63 ∨ (94 ≤ x ∧ x ≤ 96) ∨ (123 ≤ x ∧ x ≤ 126))
def isTxt (x : Int) : Bool := decide (32 ≤ x ∧ x ≤ 126)
def textOk (l : List Int) : Bool := decide (l.length ≤ 200) && l.all isTxt
def atomOk (l : List Int) : Bool := decide (1 ≤ l.length ∧ l.length ≤ 40) && l.all isAtm
def esc : List Int → List Int
  | [] => []
  | x :: r => if x = 34 ∨ x = 92 then 92 :: x :: esc r else x :: esc r
def quoteW (l : List Int) : List Int := if textOk l = true then (if atomOk l = true then l else 34 :: (esc l ++ [34])) else []
/-- Behind an opening quote: the text, and what is behind the closing one. -/
def readQ : List Int → Option (List Int × List Int)
  | [] => none
  | x :: r => if x = 34 then some ([], r) else if x = 92 then (match r with
    | [] => none
    | y :: r' => (readQ r').map fun p => (y :: p.1, p.2)) else (readQ r).map fun p => (x :: p.1, p.2)
def unquoteW (l : List Int) : List Int × Bool :=
  if atomOk l = true then (l, true) else match l with
  | [] => ([], false)
  | x :: r => if x = 34 then (match readQ r with
    | none => ([], false)
    | some (out, _) => if quoteW out = l then (out, true) else ([], false)) else ([], false)
theorem atm_ne {x : Int} (h : isAtm x = true) : x ≠ 32 ∧ x ≠ 34 ∧ x ≠ 92 ∧ x ≠ 44 ∧ x ≠ 60 ∧ x ≠ 62 ∧ x ≠ 64 ∧ x ≠ 46 ∧ 32 ≤ x ∧ x ≤ 126 := by
  simp only [isAtm, decide_eq_true_eq] at h
  omega
theorem textOk_iff (l : List Int) : textOk l = true ↔ l.length ≤ 200 ∧ ∀ x ∈ l, 32 ≤ x ∧ x ≤ 126 := by
  simp [textOk, isTxt, List.all_eq_true]
theorem atomOk_iff (l : List Int) : atomOk l = true ↔ 1 ≤ l.length ∧ l.length ≤ 40 ∧ ∀ x ∈ l, isAtm x = true := by
  simp [atomOk, List.all_eq_true, and_assoc]
theorem atomOk_text {l : List Int} (h : atomOk l = true) : textOk l = true := by
  rw [atomOk_iff] at h
  rw [textOk_iff]
  refine ⟨by omega, fun x hx => ?_⟩
  have := atm_ne (h.2.2 x hx)
  omega
theorem esc_length (l : List Int) : l.length ≤ (esc l).length ∧ (esc l).length ≤ 2 * l.length := by
  induction l with
  | nil => simp [esc]
  | cons x r ih =>
    simp only [esc]
    split <;> simp only [List.length_cons] <;> omega
theorem esc_append (a b : List Int) : esc (a ++ b) = esc a ++ esc b := by
  induction a with
  | nil => rfl
  | cons x r ih =>
    simp only [List.cons_append, esc, ih]
    split <;> rfl
theorem readQ_cons (x : Int) (r : List Int) (h1 : x ≠ 34) (h2 : x ≠ 92) : readQ (x :: r) = (readQ r).map fun p => (x :: p.1, p.2) := by
  rw [readQ.eq_def]
  simp only [if_neg h1, if_neg h2]
theorem readQ_bs (y : Int) (r : List Int) : readQ (92 :: y :: r) = (readQ r).map fun p => (y :: p.1, p.2) := by
  rw [readQ.eq_def]
  simp
theorem readQ_end (r : List Int) : readQ (34 :: r) = some ([], r) := by rw [readQ.eq_def]; simp
theorem readQ_bs_nil : readQ [92] = none := by rw [readQ.eq_def]; simp
theorem readQ_esc (l rest : List Int) : readQ (esc l ++ 34 :: rest) = some (l, rest) := by
  induction l with
  | nil => exact readQ_end rest
  | cons x r ih =>
    simp only [esc]
    split
    · rw [List.cons_append, List.cons_append, readQ_bs, ih]; rfl
    · rename_i h
      rw [List.cons_append, readQ_cons x _ (fun e => h (.inl e)) (fun e => h (.inr e)), ih]; rfl
/-- Induction along readQ. -/
theorem readQ_ind {p : List Int → Prop} (h0 : p []) (h1 : ∀ r, p (34 :: r)) (h2 : p [92]) (h3 : ∀ y r, p r → p (92 :: y :: r)) (h4 : ∀ x r, x ≠ 34 → x ≠ 92 → p r → p (x :: r)) (l : List Int) : p l := by
  have key : ∀ n, ∀ l : List Int, l.length ≤ n → p l := by
    intro n
    induction n with
    | zero => intro l hl; rw [List.length_eq_zero_iff.1 (Nat.le_zero.1 hl)]; exact h0
    | succ n ih =>
      intro l hl
      match l, hl with
      | [], _ => exact h0
      | x :: r, hl =>
        simp only [List.length_cons] at hl
        by_cases e1 : x = 34
        · subst e1; exact h1 r
        · by_cases e2 : x = 92
          · subst e2
            match r, hl with
            | [], _ => exact h2
            | y :: r', hl => simp only [List.length_cons] at hl; exact h3 y r' (ih r' (by omega))
          · exact h4 x r e1 e2 (ih r (by omega))
  exact key l.length l (Nat.le_refl _)
theorem readQ_some {l t rest : List Int} (h : readQ l = some (t, rest)) : ∃ pre, l = pre ++ 34 :: rest ∧ t.length ≤ pre.length ∧ ∀ x ∈ t, x ∈ l := by
  revert t rest
  refine readQ_ind (p := fun l => ∀ {t rest}, readQ l = some (t, rest) → ∃ pre, l = pre ++ 34 :: rest ∧ t.length ≤ pre.length ∧ ∀ x ∈ t, x ∈ l) ?_ ?_ ?_ ?_ ?_ l
  · intro t rest h; cases h
  · intro r t rest h
    rw [readQ_end] at h
    injection h with h; injection h with h h'
    subst h; subst h'
    exact ⟨[], rfl, by simp, by simp⟩
  · intro t rest h; rw [readQ_bs_nil] at h; cases h
  · intro y r ih t rest h
    rw [readQ_bs] at h
    obtain ⟨⟨t', rest'⟩, hq, he⟩ := Option.map_eq_some_iff.1 h
    injection he with h1 h2
    subst h1; subst h2
    obtain ⟨pre, rfl, hl, hm⟩ := ih hq
    refine ⟨92 :: y :: pre, rfl, by simp only [List.length_cons]; omega, fun x hx => ?_⟩
    rcases List.mem_cons.1 hx with rfl | hx
    · simp
    · exact List.mem_cons_of_mem _ (List.mem_cons_of_mem _ (hm x hx))
  · intro y r h1 h2 ih t rest h
    rw [readQ_cons y r h1 h2] at h
    obtain ⟨⟨t', rest'⟩, hq, he⟩ := Option.map_eq_some_iff.1 h
    injection he with h1 h2
    subst h1; subst h2
    obtain ⟨pre, rfl, hl, hm⟩ := ih hq
    refine ⟨y :: pre, rfl, by simp only [List.length_cons]; omega, fun x hx => ?_⟩
    rcases List.mem_cons.1 hx with rfl | hx
    · simp
    · exact List.mem_cons_of_mem _ (hm x hx)
theorem readQ_lt {l t rest : List Int} (h : readQ l = some (t, rest)) : rest.length < l.length := by
  obtain ⟨pre, rfl, _, _⟩ := readQ_some h
  simp only [List.length_append, List.length_cons]
  omega
theorem readQ_append {l t rest : List Int} (h : readQ l = some (t, rest)) (u : List Int) : readQ (l ++ u) = some (t, rest ++ u) := by
  revert t rest
  refine readQ_ind (p := fun l => ∀ {t rest}, readQ l = some (t, rest) → readQ (l ++ u) = some (t, rest ++ u)) ?_ ?_ ?_ ?_ ?_ l
  · intro t rest h; cases h
  · intro r t rest h
    rw [readQ_end] at h
    injection h with h; injection h with h h'
    subst h; subst h'
    exact readQ_end _
  · intro t rest h; rw [readQ_bs_nil] at h; cases h
  · intro y r ih t rest h
    rw [readQ_bs] at h
    obtain ⟨⟨t', rest'⟩, hq, he⟩ := Option.map_eq_some_iff.1 h
    injection he with h1 h2
    subst h1; subst h2
    rw [List.cons_append, List.cons_append, readQ_bs, ih hq]; rfl
  · intro y r h1 h2 ih t rest h
    rw [readQ_cons y r h1 h2] at h
    obtain ⟨⟨t', rest'⟩, hq, he⟩ := Option.map_eq_some_iff.1 h
    injection he with h1' h2'
    subst h1'; subst h2'
    rw [List.cons_append, readQ_cons y _ h1 h2, ih hq]; rfl
theorem quoteW_cases (l : List Int) (h : textOk l = true) : (atomOk l = true ∧ quoteW l = l) ∨ (atomOk l = false ∧ quoteW l = 34 :: (esc l ++ [34])) := by
  unfold quoteW
  rw [if_pos h]
  cases ha : atomOk l with
  | true => exact .inl ⟨rfl, if_pos rfl⟩
  | false => exact .inr ⟨rfl, if_neg (by decide)⟩
theorem quoteW_ne_nil {l : List Int} (h : textOk l = true) : quoteW l ≠ [] := by
  rcases quoteW_cases l h with ⟨ha, hq⟩ | ⟨_, hq⟩ <;> rw [hq]
  · rw [atomOk_iff] at ha
    intro e; rw [e] at ha; simp at ha
  · simp
theorem quoteW_nil_iff (l : List Int) : quoteW l = [] ↔ textOk l = false := by
  constructor
  · intro h
    cases ht : textOk l with
    | false => rfl
    | true => exact absurd h (quoteW_ne_nil ht)
  · intro h
    unfold quoteW
    rw [if_neg (by rw [h]; decide)]
theorem not_atom_quote (r : List Int) : atomOk (34 :: r) = false := by
  cases h : atomOk (34 :: r) with
  | false => rfl
  | true =>
    rw [atomOk_iff] at h
    have := (atm_ne (h.2.2 34 (by simp))).2.1
    exact absurd rfl this
/-- What a word in quotes is read as. -/
theorem quoteW_read {out r : List Int} (h : quoteW out = 34 :: r) : textOk out = true ∧ atomOk out = false ∧ readQ r = some (out, []) ∧ r.length + 1 ≤ 2 * out.length + 2 ∧ out.length + 1 ≤ r.length := by
  cases ht : textOk out with
  | false => rw [(quoteW_nil_iff out).2 ht] at h; cases h
  | true =>
    rcases quoteW_cases out ht with ⟨ha, hq⟩ | ⟨ha, hq⟩
    · rw [hq] at h
      subst h
      rw [not_atom_quote] at ha; cases ha
    · rw [hq] at h
      injection h with _ h
      subst h
      have := esc_length out
      refine ⟨rfl, ha, readQ_esc out [], ?_, ?_⟩ <;> simp only [List.length_append, List.length_cons, List.length_nil] <;> omega
theorem unquote_quote {l : List Int} (h : textOk l = true) : unquoteW (quoteW l) = (l, true) := by
  rcases quoteW_cases l h with ⟨ha, hq⟩ | ⟨ha, hq⟩
  · rw [hq, unquoteW.eq_def, if_pos ha]
  · rw [unquoteW.eq_def, hq, if_neg (by rw [not_atom_quote]; decide)]
    simp only [if_true]
    rw [readQ_esc l []]
    simp only [hq, if_true]
theorem unquote_nil : unquoteW [] = ([], false) := by decide
theorem unquote_some {l t : List Int} (h : unquoteW l = (t, true)) : textOk t = true ∧ quoteW t = l ∧ t.length ≤ l.length := by
  unfold unquoteW at h
  split at h
  · rename_i ha
    injection h with h _
    subst h
    have ht := atomOk_text ha
    refine ⟨ht, ?_, Nat.le_refl _⟩
    unfold quoteW
    rw [if_pos ht, if_pos ha]
  · split at h
    · simp at h
    · rename_i x r _
      split at h
      · rename_i hx
        subst hx
        split at h
        · simp at h
        · rename_i out rest hr
          split at h
          · rename_i hq
            injection h with h _
            subst h
            have := quoteW_read hq
            exact ⟨this.1, hq, by simp only [List.length_cons]; omega⟩
          · simp at h
      · simp at h
theorem unquote_false {l t : List Int} (h : unquoteW l = (t, false)) : t = [] := by
  unfold unquoteW at h
  split at h
  · simp at h
  · split at h
    · simp at h; exact h
    · split at h
      · split at h
        · simp at h; exact h
        · split at h
          · simp at h
          · simp at h; exact h
      · simp at h; exact h
/-! ### Words of a text -/
/-- What is written: atoms and texts in quotes, divided by spaces; ap: may a word begin here? -/
def words (ap : Bool) (l : List Int) : Option (List (List Int)) :=
  match l with
  | [] => some []
  | x :: r => if x = 32 then words true r else if ap = false then none else if x = 34 then
      (match h : readQ r with
      | none => none
      | some (w, r') => (words false r').map (w :: ·))
    else if isAtm x = true then (words false (r.dropWhile isAtm)).map ((x :: r.takeWhile isAtm) :: ·) else none
termination_by l.length
decreasing_by
  · simp only [List.length_cons]; omega
  · have := readQ_lt h; simp only [List.length_cons]; omega
  · have : (r.dropWhile isAtm).length ≤ r.length := (List.dropWhile_suffix _).length_le
    simp only [List.length_cons]; omega
theorem words_nil (ap : Bool) : words ap [] = some [] := by rw [words.eq_def]
theorem words_sp (ap : Bool) (r : List Int) : words ap (32 :: r) = words true r := by rw [words.eq_def]; simp
theorem words_glued (x : Int) (r : List Int) (h : x ≠ 32) : words false (x :: r) = none := by rw [words.eq_def]; simp [h]
theorem words_q_none (r : List Int) (h : readQ r = none) : words true (34 :: r) = none := by
  rw [words.eq_def]
  simp only [show ¬ (34 : Int) = 32 by decide, if_false, reduceCtorEq, if_true]
  split
  · rfl
  · rename_i h2; rw [h] at h2; cases h2
theorem words_q (r w r' : List Int) (h : readQ r = some (w, r')) : words true (34 :: r) = (words false r').map (w :: ·) := by
  rw [words.eq_def]
  simp only [show ¬ (34 : Int) = 32 by decide, if_false, reduceCtorEq, if_true]
  split
  · rename_i h2; rw [h] at h2; cases h2
  · rename_i h2; rw [h] at h2; injection h2 with h2; injection h2 with h3 h4; subst h3; subst h4; rfl
theorem words_atm (x : Int) (r : List Int) (h : isAtm x = true) : words true (x :: r) = (words false (r.dropWhile isAtm)).map ((x :: r.takeWhile isAtm) :: ·) := by
  have := atm_ne h
  rw [words.eq_def]
  simp only [this.1, this.2.1, if_false, reduceCtorEq, h, if_true]
theorem words_bad (x : Int) (r : List Int) (h1 : x ≠ 32) (h2 : x ≠ 34) (h : isAtm x = false) : words true (x :: r) = none := by
  rw [words.eq_def]
  simp only [h1, h2, if_false, reduceCtorEq, h]
def splitW (l : List Int) : List (List Int) × Bool :=
  if textOk l = true then (match words true l with
  | none => ([], false)
  | some ws => (ws, true)) else ([], false)
/-- Induction along words. -/
theorem words_ind {p : Bool → List Int → Prop} (h0 : ∀ ap, p ap []) (h1 : ∀ ap r, p true r → p ap (32 :: r)) (h2 : ∀ x r, x ≠ 32 → p false (x :: r)) (h3 : ∀ r, readQ r = none → p true (34 :: r)) (h4 : ∀ r w r', readQ r = some (w, r') → p false r' → p true (34 :: r))
    (h5 : ∀ x r, isAtm x = true → p false (r.dropWhile isAtm) → p true (x :: r)) (h6 : ∀ x r, x ≠ 32 → x ≠ 34 → isAtm x = false → p true (x :: r)) (ap : Bool) (l : List Int) : p ap l := by
  have key : ∀ n, ∀ (ap : Bool) (l : List Int), l.length ≤ n → p ap l := by
    intro n
    induction n with
    | zero => intro ap l hl; rw [List.length_eq_zero_iff.1 (Nat.le_zero.1 hl)]; exact h0 ap
    | succ n ih =>
      intro ap l hl
      match l, hl with
      | [], _ => exact h0 ap
      | x :: r, hl =>
        simp only [List.length_cons] at hl
        by_cases e1 : x = 32
        · subst e1; exact h1 ap r (ih true r (by omega))
        · cases ap with
          | false => exact h2 x r e1
          | true =>
            by_cases e2 : x = 34
            · subst e2
              cases hq : readQ r with
              | none => exact h3 r hq
              | some q =>
                obtain ⟨w, r'⟩ := q
                have := readQ_lt hq
                exact h4 r w r' hq (ih false r' (by omega))
            · cases ha : isAtm x with
              | true =>
                have : (r.dropWhile isAtm).length ≤ r.length := (List.dropWhile_suffix _).length_le
                exact h5 x r ha (ih false _ (by omega))
              | false => exact h6 x r e1 e2 ha
  exact key l.length ap l (Nat.le_refl _)
theorem words_end (l : List Int) (h : l = [] ∨ ∃ r, l = 32 :: r) : words false l = words true l := by
  rcases h with rfl | ⟨r, rfl⟩
  · rw [words_nil, words_nil]
  · rw [words_sp, words_sp]
/-- Texts behind each other, a space between. -/
theorem words_append (ap : Bool) (l t : List Int) (ws us : List (List Int)) (h : words ap l = some ws) (ht : words true t = some us) : words ap (l ++ 32 :: t) = some (ws ++ us) := by
  revert ws
  refine words_ind (p := fun ap l => ∀ ws, words ap l = some ws → words ap (l ++ 32 :: t) = some (ws ++ us)) ?_ ?_ ?_ ?_ ?_ ?_ ?_ ap l
  · intro ap ws h
    rw [words_nil] at h
    obtain rfl := Option.some.inj h
    rw [List.nil_append, words_sp, ht]; rfl
  · intro ap r ih ws h
    rw [words_sp] at h
    rw [List.cons_append, words_sp]
    exact ih ws h
  · intro x r hx ws h
    rw [words_glued x r hx] at h; cases h
  · intro r hq ws h
    rw [words_q_none r hq] at h; cases h
  · intro r w r' hq ih ws h
    rw [words_q r w r' hq] at h
    obtain ⟨ws', hw, rfl⟩ := Option.map_eq_some_iff.1 h
    rw [List.cons_append, words_q _ w _ (readQ_append hq _), ih ws' hw]; rfl
  · intro x r hx ih ws h
    rw [words_atm x r hx] at h
    obtain ⟨ws', hw, rfl⟩ := Option.map_eq_some_iff.1 h
    have e1 : (r ++ 32 :: t).dropWhile isAtm = r.dropWhile isAtm ++ 32 :: t := by
      rw [List.dropWhile_append]
      split
      · rename_i hn
        rw [List.isEmpty_iff.1 hn, List.nil_append, List.dropWhile_cons_of_neg (by decide)]
      · rfl
    have e2 : (r ++ 32 :: t).takeWhile isAtm = r.takeWhile isAtm := by
      rw [List.takeWhile_append]
      split
      · rename_i hn
        rw [List.takeWhile_cons_of_neg (by decide), List.append_nil]
        have := List.takeWhile_prefix isAtm (l := r)
        exact (List.IsPrefix.eq_of_length this hn).symm
      · rfl
    rw [List.cons_append, words_atm x _ hx, e1, e2, ih ws' hw]; rfl
  · intro x r h1 h2 h3 ws h
    rw [words_bad x r h1 h2 h3] at h; cases h
theorem drop_all {r : List Int} (h : ∀ y ∈ r, isAtm y = true) : r.dropWhile isAtm = [] ∧ r.takeWhile isAtm = r := by
  induction r with
  | nil => exact ⟨rfl, rfl⟩
  | cons y r ih =>
    have h1 := h y (by simp)
    have h2 := ih fun z hz => h z (List.mem_cons_of_mem _ hz)
    rw [List.dropWhile_cons_of_pos h1, List.takeWhile_cons_of_pos h1, h2.1, h2.2]
    exact ⟨rfl, rfl⟩
theorem words_quote {w : List Int} (h : textOk w = true) : words true (quoteW w) = some [w] := by
  rcases quoteW_cases w h with ⟨ha, hq⟩ | ⟨ha, hq⟩ <;> rw [hq]
  · rw [atomOk_iff] at ha
    match w, ha with
    | x :: r, ha =>
      have hx := ha.2.2 x (by simp)
      have hr : ∀ y ∈ r, isAtm y = true := fun y hy => ha.2.2 y (List.mem_cons_of_mem _ hy)
      rw [words_atm x r hx, (drop_all hr).1, words_nil, (drop_all hr).2]
      rfl
  · rw [words_q _ w [] (readQ_esc w []), words_nil]; rfl
/-- Pieces with a space between. -/
def tailJ : List (List Int) → List Int
  | [] => []
  | x :: r => 32 :: (x ++ tailJ r)
def joinL : List (List Int) → List Int
  | [] => []
  | x :: r => x ++ tailJ r
theorem tailJ_append (a b : List (List Int)) : tailJ (a ++ b) = tailJ a ++ tailJ b := by
  induction a with
  | nil => rfl
  | cons x r ih => simp only [List.cons_append, tailJ, ih, List.append_assoc]
theorem joinL_cons2 (x y : List Int) (r : List (List Int)) : joinL (x :: y :: r) = x ++ 32 :: joinL (y :: r) := rfl
theorem words_joined (ws : List (List Int)) (h : ∀ w ∈ ws, textOk w = true) : words true (joinL (ws.map quoteW)) = some ws := by
  induction ws with
  | nil => rw [List.map_nil, joinL, words_nil]
  | cons w r ih =>
    match r, ih, h with
    | [], _, h =>
      rw [List.map_cons, List.map_nil, joinL, tailJ, List.append_nil]
      exact words_quote (h w (by simp))
    | u :: r', ih, h =>
      rw [List.map_cons, List.map_cons, joinL_cons2, ← List.map_cons]
      exact words_append true _ _ [w] (u :: r') (words_quote (h w (by simp))) (ih fun y hy => h y (List.mem_cons_of_mem _ hy))
def joinW (ws : List (List Int)) : List Int := if ws.all textOk = true ∧ (joinL (ws.map quoteW)).length ≤ 200 then joinL (ws.map quoteW) else []
theorem esc_mem {l : List Int} {x : Int} (h : x ∈ esc l) : x = 92 ∨ x ∈ l := by
  induction l with
  | nil => cases h
  | cons y r ih =>
    simp only [esc] at h
    split at h
    · rcases List.mem_cons.1 h with h | h
      · exact .inl h
      · rcases List.mem_cons.1 h with h | h
        · exact .inr (by rw [h]; simp)
        · exact (ih h).imp id (List.mem_cons_of_mem _)
    · rcases List.mem_cons.1 h with h | h
      · exact .inr (by rw [h]; simp)
      · exact (ih h).imp id (List.mem_cons_of_mem _)
theorem quoteW_mem {l : List Int} {x : Int} (h : x ∈ quoteW l) : x = 92 ∨ x = 34 ∨ x ∈ l := by
  unfold quoteW at h
  split at h
  · split at h
    · exact .inr (.inr h)
    · rcases List.mem_cons.1 h with h | h
      · exact .inr (.inl h)
      · rcases List.mem_append.1 h with h | h
        · exact (esc_mem h).imp id .inr
        · exact .inr (.inl (by simpa using h))
  · cases h
theorem tailJ_mem {ws : List (List Int)} {x : Int} (h : x ∈ tailJ ws) : x = 32 ∨ ∃ w ∈ ws, x ∈ w := by
  induction ws with
  | nil => cases h
  | cons y r ih =>
    simp only [tailJ] at h
    rcases List.mem_cons.1 h with h | h
    · exact .inl h
    · rcases List.mem_append.1 h with h | h
      · exact .inr ⟨y, by simp, h⟩
      · exact (ih h).imp id fun ⟨w, hw, hx⟩ => ⟨w, List.mem_cons_of_mem _ hw, hx⟩
theorem joinL_mem {ws : List (List Int)} {x : Int} (h : x ∈ joinL ws) : x = 32 ∨ ∃ w ∈ ws, x ∈ w := by
  cases ws with
  | nil => cases h
  | cons y r =>
    simp only [joinL] at h
    rcases List.mem_append.1 h with h | h
    · exact .inr ⟨y, by simp, h⟩
    · exact (tailJ_mem h).imp id fun ⟨w, hw, hx⟩ => ⟨w, List.mem_cons_of_mem _ hw, hx⟩
theorem joinW_text (ws : List (List Int)) : textOk (joinW ws) = true := by
  unfold joinW
  split
  · rename_i h
    rw [textOk_iff]
    refine ⟨h.2, fun x hx => ?_⟩
    rcases joinL_mem hx with rfl | ⟨q, hq, hx⟩
    · omega
    · obtain ⟨w, hw, rfl⟩ := List.mem_map.1 hq
      have ht := (textOk_iff w).1 (List.all_eq_true.1 h.1 w hw)
      rcases quoteW_mem hx with rfl | rfl | hx
      · omega
      · omega
      · exact ht.2 x hx
  · decide
theorem words_mem {ap : Bool} {l : List Int} {ws : List (List Int)} (h : words ap l = some ws) : ∀ w ∈ ws, w.length ≤ l.length ∧ ∀ x ∈ w, x ∈ l := by
  revert ws
  refine words_ind (p := fun ap l => ∀ {ws}, words ap l = some ws → ∀ w ∈ ws, w.length ≤ l.length ∧ ∀ x ∈ w, x ∈ l) ?_ ?_ ?_ ?_ ?_ ?_ ?_ ap l
  · intro ap ws h w hw
    rw [words_nil] at h
    obtain rfl := Option.some.inj h
    cases hw
  · intro ap r ih ws h w hw
    rw [words_sp] at h
    have := ih h w hw
    exact ⟨by simp only [List.length_cons]; omega, fun x hx => List.mem_cons_of_mem _ (this.2 x hx)⟩
  · intro x r hx ws h
    rw [words_glued x r hx] at h; cases h
  · intro r hq ws h
    rw [words_q_none r hq] at h; cases h
  · intro r w r' hq ih ws h u hu
    rw [words_q r w r' hq] at h
    obtain ⟨ws', hw, rfl⟩ := Option.map_eq_some_iff.1 h
    obtain ⟨pre, rfl, hl, hm⟩ := readQ_some hq
    rcases List.mem_cons.1 hu with rfl | hu
    · exact ⟨by simp only [List.length_cons, List.length_append]; omega, fun x hx => List.mem_cons_of_mem _ (hm x hx)⟩
    · have := ih hw u hu
      exact ⟨by simp only [List.length_cons, List.length_append]; omega, fun x hx => List.mem_cons_of_mem _ (List.mem_append_right _ (List.mem_cons_of_mem _ (this.2 x hx)))⟩
  · intro x r hx ih ws h u hu
    rw [words_atm x r hx] at h
    obtain ⟨ws', hw, rfl⟩ := Option.map_eq_some_iff.1 h
    have l1 : (r.dropWhile isAtm).length ≤ r.length := (List.dropWhile_suffix _).length_le
    have l2 : (r.takeWhile isAtm).length ≤ r.length := (List.takeWhile_prefix _).length_le
    rcases List.mem_cons.1 hu with rfl | hu
    · refine ⟨by simp only [List.length_cons]; omega, fun y hy => ?_⟩
      rcases List.mem_cons.1 hy with rfl | hy
      · simp
      · exact List.mem_cons_of_mem _ ((List.takeWhile_prefix _).subset hy)
    · have := ih hw u hu
      exact ⟨by simp only [List.length_cons]; omega, fun y hy => List.mem_cons_of_mem _ ((List.dropWhile_suffix _).subset (this.2 y hy))⟩
  · intro x r h1 h2 h3 ws h
    rw [words_bad x r h1 h2 h3] at h; cases h
theorem words_texts {l : List Int} {ws : List (List Int)} (ht : textOk l = true) (h : words true l = some ws) : ws.all textOk = true := by
  rw [List.all_eq_true]
  intro w hw
  have := words_mem h w hw
  rw [textOk_iff] at ht ⊢
  exact ⟨by omega, fun x hx => ht.2 x (this.2 x hx)⟩
theorem splitW_some {l : List Int} {ws : List (List Int)} (h : splitW l = (ws, true)) : textOk l = true ∧ words true l = some ws := by
  unfold splitW at h
  split at h
  · rename_i ht
    split at h
    · simp at h
    · rename_i us hu
      injection h with h _
      subst h
      exact ⟨ht, hu⟩
  · simp at h
theorem splitW_of {l : List Int} {ws : List (List Int)} (ht : textOk l = true) (h : words true l = some ws) : splitW l = (ws, true) := by
  unfold splitW
  rw [if_pos ht, h]
theorem split_join (ws : List (List Int)) (h : joinW ws ≠ []) : splitW (joinW ws) = (ws, true) := by
  refine splitW_of (joinW_text ws) ?_
  unfold joinW at h ⊢
  split
  · rename_i hc
    exact words_joined ws fun w hw => List.all_eq_true.1 hc.1 w hw
  · rename_i hc
    rw [if_neg hc] at h
    exact absurd rfl h
theorem words_len {ap : Bool} {l : List Int} {ws : List (List Int)} (h : words ap l = some ws) : ws.length ≤ l.length := by
  revert ws
  refine words_ind (p := fun ap l => ∀ {ws}, words ap l = some ws → ws.length ≤ l.length) ?_ ?_ ?_ ?_ ?_ ?_ ?_ ap l
  · intro ap ws h
    rw [words_nil] at h
    obtain rfl := Option.some.inj h
    exact Nat.le_refl _
  · intro ap r ih ws h
    rw [words_sp] at h
    have := ih h
    simp only [List.length_cons]; omega
  · intro x r hx ws h
    rw [words_glued x r hx] at h; cases h
  · intro r hq ws h
    rw [words_q_none r hq] at h; cases h
  · intro r w r' hq ih ws h
    rw [words_q r w r' hq] at h
    obtain ⟨ws', hw, rfl⟩ := Option.map_eq_some_iff.1 h
    have h1 := ih hw
    have h2 := readQ_lt hq
    simp only [List.length_cons]; omega
  · intro x r hx ih ws h
    rw [words_atm x r hx] at h
    obtain ⟨ws', hw, rfl⟩ := Option.map_eq_some_iff.1 h
    have h1 := ih hw
    have h2 : (r.dropWhile isAtm).length ≤ r.length := (List.dropWhile_suffix _).length_le
    simp only [List.length_cons]; omega
  · intro x r h1 h2 h3 ws h
    rw [words_bad x r h1 h2 h3] at h; cases h
theorem splitW_len (l : List Int) : (splitW l).1.length ≤ l.length := by
  unfold splitW
  split
  · split
    · simp
    · rename_i ws hw
      exact words_len hw
  · simp

end Go.Proofs.YtcnkakaipajloaaDoor.Q
