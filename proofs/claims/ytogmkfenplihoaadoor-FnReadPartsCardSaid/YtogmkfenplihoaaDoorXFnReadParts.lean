/- Plain lemmas, and what the printed functions come to; no condition. -/
import Derived.Test.YtogmkfenplihoaaDoorQH
import Derived.Lib.Strings
import Derived.Test.YtogmkfenplihoaaDoorQ0
import Derived.Test.YtogmkfenplihoaaDoorQ10
import Derived.Test.YtogmkfenplihoaaDoorQ11
import Derived.Test.YtogmkfenplihoaaDoorQ12
import Derived.Test.YtogmkfenplihoaaDoorQ14
import Derived.Test.YtogmkfenplihoaaDoorQ3
import Derived.Test.YtogmkfenplihoaaDoorQ4
import Derived.Test.YtogmkfenplihoaaDoorQ5
import Derived.Test.YtogmkfenplihoaaDoorQ6
import Derived.Test.YtogmkfenplihoaaDoorQ7
import Derived.Test.YtogmkfenplihoaaDoorQ8
set_option linter.unusedVariables false
set_option linter.unusedSimpArgs false
namespace Go.Proofs.YtogmkfenplihoaaDoor.Q
open Go.RowKit Go.Proofs.YtogmkfenplihoaaDoorV.PrintWords Go.Proofs.YtogmkfenplihoaaDoorV.PrintLast Go.Proofs.YtogmkfenplihoaaDoorV.PrintMore
def IsB (l : List Int) : Prop := ∀ x ∈ l, 0 ≤ x ∧ x ≤ 255
theorem IsB.nil : IsB [] := by intro x hx; cases hx
theorem IsB.cons {x : Int} {l : List Int} (h1 : 0 ≤ x ∧ x ≤ 255) (h2 : IsB l) : IsB (x :: l) := by
  intro y hy
  rcases List.mem_cons.1 hy with rfl | hy
  · exact h1
  · exact h2 y hy
theorem IsB.sub {a b : List Int} (h : IsB a) (hs : ∀ x ∈ b, x ∈ a) : IsB b := fun x hx => h x (hs x hx)
theorem IsB.take {a : List Int} (h : IsB a) (n : Nat) : IsB (a.take n) := h.sub fun _ hx => List.mem_of_mem_take hx
theorem IsB.drop {a : List Int} (h : IsB a) (n : Nat) : IsB (a.drop n) := h.sub fun _ hx => List.mem_of_mem_drop hx
theorem L_IsB (s : ByteArray) : IsB (bytesOf s) := by
  intro x hx
  simp only [bytesOf, List.mem_map] at hx
  obtain ⟨b, _, rfl⟩ := hx
  have := b.toNat_lt
  omega
theorem L_len (s : ByteArray) : (bytesOf s).length = s.size := bytesOf_length s
theorem S_L (s : ByteArray) : strOfNums (bytesOf s) = s := by
  apply ByteArray.ext
  apply Array.ext'
  rw [strOfNums_data, bytesOf, List.map_map]
  have : ((fun n : Int => UInt8.ofNat n.toNat) ∘ fun b : UInt8 => (b.toNat : Int)) = id := by
    funext b
    simp
  rw [this, List.map_id]
theorem L_S {l : List Int} (h : IsB l) : bytesOf (strOfNums l) = l := by
  rw [bytesOf, strOfNums_data, List.map_map]
  have : ∀ x ∈ l, ((fun b : UInt8 => (b.toNat : Int)) ∘ fun n : Int => UInt8.ofNat n.toNat) x = id x := by
    intro x hx
    have := h x hx
    simp only [Function.comp_apply, id, UInt8.toNat_ofNat']
    omega
  rw [List.map_congr_left this, List.map_id]
theorem L_inj {s t : ByteArray} (h : bytesOf s = bytesOf t) : s = t := by rw [← S_L s, h, S_L]
theorem L_append (s t : ByteArray) : bytesOf (s ++ t) = bytesOf s ++ bytesOf t := by
  simp only [bytesOf, ByteArray.data_append, Array.toList_append, List.map_append]
theorem L_extract (s : ByteArray) (a b : Nat) : bytesOf (s.extract a b) = ((bytesOf s).drop a).take (b - a) := by
  simp only [bytesOf, Lib.extract_data, List.map_take, List.map_drop]
theorem L_from (s : ByteArray) (a : Nat) : bytesOf (s.extract a s.size) = (bytesOf s).drop a := by
  rw [L_extract, List.take_of_length_le]
  rw [List.length_drop, L_len]; exact Nat.le_refl _
theorem L_to (s : ByteArray) (a : Nat) : bytesOf (s.extract 0 a) = (bytesOf s).take a := by
  rw [L_extract, List.drop_zero, Nat.sub_zero]
theorem toList_iff {s t : ByteArray} : s.toList = t.toList ↔ s = t := by
  constructor
  · intro h
    rw [Lib.toList_data, Lib.toList_data] at h
    exact ByteArray.ext (Array.ext' h)
  · intro h; rw [h]
theorem toList_beq (s t : ByteArray) : (s.toList == t.toList) = decide (s = t) := by
  by_cases h : s = t
  · subst h; simp
  · rw [decide_eq_false h, beq_eq_false_iff_ne]
    exact fun e => h (toList_iff.1 e)
theorem toList_nil : (⟨#[]⟩ : ByteArray).toList = [] := by rw [Lib.toList_data]
theorem L_iff {s t : ByteArray} : bytesOf s = bytesOf t ↔ s = t := ⟨L_inj, fun h => by rw [h]⟩
theorem bt_get (s : ByteArray) (i : Nat) (h : i < s.size) : (bytesOf s)[i]? = some (bt s i) := by
  rw [List.getElem?_eq_getElem (by rw [L_len]; exact h), bytesOf_at s i h]
theorem L_drop (s : ByteArray) (i : Nat) (h : i < s.size) : (bytesOf s).drop i = bt s i :: (bytesOf s).drop (i + 1) := bytesOf_drop s i h
theorem L_drop_nil (s : ByteArray) (i : Nat) (h : s.size ≤ i) : (bytesOf s).drop i = [] := List.drop_eq_nil_of_le (by rw [L_len]; exact h)
theorem L_nil : bytesOf (⟨#[]⟩ : ByteArray) = [] := rfl
theorem size_nil_iff (s : ByteArray) : s.size = 0 ↔ bytesOf s = [] := by rw [← L_len, List.length_eq_zero_iff]
theorem size_append (s t : ByteArray) : (s ++ t).size = s.size + t.size := by rw [← L_len, L_append, List.length_append, L_len, L_len]
theorem wrap_id {x : Int} (h1 : -9223372036854775808 ≤ x) (h2 : x ≤ 9223372036854775807) : wrap64 x = x := by unfold wrap64; omega
theorem ev_succ {α : Type} {g : Nat → Option α} {r : α} (h : Ev (fun k => g (k + 1)) r) : Ev g r := Ev.step (fun _ => rfl) h
theorem ev_of {α : Type} {g : Option α} {r : α} (h : g = some r) : Ev (fun _ => g) r := ⟨0, fun _ _ => h⟩
theorem ev_bind {α β : Type} {g : Nat → Option α} {f : Nat → α → Option β} {a : α} {r : β} (h : Ev g a) (k : Ev (fun n => f n a) r) : Ev (fun n => (g n).bind fun t => f n t) r := Ev.bind h k
theorem ev_bind1 {α β : Type} {g : Option α} {f : Nat → α → Option β} {a : α} {r : β} (h : g = some a) (k : Ev (fun n => f n a) r) : Ev (fun n => g.bind fun t => f n t) r := by
  subst h; exact k
theorem ev_pos {α : Type} {c : Prop} [Decidable c] {a b : Nat → Option α} {r : α} (hc : c) (h : Ev a r) : Ev (fun k => if c then a k else b k) r := by
  simp only [if_pos hc]; exact h
theorem ev_neg {α : Type} {c : Prop} [Decidable c] {a b : Nat → Option α} {r : α} (hc : ¬ c) (h : Ev b r) : Ev (fun k => if c then a k else b k) r := by
  simp only [if_neg hc]; exact h
theorem ev_cast {α : Type} {g : Nat → Option α} {r r' : α} (h : Ev g r) (e : r = r') : Ev g r' := e ▸ h
theorem xor_i64 (a b : Nat) (ha : a < 4611686018427387904) (hb : b < 4611686018427387904) : bits .xor .i64 (a : Int) (b : Int) = ((a ^^^ b : Nat) : Int) := by
  have hx : a ^^^ b < 2 ^ 62 := Nat.xor_lt_two_pow (by omega) (by omega)
  have h1 : (BitVec.ofInt 64 (a : Int)).toNat = a := by
    rw [BitVec.ofInt_natCast, BitVec.toNat_ofNat]; exact Nat.mod_eq_of_lt (by omega)
  have h2 : (BitVec.ofInt 64 (b : Int)).toNat = b := by
    rw [BitVec.ofInt_natCast, BitVec.toNat_ofNat]; exact Nat.mod_eq_of_lt (by omega)
  show IntKind.i64.wrap ((BitVec.ofInt 64 (a : Int) ^^^ BitVec.ofInt 64 (b : Int)).toNat : Int) = _
  rw [BitVec.toNat_xor, h1, h2, i64_w]
  exact wrap_id (by omega) (by omega)
theorem xor_nonneg (x : Int) (h1 : 0 ≤ x) (h2 : x < 4611686018427387904) : 0 ≤ bits .xor .i64 x (wrap64 (Int.tdiv x 64)) := by
  obtain ⟨n, rfl⟩ : ∃ n : Nat, x = n := ⟨x.toNat, by omega⟩
  have e : wrap64 (Int.tdiv (n : Int) 64) = ((n / 64 : Nat) : Int) := by
    rw [Int.tdiv_eq_ediv_of_nonneg (by omega), wrap_id (by omega) (by omega)]
    omega
  rw [e, xor_i64 n (n / 64) (by omega) (by omega)]
  omega
def isLet (x : Int) : Bool := decide ((97 ≤ x ∧ x ≤ 122) ∨ (65 ≤ x ∧ x ≤ 90))
def isDig (x : Int) : Bool := decide (48 ≤ x ∧ x ≤ 57)
def isTxt (x : Int) : Bool := decide (32 ≤ x ∧ x ≤ 126)
def textOk (l : List Int) : Bool := decide (l.length ≤ 200) && l.all isTxt
def ltrim (l : List Int) : List Int := l.dropWhile (fun x => decide (x = 32))
def rtrim (l : List Int) : List Int := (ltrim l.reverse).reverse
def trimT (l : List Int) : List Int := rtrim (ltrim l)
theorem ltrim_sp (r : List Int) : ltrim (32 :: r) = ltrim r := by simp [ltrim]
theorem ltrim_ne {x : Int} (r : List Int) (h : x ≠ 32) : ltrim (x :: r) = x :: r := by
  unfold ltrim
  rw [List.dropWhile_cons_of_neg (by simp [h])]
theorem rtrim_sp (l : List Int) : rtrim (l ++ [32]) = rtrim l := by
  unfold rtrim
  rw [List.reverse_append]
  simp [ltrim_sp]
theorem rtrim_ne {x : Int} (l : List Int) (h : x ≠ 32) : rtrim (l ++ [x]) = l ++ [x] := by
  unfold rtrim
  rw [List.reverse_append]
  simp [ltrim_ne _ h]
theorem rtrim_nil : rtrim [] = [] := rfl
theorem ltrim_sub (l : List Int) : (ltrim l).Sublist l := List.dropWhile_sublist _
theorem rtrim_sub (l : List Int) : (rtrim l).Sublist l := by
  have := (ltrim_sub l.reverse).reverse
  rwa [List.reverse_reverse] at this
theorem trim_sub (l : List Int) : (trimT l).Sublist l := (rtrim_sub _).trans (ltrim_sub l)
/-- Both orders of cutting come to one. -/
theorem ltrim_append_sp (l : List Int) : ltrim (l ++ [32]) = if ltrim l = [] then [] else ltrim l ++ [32] := by
  induction l with
  | nil => simp [ltrim]
  | cons x r ih =>
    by_cases h : x = 32
    · subst h; rw [List.cons_append, ltrim_sp, ltrim_sp, ih]
    · rw [List.cons_append, ltrim_ne _ h, ltrim_ne _ h, if_neg (by simp), List.cons_append]
theorem ltrim_append_ne (l : List Int) {x : Int} (hx : x ≠ 32) : ltrim (l ++ [x]) = ltrim l ++ [x] := by
  induction l with
  | nil => rw [List.nil_append, ltrim_ne _ hx]; rfl
  | cons y r ih =>
    by_cases h : y = 32
    · subst h; rw [List.cons_append, ltrim_sp, ltrim_sp, ih]
    · rw [List.cons_append, ltrim_ne _ h, ltrim_ne _ h, List.cons_append]
theorem snoc_ind {p : List Int → Prop} (h0 : p []) (h1 : ∀ l x, p l → p (l ++ [x])) (l : List Int) : p l := by
  have : ∀ m : List Int, p m.reverse := by
    intro m
    induction m with
    | nil => exact h0
    | cons x r ih => rw [List.reverse_cons]; exact h1 _ _ ih
  have := this l.reverse
  rwa [List.reverse_reverse] at this
theorem trim_comm (l : List Int) : ltrim (rtrim l) = trimT l := by
  unfold trimT
  refine snoc_ind (p := fun l => ltrim (rtrim l) = rtrim (ltrim l)) rfl (fun l x ih => ?_) l
  by_cases h : x = 32
  · subst h
    rw [rtrim_sp, ltrim_append_sp, ih]
    by_cases he : ltrim l = []
    · rw [if_pos he, he]
    · rw [if_neg he, rtrim_sp]
  · rw [rtrim_ne l h, ltrim_append_ne l h, rtrim_ne _ h]
def isNm (x : Int) : Bool := decide ((97 ≤ x ∧ x ≤ 122) ∨ (65 ≤ x ∧ x ≤ 90) ∨ (48 ≤ x ∧ x ≤ 57) ∨ x = 45)
def nameOk (l : List Int) : Bool := decide (1 ≤ l.length ∧ l.length ≤ 30) && ((match l with | [] => false | x :: _ => isLet x) && l.all isNm)
def fieldOk (n v : List Int) : Bool := nameOk n && (textOk v && (decide (v.length ≤ 150) && decide (trimT v = v)))
theorem fieldOk_iff {n v : List Int} : fieldOk n v = true ↔ nameOk n = true ∧ textOk v = true ∧ v.length ≤ 150 ∧ trimT v = v := by simp [fieldOk]
theorem nameOk_len {l : List Int} (h : nameOk l = true) : 1 ≤ l.length ∧ l.length ≤ 30 := by
  simp only [nameOk, Bool.and_eq_true, decide_eq_true_eq] at h
  exact h.1
/-- May a line be broken here? -/
def okB (l : List Int) (i : Nat) : Bool := decide (l[i]? = some 32) && (decide (l[i - 1]? ≠ some 32) && decide (l[i + 1]? ≠ some 32))
def brkN (l : List Int) : Nat → Nat → Option Nat → Option Nat
  | 0, _, a => a
  | d + 1, i, a => brkN l d (i + 1) (if okB l i = true ∧ (a = none ∨ i ≤ 40) then some i else a)
def brk (l : List Int) (i : Nat) : Option Nat := brkN l (l.length - 1 - i) i none
theorem brkN_some (l : List Int) : ∀ (d i a : Nat), ∃ j, brkN l d i (some a) = some j ∧ (j = a ∨ (i ≤ j ∧ j < i + d ∧ j ≤ 40))
  | 0, i, a => ⟨a, rfl, .inl rfl⟩
  | d + 1, i, a => by
    rw [brkN]
    split
    · rename_i h
      obtain ⟨j, h1, h2⟩ := brkN_some l d (i + 1) i
      have h3 : i ≤ 40 := h.2.resolve_left (by simp)
      refine ⟨j, h1, .inr ?_⟩
      omega
    · obtain ⟨j, h1, h2⟩ := brkN_some l d (i + 1) a
      refine ⟨j, h1, ?_⟩
      omega
theorem brkN_none (l : List Int) : ∀ (d i : Nat), (brkN l d i none = none → ∀ k, i ≤ k → k < i + d → okB l k = false) ∧ (∀ j, brkN l d i none = some j → i ≤ j ∧ j < i + d ∧ (j ≤ 40 ∨ ∀ k, i ≤ k → k < j → okB l k = false))
  | 0, i => ⟨fun _ k h1 h2 => by omega, fun j h => by simp [brkN] at h⟩
  | d + 1, i => by
    rw [brkN]
    by_cases hb : okB l i = true
    · rw [if_pos ⟨hb, .inl rfl⟩]
      obtain ⟨j, h1, h2⟩ := brkN_some l d (i + 1) i
      rw [h1]
      refine ⟨fun h => by simp at h, fun j' h => ?_⟩
      obtain rfl := Option.some.inj h
      rcases h2 with h2 | h2
      · exact ⟨by omega, by omega, .inr fun k h3 h4 => by omega⟩
      · exact ⟨by omega, by omega, .inl h2.2.2⟩
    · rw [if_neg (fun h => hb h.1)]
      obtain ⟨g1, g2⟩ := brkN_none l d (i + 1)
      have hb' : okB l i = false := by simpa using hb
      refine ⟨fun h k h1 h2 => ?_, fun j h => ?_⟩
      · by_cases e : k = i
        · rw [e]; exact hb'
        · exact g1 h k (by omega) (by omega)
      · obtain ⟨h1, h2, h3⟩ := g2 j h
        refine ⟨by omega, by omega, h3.imp id fun h4 k h5 h6 => ?_⟩
        by_cases e : k = i
        · rw [e]; exact hb'
        · exact h4 k (by omega) (by omega)
theorem brk_some {l : List Int} {i j : Nat} (h : brk l i = some j) : i ≤ j ∧ j + 1 < l.length ∧ (j ≤ 40 ∨ ∀ k, i ≤ k → k < j → okB l k = false) := by
  have := (brkN_none l (l.length - 1 - i) i).2 j h
  exact ⟨this.1, by omega, this.2.2⟩
/-- The lines of a long line; at most n breaks. -/
def foldF : Nat → List Int → Nat → List (List Int)
  | 0, l, _ => [l]
  | n + 1, l, i => if 40 < l.length then (match brk l i with
    | none => [l]
    | some a => l.take a :: foldF n (l.drop a) 2) else [l]
theorem foldF_len (n : Nat) (l : List Int) (i : Nat) : (foldF n l i).length ≤ n + 1 := by
  induction n generalizing l i with
  | zero => simp [foldF]
  | succ n ih =>
    rw [foldF]
    split
    · split
      · simp
      · rw [List.length_cons]
        have := ih (l.drop ‹Nat›) 2
        omega
    · simp
/-- The lines of a field. -/
def lineF (n v : List Int) : List Int := n ++ 58 :: (if v = [] then [] else 32 :: v)
def foldL (n v : List Int) : List (List Int) := foldF (lineF n v).length (lineF n v) (n.length + 3)
theorem lineF_len (n v : List Int) : (lineF n v).length = n.length + 1 + (if v = [] then 0 else 1) + v.length := by
  unfold lineF
  by_cases h : v = []
  · rw [if_pos h, if_pos h, h]; simp
  · rw [if_neg h, if_neg h]
    simp only [List.length_append, List.length_cons]
    omega
theorem rdF (l : List S25) (i : Nat) (h : i < l.length) : rd_T25 l (i : Int) = l[i] := by
  rw [rd_T25, Int.toNat_natCast, List.getD_eq_getElem?_getD, List.getElem?_eq_getElem h]
  rfl
theorem wrap_up (i : Nat) (h : i < 9223372036854775807) : wrap64 ((i : Int) + 1) = ((i + 1 : Nat) : Int) := by
  rw [wrap_id (by omega) (by omega)]
  omega
theorem extF {a b : S25} : a = b ↔ a.f0 = b.f0 ∧ a.f1 = b.f1 := by
  cases a; cases b
  simp
instance decF : DecidableEq S25 := fun _ _ => decidable_of_iff _ extF.symm
def fOk (x : S25) : Bool := fieldOk (bytesOf x.f0) (bytesOf x.f1)
def fsOk (l : List S25) : Bool := decide (l.length ≤ 20) && l.all fOk
theorem fsOk_iff {l : List S25} : fsOk l = true ↔ l.length ≤ 20 ∧ ∀ x ∈ l, fOk x = true := by simp [fsOk, List.all_eq_true]
def nb (l : List UInt8) : List Int := l.map fun b => (b.toNat : Int)
theorem nb_mk (l : List UInt8) : bytesOf (⟨l.toArray⟩ : ByteArray) = nb l := rfl
theorem nb_inj32 (b : UInt8) : ((b.toNat : Int) = 32) ↔ b = 32 := by
  constructor
  · intro h
    apply UInt8.toNat_inj.1
    have : (32 : UInt8).toNat = 32 := rfl
    omega
  · intro h; rw [h]; rfl
theorem nb_ltrim (l : List UInt8) : nb (Lib.trimLeftB l 32) = ltrim (nb l) := by
  induction l with
  | nil => rfl
  | cons b r ih =>
    by_cases h : b = 32
    · subst h
      have e : nb ((32 : UInt8) :: r) = 32 :: nb r := rfl
      rw [e, ltrim_sp, ← ih]
      unfold Lib.trimLeftB
      rw [List.dropWhile_cons_of_pos (by simp)]
    · have e : nb (b :: r) = (b.toNat : Int) :: nb r := rfl
      rw [e, ltrim_ne _ (fun q => h ((nb_inj32 b).1 q))]
      unfold Lib.trimLeftB
      rw [List.dropWhile_cons_of_neg (by simpa using h), e]
theorem nb_rtrim (l : List UInt8) : nb (Lib.trimRightB l 32) = rtrim (nb l) := by
  have h : ∀ m : List UInt8, nb m.reverse = (nb m).reverse := fun m => by simp [nb]
  have e : Lib.trimRightB l 32 = (Lib.trimLeftB l.reverse 32).reverse := rfl
  rw [e, h, nb_ltrim, h]
  rfl
def trimS (s : ByteArray) : ByteArray := strOfNums (trimT (bytesOf s))
theorem trimT_IsB {l : List Int} (h : IsB l) : IsB (trimT l) := h.sub (trim_sub l).subset
theorem L_trimS (s : ByteArray) : bytesOf (trimS s) = trimT (bytesOf s) := L_S (trimT_IsB (L_IsB s))
theorem strings_Trim_eq (s : ByteArray) (hs : s.size ≤ 9223372036854775807) : strings_Trim.f s (⟨#[32]⟩ : ByteArray) = some (trimS s) := by
  unfold strings_Trim.f
  show (if (32 : UInt8).toNat < 128 ∧ s.size ≤ 9223372036854775807 then _ else _) = _
  rw [if_pos ⟨by decide, hs⟩]
  refine congrArg some (L_inj ?_)
  rw [L_trimS, nb_mk, ← trim_comm]
  unfold Lib.trimB
  rw [nb_ltrim, nb_rtrim]
  rfl
theorem nilB (a : ByteArray) : a.toList = ([] : List UInt8) ↔ bytesOf a = [] := by rw [← toList_nil, toList_iff, ← L_iff, L_nil]
theorem head_bt (s : ByteArray) (h : 0 < s.size) : ∃ r, bytesOf s = bt s 0 :: r := by
  have := L_drop s 0 h
  rw [List.drop_zero] at this
  exact ⟨_, this⟩
theorem lt_cons (s : ByteArray) (h : 0 < s.size) (h32 : bt s 0 = 32) : ltrim (bytesOf s) = ltrim (bytesOf (s.extract 1 s.size)) := by
  have e := L_drop s 0 h
  rw [List.drop_zero] at e
  have h32' : bt s ((0 : Nat) : Int) = 32 := h32
  rw [L_from, e, h32', ltrim_sp]
  rfl
theorem snoc_bt (s : ByteArray) (h : 0 < s.size) : bytesOf s = bytesOf (s.extract 0 (s.size - 1)) ++ [bt s ((s.size - 1 : Nat) : Int)] := by
  have hl : s.size - 1 < (bytesOf s).length := by rw [L_len]; omega
  have e := List.take_succ_eq_append_getElem hl
  rw [show s.size - 1 + 1 = s.size by omega, List.take_of_length_le (by rw [L_len]; exact Nat.le_refl _), bytesOf_at s (s.size - 1) (by omega)] at e
  rw [L_to]
  exact e
theorem spec_l2Trim_l1 : ∀ (n : Nat) (s : ByteArray), s.size ≤ n → n ≤ 1048576 → Ev (fun k => spec_l2Trim.l1 k s) (strOfNums (rtrim (bytesOf s))) := by
  intro n
  induction n with
  | zero =>
    intro s hs hn
    refine ev_succ ?_
    simp only [spec_l2Trim.l1]
    have e : bytesOf s = [] := (size_nil_iff s).1 (by omega)
    refine ev_neg (by omega) (ev_of ?_)
    rw [e, rtrim_nil, ← e, S_L]
  | succ n ih =>
    intro s hs hn
    refine ev_succ ?_
    simp only [spec_l2Trim.l1]
    by_cases h0 : 0 < s.size
    · have ew : wrap64 ((s.size : Int) - 1) = ((s.size - 1 : Nat) : Int) := by rw [wrap_id (by omega) (by omega)]; omega
      rw [ew]
      have hz : (s.extract 0 (s.size - 1)).size = s.size - 1 := by rw [← L_len, L_to, List.length_take, L_len]; omega
      refine ev_pos (by omega) (ev_pos (by omega) (ev_pos (by omega) ?_))
      have e := snoc_bt s h0
      by_cases h32 : bt s ((s.size - 1 : Nat) : Int) = 32
      · rw [h32] at e ⊢
        rw [e, rtrim_sp, Int.toNat_natCast]
        exact ev_pos rfl (ev_pos (by omega) (ih _ (by omega) (by omega)))
      · refine ev_neg h32 (ev_of ?_)
        rw [e, rtrim_ne _ h32, ← e, S_L]
    · have e : bytesOf s = [] := (size_nil_iff s).1 (by omega)
      refine ev_neg (by omega) (ev_of ?_)
      rw [e, rtrim_nil, ← e, S_L]
theorem spec_l2Trim_l0 : ∀ (n : Nat) (s : ByteArray), s.size ≤ n → n ≤ 1048576 → Ev (fun k => spec_l2Trim.l0 k s) (trimS s) := by
  intro n
  induction n with
  | zero =>
    intro s hs hn
    refine ev_succ ?_
    simp only [spec_l2Trim.l0]
    have e : bytesOf s = [] := (size_nil_iff s).1 (by omega)
    refine ev_neg (by omega) (ev_succ ?_)
    simp only [spec_l2Trim.j1]
    refine ev_cast (spec_l2Trim_l1 0 s hs (by omega)) ?_
    unfold trimS trimT
    rw [e]; rfl
  | succ n ih =>
    intro s hs hn
    refine ev_succ ?_
    simp only [spec_l2Trim.l0]
    by_cases h0 : 0 < s.size
    · have hz : (s.extract 1 s.size).size = s.size - 1 := by rw [← L_len, L_from, List.length_drop, L_len]
      refine ev_pos (by omega) (ev_pos (by omega) ?_)
      by_cases h32 : bt s 0 = 32
      · refine ev_pos h32 (ev_pos (by omega) (ev_cast (ih _ (by omega) (by omega)) ?_))
        unfold trimS trimT
        rw [lt_cons s h0 h32]
      · refine ev_neg h32 (ev_succ ?_)
        simp only [spec_l2Trim.j1]
        refine ev_cast (spec_l2Trim_l1 (n + 1) s hs hn) ?_
        obtain ⟨r, e⟩ := head_bt s h0
        unfold trimS trimT
        rw [e, ltrim_ne r h32]
    · have e : bytesOf s = [] := (size_nil_iff s).1 (by omega)
      refine ev_neg (by omega) (ev_succ ?_)
      simp only [spec_l2Trim.j1]
      refine ev_cast (spec_l2Trim_l1 (n + 1) s hs hn) ?_
      unfold trimS trimT
      rw [e]; rfl
theorem spec_l2Trim_ev (s : ByteArray) (hs : s.size ≤ 1048576) : Ev (fun k => spec_l2Trim.f k s) (trimS s) := spec_l2Trim_l0 s.size s (Nat.le_refl _) hs
theorem trimS_eq (s : ByteArray) : ((trimS s).toList == s.toList) = decide (trimT (bytesOf s) = bytesOf s) := by
  rw [toList_beq]
  exact decide_eq_decide.2 (by rw [← L_iff, L_trimS])
theorem wrap_succ (i : Nat) (h : (i : Int) < 9223372036854775807) : wrap64 ((i : Int) + 1) = ((i + 1 : Nat) : Int) := by
  rw [wrap_id (by omega) (by omega)]; rfl
theorem allO_some {α : Type} {p : α → Option Bool} {q : α → Bool} (l : List α) (h : ∀ x ∈ l, p x = some (q x)) : allO p l = some (l.all q) := by
  induction l with
  | nil => rfl
  | cons x r ih =>
    rw [allO, h x (by simp), Option.bind_some, ih fun y hy => h y (List.mem_cons_of_mem _ hy), List.all_cons]
    cases q x <;> rfl
theorem ev_anyO {α : Type} {p : Nat → α → Option Bool} {q : α → Bool} (l : List α) (h : ∀ x ∈ l, Ev (fun k => p k x) (q x)) : Ev (fun k => anyO (p k) l) (l.any q) := by
  induction l with
  | nil => exact Ev.now _
  | cons x r ih =>
    have h1 := h x (by simp)
    have h2 := ih fun y hy => h y (List.mem_cons_of_mem _ hy)
    simp only [anyO]
    refine ev_bind h1 ?_
    rw [List.any_cons]
    cases q x with
    | true => exact ev_pos rfl (Ev.now _)
    | false => exact ev_neg (by decide) h2
theorem impl_isLetter_eq (x : Int) : impl_isLetter.f x = some (isLet x) := by
  unfold impl_isLetter.f isLet
  repeat' split
  all_goals first | exact congrArg some (decide_eq_true (by omega)).symm | exact congrArg some (decide_eq_false (by omega)).symm | exact congrArg some (decide_eq_decide.2 (by omega))
theorem impl_isDigit_eq (x : Int) : impl_isDigit.f x = some (isDig x) := by
  unfold impl_isDigit.f isDig
  repeat' split
  all_goals first | exact congrArg some (decide_eq_true (by omega)).symm | exact congrArg some (decide_eq_false (by omega)).symm | exact congrArg some (decide_eq_decide.2 (by omega))
theorem spec_l1Letter_eq (x : Int) : spec_l1Letter.f x = some (decide ((97 ≤ x ∧ x ≤ 122) ∨ (65 ≤ x ∧ x ≤ 90) ∨ (48 ≤ x ∧ x ≤ 57))) := by
  unfold spec_l1Letter.f
  repeat' split
  all_goals first | exact congrArg some (decide_eq_true (by omega)).symm | exact congrArg some (decide_eq_false (by omega)).symm | exact congrArg some (decide_eq_decide.2 (by omega))
theorem impl_TextValid_l0 (s : ByteArray) (hs : s.size ≤ 4611686018427387904) : ∀ (d i : Nat), i + d = s.size → Ev (fun k => impl_TextValid.l0 k s (s.size : Int) (i : Int)) (decide (s.size ≤ 200) && ((bytesOf s).drop i).all isTxt) := by
  intro d
  induction d with
  | zero =>
    intro i hi
    refine ev_succ ?_
    simp only [impl_TextValid.l0]
    refine ev_neg (by omega) ?_
    rw [L_drop_nil s i (by omega), List.all_nil, Bool.and_true]
    exact ev_of (congrArg some (decide_eq_decide.2 (by omega)))
  | succ d ih =>
    intro i hi
    refine ev_succ ?_
    simp only [impl_TextValid.l0]
    refine ev_pos (by omega) (ev_pos (by omega) (ev_pos (by omega) ?_))
    rw [L_drop s i (by omega), List.all_cons, wrap_succ i (by omega)]
    by_cases h1 : bt s i < 32
    · refine ev_pos h1 (ev_of ?_)
      rw [show isTxt (bt s i) = false from decide_eq_false (by omega), Bool.false_and, Bool.and_false]
    · refine ev_neg h1 ?_
      by_cases h2 : bt s i > 126
      · refine ev_pos h2 (ev_of ?_)
        rw [show isTxt (bt s i) = false from decide_eq_false (by omega), Bool.false_and, Bool.and_false]
      · refine ev_neg h2 ?_
        rw [show isTxt (bt s i) = true from decide_eq_true (by omega), Bool.true_and]
        exact ih (i + 1) (by omega)
theorem impl_TextValid_ev (s : ByteArray) (hs : s.size ≤ 4611686018427387904) : Ev (fun k => impl_TextValid.f k s) (textOk (bytesOf s)) := by
  have h := impl_TextValid_l0 s hs s.size 0 (by omega)
  rw [List.drop_zero] at h
  unfold textOk
  rw [L_len]
  exact h
theorem spec_TextValid_l0 (s : ByteArray) (hs : s.size ≤ 4611686018427387904) : ∀ (d i : Nat), i + d = s.size → i ≤ 201 → Ev (fun k => spec_TextValid.l0 k s (i : Int)) (decide (s.size ≤ 200) && ((bytesOf s).drop i).all isTxt) := by
  intro d
  induction d with
  | zero =>
    intro i hi _
    refine ev_succ ?_
    simp only [spec_TextValid.l0]
    refine ev_neg (by omega) (ev_succ ?_)
    simp only [spec_TextValid.j1, if_true, Bool.false_eq_true, if_false]
    rw [L_drop_nil s i (by omega), List.all_nil, Bool.and_true]
    exact ev_of (congrArg some (decide_eq_decide.2 (by omega)))
  | succ d ih =>
    intro i hi h201
    refine ev_succ ?_
    simp only [spec_TextValid.l0]
    refine ev_pos (by omega) (ev_succ ?_)
    by_cases h0 : (i : Int) ≤ 200
    · simp only [decide_eq_true h0, spec_TextValid.j1, if_true]
      refine ev_pos (by omega) (ev_pos (by omega) ?_)
      rw [L_drop s i (by omega), List.all_cons, wrap_succ i (by omega)]
      by_cases h1 : bt s i < 32
      · refine ev_pos h1 (ev_of ?_)
        rw [show isTxt (bt s i) = false from decide_eq_false (by omega), Bool.false_and, Bool.and_false]
      · refine ev_neg h1 ?_
        by_cases h2 : bt s i > 126
        · refine ev_pos h2 (ev_of ?_)
          rw [show isTxt (bt s i) = false from decide_eq_false (by omega), Bool.false_and, Bool.and_false]
        · refine ev_neg h2 ?_
          rw [show isTxt (bt s i) = true from decide_eq_true (by omega), Bool.true_and]
          exact ih (i + 1) (by omega) (by omega)
    · simp only [decide_eq_false h0, spec_TextValid.j1, Bool.false_eq_true, if_false]
      refine ev_of ?_
      rw [show decide (s.size ≤ 200) = false from decide_eq_false (by omega), Bool.false_and]
      exact congrArg some (decide_eq_false (by omega))
theorem spec_TextValid_ev (s : ByteArray) (hs : s.size ≤ 4611686018427387904) : Ev (fun k => spec_TextValid.f k s) (textOk (bytesOf s)) := by
  have h := spec_TextValid_l0 s hs s.size 0 (by omega) (by omega)
  rw [List.drop_zero] at h
  unfold textOk
  rw [L_len]
  exact h
theorem impl_isName_1_eq (x : Int) : impl_isName_1.f x = some (isNm x) := by
  unfold impl_isName_1.f isNm
  rw [impl_isLetter_eq, Option.bind_some, impl_isDigit_eq, Option.bind_some]
  simp only [isLet, isDig, decide_eq_true_eq]
  by_cases h1 : (97 ≤ x ∧ x ≤ 122) ∨ (65 ≤ x ∧ x ≤ 90)
  · rw [if_pos h1]; exact congrArg some (decide_eq_true (by omega)).symm
  · rw [if_neg h1]
    by_cases h2 : 48 ≤ x ∧ x ≤ 57
    · rw [if_pos h2]; exact congrArg some (decide_eq_true (by omega)).symm
    · rw [if_neg h2]
      refine congrArg some ?_
      rw [Bool.eq_iff_iff, beq_iff_eq, decide_eq_true_eq]
      omega
theorem impl_isName_eq (s : ByteArray) : impl_isName.f s = some (nameOk (bytesOf s)) := by
  unfold impl_isName.f nameOk
  rw [L_len]
  by_cases h1 : (s.size : Int) ≥ 1
  · rw [if_pos h1]
    by_cases h2 : (s.size : Int) ≤ 30
    · obtain ⟨r, e⟩ := head_bt s (by omega)
      rw [if_pos h2, if_pos (by omega), impl_isLetter_eq, Option.bind_some, decide_eq_true (by omega), Bool.true_and, e]
      simp only
      cases isLet (bt s 0) with
      | false => rw [if_neg (by decide), Bool.false_and]
      | true => rw [if_pos rfl, Bool.true_and, ← e, allBytes__impl_isName_1.f, if_pos (by omega), allO_some (q := isNm) _ fun x _ => impl_isName_1_eq x, Option.bind_some]
    · rw [if_neg h2, decide_eq_false (by omega), Bool.false_and]
  · rw [if_neg h1, decide_eq_false (by omega), Bool.false_and]
theorem impl_FieldValid_ev (a b : ByteArray) (ha : a.size ≤ 1048576) (hb : b.size ≤ 1048576) : Ev (fun k => impl_FieldValid.f k a b) (fieldOk (bytesOf a) (bytesOf b)) := by
  unfold impl_FieldValid.f fieldOk
  refine ev_bind1 (impl_isName_eq a) ?_
  cases nameOk (bytesOf a) with
  | false => exact ev_neg (by decide) (Ev.now _)
  | true =>
    refine ev_pos rfl (ev_bind (impl_TextValid_ev b (by omega)) ?_)
    cases textOk (bytesOf b) with
    | false => exact ev_neg (by decide) (Ev.now _)
    | true =>
      refine ev_pos rfl ?_
      by_cases h : (b.size : Int) ≤ 150
      · refine ev_pos h (ev_bind1 (strings_Trim_eq b (by omega)) (ev_of ?_))
        rw [trimS_eq, decide_eq_true (p := (bytesOf b).length ≤ 150) (by rw [L_len]; omega)]
        rfl
      · refine ev_neg h (ev_of ?_)
        rw [decide_eq_false (p := (bytesOf b).length ≤ 150) (by rw [L_len]; omega)]
        rfl
theorem spec_nm (x : Int) : decide ((97 ≤ x ∧ x ≤ 122) ∨ (65 ≤ x ∧ x ≤ 90) ∨ (48 ≤ x ∧ x ≤ 57)) = true ∨ x = 45 ↔ isNm x = true := by
  simp only [isNm, decide_eq_true_eq]
  omega
theorem spec_l3Name_l0 (s : ByteArray) (hs : s.size ≤ 1048576) : ∀ (d i : Nat), i + d = s.size → 1 ≤ i → i ≤ 31 → Ev (fun k => spec_l3Name.l0 k s (i : Int)) (decide (s.size ≤ 30) && ((bytesOf s).drop i).all isNm) := by
  intro d
  induction d with
  | zero =>
    intro i hi h1 h31
    refine ev_succ ?_
    simp only [spec_l3Name.l0]
    refine ev_neg (by omega) (ev_succ ?_)
    simp only [spec_l3Name.j1, Bool.false_eq_true, if_false]
    rw [L_drop_nil s i (by omega), List.all_nil, Bool.and_true]
    exact ev_pos (by omega) (ev_of (congrArg some (decide_eq_decide.2 (by omega))))
  | succ d ih =>
    intro i hi h1 h31
    refine ev_succ ?_
    simp only [spec_l3Name.l0]
    refine ev_pos (by omega) (ev_succ ?_)
    by_cases h0 : (i : Int) ≤ 30
    · simp only [decide_eq_true h0, spec_l3Name.j1, if_true]
      rw [L_drop s i (by omega), List.all_cons, wrap_succ i (by omega)]
      have hiff := spec_nm (bt s i)
      have hgo := ih (i + 1) (by omega) (by omega) (by omega)
      refine ev_pos (by omega) (ev_pos (by omega) (ev_bind1 (spec_l1Letter_eq _) ?_))
      cases hn : isNm (bt s i) with
      | true =>
        rw [Bool.true_and]
        by_cases h2 : decide ((97 ≤ bt s i ∧ bt s i ≤ 122) ∨ (65 ≤ bt s i ∧ bt s i ≤ 90) ∨ (48 ≤ bt s i ∧ bt s i ≤ 57)) = true
        · exact ev_pos h2 (ev_neg (by omega) hgo)
        · exact ev_neg h2 (ev_pos ((hiff.2 hn).resolve_left h2) (ev_neg (by omega) hgo))
      | false =>
        have h3 : ¬ _ := fun h => by have := hiff.1 h; rw [hn] at this; cases this
        rw [Bool.false_and, Bool.and_false]
        exact ev_neg (fun h => h3 (.inl h)) (ev_neg (fun h => h3 (.inr h)) (Ev.now _))
    · simp only [decide_eq_false h0, spec_l3Name.j1, Bool.false_eq_true, if_false]
      rw [decide_eq_false (p := s.size ≤ 30) (by omega), Bool.false_and]
      exact ev_pos (by omega) (ev_of (congrArg some (decide_eq_false (by omega))))
theorem spec_l3Name_ev (s : ByteArray) (hs : s.size ≤ 1048576) : Ev (fun k => spec_l3Name.f k s) (nameOk (bytesOf s)) := by
  unfold spec_l3Name.f nameOk
  rw [L_len]
  refine ev_succ ?_
  simp only [spec_l3Name.l0]
  by_cases h0 : 0 < s.size
  · obtain ⟨r, e⟩ := head_bt s h0
    have er : r = (bytesOf s).drop 1 := by rw [e]; rfl
    have hgo := spec_l3Name_l0 s hs (s.size - 1) 1 (by omega) (by omega) (by omega)
    have hw : wrap64 ((0 : Int) + 1) = ((1 : Nat) : Int) := by unfold wrap64; omega
    refine ev_pos (by omega) (ev_succ ?_)
    simp only [show decide ((0 : Int) ≤ 30) = true from rfl, spec_l3Name.j1, if_true]
    rw [e, hw]
    simp only [List.all_cons]
    have hiff := spec_nm (bt s 0)
    have key : (decide (1 ≤ s.size ∧ s.size ≤ 30) && (isLet (bt s 0) && (isNm (bt s 0) && r.all isNm))) = (if isLet (bt s 0) = true then (decide (s.size ≤ 30) && r.all isNm) else false) := by
      cases hl : isLet (bt s 0) with
      | true =>
        have : isNm (bt s 0) = true := by
          simp only [isLet, isNm, decide_eq_true_eq] at hl ⊢
          omega
        rw [this, if_pos rfl, Bool.true_and, Bool.true_and]
        congr 1
        exact decide_eq_decide.2 (by omega)
      | false => simp
    rw [key, er]
    have hlet : isLet (bt s 0) = true ↔ (97 ≤ bt s 0 ∧ bt s 0 ≤ 122) ∨ (65 ≤ bt s 0 ∧ bt s 0 ≤ 90) := by simp [isLet]
    refine ev_pos (by omega) (ev_pos (by omega) (ev_bind1 (spec_l1Letter_eq _) ?_))
    by_cases h2 : decide ((97 ≤ bt s 0 ∧ bt s 0 ≤ 122) ∨ (65 ≤ bt s 0 ∧ bt s 0 ≤ 90) ∨ (48 ≤ bt s 0 ∧ bt s 0 ≤ 57)) = true
    · have h2' := of_decide_eq_true h2
      refine ev_pos h2 ?_
      by_cases h3 : bt s 0 ≤ 57
      · rw [if_neg (fun h => by have := hlet.1 h; omega)]
        exact ev_pos h3 (Ev.now _)
      · rw [if_pos (hlet.2 (by omega))]
        exact ev_neg h3 hgo
    · have h2' : ¬ _ := fun h => h2 (decide_eq_true h)
      rw [if_neg (fun h => h2' (by have := hlet.1 h; omega))]
      refine ev_neg h2 ?_
      by_cases h4 : bt s 0 = 45
      · exact ev_pos h4 (ev_pos (by omega) (Ev.now _))
      · exact ev_neg h4 (Ev.now _)
  · refine ev_neg (by omega) (ev_succ ?_)
    simp only [spec_l3Name.j1, Bool.false_eq_true, if_false]
    rw [decide_eq_false (p := 1 ≤ s.size ∧ s.size ≤ 30) (by omega), Bool.false_and]
    exact ev_neg (by omega) (Ev.now _)
theorem spec_FieldValid_ev (a b : ByteArray) (ha : a.size ≤ 1048576) (hb : b.size ≤ 1048576) : Ev (fun k => spec_FieldValid.f k a b) (fieldOk (bytesOf a) (bytesOf b)) := by
  unfold spec_FieldValid.f fieldOk
  refine ev_bind (spec_l3Name_ev a ha) ?_
  cases nameOk (bytesOf a) with
  | false => exact ev_neg (by decide) (Ev.now _)
  | true =>
    refine ev_pos rfl (ev_bind (spec_TextValid_ev b (by omega)) ?_)
    cases textOk (bytesOf b) with
    | false => exact ev_neg (by decide) (Ev.now _)
    | true =>
      refine ev_pos rfl ?_
      by_cases h : (b.size : Int) ≤ 150
      · refine ev_pos h (ev_bind (spec_l2Trim_ev b hb) (ev_of ?_))
        rw [trimS_eq, decide_eq_true (p := (bytesOf b).length ≤ 150) (by rw [L_len]; omega)]
        rfl
      · refine ev_neg h (ev_of ?_)
        rw [decide_eq_false (p := (bytesOf b).length ≤ 150) (by rw [L_len]; omega)]
        rfl
/-- Each of them small. -/
def smV (l : List S25) : Prop := ∀ x ∈ l, x.f0.size ≤ 1048576 ∧ x.f1.size ≤ 1048576
theorem fsOk_any (l : List S25) : (!(l.any fun x => !fOk x)) = l.all fOk := by rw [List.not_any_eq_all_not]; simp
theorem impl_fieldsValid_ev (l : List S25) (h : smV l) : Ev (fun k => impl_fieldsValid.f k l) (fsOk l) := by
  unfold impl_fieldsValid.f fsOk
  by_cases hz : (l.length : Int) ≤ 20
  · rw [decide_eq_true (p := l.length ≤ 20) (by omega), Bool.true_and]
    have ha : Ev (fun k => anyO (fun x : S25 => impl_fieldsValid_1.f k x.f0 x.f1) l) (l.any fun x => !fOk x) := by
      refine ev_anyO l fun x hm => ?_
      obtain ⟨h1, h2⟩ := h x hm
      unfold impl_fieldsValid_1.f
      exact ev_bind (impl_FieldValid_ev x.f0 x.f1 h1 h2) (Ev.now _)
    refine ev_pos hz (ev_bind ha (ev_of ?_))
    rw [fsOk_any]
  · rw [decide_eq_false (p := l.length ≤ 20) (by omega), Bool.false_and]
    exact ev_neg hz (Ev.now _)
theorem spec_l3Valid_l0 (l : List S25) (h : smV l) (hz : l.length ≤ 1000000000000) : ∀ (d i : Nat), i + d = l.length → i ≤ 21 → Ev (fun k => spec_l3Valid.l0 k l (i : Int)) (decide (l.length ≤ 20) && (l.drop i).all fOk) := by
  intro d
  induction d with
  | zero =>
    intro i hi h21
    refine ev_succ ?_
    simp only [spec_l3Valid.l0]
    rw [List.drop_eq_nil_of_le (by omega), List.all_nil, Bool.and_true]
    refine ev_neg (by omega) (ev_succ ?_)
    simp only [spec_l3Valid.j1, Bool.false_eq_true, if_false]
    exact ev_of (congrArg some (decide_eq_decide.2 (by omega)))
  | succ d ih =>
    intro i hi h21
    have hlt : i < l.length := by omega
    refine ev_succ ?_
    simp only [spec_l3Valid.l0]
    refine ev_pos (by omega) (ev_succ ?_)
    by_cases h0 : (i : Int) ≤ 20
    · simp only [decide_eq_true h0, spec_l3Valid.j1, if_true]
      rw [rdF l i hlt, wrap_up i (by omega), List.drop_eq_getElem_cons hlt, List.all_cons]
      obtain ⟨h1, h2⟩ := h _ (List.getElem_mem hlt)
      refine ev_pos (by omega) (ev_pos (by omega) (ev_bind (spec_FieldValid_ev l[i].f0 l[i].f1 h1 h2) ?_))
      by_cases hf : fOk l[i] = true
      · rw [hf, Bool.true_and]
        exact ev_pos hf (ih (i + 1) (by omega) (by omega))
      · rw [show fOk l[i] = false by simpa using hf, Bool.false_and, Bool.and_false]
        exact ev_neg hf (Ev.now _)
    · simp only [decide_eq_false h0, spec_l3Valid.j1, Bool.false_eq_true, if_false]
      rw [decide_eq_false (p := l.length ≤ 20) (by omega), Bool.false_and]
      exact ev_of (congrArg some (decide_eq_false (by omega)))
theorem spec_l3Valid_ev (l : List S25) (h : smV l) (hz : l.length ≤ 1000000000000) : Ev (fun k => spec_l3Valid.f k l) (fsOk l) := by
  unfold spec_l3Valid.f fsOk
  exact spec_l3Valid_l0 l h hz l.length 0 (by omega) (by omega)
theorem rdOf_get (l : List ByteArray) (i : Nat) (h : i < l.length) : rdOf ByteArray.empty l (i : Int) = l[i] := by
  rw [rdOf, Int.toNat_natCast, List.getD_eq_getElem?_getD, List.getElem?_eq_getElem h]
  rfl
theorem mwTexts_l0 (a b : List ByteArray) (hl : a.length = b.length) (hz : a.length ≤ 1000000000000) : ∀ (d i : Nat), i + d = a.length → Ev (fun k => laws_mwTexts.l0 k a b (i : Int)) (decide (a.drop i = b.drop i)) := by
  intro d
  induction d with
  | zero =>
    intro i hi
    refine ev_succ ?_
    simp only [laws_mwTexts.l0]
    rw [List.drop_eq_nil_of_le (by omega), List.drop_eq_nil_of_le (by omega)]
    exact ev_neg (by omega) (Ev.now _)
  | succ d ih =>
    intro i hi
    have ha : i < a.length := by omega
    have hb : i < b.length := by omega
    refine ev_succ ?_
    simp only [laws_mwTexts.l0]
    rw [rdOf_get a i ha, rdOf_get b i hb, wrap_succ i (by omega), List.drop_eq_getElem_cons ha, List.drop_eq_getElem_cons hb]
    refine ev_pos (by omega) (ev_pos (by omega) (ev_pos (by omega) ?_))
    by_cases h : a[i] = b[i]
    · refine ev_pos (toList_iff.2 h) (ev_cast (ih (i + 1) (by omega)) ?_)
      exact decide_eq_decide.2 ⟨fun e => by rw [h, e], fun e => (List.cons.inj e).2⟩
    · refine ev_neg (fun e => h (toList_iff.1 e)) (ev_of ?_)
      exact congrArg some (decide_eq_false (fun e => h (List.cons.inj e).1)).symm
theorem mwTexts_ev (a b : List ByteArray) (hz : a.length ≤ 1000000000000) : Ev (fun k => laws_mwTexts.f k a b) (decide (a = b)) := by
  unfold laws_mwTexts.f
  by_cases hl : a.length = b.length
  · exact ev_pos (by omega) (mwTexts_l0 a b hl hz a.length 0 (by omega))
  · refine ev_neg (by omega) (ev_of ?_)
    exact congrArg some (decide_eq_false (fun e => hl (by rw [e]))).symm
def foldB (a b : ByteArray) : List ByteArray := (foldL (bytesOf a) (bytesOf b)).map strOfNums
/-- The lines of a field that is valid; none of another. -/
def foldV (a b : ByteArray) : List ByteArray := if fieldOk (bytesOf a) (bytesOf b) = true then foldB a b else []
def aI : Option Nat → Int
  | none => -1
  | some a => (a : Int)
theorem aI_neg (o : Option Nat) : aI o < 0 ↔ o = none := by
  cases o with
  | none => simp [aI]
  | some a => simp [aI]
theorem okB_bt (s : ByteArray) (i : Nat) (h1 : 1 ≤ i) (h2 : i + 1 < s.size) : okB (bytesOf s) i = true ↔ bt s i = 32 ∧ bt s ((i - 1 : Nat) : Int) ≠ 32 ∧ bt s ((i + 1 : Nat) : Int) ≠ 32 := by
  unfold okB
  rw [bt_get s i (by omega), bt_get s (i - 1) (by omega), bt_get s (i + 1) h2]
  simp
theorem impl_fold_brk (s : ByteArray) (hs : s.size ≤ 1048576) (out : List ByteArray) (R : List ByteArray) : ∀ (d i : Nat) (a : Option Nat), 1 ≤ i → (i + 1 + d = s.size ∨ (d = 0 ∧ s.size ≤ i + 1)) → i ≤ 2000000 →
    (∀ o, brkN (bytesOf s) d i a = o → Ev (fun k => (if aI o < 0 then (if out.length < 8796093022208 then some (out ++ [s]) else none) else (if 0 ≤ aI o then (if aI o ≤ (s.size : Int) then (if out.length < 8796093022208 then impl_foldField.l0 k (s.extract (aI o).toNat s.size) 2 (out ++ [s.extract 0 (aI o).toNat]) else none) else none) else none))) R) →
    Ev (fun k => impl_foldField.l1 k s out (aI a) (i : Int)) R := by
  intro d
  induction d with
  | zero =>
    intro i a h1 hd hi hR
    refine ev_succ ?_
    simp only [impl_foldField.l1]
    rw [wrap_succ i (by omega)]
    exact ev_neg (by omega) (hR _ rfl)
  | succ d ih =>
    intro i a h1 hd hi hR
    have hlt : i + 1 < s.size := by omega
    have em : wrap64 ((i : Int) - 1) = ((i - 1 : Nat) : Int) := by rw [wrap_id (by omega) (by omega)]; omega
    have hb := okB_bt s i h1 hlt
    refine ev_succ ?_
    simp only [impl_foldField.l1]
    rw [wrap_succ i (by omega), em]
    refine ev_pos (by omega) (ev_pos (by omega) (ev_pos (by omega) ?_))
    rw [brkN] at hR
    have go := fun a' h => ih (i + 1) a' (by omega) (by omega) (by omega) h
    by_cases g1 : bt s i = 32
    · refine ev_pos g1 (ev_pos (by omega) (ev_pos (by omega) ?_))
      by_cases g2 : bt s ((i - 1 : Nat) : Int) = 32
      · rw [if_neg (fun h => (hb.1 h.1).2.1 g2)] at hR
        exact ev_pos g2 (go a hR)
      · refine ev_neg g2 (ev_pos (by omega) ?_)
        by_cases g3 : bt s ((i + 1 : Nat) : Int) = 32
        · rw [if_neg (fun h => (hb.1 h.1).2.2 g3)] at hR
          exact ev_pos g3 (go a hR)
        · have hk := hb.2 ⟨g1, g2, g3⟩
          refine ev_neg g3 ?_
          by_cases g4 : aI a < 0
          · rw [if_pos ⟨hk, .inl ((aI_neg a).1 g4)⟩] at hR
            exact ev_pos g4 (go (some i) hR)
          · refine ev_neg g4 ?_
            by_cases g5 : (i : Int) ≤ 40
            · rw [if_pos ⟨hk, .inr (by omega)⟩] at hR
              exact ev_pos g5 (go (some i) hR)
            · rw [if_neg (fun h => h.2.elim (fun e => g4 ((aI_neg a).2 e)) (fun e => g5 (by omega)))] at hR
              exact ev_neg g5 (go a hR)
    · rw [if_neg (fun h => g1 (hb.1 h.1).1)] at hR
      exact ev_neg g1 (go a hR)
theorem impl_fold_l0 : ∀ (n : Nat) (s : ByteArray) (i : Nat) (out : List ByteArray), s.size ≤ n → n ≤ 1048576 → 2 ≤ i → i ≤ 100 → out.length + n ≤ 2000000 → Ev (fun k => impl_foldField.l0 k s (i : Int) out) (out ++ (foldF n (bytesOf s) i).map strOfNums) := by
  intro n
  induction n with
  | zero =>
    intro s i out hs hn h2 h100 ho
    refine ev_succ ?_
    simp only [impl_foldField.l0]
    refine ev_neg (by omega) (ev_pos (by omega) (ev_of ?_))
    simp only [foldF, List.map_cons, List.map_nil, S_L]
  | succ n ih =>
    intro s i out hs hn h2 h100 ho
    refine ev_succ ?_
    simp only [impl_foldField.l0]
    rw [foldF, L_len]
    by_cases h40 : 40 < s.size
    · rw [if_pos h40]
      refine ev_pos (by omega) ?_
      refine impl_fold_brk s (by omega) out _ (s.size - 1 - i) i none (by omega) (by omega) (by omega) fun o ho' => ?_
      have ho2 : brk (bytesOf s) i = o := by unfold brk; rw [L_len]; exact ho'
      rw [ho2]
      cases o with
      | none =>
        refine ev_pos (by simp [aI]) (ev_pos (by omega) (ev_of ?_))
        simp only [List.map_cons, List.map_nil, S_L]
      | some a =>
        obtain ⟨b1, b2, _⟩ := brk_some ho2
        rw [L_len] at b2
        simp only [aI]
        rw [Int.toNat_natCast]
        have hz : (s.extract a s.size).size = s.size - a := by rw [← L_len, L_from, List.length_drop, L_len]
        refine ev_neg (by omega) (ev_pos (by omega) (ev_pos (by omega) (ev_pos (by omega) ?_)))
        refine ev_cast (ih (s.extract a s.size) 2 _ (by omega) (by omega) (by omega) (by omega) (by simp only [List.length_append, List.length_cons, List.length_nil]; omega)) ?_
        rw [L_from, List.map_cons, List.append_assoc, ← L_to, S_L]
        rfl
    · rw [if_neg h40]
      refine ev_neg (by omega) (ev_pos (by omega) (ev_of ?_))
      simp only [List.map_cons, List.map_nil, S_L]
theorem line_S (a b : ByteArray) : (b.toList = ([] : List UInt8) → bytesOf (a ++ (⟨#[58]⟩ : ByteArray)) = lineF (bytesOf a) (bytesOf b)) ∧ (b.toList ≠ ([] : List UInt8) → bytesOf (a ++ (⟨#[58]⟩ : ByteArray) ++ ((⟨#[32]⟩ : ByteArray) ++ b)) = lineF (bytesOf a) (bytesOf b)) := by
  unfold lineF
  constructor
  · intro h
    rw [L_append, if_pos ((nilB b).1 h)]
    rfl
  · intro h
    rw [L_append, L_append, L_append, if_neg (fun e => h ((nilB b).2 e)), List.append_assoc]
    rfl
theorem impl_foldField_ev (a b : ByteArray) (ha : a.size ≤ 30) (hb : b.size ≤ 1000) : Ev (fun k => impl_foldField.f k a b) (foldB a b) := by
  unfold impl_foldField.f foldB foldL
  have ew : wrap64 ((a.size : Int) + 3) = ((a.size + 3 : Nat) : Int) := by rw [wrap_id (by omega) (by omega)]; omega
  obtain ⟨l1, l2⟩ := line_S a b
  rw [ew, L_len]
  refine ev_pos (by omega) ?_
  by_cases h : b.toList = ([] : List UInt8)
  · have e := l1 h
    have hz : (a ++ (⟨#[58]⟩ : ByteArray)).size = a.size + 1 := by rw [size_append]; rfl
    refine ev_pos h (ev_succ ?_)
    simp only [impl_foldField.j0]
    have hgo := impl_fold_l0 (a ++ (⟨#[58]⟩ : ByteArray)).size (a ++ (⟨#[58]⟩ : ByteArray)) (a.size + 3) [] (Nat.le_refl _) (by omega) (by omega) (by omega) (by simp only [List.length_nil]; omega)
    rw [e, List.nil_append, ← L_len (a ++ (⟨#[58]⟩ : ByteArray)), e] at hgo
    exact hgo
  · have e := l2 h
    have hz : (a ++ (⟨#[58]⟩ : ByteArray) ++ ((⟨#[32]⟩ : ByteArray) ++ b)).size = a.size + 1 + (1 + b.size) := by rw [size_append, size_append, size_append]; rfl
    have hz1 : (a ++ (⟨#[58]⟩ : ByteArray)).size = a.size + 1 := by rw [size_append]; rfl
    have hz2 : ((⟨#[32]⟩ : ByteArray) ++ b).size = 1 + b.size := by rw [size_append]; rfl
    refine ev_neg h (ev_pos (by omega) (ev_pos (by omega) (ev_succ ?_)))
    simp only [impl_foldField.j0]
    have hgo := impl_fold_l0 (a ++ (⟨#[58]⟩ : ByteArray) ++ ((⟨#[32]⟩ : ByteArray) ++ b)).size (a ++ (⟨#[58]⟩ : ByteArray) ++ ((⟨#[32]⟩ : ByteArray) ++ b)) (a.size + 3) [] (Nat.le_refl _) (by omega) (by omega) (by omega) (by simp only [List.length_nil]; omega)
    rw [e, List.nil_append, ← L_len (a ++ (⟨#[58]⟩ : ByteArray) ++ ((⟨#[32]⟩ : ByteArray) ++ b)), e] at hgo
    exact hgo
theorem field_sizes {a b : ByteArray} (h : fieldOk (bytesOf a) (bytesOf b) = true) : a.size ≤ 30 ∧ b.size ≤ 150 := by
  obtain ⟨h1, _, h3, _⟩ := fieldOk_iff.1 h
  have := (nameOk_len h1).2
  rw [L_len] at this h3
  exact ⟨this, h3⟩
theorem spec_brk (s : ByteArray) (hs : s.size ≤ 1048576) : ∀ (d i : Nat) (a : Option Nat), 1 ≤ i → (i + 1 + d = s.size ∨ (d = 0 ∧ s.size ≤ i + 1)) → i ≤ 2000000 → Ev (fun k => spec_l3Break.l0 k s (aI a) (i : Int)) (aI (brkN (bytesOf s) d i a)) := by
  intro d
  induction d with
  | zero =>
    intro i a h1 hd hi
    refine ev_succ ?_
    simp only [spec_l3Break.l0]
    rw [wrap_succ i (by omega)]
    exact ev_neg (by omega) (Ev.now _)
  | succ d ih =>
    intro i a h1 hd hi
    have hlt : i + 1 < s.size := by omega
    have em : wrap64 ((i : Int) - 1) = ((i - 1 : Nat) : Int) := by rw [wrap_id (by omega) (by omega)]; omega
    have hb := okB_bt s i h1 hlt
    have go := fun a' => ih (i + 1) a' (by omega) (by omega) (by omega)
    refine ev_succ ?_
    simp only [spec_l3Break.l0]
    rw [wrap_succ i (by omega), em, brkN]
    refine ev_pos (by omega) (ev_pos (by omega) (ev_pos (by omega) ?_))
    have skip : okB (bytesOf s) i ≠ true → Ev (fun k => spec_l3Break.j1 k s (aI a) (i : Int) true) (aI (brkN (bytesOf s) d (i + 1) (if okB (bytesOf s) i = true ∧ (a = none ∨ i ≤ 40) then some i else a))) := by
      intro hn
      rw [if_neg (fun h => hn h.1)]
      refine ev_succ ?_
      simp only [spec_l3Break.j1, if_true]
      rw [wrap_succ i (by omega)]
      exact go a
    by_cases g1 : bt s i = 32
    · refine ev_pos g1 (ev_pos (by omega) (ev_pos (by omega) ?_))
      by_cases g2 : bt s ((i - 1 : Nat) : Int) = 32
      · exact ev_pos g2 (skip fun h => (hb.1 h).2.1 g2)
      · refine ev_neg g2 (ev_pos (by omega) ?_)
        by_cases g3 : bt s ((i + 1 : Nat) : Int) = 32
        · rw [g3]
          exact skip fun h => (hb.1 h).2.2 g3
        · have hk := hb.2 ⟨g1, g2, g3⟩
          rw [show (bt s ((i + 1 : Nat) : Int) == 32) = false from beq_eq_false_iff_ne.2 g3]
          refine ev_succ ?_
          simp only [spec_l3Break.j1, Bool.false_eq_true, if_false]
          rw [wrap_succ i (by omega)]
          by_cases g5 : (i : Int) ≤ 40
          · rw [if_pos ⟨hk, .inr (by omega)⟩]
            exact ev_pos g5 (go (some i))
          · refine ev_neg g5 ?_
            by_cases g4 : aI a < 0
            · rw [if_pos ⟨hk, .inl ((aI_neg a).1 g4)⟩]
              exact ev_pos g4 (go (some i))
            · rw [if_neg (fun h => h.2.elim (fun e => g4 ((aI_neg a).2 e)) (fun e => g5 (by omega)))]
              exact ev_neg g4 (go a)
    · exact ev_neg g1 (skip fun h => g1 (hb.1 h).1)
theorem spec_fold_l0 : ∀ (n : Nat) (s : ByteArray) (i : Nat) (out : List ByteArray), s.size ≤ n → n ≤ 1048576 → 2 ≤ i → i ≤ 100 → out.length + n ≤ 2000000 → Ev (fun k => spec_FoldField.l0 k out s ((i - 1 : Nat) : Int)) (out ++ (foldF n (bytesOf s) i).map strOfNums) := by
  intro n
  induction n with
  | zero =>
    intro s i out hs hn h2 h100 ho
    refine ev_succ ?_
    simp only [spec_FoldField.l0]
    refine ev_neg (by omega) (ev_pos (by omega) (ev_of ?_))
    simp only [foldF, List.map_cons, List.map_nil, S_L]
  | succ n ih =>
    intro s i out hs hn h2 h100 ho
    refine ev_succ ?_
    simp only [spec_FoldField.l0]
    rw [foldF, L_len]
    by_cases h40 : 40 < s.size
    · rw [if_pos h40]
      refine ev_pos (by omega) ?_
      have hbk : Ev (fun k => spec_l3Break.f k s ((i - 1 : Nat) : Int)) (aI (brk (bytesOf s) i)) := by
        unfold spec_l3Break.f brk
        rw [wrap_succ (i - 1) (by omega), L_len, show i - 1 + 1 = i by omega]
        exact spec_brk s (by omega) (s.size - 1 - i) i none (by omega) (by omega) (by omega)
      refine ev_bind hbk ?_
      cases hk : brk (bytesOf s) i with
      | none =>
        refine ev_pos (by simp [aI]) (ev_pos (by omega) (ev_of ?_))
        simp only [List.map_cons, List.map_nil, S_L]
      | some a =>
        obtain ⟨b1, b2, _⟩ := brk_some hk
        rw [L_len] at b2
        simp only [aI]
        rw [Int.toNat_natCast]
        have hz : (s.extract a s.size).size = s.size - a := by rw [← L_len, L_from, List.length_drop, L_len]
        refine ev_neg (by omega) (ev_pos (by omega) (ev_pos (by omega) (ev_pos (by omega) ?_)))
        refine ev_cast (ih (s.extract a s.size) 2 _ (by omega) (by omega) (by omega) (by omega) (by simp only [List.length_append, List.length_cons, List.length_nil]; omega)) ?_
        rw [L_from, List.map_cons, List.append_assoc, ← L_to, S_L]
        rfl
    · rw [if_neg h40]
      refine ev_neg (by omega) (ev_pos (by omega) (ev_of ?_))
      simp only [List.map_cons, List.map_nil, S_L]
theorem foldF_short {n : Nat} {l : List Int} (i : Nat) (h : l.length ≤ 40) : foldF n l i = [l] := by
  cases n with
  | zero => rfl
  | succ n => rw [foldF, if_neg (by omega)]
theorem spec_FoldField_ev (a b : ByteArray) (ha : a.size ≤ 1048576) (hb : b.size ≤ 1048576) : Ev (fun k => spec_FoldField.f k a b) (foldV a b) := by
  unfold spec_FoldField.f foldV
  refine ev_bind1 rfl (ev_bind (spec_FieldValid_ev a b ha hb) ?_)
  cases h : fieldOk (bytesOf a) (bytesOf b) with
  | false => rw [if_neg (show ¬ (false = true) by decide)]; exact ev_neg (by decide) (Ev.now _)
  | true =>
    obtain ⟨z1, z2⟩ := field_sizes h
    rw [if_pos rfl]
    unfold foldB foldL
    have hz1 : (a ++ (⟨#[58]⟩ : ByteArray)).size = a.size + 1 := by rw [size_append]; rfl
    obtain ⟨l1, l2⟩ := line_S a b
    rw [L_len]
    refine ev_pos rfl (ev_pos (by omega) ?_)
    by_cases hn : b.toList = ([] : List UInt8)
    · have e := l1 hn
      refine ev_pos hn (ev_succ ?_)
      simp only [spec_FoldField.j0]
      have hgo := spec_fold_l0 (a ++ (⟨#[58]⟩ : ByteArray)).size (a ++ (⟨#[58]⟩ : ByteArray)) ((a ++ (⟨#[58]⟩ : ByteArray)).size + 1) [] (Nat.le_refl _) (by omega) (by omega) (by omega) (by simp only [List.length_nil]; omega)
      rw [Nat.add_sub_cancel, e, List.nil_append, foldF_short _ (by rw [← e, L_len]; omega)] at hgo
      rw [foldF_short _ (by rw [← e, L_len]; omega)]
      exact hgo
    · have e := l2 hn
      have hz2 : ((⟨#[32]⟩ : ByteArray) ++ b).size = 1 + b.size := by rw [size_append]; rfl
      have hz3 : (a ++ (⟨#[58]⟩ : ByteArray) ++ (⟨#[32]⟩ : ByteArray)).size = a.size + 2 := by rw [size_append, size_append]; rfl
      have eq : a ++ (⟨#[58]⟩ : ByteArray) ++ (⟨#[32]⟩ : ByteArray) ++ b = a ++ (⟨#[58]⟩ : ByteArray) ++ ((⟨#[32]⟩ : ByteArray) ++ b) := by
        apply L_inj
        simp only [L_append, List.append_assoc]
      have ew : wrap64 (((a ++ (⟨#[58]⟩ : ByteArray)).size : Int) + 1) = ((a.size + 3 - 1 : Nat) : Int) := by rw [wrap_id (by omega) (by omega)]; omega
      have hz : (a ++ (⟨#[58]⟩ : ByteArray) ++ ((⟨#[32]⟩ : ByteArray) ++ b)).size = a.size + 1 + (1 + b.size) := by rw [size_append, size_append, size_append]; rfl
      refine ev_neg hn (ev_pos (by omega) (ev_pos (by omega) (ev_succ ?_)))
      simp only [spec_FoldField.j0]
      rw [ew, eq]
      have hgo := spec_fold_l0 (a ++ (⟨#[58]⟩ : ByteArray) ++ ((⟨#[32]⟩ : ByteArray) ++ b)).size (a ++ (⟨#[58]⟩ : ByteArray) ++ ((⟨#[32]⟩ : ByteArray) ++ b)) (a.size + 3) [] (Nat.le_refl _) (by omega) (by omega) (by omega) (by simp only [List.length_nil]; omega)
      rw [e, List.nil_append, ← L_len (a ++ (⟨#[58]⟩ : ByteArray) ++ ((⟨#[32]⟩ : ByteArray) ++ b)), e] at hgo
      exact hgo
theorem foldV_len (a b : ByteArray) (ha : a.size ≤ 1048576) (hb : b.size ≤ 1048576) : (foldV a b).length ≤ 4000000 := by
  unfold foldV
  split
  · unfold foldB foldL
    rw [List.length_map]
    have h1 := foldF_len (lineF (bytesOf a) (bytesOf b)).length (lineF (bytesOf a) (bytesOf b)) ((bytesOf a).length + 3)
    have h2 := lineF_len (bytesOf a) (bytesOf b)
    rw [L_len, L_len] at h2
    split at h2 <;> omega
  · simp
def foldA (l : List S25) : List ByteArray := (l.map fun x => foldB x.f0 x.f1).flatten
def foldsV (l : List S25) : List ByteArray × Bool := if fsOk l = true then (foldA l, true) else ([], false)
theorem foldA_append (a b : List S25) : foldA (a ++ b) = foldA a ++ foldA b := by simp [foldA]
theorem foldB_le {x : S25} (h : fOk x = true) : (foldB x.f0 x.f1).length ≤ 4000000 := by
  obtain ⟨h1, h2⟩ := field_sizes h
  have := foldV_len x.f0 x.f1 (by omega) (by omega)
  unfold foldV at this
  rw [if_pos (show fieldOk (bytesOf x.f0) (bytesOf x.f1) = true from h)] at this
  exact this
theorem foldA_le : ∀ l : List S25, (∀ x ∈ l, fOk x = true) → (foldA l).length ≤ 4000000 * l.length
  | [], _ => by simp [foldA]
  | x :: xs, h => by
    have h1 := foldB_le (h x (by simp))
    have h2 := foldA_le xs fun y hy => h y (List.mem_cons_of_mem _ hy)
    have e : foldA (x :: xs) = foldB x.f0 x.f1 ++ foldA xs := by simp [foldA]
    rw [e, List.length_append, List.length_cons]
    omega
theorem impl_FoldFields_l0 (l : List S25) (hz : l.length ≤ 20) (h : ∀ x ∈ l, fOk x = true) : ∀ (d i : Nat) (acc : List ByteArray), i + d = l.length → acc.length ≤ 4000000 * i → Ev (fun k => impl_FoldFields.l0 k acc l (l.length : Int) (i : Int)) (acc ++ foldA (l.drop i), true) := by
  intro d
  induction d with
  | zero =>
    intro i acc hi ha
    refine ev_succ ?_
    simp only [impl_FoldFields.l0]
    rw [List.drop_eq_nil_of_le (by omega), show foldA ([] : List S25) = [] from rfl, List.append_nil]
    exact ev_neg (by omega) (Ev.now _)
  | succ d ih =>
    intro i acc hi ha
    have hlt : i < l.length := by omega
    have hf := h _ (List.getElem_mem hlt)
    obtain ⟨z1, z2⟩ := field_sizes hf
    have hb := foldB_le hf
    refine ev_succ ?_
    simp only [impl_FoldFields.l0]
    rw [rdF l i hlt, wrap_up i (by omega), List.drop_eq_getElem_cons hlt]
    refine ev_pos (by omega) (ev_pos (by omega) (ev_pos (by omega) (ev_bind (impl_foldField_ev _ _ z1 (by omega)) (ev_pos (by omega) (ev_cast (ih (i + 1) _ (by omega) (by rw [List.length_append]; omega)) ?_)))))
    rw [List.append_assoc]
    rfl
theorem impl_FoldFields_ev (l : List S25) (h : smV l) : Ev (fun k => impl_FoldFields.f k l) (foldsV l) := by
  unfold impl_FoldFields.f foldsV
  refine ev_bind (impl_fieldsValid_ev l h) ?_
  by_cases h2 : fsOk l = true
  · rw [if_pos h2]
    exact ev_pos h2 (impl_FoldFields_l0 l (fsOk_iff.1 h2).1 (fsOk_iff.1 h2).2 l.length 0 [] (by omega) (by simp))
  · exact ev_neg h2 (ev_of (congrArg some (if_neg h2).symm))
theorem spec_FoldFields_l0 (l : List S25) (hz : l.length ≤ 20) (h : ∀ x ∈ l, fOk x = true) : ∀ (d i : Nat) (acc : List ByteArray), i + d = l.length → acc.length ≤ 4000000 * i → Ev (fun k => spec_FoldFields.l0 k l acc (i : Int)) (acc ++ foldA (l.drop i), true) := by
  intro d
  induction d with
  | zero =>
    intro i acc hi ha
    refine ev_succ ?_
    simp only [spec_FoldFields.l0]
    rw [List.drop_eq_nil_of_le (by omega), show foldA ([] : List S25) = [] from rfl, List.append_nil]
    exact ev_neg (by omega) (Ev.now _)
  | succ d ih =>
    intro i acc hi ha
    have hlt : i < l.length := by omega
    have hf := h _ (List.getElem_mem hlt)
    obtain ⟨z1, z2⟩ := field_sizes hf
    have hb := foldB_le hf
    have hv := spec_FoldField_ev l[i].f0 l[i].f1 (by omega) (by omega)
    unfold foldV at hv
    rw [if_pos (show fieldOk (bytesOf l[i].f0) (bytesOf l[i].f1) = true from hf)] at hv
    refine ev_succ ?_
    simp only [spec_FoldFields.l0]
    rw [rdF l i hlt, wrap_up i (by omega), List.drop_eq_getElem_cons hlt]
    refine ev_pos (by omega) (ev_pos (by omega) (ev_bind hv (ev_pos (by omega) (ev_cast (ih (i + 1) _ (by omega) (by rw [List.length_append]; omega)) ?_))))
    rw [List.append_assoc]
    rfl
theorem spec_FoldFields_ev (l : List S25) (hz : l.length ≤ 1000000000000) (h : smV l) : Ev (fun k => spec_FoldFields.f k l) (foldsV l) := by
  unfold spec_FoldFields.f foldsV
  refine ev_bind1 rfl (ev_bind (spec_l3Valid_ev l h hz) ?_)
  by_cases h2 : fsOk l = true
  · rw [if_pos h2]
    exact ev_pos h2 (spec_FoldFields_l0 l (fsOk_iff.1 h2).1 (fsOk_iff.1 h2).2 l.length 0 [] (by omega) (by simp))
  · exact ev_neg h2 (ev_of (congrArg some (if_neg h2).symm))
theorem ev_k1 {α : Type} {g : Nat → Option α} {r : α} (h : ∀ k, g (k + 1) = some r) : Ev g r := by
  refine ⟨1, fun k hk => ?_⟩
  obtain ⟨m, rfl⟩ : ∃ m, k = m + 1 := ⟨k - 1, by omega⟩
  exact h m
theorem rd_range (b : List Int) (hb : IsB b) (i : Int) : 0 ≤ rd b i ∧ rd b i ≤ 255 := by
  unfold rd
  rw [List.getD_eq_getElem?_getD]
  cases h : b[i.toNat]? with
  | none => exact ⟨by decide, by decide⟩
  | some x => exact hb x (List.mem_of_getElem? h)
theorem pick_some (b : List Int) (hb : IsB b) (hl : b.length ≤ 2000) (p n : Int) (hp0 : 0 ≤ p) (hp1 : p ≤ 1000000) (hn : n ≤ 1000000) :
    ∃ v, Ev (fun k => spec_l13Rd_pick.f k b p n) (v, p + 1) ∧ 0 ≤ v ∧ (1 ≤ n → v < n) := by
  have e1 : wrap64 (p + 1) = p + 1 := wrap_id (by omega) (by omega)
  have e2 : wrap64 (p + 1 - 1) = p := by rw [wrap_id (by omega) (by omega)]; omega
  by_cases hn1 : n < 1
  · refine ⟨0, ev_k1 fun k => ?_, by omega, fun h => by omega⟩
    unfold spec_l13Rd_pick.f
    rw [if_pos hn1, e1]
    simp only [spec_l13Rd_pick.j0, if_true]
  · by_cases hz : b.length = 0
    · refine ⟨0, ev_k1 fun k => ?_, by omega, fun h => by omega⟩
      unfold spec_l13Rd_pick.f
      rw [if_neg hn1, e1, show ((b.length : Int) == 0) = true from beq_iff_eq.2 (by omega)]
      simp only [spec_l13Rd_pick.j0, if_true]
    · have hz' : ((b.length : Int) == 0) = false := beq_eq_false_iff_ne.2 (by omega)
      by_cases hlt : p < (b.length : Int)
      · have hr := rd_range b hb p
        refine ⟨Int.tmod (rd b p) n, ev_k1 fun k => ?_, Int.tmod_nonneg _ hr.1, fun _ => Int.tmod_lt_of_pos _ (by omega)⟩
        unfold spec_l13Rd_pick.f
        rw [if_neg hn1, e1, hz']
        simp only [spec_l13Rd_pick.j0, Bool.false_eq_true, if_false]
        rw [e2, if_pos hlt, if_pos hp0, if_neg (by omega), wrap_id (x := rd b p) (by omega) (by omega)]
      · have h1 : 0 ≤ Int.tmod p b.length := Int.tmod_nonneg _ hp0
        have h2 : Int.tmod p b.length < b.length := Int.tmod_lt_of_pos _ (by omega)
        have e3 : wrap64 (wrap64 (p * 7) + 3) = p * 7 + 3 := by rw [wrap_id (x := p * 7) (by omega) (by omega), wrap_id (by omega) (by omega)]
        have h3 : 0 ≤ Int.tmod (p * 7 + 3) b.length := Int.tmod_nonneg _ (by omega)
        have h4 : Int.tmod (p * 7 + 3) b.length < b.length := Int.tmod_lt_of_pos _ (by omega)
        have r1 := rd_range b hb (Int.tmod p b.length)
        have r2 := rd_range b hb (Int.tmod (p * 7 + 3) b.length)
        have q1 : 0 ≤ Int.tdiv p b.length := Int.tdiv_nonneg hp0 (by omega)
        have q2 : Int.tdiv p b.length ≤ p := by
          rw [Int.tdiv_eq_ediv_of_nonneg hp0]
          exact Int.ediv_le_self _ hp0
        obtain ⟨x, hx, x0, x1⟩ : ∃ x, wrap64 (wrap64 (wrap64 (wrap64 (wrap64 (rd b (Int.tmod p b.length)) * 131) + wrap64 (wrap64 (rd b (Int.tmod (p * 7 + 3) b.length)) * 1117)) + wrap64 (p * 29)) + wrap64 (wrap64 (Int.tdiv p b.length) * 53)) = x ∧ 0 ≤ x ∧ x < 4611686018427387904 := by
          generalize rd b (Int.tmod p b.length) = a1 at r1
          generalize rd b (Int.tmod (p * 7 + 3) b.length) = a2 at r2
          generalize Int.tdiv p b.length = a3 at q1 q2
          refine ⟨a1 * 131 + a2 * 1117 + p * 29 + a3 * 53, ?_, by omega, by omega⟩
          rw [wrap_id (x := a1) (by omega) (by omega), wrap_id (x := a2) (by omega) (by omega), wrap_id (x := a3) (by omega) (by omega), wrap_id (x := a1 * 131) (by omega) (by omega), wrap_id (x := a2 * 1117) (by omega) (by omega), wrap_id (x := p * 29) (by omega) (by omega), wrap_id (x := a3 * 53) (by omega) (by omega), wrap_id (x := a1 * 131 + a2 * 1117) (by omega) (by omega), wrap_id (x := a1 * 131 + a2 * 1117 + p * 29) (by omega) (by omega), wrap_id (by omega) (by omega)]
        refine ⟨Int.tmod (bits .xor .i64 x (wrap64 (Int.tdiv x 64))) n, ev_k1 fun k => ?_, Int.tmod_nonneg _ (xor_nonneg x x0 x1), fun _ => Int.tmod_lt_of_pos _ (by omega)⟩
        unfold spec_l13Rd_pick.f
        rw [if_neg hn1, e1, hz']
        simp only [spec_l13Rd_pick.j0, Bool.false_eq_true, if_false]
        rw [e2, if_neg hlt, if_neg (by omega), if_pos h1, if_pos h2, e3, if_pos h3, if_pos h4, if_neg (by omega), hx]
theorem of_some (b : List Int) (hb : IsB b) (hl : b.length ≤ 2000) (p : Int) (l : List ByteArray) (hp0 : 0 ≤ p) (hp1 : p ≤ 1000000) (hn : l.length ≤ 1000000) (h0 : 0 < l.length) :
    ∃ v, Ev (fun k => spec_l13Rd_of.f k b p l) (v, p + 1) ∧ v ∈ l := by
  obtain ⟨v, hv, v0, v1⟩ := pick_some b hb hl p l.length hp0 hp1 (by omega)
  have v1 := v1 (by omega)
  have hlt : v.toNat < l.length := by omega
  refine ⟨l[v.toNat], ?_, List.getElem_mem hlt⟩
  unfold spec_l13Rd_of.f
  refine ev_bind hv ?_
  refine ev_pos v0 (ev_pos v1 (ev_of ?_))
  rw [rdOf, List.getD_eq_getElem?_getD, List.getElem?_eq_getElem hlt]
  rfl
theorem open_some (l : List Int) (hw : ∀ x ∈ l, (Lit.int .u8 x).wf = true) : ∃ b, spec_l13Open.f l = some (b, 0) ∧ IsB b ∧ b.length ≤ 2000 := by
  have hB : IsB l := by
    intro x hx
    have := hw x hx
    simp only [Lit.wf, IntKind.min, IntKind.max, IntKind.signed, IntKind.bits, Bool.and_eq_true, decide_eq_true_eq] at this
    simp at this
    omega
  unfold spec_l13Open.f
  by_cases h : (l.length : Int) > 2000
  · rw [if_pos h, if_pos (by omega)]
    exact ⟨_, rfl, hB.take 2000, by rw [List.length_take]; omega⟩
  · rw [if_neg h]
    exact ⟨_, rfl, hB, by omega⟩
theorem num_some (b : List Int) (hb : IsB b) (hl : b.length ≤ 2000) (p : Int) (l : List Int) (hp0 : 0 ≤ p) (hp1 : p ≤ 1000000) (hn : l.length ≤ 1000000) (h0 : 0 < l.length) :
    ∃ v, Ev (fun k => spec_l13Rd_num.f k b p l) (v, p + 1) ∧ v ∈ l := by
  obtain ⟨v, hv, v0, v1⟩ := pick_some b hb hl p l.length hp0 hp1 (by omega)
  have v1 := v1 (by omega)
  have hlt : v.toNat < l.length := by omega
  refine ⟨l[v.toNat], ?_, List.getElem_mem hlt⟩
  unfold spec_l13Rd_num.f
  refine ev_bind hv ?_
  refine ev_pos v0 (ev_pos v1 (ev_of ?_))
  rw [rd, List.getD_eq_getElem?_getD, List.getElem?_eq_getElem hlt]
  rfl
def szF (n : Nat) (x : S25) : Prop := x.f0.size ≤ n ∧ x.f1.size ≤ n
theorem l3Draw_some (b : List Int) (hb : IsB b) (hl : b.length ≤ 2000) (p : Int) (hp0 : 0 ≤ p) (hp1 : p ≤ 900000) :
    ∃ x y, Ev (fun k => spec_l3Draw.f k b p) (x, y, p + 1 + 1) ∧ x.size ≤ 100 ∧ y.size ≤ 100 := by
  unfold spec_l3Draw.f
  generalize hg1 : ([(⟨#[84, 111]⟩ : ByteArray), (⟨#[70, 114, 111, 109]⟩ : ByteArray), (⟨#[83, 117, 98, 106, 101, 99, 116]⟩ : ByteArray), (⟨#[88, 45, 89]⟩ : ByteArray), (⟨#[82, 101, 99, 101, 105, 118, 101, 100]⟩ : ByteArray), (⟨#[116, 111]⟩ : ByteArray), (⟨#[68, 97, 116, 101]⟩ : ByteArray)] : List ByteArray) = q1
  generalize hg2 : ([(⟨#[]⟩ : ByteArray), (⟨#[120]⟩ : ByteArray), (⟨#[97, 32, 98]⟩ : ByteArray), (⟨#[104, 101, 108, 108, 111, 32, 116, 104, 101, 114, 101, 44, 32, 116, 104, 105, 115, 32, 105, 115, 32, 97, 32, 108, 111, 110, 103, 101, 114, 32, 118, 97, 108, 117, 101, 32, 116, 104, 97, 116, 32, 105, 115, 32, 98, 114, 111, 107, 101, 110]⟩ : ByteArray), (⟨#[97, 97, 97, 97, 97, 97, 97, 97, 97, 97, 97, 97, 97, 97, 97, 97, 97, 97, 97, 97, 97, 97, 97, 97, 97, 97, 97, 97, 97, 97, 97, 97, 97, 97, 97, 97, 97, 97, 97, 97, 97, 97, 97, 97, 97, 97, 97, 97, 97, 97, 97, 32, 98]⟩ : ByteArray), (⟨#[116, 119, 111, 32, 32, 115, 112, 97, 99, 101, 115, 32, 115, 116, 97, 121, 32, 32, 116, 111, 103, 101, 116, 104, 101, 114, 32, 105, 110, 32, 104, 101, 114, 101, 44, 32, 97, 110, 100, 32, 115, 111, 32, 100, 111, 32, 116, 104, 101, 115, 101, 32, 32, 111, 110, 101, 115]⟩ : ByteArray), (⟨#[97, 58, 98]⟩ : ByteArray), (⟨#[111, 110, 101, 32, 116, 119, 111, 32, 116, 104, 114, 101, 101, 32, 102, 111, 117, 114, 32, 102, 105, 118, 101, 32, 115, 105, 120, 32, 115, 101, 118, 101, 110, 32, 101, 105, 103, 104, 116, 32, 110, 105, 110, 101, 32, 116, 101, 110, 32, 101, 108, 101, 118, 101, 110]⟩ : ByteArray)] : List ByteArray) = q2
  have hz1 : (∀ x ∈ q1, x.size ≤ 100) ∧ q1.length = 7 := by subst hg1; exact ⟨by decide, rfl⟩
  have hz2 : (∀ x ∈ q2, x.size ≤ 100) ∧ q2.length = 8 := by subst hg2; exact ⟨by decide, rfl⟩
  obtain ⟨x, hx, mx⟩ := of_some b hb hl p q1 (by omega) (by omega) (by omega) (by omega)
  obtain ⟨y, hy, my⟩ := of_some b hb hl (p + 1) q2 (by omega) (by omega) (by omega) (by omega)
  exact ⟨x, y, ev_bind hx (ev_bind hy (Ev.now _)), hz1.1 x mx, hz2.1 y my⟩
theorem l3List_l0 (b : List Int) (hb : IsB b) (hl : b.length ≤ 2000) : ∀ (d : Nat) (n : Int) (acc : List S25) (p : Int), n = d → d ≤ 100 → acc.length + d ≤ 100000 → 0 ≤ p → p + 2 * d ≤ 900000 → (∀ x ∈ acc, szF 100 x) →
    ∃ r, Ev (fun k => spec_l3List.l0 k acc n b p) (r, p + 2 * d) ∧ r.length = acc.length + d ∧ ∀ x ∈ r, szF 100 x := by
  intro d
  induction d with
  | zero =>
    intro n acc p hn hd ha h0 h1 hx
    refine ⟨acc, ev_succ ?_, rfl, hx⟩
    simp only [spec_l3List.l0]
    rw [show p + 2 * ((0 : Nat) : Int) = p by omega]
    exact ev_neg (by omega) (Ev.now _)
  | succ d ih =>
    intro n acc p hn hd ha h0 h1 hx
    obtain ⟨s, t, hs, hz1, hz2⟩ := l3Draw_some b hb hl p h0 (by omega)
    obtain ⟨r, hr, hrl, hrx⟩ := ih (n - 1) (acc ++ [⟨s, t⟩]) (p + 1 + 1) (by omega) (by omega) (by simp; omega) (by omega) (by omega) (fun x hxm => by
      rcases List.mem_append.1 hxm with h | h
      · exact hx x h
      · have : x = ⟨s, t⟩ := by simpa using h
        rw [this]; exact ⟨hz1, hz2⟩)
    refine ⟨r, ev_succ ?_, by rw [hrl, List.length_append, List.length_singleton]; omega, hrx⟩
    simp only [spec_l3List.l0]
    rw [show p + 2 * ((d + 1 : Nat) : Int) = p + 1 + 1 + 2 * (d : Int) by omega]
    refine ev_pos (by omega) (ev_bind hs (ev_pos (by omega) ?_))
    rw [wrap_id (by omega) (by omega)]
    exact hr
theorem l3List_some (b : List Int) (hb : IsB b) (hl : b.length ≤ 2000) (p : Int) (hp0 : 0 ≤ p) (hp1 : p ≤ 800000) :
    ∃ r p', Ev (fun k => spec_l3List.f k b p) (r, p') ∧ r.length ≤ 4 ∧ (∀ x ∈ r, szF 100 x) ∧ p ≤ p' ∧ p' ≤ p + 9 := by
  obtain ⟨n, hn, hm⟩ := num_some b hb hl p [2, 3, 1, 0, 4] hp0 (by omega) (by decide) (by decide)
  have hr : 0 ≤ n ∧ n ≤ 4 := by
    simp only [List.mem_cons, List.mem_nil_iff, or_false] at hm
    omega
  obtain ⟨r, h1, h2, h3⟩ := l3List_l0 b hb hl n.toNat n [] (p + 1) (by omega) (by omega) (by simp; omega) (by omega) (by omega) (by simp)
  refine ⟨r, p + 1 + 2 * (n.toNat : Int), ?_, by rw [h2]; simp; omega, h3, ?_, ?_⟩
  · unfold spec_l3List.f
    exact ev_bind hn h1
  · omega
  · omega
theorem l3Wrong_some (b : List Int) (hb : IsB b) (hl : b.length ≤ 2000) (p : Int) (x y : ByteArray) (hp0 : 0 ≤ p) (hp1 : p ≤ 900000) (hx : x.size ≤ 100) (hy : y.size ≤ 100) :
    ∃ x' y' p', Ev (fun k => spec_l3Wrong.f k b p x y) (x', y', p') ∧ x'.size ≤ 100 ∧ y'.size ≤ 100 ∧ p ≤ p' ∧ p' ≤ p + 2 := by
  unfold spec_l3Wrong.f
  generalize hg1 : ([(⟨#[]⟩ : ByteArray), (⟨#[45, 97]⟩ : ByteArray), (⟨#[49, 97]⟩ : ByteArray), (⟨#[97, 32, 98]⟩ : ByteArray), (⟨#[97, 95, 98]⟩ : ByteArray), (⟨#[97, 97, 97, 97, 97, 97, 97, 97, 97, 97, 97, 97, 97, 97, 97, 97, 97, 97, 97, 97, 97, 97, 97, 97, 97, 97, 97, 97, 97, 97, 97]⟩ : ByteArray)] : List ByteArray) = q1
  generalize hg2 : ([(⟨#[32, 97]⟩ : ByteArray), (⟨#[97, 32]⟩ : ByteArray), (⟨#[10]⟩ : ByteArray)] : List ByteArray) = q2
  have hz1 : (∀ x ∈ q1, x.size ≤ 100) ∧ q1.length = 6 := by subst hg1; exact ⟨by decide, rfl⟩
  have hz2 : (∀ x ∈ q2, x.size ≤ 100) ∧ q2.length = 3 := by subst hg2; exact ⟨by decide, rfl⟩
  obtain ⟨v, hv, v0, v1⟩ := pick_some b hb hl p 20 hp0 (by omega) (by omega)
  by_cases h0 : v = 0
  · obtain ⟨s, hs, ms⟩ := of_some b hb hl (p + 1) q1 (by omega) (by omega) (by omega) (by omega)
    exact ⟨s, y, p + 1 + 1, ev_bind hv (ev_pos h0 (ev_bind hs (Ev.now _))), hz1.1 s ms, hy, by omega, by omega⟩
  · by_cases h1 : v = 1
    · obtain ⟨s, hs, ms⟩ := of_some b hb hl (p + 1) q2 (by omega) (by omega) (by omega) (by omega)
      exact ⟨x, s, p + 1 + 1, ev_bind hv (ev_neg h0 (ev_pos h1 (ev_bind hs (Ev.now _)))), hx, hz2.1 s ms, by omega, by omega⟩
    · exact ⟨x, y, p + 1, ev_bind hv (ev_neg h0 (ev_neg h1 (Ev.now _))), hx, hy, by omega, by omega⟩
theorem l3Some_some (b : List Int) (hb : IsB b) (hl : b.length ≤ 2000) (p : Int) (hp0 : 0 ≤ p) (hp1 : p ≤ 700000) :
    ∃ r p', Ev (fun k => spec_l3Some.f k b p) (r, p') ∧ r.length ≤ 4 ∧ (∀ x ∈ r, szF 100 x) ∧ p ≤ p' ∧ p' ≤ p + 20 := by
  obtain ⟨r, p1, hr, r1, r2, p2, p3⟩ := l3List_some b hb hl p hp0 (by omega)
  unfold spec_l3Some.f
  by_cases h0 : 0 < r.length
  · obtain ⟨v, hv, v0, v1⟩ := pick_some b hb hl p1 r.length (by omega) (by omega) (by omega)
    have v1 := v1 (by omega)
    have hlt : v.toNat < r.length := by omega
    have hm := r2 _ (List.getElem_mem hlt)
    obtain ⟨x', y', p4, hw, w1, w2, w3, w4⟩ := l3Wrong_some b hb hl (p1 + 1) r[v.toNat].f0 r[v.toNat].f1 (by omega) (by omega) hm.1 hm.2
    have he : rd_T25 r v = r[v.toNat] := by
      rw [rd_T25, List.getD_eq_getElem?_getD, List.getElem?_eq_getElem hlt]
      rfl
    refine ⟨r.set v.toNat ⟨x', y'⟩, p4, ev_bind hr (ev_pos (show (r.length : Int) > 0 by omega) (ev_bind hv (ev_pos v0 (ev_pos v1 (ev_bind (a := (x', y', p4)) ?_ (Ev.now _)))))), by simpa using r1, fun x hx => ?_, by omega, by omega⟩
    · show Ev (fun k => spec_l3Wrong.f k b (p1 + 1) (rd_T25 r v).f0 (rd_T25 r v).f1) _
      rw [he]
      exact hw
    · rcases List.mem_or_eq_of_mem_set hx with h | h
      · exact r2 x h
      · rw [h]; exact ⟨w1, w2⟩
  · exact ⟨r, p1, ev_bind hr (ev_neg (show ¬ (r.length : Int) > 0 by omega) (Ev.now _)), r1, r2, by omega, by omega⟩
theorem DrawFoldFields_some (l : List Int) (hw : ∀ x ∈ l, (Lit.int .u8 x).wf = true) : ∃ r, Ev (fun k => spec_DrawFoldFields.f k l) r ∧ r.length ≤ 4 ∧ ∀ x ∈ r, szF 100 x := by
  obtain ⟨b, ho, hb, hl⟩ := open_some l hw
  obtain ⟨r, p, hr, r1, r2, p1, p2⟩ := l3Some_some b hb hl 0 (by omega) (by omega)
  refine ⟨r, ?_, r1, r2⟩
  unfold spec_DrawFoldFields.f
  exact ev_bind1 ho (ev_bind hr (Ev.now _))
end Go.Proofs.YtogmkfenplihoaaDoor.Q
