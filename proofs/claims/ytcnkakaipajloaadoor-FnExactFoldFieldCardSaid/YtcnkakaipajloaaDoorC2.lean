/- Plain lemmas on addresses as lists of bytes; no condition. -/
import Derived.Test.YtcnkakaipajloaaDoorC1
set_option linter.unusedVariables false
set_option linter.unusedSimpArgs false
namespace Go.Proofs.YtcnkakaipajloaaDoor.Q
open Go.RowKit Go.Proofs.YtcnkakaipajloaaDoorV.PrintWords Go.Proofs.YtcnkakaipajloaaDoorV.PrintLast Go.Proofs.YtcnkakaipajloaaDoorV.PrintMore
/-! ## Addresses: plain functions on lists of bytes -/
/-- What stands between the places of a byte; cur: what of the piece has been read. -/
def pcs (c : Int) : List Int → List Int → List (List Int)
  | cur, [] => [cur]
  | cur, x :: r => if x = c then cur :: pcs c [] r else pcs c (cur ++ [x]) r
theorem pcs_run (c : Int) : ∀ (a cur t : List Int), (∀ x ∈ a, x ≠ c) → pcs c cur (a ++ t) = pcs c (cur ++ a) t
  | [], cur, t, _ => by simp
  | x :: a, cur, t, h => by
    rw [List.cons_append, pcs, if_neg (h x (by simp)), pcs_run c a _ t (fun y hy => h y (List.mem_cons_of_mem _ hy)), List.append_assoc]
    rfl
theorem pcs_hit (c : Int) (a cur b : List Int) (h : ∀ x ∈ a, x ≠ c) : pcs c cur (a ++ c :: b) = (cur ++ a) :: pcs c [] b := by
  rw [pcs_run c a cur _ h, pcs, if_pos rfl]
theorem pcs_none (c : Int) (a cur : List Int) (h : ∀ x ∈ a, x ≠ c) : pcs c cur a = [cur ++ a] := by
  have := pcs_run c a cur [] h
  rw [List.append_nil] at this
  rw [this, pcs]
theorem pcs_mem (c : Int) : ∀ (l cur : List Int) (x : Int), x ∈ cur ∨ x ∈ l → x = c ∨ ∃ p ∈ pcs c cur l, x ∈ p
  | [], cur, x, h => .inr ⟨cur, by simp [pcs], by simpa using h⟩
  | y :: r, cur, x, h => by
    rw [pcs]
    by_cases hy : y = c
    · rw [if_pos hy]
      rcases h with h | h
      · exact .inr ⟨cur, by simp, h⟩
      · rcases List.mem_cons.1 h with h | h
        · exact .inl (h.trans hy)
        · exact (pcs_mem c r [] x (.inr h)).imp id fun ⟨p, hp, hx⟩ => ⟨p, List.mem_cons_of_mem _ hp, hx⟩
    · rw [if_neg hy]
      refine pcs_mem c r (cur ++ [y]) x ?_
      rcases h with h | h
      · exact .inl (List.mem_append_left _ h)
      · rcases List.mem_cons.1 h with h | h
        · exact .inl (List.mem_append_right _ (by simp [h]))
        · exact .inr h
theorem pcs_sub (c : Int) : ∀ (l cur p : List Int), p ∈ pcs c cur l → p.length ≤ cur.length + l.length
  | [], cur, p, h => by
    simp [pcs] at h
    rw [h]; simp
  | y :: r, cur, p, h => by
    rw [pcs] at h
    by_cases hy : y = c
    · rw [if_pos hy] at h
      rcases List.mem_cons.1 h with h | h
      · rw [h]; omega
      · have := pcs_sub c r [] p h
        simp only [List.length_nil, List.length_cons] at this ⊢
        omega
    · rw [if_neg hy] at h
      have := pcs_sub c r (cur ++ [y]) p h
      simp only [List.length_append, List.length_cons, List.length_nil] at this ⊢
      omega
def isLow (x : Int) : Bool := decide ((97 ≤ x ∧ x ≤ 122) ∨ (48 ≤ x ∧ x ≤ 57) ∨ x = 45)
def labelOk (p : List Int) : Bool := decide (p ≠ []) && (decide (p.head? ≠ some 45) && (decide (p.getLast? ≠ some 45) && p.all isLow))
def localOk (l : List Int) : Bool := decide (l.length ≤ 30) && (pcs 46 [] l).all atomOk
def domOk (l : List Int) : Bool := decide (l.length ≤ 40) && (pcs 46 [] l).all labelOk
def addrOk (n lo d : List Int) : Bool := textOk n && (decide (n.length ≤ 40) && (localOk lo && domOk d))
theorem addrOk_iff {n lo d : List Int} : addrOk n lo d = true ↔ textOk n = true ∧ n.length ≤ 40 ∧ localOk lo = true ∧ domOk d = true := by
  simp [addrOk]
theorem low_ne {x : Int} (h : isLow x = true) : x ≠ 32 ∧ x ≠ 34 ∧ x ≠ 92 ∧ x ≠ 44 ∧ x ≠ 60 ∧ x ≠ 62 ∧ x ≠ 64 ∧ 32 ≤ x ∧ x ≤ 126 ∧ ¬ (65 ≤ x ∧ x ≤ 90) := by
  simp only [isLow, decide_eq_true_eq] at h
  omega
theorem labelOk_iff {p : List Int} : labelOk p = true ↔ p ≠ [] ∧ p.head? ≠ some 45 ∧ p.getLast? ≠ some 45 ∧ ∀ x ∈ p, isLow x = true := by
  simp [labelOk, List.all_eq_true]
theorem local_mem {l : List Int} (h : localOk l = true) : l ≠ [] ∧ l.length ≤ 30 ∧ ∀ x ∈ l, x = 46 ∨ isAtm x = true := by
  simp only [localOk, Bool.and_eq_true, decide_eq_true_eq, List.all_eq_true] at h
  refine ⟨fun e => ?_, h.1, fun x hx => ?_⟩
  · have := h.2 [] (by rw [e]; simp [pcs])
    simp [atomOk] at this
  · rcases pcs_mem 46 l [] x (.inr hx) with e | ⟨p, hp, hxp⟩
    · exact .inl e
    · exact .inr (((atomOk_iff p).1 (h.2 p hp)).2.2 x hxp)
theorem dom_mem {l : List Int} (h : domOk l = true) : l ≠ [] ∧ l.length ≤ 40 ∧ ∀ x ∈ l, x = 46 ∨ isLow x = true := by
  simp only [domOk, Bool.and_eq_true, decide_eq_true_eq, List.all_eq_true] at h
  refine ⟨fun e => ?_, h.1, fun x hx => ?_⟩
  · have := h.2 [] (by rw [e]; simp [pcs])
    simp [labelOk] at this
  · rcases pcs_mem 46 l [] x (.inr hx) with e | ⟨p, hp, hxp⟩
    · exact .inl e
    · exact .inr ((labelOk_iff.1 (h.2 p hp)).2.2.2 x hxp)
/-- Formatted addresses. -/
def boxL (lo d : List Int) : List Int := lo ++ 64 :: d
def fmtA (n lo d : List Int) : List Int := if addrOk n lo d = true then (if n = [] then boxL lo d else quoteW n ++ (32 :: 60 :: (boxL lo d ++ [62]))) else []
/-! ### The first place of a byte outside of quotes -/
def outQ (c : Int) (l : List Int) : Option Nat :=
  match l with
  | [] => none
  | x :: r => if x = 34 then (match h : readQ r with
      | none => none
      | some (_, r') => (outQ c r').map (· + (r.length + 1 - r'.length))) else if x = c then some 0 else (outQ c r).map (· + 1)
termination_by l.length
decreasing_by
  · have := readQ_lt h; simp only [List.length_cons]; omega
  · simp only [List.length_cons]; omega
theorem outQ_nil (c : Int) : outQ c [] = none := by rw [outQ.eq_def]
theorem outQ_q_none (c : Int) (r : List Int) (h : readQ r = none) : outQ c (34 :: r) = none := by
  rw [outQ.eq_def]
  simp only [if_true]
  split
  · rfl
  · rename_i h2; rw [h] at h2; cases h2
theorem outQ_q (c : Int) (r w r' : List Int) (h : readQ r = some (w, r')) : outQ c (34 :: r) = (outQ c r').map (· + (r.length + 1 - r'.length)) := by
  rw [outQ.eq_def]
  simp only [if_true]
  split
  · rename_i h2; rw [h] at h2; cases h2
  · rename_i h2; rw [h] at h2; injection h2 with h2; injection h2 with h3 h4; subst h3; subst h4; rfl
theorem outQ_hit (c : Int) (r : List Int) (h : c ≠ 34) : outQ c (c :: r) = some 0 := by
  rw [outQ.eq_def]
  simp only [if_neg h, if_true]
theorem outQ_cons (c x : Int) (r : List Int) (h : x ≠ 34) (hc : x ≠ c) : outQ c (x :: r) = (outQ c r).map (· + 1) := by
  rw [outQ.eq_def]
  simp only [if_neg h, if_neg hc]
/-- Induction along outQ. -/
theorem outQ_ind {p : List Int → Prop} (h0 : p []) (h1 : ∀ r, readQ r = none → p (34 :: r)) (h2 : ∀ r w r', readQ r = some (w, r') → p r' → p (34 :: r)) (h3 : ∀ x r, x ≠ 34 → p r → p (x :: r)) (l : List Int) : p l := by
  have key : ∀ n, ∀ l : List Int, l.length ≤ n → p l := by
    intro n
    induction n with
    | zero => intro l hl; rw [List.length_eq_zero_iff.1 (Nat.le_zero.1 hl)]; exact h0
    | succ n ih =>
      intro l hl
      match l, hl with
      | [], _ => exact h0
      | x :: r, hl =>
        simp only [List.length_cons] at hl
        by_cases e1 : x = 34
        · subst e1
          cases hq : readQ r with
          | none => exact h1 r hq
          | some q =>
            obtain ⟨w, r'⟩ := q
            have := readQ_lt hq
            exact h2 r w r' hq (ih r' (by omega))
        · exact h3 x r e1 (ih r (by omega))
  exact key l.length l (Nat.le_refl _)
theorem outQ_lt (c : Int) (l : List Int) : ∀ i, outQ c l = some i → i < l.length := by
  refine outQ_ind (p := fun l => ∀ i, outQ c l = some i → i < l.length) ?_ ?_ ?_ ?_ l
  · intro i h; rw [outQ_nil] at h; cases h
  · intro r hq i h; rw [outQ_q_none c r hq] at h; cases h
  · intro r w r' hq ih i h
    rw [outQ_q c r w r' hq] at h
    obtain ⟨j, hj, rfl⟩ := Option.map_eq_some_iff.1 h
    have h1 := ih j hj
    have h2 := readQ_lt hq
    simp only [List.length_cons]
    omega
  · intro x r hx ih i h
    by_cases hc : x = c
    · subst hc
      rw [outQ_hit x r hx] at h
      obtain rfl := Option.some.inj h
      simp
    · rw [outQ_cons c x r hx hc] at h
      obtain ⟨j, hj, rfl⟩ := Option.map_eq_some_iff.1 h
      have := ih j hj
      simp only [List.length_cons]
      omega
/-- No such byte in it outside of quotes, and its quotes are closed. -/
def Closed (c : Int) (a : List Int) : Prop := ∀ t, outQ c (a ++ t) = (outQ c t).map (· + a.length)
theorem closed_nil (c : Int) : Closed c [] := by
  intro t
  simp
theorem closed_append {c : Int} {a b : List Int} (ha : Closed c a) (hb : Closed c b) : Closed c (a ++ b) := by
  intro t
  rw [List.append_assoc, ha, hb, Option.map_map]
  congr 1
  funext n
  simp only [Function.comp_apply, List.length_append]
  omega
theorem closed_one {c x : Int} (h : x ≠ 34) (hc : x ≠ c) : Closed c [x] := by
  intro t
  rw [List.singleton_append, outQ_cons c x t h hc]
  rfl
theorem closed_cons {c x : Int} {a : List Int} (h : x ≠ 34) (hc : x ≠ c) (ha : Closed c a) : Closed c (x :: a) := closed_append (closed_one h hc) ha
theorem closed_plain {c : Int} : ∀ {a : List Int}, (∀ x ∈ a, x ≠ 34 ∧ x ≠ c) → Closed c a
  | [], _ => closed_nil c
  | x :: a, h => closed_cons (h x (by simp)).1 (h x (by simp)).2 (closed_plain fun y hy => h y (List.mem_cons_of_mem _ hy))
theorem closed_esc (c : Int) (w : List Int) : Closed c (34 :: (esc w ++ [34])) := by
  intro t
  have e : (34 :: (esc w ++ [34])) ++ t = 34 :: (esc w ++ 34 :: t) := by simp
  rw [e, outQ_q c _ w t (readQ_esc w t)]
  congr 1
  funext n
  simp only [List.length_append, List.length_cons, List.length_nil]
  omega
theorem closed_quoteW {c : Int} (w : List Int) (hc : isAtm c = false) (h34 : c ≠ 34) : Closed c (quoteW w) := by
  unfold quoteW
  split
  · split
    · rename_i h
      rw [atomOk_iff] at h
      exact closed_plain fun x hx => ⟨(atm_ne (h.2.2 x hx)).2.1, fun e => by rw [e] at hx; have := h.2.2 c hx; rw [hc] at this; cases this⟩
    · exact closed_esc c w
  · exact closed_nil c
theorem closed_none {c : Int} {a : List Int} (h : Closed c a) : outQ c a = none := by
  have := h []
  rw [List.append_nil, outQ_nil] at this
  exact this
theorem closed_hit {c : Int} {a : List Int} (h : Closed c a) (hc : c ≠ 34) (t : List Int) : outQ c (a ++ c :: t) = some a.length := by
  rw [h, outQ_hit c t hc]
  simp
/-- The parts between the places of a byte outside of quotes. -/
def splitQ (c : Int) (l : List Int) : List (List Int) :=
  match h : outQ c l with
  | none => [l]
  | some i => l.take i :: splitQ c (l.drop (i + 1))
termination_by l.length
decreasing_by
  have := outQ_lt c l i h
  rw [List.length_drop]
  omega
theorem splitQ_none {c : Int} {l : List Int} (h : outQ c l = none) : splitQ c l = [l] := by
  rw [splitQ.eq_def]
  split
  · rfl
  · rename_i h2; rw [h] at h2; cases h2
theorem splitQ_some {c : Int} {l : List Int} {i : Nat} (h : outQ c l = some i) : splitQ c l = l.take i :: splitQ c (l.drop (i + 1)) := by
  rw [splitQ.eq_def]
  split
  · rename_i h2; rw [h] at h2; cases h2
  · rename_i h2; rw [h] at h2; injection h2 with h2; subst h2; rfl
theorem splitQ_hit {c : Int} {a : List Int} (h : Closed c a) (hc : c ≠ 34) (t : List Int) : splitQ c (a ++ c :: t) = a :: splitQ c t := by
  rw [splitQ_some (closed_hit h hc t), List.take_left]
  congr 2
  rw [← List.drop_drop, List.drop_left]
  rfl
/-! ### Spaces at the ends -/
def ltrim (l : List Int) : List Int := l.dropWhile (fun x => decide (x = 32))
def rtrim (l : List Int) : List Int := (ltrim l.reverse).reverse
def trimT (l : List Int) : List Int := rtrim (ltrim l)
theorem ltrim_sp (r : List Int) : ltrim (32 :: r) = ltrim r := by simp [ltrim]
theorem ltrim_ne {x : Int} (r : List Int) (h : x ≠ 32) : ltrim (x :: r) = x :: r := by
  unfold ltrim
  rw [List.dropWhile_cons_of_neg (by simp [h])]
theorem ltrim_nil : ltrim [] = [] := rfl
theorem rtrim_sp (l : List Int) : rtrim (l ++ [32]) = rtrim l := by
  unfold rtrim
  rw [List.reverse_append]
  simp [ltrim_sp]
theorem rtrim_ne {x : Int} (l : List Int) (h : x ≠ 32) : rtrim (l ++ [x]) = l ++ [x] := by
  unfold rtrim
  rw [List.reverse_append]
  simp [ltrim_ne _ h]
theorem rtrim_nil : rtrim [] = [] := rfl
theorem ltrim_sub (l : List Int) : (ltrim l).Sublist l := List.dropWhile_sublist _
theorem rtrim_sub (l : List Int) : (rtrim l).Sublist l := by
  have := (ltrim_sub l.reverse).reverse
  rwa [List.reverse_reverse] at this
theorem trim_sub (l : List Int) : (trimT l).Sublist l := (rtrim_sub _).trans (ltrim_sub l)
/-- What neither begins nor ends with a space. -/
def Tight (l : List Int) : Prop := l.head? ≠ some 32 ∧ l.getLast? ≠ some 32
theorem ltrim_of {l : List Int} (h : l.head? ≠ some 32) : ltrim l = l := by
  cases l with
  | nil => rfl
  | cons x r => exact ltrim_ne r (fun e => h (by rw [e]; rfl))
theorem rtrim_of {l : List Int} (h : l.getLast? ≠ some 32) : rtrim l = l := by
  unfold rtrim
  rw [ltrim_of (by rw [List.head?_reverse]; exact h), List.reverse_reverse]
theorem trim_of {l : List Int} (h : Tight l) : trimT l = l := by
  unfold trimT
  rw [ltrim_of h.1, rtrim_of h.2]
theorem ltrim_head (l : List Int) : (ltrim l).head? ≠ some 32 := by
  induction l with
  | nil => simp [ltrim]
  | cons x r ih =>
    by_cases h : x = 32
    · subst h; rw [ltrim_sp]; exact ih
    · rw [ltrim_ne r h]; simpa using h
theorem rtrim_last (l : List Int) : (rtrim l).getLast? ≠ some 32 := by
  unfold rtrim
  rw [List.getLast?_reverse]
  exact ltrim_head _
theorem trim_iff {l : List Int} : trimT l = l ↔ Tight l := by
  refine ⟨fun h => ?_, trim_of⟩
  have h1 : ltrim l = l := by
    have h2 := (rtrim_sub (ltrim l)).length_le
    have h3 := (ltrim_sub l)
    refine h3.eq_of_length_le ?_
    have h4 := congrArg List.length h
    unfold trimT at h4
    omega
  refine ⟨h1 ▸ ltrim_head l, ?_⟩
  have := rtrim_last (ltrim l)
  unfold trimT at h
  rwa [h] at this
/-- Both orders of cutting come to one. -/
theorem ltrim_append_sp (l : List Int) : ltrim (l ++ [32]) = if ltrim l = [] then [] else ltrim l ++ [32] := by
  induction l with
  | nil => simp [ltrim]
  | cons x r ih =>
    by_cases h : x = 32
    · subst h; rw [List.cons_append, ltrim_sp, ltrim_sp, ih]
    · rw [List.cons_append, ltrim_ne _ h, ltrim_ne _ h, if_neg (by simp), List.cons_append]
theorem ltrim_append_ne (l : List Int) {x : Int} (hx : x ≠ 32) : ltrim (l ++ [x]) = ltrim l ++ [x] := by
  induction l with
  | nil => rw [List.nil_append, ltrim_ne _ hx]; rfl
  | cons y r ih =>
    by_cases h : y = 32
    · subst h; rw [List.cons_append, ltrim_sp, ltrim_sp, ih]
    · rw [List.cons_append, ltrim_ne _ h, ltrim_ne _ h, List.cons_append]
theorem snoc_ind {p : List Int → Prop} (h0 : p []) (h1 : ∀ l x, p l → p (l ++ [x])) (l : List Int) : p l := by
  have : ∀ m : List Int, p m.reverse := by
    intro m
    induction m with
    | nil => exact h0
    | cons x r ih => rw [List.reverse_cons]; exact h1 _ _ ih
  have := this l.reverse
  rwa [List.reverse_reverse] at this
theorem trim_comm (l : List Int) : ltrim (rtrim l) = trimT l := by
  unfold trimT
  refine snoc_ind (p := fun l => ltrim (rtrim l) = rtrim (ltrim l)) rfl (fun l x ih => ?_) l
  by_cases h : x = 32
  · subst h
    rw [rtrim_sp, ltrim_append_sp, ih]
    by_cases he : ltrim l = []
    · rw [if_pos he, he]
    · rw [if_neg he, rtrim_sp]
  · rw [rtrim_ne l h, ltrim_append_ne l h, rtrim_ne _ h]
theorem trim_sp (l : List Int) : trimT (32 :: l) = trimT l := by
  unfold trimT
  rw [ltrim_sp]
theorem trim_sp_end (l : List Int) : trimT (l ++ [32]) = trimT l := by
  rw [← trim_comm, rtrim_sp, trim_comm]
theorem trim_text {l : List Int} (h : textOk l = true) : textOk (trimT l) = true := by
  rw [textOk_iff] at h ⊢
  have := (trim_sub l).length_le
  exact ⟨by omega, fun x hx => h.2 x ((trim_sub l).subset hx)⟩
/-! ### Reading addresses -/
/-- Small letters. -/
def lo8 (x : Int) : Int := if 65 ≤ x ∧ x ≤ 90 then x + 32 else x
structure Adr where
  n : List Int
  lo : List Int
  d : List Int
def Adr.ok (a : Adr) : Bool := addrOk a.n a.lo a.d
def Adr.fmt (a : Adr) : List Int := fmtA a.n a.lo a.d
/-- A mailbox, with a name. -/
def boxR (n l : List Int) : Option Adr :=
  match outQ 64 l with
  | none => none
  | some i => if addrOk n (l.take i) ((l.drop (i + 1)).map lo8) = true then some ⟨n, l.take i, (l.drop (i + 1)).map lo8⟩ else none
def parseA (l : List Int) : Option Adr :=
  if textOk l = true then (match outQ 60 (trimT l) with
    | none => boxR [] (trimT l)
    | some i => match words true ((trimT l).take i) with
      | none => none
      | some ws => if ((trimT l).drop (i + 1)).getLast? = some 62 then boxR (joinL ws) ((trimT l).drop (i + 1)).dropLast else none) else none
theorem boxR_ok {n l : List Int} {a : Adr} (h : boxR n l = some a) : a.ok = true := by
  unfold boxR at h
  split at h
  · cases h
  · split at h
    · rename_i hc
      obtain rfl := Option.some.inj h
      exact hc
    · cases h
theorem parseA_ok {l : List Int} {a : Adr} (h : parseA l = some a) : a.ok = true := by
  unfold parseA at h
  split at h
  · split at h
    · exact boxR_ok h
    · split at h
      · cases h
      · split at h
        · exact boxR_ok h
        · cases h
  · cases h
theorem lo8_dom {d : List Int} (h : domOk d = true) : d.map lo8 = d := by
  have := (dom_mem h).2.2
  conv => rhs; rw [← List.map_id d]
  refine List.map_congr_left fun x hx => ?_
  unfold lo8
  rw [if_neg, id]
  rcases this x hx with e | e
  · omega
  · exact (low_ne e).2.2.2.2.2.2.2.2.2
theorem boxR_box {n lo d : List Int} (h : addrOk n lo d = true) : boxR n (boxL lo d) = some ⟨n, lo, d⟩ := by
  obtain ⟨_, _, h3, h4⟩ := addrOk_iff.1 h
  have hc : Closed 64 lo := closed_plain fun x hx => by
    rcases (local_mem h3).2.2 x hx with e | e
    · omega
    · have := atm_ne e; omega
  have hd : (boxL lo d).drop (lo.length + 1) = d := by
    unfold boxL
    rw [← List.drop_drop, List.drop_left]; rfl
  have ht : (boxL lo d).take lo.length = lo := by unfold boxL; exact List.take_left
  unfold boxR
  rw [show outQ 64 (boxL lo d) = some lo.length from closed_hit hc (by decide) d]
  simp only [hd, ht, lo8_dom h4, h, if_true]
theorem box_mem {lo d : List Int} (h3 : localOk lo = true) (h4 : domOk d = true) : ∀ x ∈ boxL lo d, 33 ≤ x ∧ x ≤ 126 ∧ x ≠ 34 ∧ x ≠ 44 ∧ x ≠ 60 ∧ x ≠ 62 := by
  intro x hx
  unfold boxL at hx
  rcases List.mem_append.1 hx with h | h
  · rcases (local_mem h3).2.2 x h with e | e
    · omega
    · have := atm_ne e; omega
  · rcases List.mem_cons.1 h with e | h
    · omega
    · rcases (dom_mem h4).2.2 x h with e | e
      · omega
      · have := low_ne e; omega
theorem box_len {lo d : List Int} (h3 : localOk lo = true) (h4 : domOk d = true) : 3 ≤ (boxL lo d).length ∧ (boxL lo d).length ≤ 71 := by
  have h5 := local_mem h3
  have h6 := dom_mem h4
  have h7 : 1 ≤ lo.length := List.length_pos_iff.2 h5.1
  have h8 : 1 ≤ d.length := List.length_pos_iff.2 h6.1
  unfold boxL
  simp only [List.length_append, List.length_cons]
  omega
theorem quoteW_len (w : List Int) (h : w.length ≤ 40) : (quoteW w).length ≤ 82 := by
  have := esc_length w
  unfold quoteW
  split
  · split
    · omega
    · simp only [List.length_cons, List.length_append, List.length_nil]; omega
  · simp
theorem quoteW_head {w : List Int} (h : textOk w = true) : ∃ x r, quoteW w = x :: r ∧ x ≠ 32 := by
  rcases quoteW_cases w h with ⟨ha, hq⟩ | ⟨_, hq⟩
  · rw [hq]
    rw [atomOk_iff] at ha
    match w, ha with
    | x :: r, ha => exact ⟨x, r, rfl, (atm_ne (ha.2.2 x (by simp))).1⟩
  · exact ⟨34, _, hq, by decide⟩
theorem quoteW_text {w : List Int} (h : textOk w = true) : ∀ x ∈ quoteW w, 32 ≤ x ∧ x ≤ 126 := by
  intro x hx
  rcases quoteW_mem hx with e | e | e
  · omega
  · omega
  · exact ((textOk_iff w).1 h).2 x e
/-- What is to be known of a formatted address. -/
theorem fmt_facts {n lo d : List Int} (h : addrOk n lo d = true) : 3 ≤ (fmtA n lo d).length ∧ (fmtA n lo d).length ≤ 156 ∧ (∀ x ∈ fmtA n lo d, 32 ≤ x ∧ x ≤ 126) ∧ Tight (fmtA n lo d) ∧ Closed 44 (fmtA n lo d) := by
  obtain ⟨h1, h2, h3, h4⟩ := addrOk_iff.1 h
  have hb := box_mem h3 h4
  have hl := box_len h3 h4
  unfold fmtA
  rw [if_pos h]
  by_cases hn : n = []
  · rw [if_pos hn]
    refine ⟨hl.1, by omega, fun x hx => ?_, ⟨fun e => ?_, fun e => ?_⟩, closed_plain fun x hx => ?_⟩
    · have := hb x hx; omega
    · have := hb 32 (List.mem_of_mem_head? (by rw [e]; rfl)); omega
    · have := hb 32 (List.mem_of_mem_getLast? (by rw [e]; rfl)); omega
    · have := hb x hx; omega
  · rw [if_neg hn]
    have hq := quoteW_len n h2
    obtain ⟨y, r, hy, hy2⟩ := quoteW_head h1
    refine ⟨?_, ?_, fun x hx => ?_, ⟨?_, ?_⟩, ?_⟩
    · simp only [List.length_append, List.length_cons, List.length_nil]; omega
    · simp only [List.length_append, List.length_cons, List.length_nil]; omega
    · rcases List.mem_append.1 hx with h | h
      · exact quoteW_text h1 x h
      · rcases List.mem_cons.1 h with e | h
        · omega
        · rcases List.mem_cons.1 h with e | h
          · omega
          · rcases List.mem_append.1 h with h | h
            · have := hb x h; omega
            · have : x = 62 := by simpa using h
              omega
    · rw [hy]; simpa using hy2
    · have e : quoteW n ++ (32 :: 60 :: (boxL lo d ++ [62])) = (quoteW n ++ (32 :: 60 :: boxL lo d)) ++ [62] := by simp
      rw [e, List.getLast?_append]
      simp
    · refine closed_append (closed_quoteW n (by decide) (by decide)) (closed_cons (by decide) (by decide) (closed_cons (by decide) (by decide) (closed_append (closed_plain fun x hx => ?_) (closed_one (by decide) (by decide)))))
      have := hb x hx; omega
theorem words_quote_sp {w : List Int} (h : textOk w = true) : words true (quoteW w ++ [32]) = some [w] := words_append true (quoteW w) [] [w] [] (words_quote h) (words_nil true)
/-- A formatted address is read back, whatever spaces are round it. -/
theorem parseA_fmt {n lo d l : List Int} (h : addrOk n lo d = true) (ht : trimT l = fmtA n lo d) (hl : textOk l = true) : parseA l = some ⟨n, lo, d⟩ := by
  obtain ⟨h1, h2, h3, h4⟩ := addrOk_iff.1 h
  have hb := box_mem h3 h4
  unfold parseA
  rw [if_pos hl, ht]
  unfold fmtA
  rw [if_pos h]
  by_cases hn : n = []
  · rw [if_pos hn]
    have : outQ 60 (boxL lo d) = none := closed_none (closed_plain fun x hx => by have := hb x hx; omega)
    simp only [this]
    subst hn
    exact boxR_box h
  · rw [if_neg hn]
    have hc : Closed 60 (quoteW n ++ [32]) := closed_append (closed_quoteW n (by decide) (by decide)) (closed_one (by decide) (by decide))
    have e : quoteW n ++ (32 :: 60 :: (boxL lo d ++ [62])) = (quoteW n ++ [32]) ++ 60 :: (boxL lo d ++ [62]) := by simp
    have hd : ((quoteW n ++ [32]) ++ 60 :: (boxL lo d ++ [62])).drop ((quoteW n ++ [32]).length + 1) = boxL lo d ++ [62] := by
      rw [← List.drop_drop, List.drop_left]; rfl
    rw [e, closed_hit hc (by decide)]
    simp only [List.take_left, hd, words_quote_sp h1, List.dropLast_concat]
    rw [if_pos (by rw [List.getLast?_append]; simp)]
    have : joinL [n] = n := by simp [joinL, tailJ]
    rw [this]
    exact boxR_box h
/-! ### Lists of addresses -/
def parseAll : List (List Int) → Option (List Adr)
  | [] => some []
  | p :: ps => match parseA p with
    | none => none
    | some a => (parseAll ps).map (a :: ·)
def parseL (l : List Int) : List Adr × Bool :=
  if textOk l = true then (if trimT l = [] then ([], true) else match parseAll (splitQ 44 l) with
    | none => ([], false)
    | some az => if az.length ≤ 10 then (az, true) else ([], false)) else ([], false)
theorem parseAll_ok : ∀ {ps : List (List Int)} {az : List Adr}, parseAll ps = some az → ∀ a ∈ az, a.ok = true
  | [], az, h => by
    obtain rfl := Option.some.inj h
    intro a ha; cases ha
  | p :: ps, az, h => by
    rw [parseAll] at h
    split at h
    · cases h
    · rename_i b hb
      obtain ⟨az', h1, rfl⟩ := Option.map_eq_some_iff.1 h
      intro a ha
      rcases List.mem_cons.1 ha with e | ha
      · rw [e]; exact parseA_ok hb
      · exact parseAll_ok h1 a ha
theorem parseL_ok {l : List Int} {az : List Adr} {b : Bool} (h : parseL l = (az, b)) : az.length ≤ 10 ∧ ∀ a ∈ az, a.ok = true := by
  unfold parseL at h
  have hz : az = [] → az.length ≤ 10 ∧ ∀ a ∈ az, a.ok = true := fun e => by subst e; exact ⟨by simp, fun a ha => by cases ha⟩
  split at h
  · split at h
    · injection h with h1 h2; exact hz h1.symm
    · split at h
      · injection h with h1 h2; exact hz h1.symm
      · rename_i az' he
        split at h
        · rename_i hl
          injection h with h1 h2
          subst h1
          exact ⟨hl, parseAll_ok he⟩
        · injection h with h1 h2; exact hz h1.symm
  · injection h with h1 h2; exact hz h1.symm
/-- A comma and a space before each. -/
def tailC : List (List Int) → List Int
  | [] => []
  | x :: r => 44 :: 32 :: (x ++ tailC r)
def joinC : List (List Int) → List Int
  | [] => []
  | x :: r => x ++ tailC r
def fmtL (l : List Adr) : List Int := if l.length ≤ 10 ∧ l.all Adr.ok = true ∧ (joinC (l.map Adr.fmt)).length ≤ 200 then joinC (l.map Adr.fmt) else []
theorem splitQ_tail : ∀ (x : List Int) (r : List (List Int)), Closed 44 x → (∀ y ∈ r, Closed 44 y) → splitQ 44 (x ++ tailC r) = x :: r.map (32 :: ·)
  | x, [], hx, _ => by
    simp only [tailC, List.append_nil, List.map_nil]
    exact splitQ_none (closed_none hx)
  | x, y :: r, hx, h => by
    rw [tailC, splitQ_hit hx (by decide), List.map_cons]
    congr 1
    exact splitQ_tail (32 :: y) r (closed_cons (by decide) (by decide) (h y (by simp))) (fun z hz => h z (List.mem_cons_of_mem _ hz))
theorem parseAll_fmt : ∀ (l : List Adr), (∀ a ∈ l, a.ok = true) → parseAll ((l.map Adr.fmt).map (32 :: ·)) = some l
  | [], _ => rfl
  | a :: l, h => by
    have ha := h a (by simp)
    obtain ⟨f1, f2, f3, f4, f5⟩ := fmt_facts ha
    have hp : parseA (32 :: a.fmt) = some a := parseA_fmt (n := a.n) (lo := a.lo) (d := a.d) ha (by rw [trim_sp]; exact trim_of f4) (by
      rw [textOk_iff]
      refine ⟨by simp only [List.length_cons, Adr.fmt]; omega, fun x hx => ?_⟩
      rcases List.mem_cons.1 hx with e | hx
      · omega
      · exact f3 x hx)
    rw [List.map_cons, List.map_cons, parseAll, hp]
    simp only
    rw [parseAll_fmt l fun b hb => h b (List.mem_cons_of_mem _ hb)]
    rfl
theorem tailC_mem {ws : List (List Int)} {x : Int} (h : x ∈ tailC ws) : x = 44 ∨ x = 32 ∨ ∃ w ∈ ws, x ∈ w := by
  induction ws with
  | nil => cases h
  | cons y r ih =>
    simp only [tailC] at h
    rcases List.mem_cons.1 h with h | h
    · exact .inl h
    · rcases List.mem_cons.1 h with h | h
      · exact .inr (.inl h)
      · rcases List.mem_append.1 h with h | h
        · exact .inr (.inr ⟨y, by simp, h⟩)
        · exact (ih h).imp id (Or.imp id fun ⟨w, hw, hx⟩ => ⟨w, List.mem_cons_of_mem _ hw, hx⟩)
theorem joinC_mem {ws : List (List Int)} {x : Int} (h : x ∈ joinC ws) : x = 44 ∨ x = 32 ∨ ∃ w ∈ ws, x ∈ w := by
  cases ws with
  | nil => cases h
  | cons y r =>
    simp only [joinC] at h
    rcases List.mem_append.1 h with h | h
    · exact .inr (.inr ⟨y, by simp, h⟩)
    · exact (tailC_mem h).imp id (Or.imp id fun ⟨w, hw, hx⟩ => ⟨w, List.mem_cons_of_mem _ hw, hx⟩)
theorem fmtL_text (l : List Adr) : textOk (fmtL l) = true := by
  unfold fmtL
  split
  · rename_i h
    rw [textOk_iff]
    refine ⟨h.2.2, fun x hx => ?_⟩
    rcases joinC_mem hx with e | e | ⟨w, hw, hx⟩
    · omega
    · omega
    · obtain ⟨a, ha, rfl⟩ := List.mem_map.1 hw
      exact (fmt_facts (List.all_eq_true.1 h.2.1 a ha)).2.2.1 x hx
  · decide
theorem fmtL_cases (l : List Adr) (h : fmtL l ≠ []) : l.length ≤ 10 ∧ (∀ a ∈ l, a.ok = true) ∧ (joinC (l.map Adr.fmt)).length ≤ 200 ∧ fmtL l = joinC (l.map Adr.fmt) ∧ l ≠ [] := by
  unfold fmtL at h ⊢
  split
  · rename_i hc
    refine ⟨hc.1, List.all_eq_true.1 hc.2.1, hc.2.2, rfl, fun e => ?_⟩
    rw [if_pos hc, e] at h
    exact h rfl
  · rename_i hc
    rw [if_neg hc] at h
    exact absurd rfl h
/-- A formatted list is read back. -/
theorem parseL_fmt (l : List Adr) (h : fmtL l ≠ []) : parseL (fmtL l) = (l, true) := by
  have ht := fmtL_text l
  obtain ⟨h1, h2, h3, h4, h5⟩ := fmtL_cases l h
  unfold parseL
  rw [if_pos ht, h4]
  match l, h1, h2, h5 with
  | a :: r, h1, h2, _ =>
    have ha := h2 a (by simp)
    obtain ⟨f1, f2, f3, f4, f5⟩ := fmt_facts ha
    have hne : trimT (joinC ((a :: r).map Adr.fmt)) ≠ [] := by
      rw [List.map_cons, joinC]
      obtain ⟨x, y, hx⟩ : ∃ x y, a.fmt = x :: y := by
        cases hf : a.fmt with
        | nil => unfold Adr.fmt at hf; rw [hf] at f1; simp at f1
        | cons x y => exact ⟨x, y, rfl⟩
      have hx32 : x ≠ 32 := fun e => f4.1 (by show (Adr.fmt a).head? = _; rw [hx, e]; rfl)
      intro e
      rw [← trim_comm] at e
      rw [hx] at e
      have h7 : ∀ (t : List Int), rtrim (x :: t) ≠ [] ∧ (rtrim (x :: t)).head? = some x := by
        intro t
        have : rtrim ([x] ++ t) = if rtrim t = [] then [x] else x :: rtrim t := by
          refine snoc_ind (p := fun t => rtrim ([x] ++ t) = if rtrim t = [] then [x] else x :: rtrim t) ?_ (fun l z ih => ?_) t
          · rw [rtrim_nil, if_pos rfl, List.append_nil]
            exact rtrim_ne [] hx32
          · rw [← List.append_assoc]
            by_cases hz : z = 32
            · subst hz; rw [rtrim_sp, rtrim_sp, ih]
            · rw [rtrim_ne _ hz, rtrim_ne _ hz, if_neg (by simp)]; simp
        rw [List.singleton_append] at this
        rw [this]
        split
        · exact ⟨by simp, rfl⟩
        · exact ⟨by simp, rfl⟩
      have h8 := h7 (y ++ tailC (r.map Adr.fmt))
      rw [List.cons_append, ltrim_of (by rw [h8.2]; simpa using hx32)] at e
      exact h8.1 e
    rw [if_neg hne, List.map_cons, joinC]
    rw [splitQ_tail a.fmt (r.map Adr.fmt) f5 (fun y hy => by
      obtain ⟨b, hb, rfl⟩ := List.mem_map.1 hy
      exact (fmt_facts (h2 b (List.mem_cons_of_mem _ hb))).2.2.2.2)]
    have hp : parseA a.fmt = some a := parseA_fmt (n := a.n) (lo := a.lo) (d := a.d) ha (trim_of f4) (by rw [textOk_iff]; exact ⟨by simp only [Adr.fmt]; omega, f3⟩)
    rw [parseAll, hp]
    simp only
    rw [parseAll_fmt r fun b hb => h2 b (List.mem_cons_of_mem _ hb)]
    simp only [Option.map_some]
    rw [if_pos h1]
theorem pcs_in (c : Int) : ∀ (l cur p : List Int), p ∈ pcs c cur l → ∀ x ∈ p, x ∈ cur ++ l
  | [], cur, p, h => by
    simp [pcs] at h
    rw [h]; simp
  | y :: r, cur, p, h => by
    intro x hx
    rw [pcs] at h
    by_cases hy : y = c
    · rw [if_pos hy] at h
      rcases List.mem_cons.1 h with h | h
      · rw [h] at hx; exact List.mem_append_left _ hx
      · have := pcs_in c r [] p h x hx
        exact List.mem_append_right _ (List.mem_cons_of_mem _ (by simpa using this))
    · rw [if_neg hy] at h
      have := pcs_in c r (cur ++ [y]) p h x hx
      simpa using this
theorem pcs_len (c : Int) : ∀ (l cur : List Int), (pcs c cur l).length ≤ l.length + 1
  | [], cur => by simp [pcs]
  | y :: r, cur => by
    rw [pcs]
    split
    · have := pcs_len c r []
      simp only [List.length_cons]
      omega
    · have := pcs_len c r (cur ++ [y])
      simp only [List.length_cons]
      omega

end Go.Proofs.YtcnkakaipajloaaDoor.Q
