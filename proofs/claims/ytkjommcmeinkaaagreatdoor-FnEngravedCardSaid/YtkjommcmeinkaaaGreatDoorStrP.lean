/- Decimal numerals, texts of numbers and splitting at a byte, in plain words. No condition of their own. -/
import Derived.Lib.ParseIntBTie
import Derived.Lib.ItoaLen
import Derived.Lib.Split
import Derived.Lib.Join
import Derived.Lib.IndexBytes
namespace Go.Proofs.YtkjommcmeinkaaaGreatDoor
open Go.Lib
def digB (c : UInt8) : Bool := decide (48 ≤ c.toNat) && decide (c.toNat ≤ 57)
theorem digB_iff {c : UInt8} : digB c = true ↔ 48 ≤ c.toNat ∧ c.toNat ≤ 57 := by simp [digB]
def valD (a : Nat) : List UInt8 → Nat
  | [] => a
  | c :: r => valD (a * 10 + (c.toNat - 48)) r
theorem valD_append (l m : List UInt8) : ∀ a, valD a (l ++ m) = valD (valD a l) m := by
  induction l with
  | nil => intro a; rfl
  | cons c r ih => intro a; exact ih _
theorem valD_ge (l : List UInt8) : ∀ a, a ≤ valD a l := by
  induction l with
  | nil => intro a; exact Nat.le_refl _
  | cons c r ih => intro a; have := ih (a * 10 + (c.toNat - 48)); unfold valD; omega
theorem dig_toNat {d : Nat} (h : d < 10) : (UInt8.ofNat (48 + d)).toNat = 48 + d := by
  rw [UInt8.toNat_ofNat']
  omega
theorem dec_small {u : Nat} (h : u < 10) : decDigits u = [UInt8.ofNat (48 + u)] := by rw [decDigits, dif_pos h]
theorem dec_big {u : Nat} (h : ¬ u < 10) : decDigits u = decDigits (u / 10) ++ [UInt8.ofNat (48 + u % 10)] := by rw [decDigits, dif_neg h]
theorem valD_dec (u : Nat) : valD 0 (decDigits u) = u := by
  induction u using Nat.strongRecOn with
  | _ u ih =>
    by_cases h : u < 10
    · rw [dec_small h]
      show 0 * 10 + ((UInt8.ofNat (48 + u)).toNat - 48) = u
      rw [dig_toNat h]; omega
    · rw [dec_big h, valD_append, ih (u / 10) (by omega)]
      show u / 10 * 10 + ((UInt8.ofNat (48 + u % 10)).toNat - 48) = u
      rw [dig_toNat (by omega)]; omega
theorem digs_dec (u : Nat) : (decDigits u).all digB = true := by
  induction u using Nat.strongRecOn with
  | _ u ih =>
    by_cases h : u < 10
    · rw [dec_small h]
      simp only [List.all_cons, List.all_nil, Bool.and_true]
      rw [digB_iff, dig_toNat h]; omega
    · rw [dec_big h, List.all_append, ih (u / 10) (by omega)]
      simp only [List.all_cons, List.all_nil, Bool.and_true, Bool.true_and]
      rw [digB_iff, dig_toNat (by omega)]; omega
theorem dec_len_pos (u : Nat) : 1 ≤ (decDigits u).length := by rw [decDigits_length]; exact nDigits_pos u
theorem dec_len_le (u k : Nat) (hk : 1 ≤ k) : (decDigits u).length ≤ k ↔ u < 10 ^ k := by
  rw [decDigits_length]
  constructor
  · intro h
    exact Nat.lt_of_lt_of_le (lt_pow_nDigits u) (Nat.pow_le_pow_right (by omega) h)
  · intro h
    induction k generalizing u with
    | zero => omega
    | succ k ih =>
      by_cases h10 : u < 10
      · rw [nDigits_small h10]; omega
      · rw [nDigits_big h10]
        have h1 : u / 10 < 10 ^ k := by rw [Nat.pow_succ] at h; omega
        by_cases hk0 : k = 0
        · subst hk0
          simp at h1
          omega
        · have := ih (u / 10) (by omega) h1
          omega
theorem parse10_digs (l : List UInt8) : ∀ a, l.all digB = true → valD a l < 18446744073709551616 → parseUint10 a l = .ok (valD a l) := by
  induction l with
  | nil => intro a _ _; rfl
  | cons c r ih =>
    intro a h hv
    simp only [List.all_cons, Bool.and_eq_true] at h
    have hc := digB_iff.1 h.1
    have hg := valD_ge r (a * 10 + (c.toNat - 48))
    have hv' : valD (a * 10 + (c.toNat - 48)) r < 18446744073709551616 := hv
    unfold parseUint10
    rw [if_pos hc, if_neg (by omega), if_neg (by omega)]
    exact ih _ h.2 hv'
theorem mag_dec {u : Nat} (h : u < 18446744073709551616) : parseMag (decDigits u) = .ok u := by
  unfold parseMag
  have hp := dec_len_pos u
  rw [if_neg (by intro e; rw [e] at hp; simp at hp), parse10_digs _ _ (digs_dec u) (by rw [valD_dec]; exact h), valD_dec]
theorem dec_cons (u : Nat) : ∃ c r, decDigits u = c :: r ∧ 48 ≤ c.toNat ∧ c.toNat ≤ 57 := by
  have h1 := dec_len_pos u
  have h2 := digs_dec u
  match h : decDigits u with
  | [] => rw [h] at h1; simp at h1
  | c :: r =>
    rw [h] at h2
    simp only [List.all_cons, Bool.and_eq_true] at h2
    exact ⟨c, r, rfl, digB_iff.1 h2.1⟩
theorem parse_itoa (v : Int) (h0 : -9223372036854775808 ≤ v) (h1 : v ≤ 9223372036854775807) : parseIntB 64 (itoa v) = .ok v := by
  rw [parseIntB_64]
  unfold itoa
  by_cases hn : v < 0
  · rw [if_pos hn]
    unfold atoiAll
    have e45 : (45 : UInt8).toNat = 45 := rfl
    simp only [e45, or_true, if_true, not_true, false_and, if_false, true_and]
    rw [mag_dec (by omega)]
    simp only
    rw [if_neg (by omega)]
    congr 1; omega
  · rw [if_neg hn]
    obtain ⟨c, r, he, hc⟩ := dec_cons v.toNat
    have hm := mag_dec (u := v.toNat) (by omega)
    rw [he] at hm ⊢
    unfold atoiAll
    have e1 : ¬ c.toNat = 43 := by omega
    have e2 : ¬ c.toNat = 45 := by omega
    simp only [e1, e2, or_self, if_false, not_false_eq_true, true_and, false_and]
    rw [hm]
    simp only
    rw [if_neg (by omega)]
    congr 1; omega
/-- a number in decimal, without superfluous zeros: as the program reads it -/
def numI (s : List UInt8) : Option Int := match parseIntB 64 s with | .ok v => if itoa v = s then some v else none | _ => none
theorem numI_some {s : List UInt8} {v : Int} : numI s = some v ↔ s = itoa v ∧ -9223372036854775808 ≤ v ∧ v ≤ 9223372036854775807 := by
  constructor
  · intro h
    unfold numI at h
    split at h
    · rename_i u hp
      split at h
      · rename_i hi
        obtain rfl := Option.some.inj h
        have := parseIntB_bounds hp
        simp at this
        exact ⟨hi.symm, by omega, by omega⟩
      · cases h
    · cases h
  · rintro ⟨rfl, h0, h1⟩
    unfold numI
    rw [parse_itoa v h0 h1]
    simp
/-- a number of at least 0, at most thirteen digits: as the reference reads it -/
def valS (s : List UInt8) : Option Nat := if (decide (1 ≤ s.length) && decide (s.length ≤ 13) && s.all digB && decide (decDigits (valD 0 s) = s)) = true then some (valD 0 s) else none
theorem valS_some {s : List UInt8} {u : Nat} : valS s = some u ↔ s = decDigits u ∧ u < 10000000000000 := by
  unfold valS
  constructor
  · intro h
    split at h
    · rename_i hc
      simp only [Bool.and_eq_true, decide_eq_true_eq] at hc
      obtain rfl := Option.some.inj h
      refine ⟨hc.2.symm, ?_⟩
      have h13 := hc.1.1.2
      rw [← hc.2] at h13
      exact (dec_len_le _ 13 (by omega)).1 h13
    · cases h
  · rintro ⟨rfl, hu⟩
    rw [if_pos]
    · rw [valD_dec]
    · have h1 := dec_len_pos u
      have h2 := (dec_len_le u 13 (by omega)).2 hu
      simp [h1, h2, digs_dec, valD_dec]
/-- a number with a sign, as the reference reads it -/
def numS (s : List UInt8) : Option Int :=
  match s with
  | [] => none
  | c :: r => if c = 45 then (match valS r with | some u => if 0 < u then some (-(u : Int)) else none | none => none) else (valS (c :: r)).map fun (u : Nat) => (u : Int)
theorem numS_cons (c : UInt8) (r : List UInt8) : numS (c :: r) = if c = 45 then (match valS r with | some u => if 0 < u then some (-(u : Int)) else none | none => none) else (valS (c :: r)).map fun (u : Nat) => (u : Int) := rfl
theorem numS_some {s : List UInt8} {v : Int} : numS s = some v ↔ s = itoa v ∧ -10000000000000 < v ∧ v < 10000000000000 := by
  constructor
  · intro h
    match s, h with
    | c :: r, h =>
      rw [numS_cons] at h
      by_cases hc : c = 45
      · rw [if_pos hc] at h
        subst hc
        cases hv : valS r with
        | none => rw [hv] at h; cases h
        | some u =>
          rw [hv] at h
          simp only at h
          split at h
          · rename_i hu
            obtain rfl := Option.some.inj h
            obtain ⟨rfl, h2⟩ := valS_some.1 hv
            refine ⟨?_, by omega, by omega⟩
            unfold itoa
            rw [if_pos (by omega)]
            congr 2
            omega
          · cases h
      · rw [if_neg hc] at h
        cases hv : valS (c :: r) with
        | none => rw [hv] at h; cases h
        | some u =>
          rw [hv] at h
          obtain rfl : (u : Int) = v := by simpa using h
          obtain ⟨h1, h2⟩ := valS_some.1 hv
          refine ⟨?_, by omega, by omega⟩
          unfold itoa
          rw [if_neg (by omega), h1]
          congr 1
  · rintro ⟨rfl, h0, h1⟩
    unfold itoa
    by_cases hn : v < 0
    · rw [if_pos hn]
      rw [numS_cons, if_pos rfl, valS_some.2 ⟨rfl, by omega⟩]
      simp only
      rw [if_pos (by omega)]
      congr 1; omega
    · rw [if_neg hn]
      obtain ⟨c, r, he, hc⟩ := dec_cons v.toNat
      have hv : valS (c :: r) = some v.toNat := valS_some.2 ⟨he.symm, by omega⟩
      rw [he]
      rw [numS_cons, if_neg (by intro e; subst e; exact absurd hc.1 (by decide)), hv]
      simp; omega
theorem numS_numI {s : List UInt8} {v : Int} : numS s = some v ↔ numI s = some v ∧ -10000000000000 < v ∧ v < 10000000000000 := by
  rw [numS_some, numI_some]
  constructor
  · rintro ⟨h, h0, h1⟩; exact ⟨⟨h, by omega, by omega⟩, h0, h1⟩
  · rintro ⟨⟨h, _, _⟩, h0, h1⟩; exact ⟨h, h0, h1⟩
/-- the pieces between the bytes b -/
def splitC (b : UInt8) : List UInt8 → List (List UInt8)
  | [] => [[]]
  | c :: r => if c = b then [] :: splitC b r else (match splitC b r with | [] => [[c]] | x :: xs => (c :: x) :: xs)
def preC (p : List UInt8) : List (List UInt8) → List (List UInt8)
  | [] => [p]
  | x :: xs => (p ++ x) :: xs
theorem splitC_ne (b : UInt8) (l : List UInt8) : splitC b l ≠ [] := by
  cases l with
  | nil => simp [splitC]
  | cons c r =>
    unfold splitC
    split
    · simp
    · split <;> simp
theorem preC_nil {L : List (List UInt8)} (h : L ≠ []) : preC [] L = L := by
  cases L with
  | nil => exact absurd rfl h
  | cons x xs => rfl
theorem preC_preC (p q : List UInt8) (L : List (List UInt8)) : preC p (preC q L) = preC (p ++ q) L := by
  cases L with
  | nil => rfl
  | cons x xs => simp [preC]
theorem splitC_cons {b c : UInt8} {r : List UInt8} (h : c ≠ b) : splitC b (c :: r) = preC [c] (splitC b r) := by
  conv => lhs; unfold splitC
  rw [if_neg h]
  cases splitC b r <;> rfl
theorem splitC_hit {b : UInt8} {r : List UInt8} : splitC b (b :: r) = [] :: splitC b r := by
  conv => lhs; unfold splitC
  rw [if_pos rfl]
theorem splitC_free {b : UInt8} : ∀ {p : List UInt8} (r : List UInt8), b ∉ p → splitC b (p ++ r) = preC p (splitC b r)
  | [], r, _ => (preC_nil (splitC_ne b r)).symm
  | c :: p, r, h => by
    have h1 : c ≠ b := fun e => h (e ▸ List.mem_cons_self)
    have h2 : b ∉ p := fun e => h (List.mem_cons_of_mem _ e)
    rw [List.cons_append, splitC_cons h1, splitC_free r h2, preC_preC]
    rfl
theorem splitC_none {b : UInt8} {p : List UInt8} (h : b ∉ p) : splitC b p = [p] := by
  have := splitC_free (b := b) (p := p) [] h
  rw [List.append_nil] at this
  rw [this]
  simp [splitC, preC]
theorem splitC_at {b : UInt8} {p : List UInt8} (r : List UInt8) (h : b ∉ p) : splitC b (p ++ b :: r) = p :: splitC b r := by
  rw [splitC_free _ h, splitC_hit]
  simp [preC]
theorem byte_parts (b : UInt8) : ∀ s : List UInt8, (b ∉ s ∧ indexByte s b = -1) ∨ ∃ p r, s = p ++ b :: r ∧ b ∉ p ∧ indexByte s b = (p.length : Int)
  | [] => .inl ⟨by simp, rfl⟩
  | c :: s => by
    by_cases h : c = b
    · subst h
      exact .inr ⟨[], s, rfl, by simp, by simp [indexByte]⟩
    · have hcb : (c == b) = false := by simpa using h
      rcases byte_parts b s with ⟨h1, h2⟩ | ⟨p, r, rfl, h2, h3⟩
      · refine .inl ⟨fun e => ?_, by unfold indexByte; rw [hcb, h2]; rfl⟩
        rcases List.mem_cons.1 e with e | e
        · exact h e.symm
        · exact h1 e
      · refine .inr ⟨c :: p, r, rfl, fun e => ?_, ?_⟩
        · rcases List.mem_cons.1 e with e | e
          · exact h e.symm
          · exact h2 e
        · unfold indexByte
          have : (indexByte (p ++ b :: r) b == -1) = false := by rw [h3]; simp
          rw [hcb, this, h3]
          simp
theorem split_byte (b : UInt8) : ∀ (n : Nat) (s : List UInt8), s.length ≤ n → splitK [b] 0 (count s [b]) s = splitC b s := by
  intro n
  induction n with
  | zero =>
    intro s h
    obtain rfl : s = [] := List.eq_nil_of_length_eq_zero (by omega)
    have hi : index [] [b] = -1 := rfl
    rw [count_miss hi]
    rfl
  | succ n ih =>
    intro s h
    rcases byte_parts b s with ⟨h1, h2⟩ | ⟨p, r, rfl, h2, h3⟩
    · rw [count_miss (by rw [index_one]; exact h2), splitC_none h1]
      rfl
    · have hi : index (p ++ b :: r) [b] = (p.length : Int) := by rw [index_one]; exact h3
      have hd : (p ++ b :: r).drop (p.length + 1) = r := by
        rw [← List.drop_drop, List.drop_left]
        rfl
      have ht : (p ++ b :: r).take p.length = p := List.take_left
      have hr := ih r (by simp at h; omega)
      rw [count_hit (by simp) hi, Nat.add_comm 1]
      have hb : (index (p ++ b :: r) [b] == -1) = false := by rw [hi]; simp
      conv => lhs; unfold splitK
      rw [hb, hi]
      simp only [Int.toNat_natCast, Nat.add_zero, List.length_singleton, Bool.false_eq_true, if_false]
      rw [hd, ht, hr, splitC_at r h2]
/-- texts with something between them -/
def joinC (b : List UInt8) : List (List UInt8) → List UInt8
  | [] => []
  | [x] => x
  | x :: y :: r => x ++ b ++ joinC b (y :: r)
theorem join_eq (b : List UInt8) : ∀ xs : List (List UInt8), join xs b = joinC b xs
  | [] => rfl
  | [x] => join_one x b
  | x :: y :: r => by
    have h := join_eq b (y :: r)
    rw [join_cons] at h ⊢
    show x ++ joinTail b (y :: r) = x ++ b ++ joinC b (y :: r)
    rw [← h]
    simp [joinTail]
theorem joinC_snoc (b : List UInt8) : ∀ (xs : List (List UInt8)) (x : List UInt8), joinC b (xs ++ [x]) = (if xs.isEmpty then x else joinC b xs ++ b ++ x)
  | [], x => rfl
  | [y], x => by simp [joinC]
  | y :: z :: r, x => by
    have h := joinC_snoc b (z :: r) x
    simp only [List.isEmpty_cons, Bool.false_eq_true, if_false, List.cons_append] at h ⊢
    show y ++ b ++ joinC b (z :: (r ++ [x])) = y ++ b ++ joinC b (z :: r) ++ b ++ x
    rw [h]
    simp
theorem split_join {b : UInt8} : ∀ (xs : List (List UInt8)), xs ≠ [] → (∀ x ∈ xs, b ∉ x) → splitC b (joinC [b] xs) = xs
  | [], h, _ => absurd rfl h
  | [x], _, h => splitC_none (h x (by simp))
  | x :: y :: r, _, h => by
    have ih := split_join (y :: r) (by simp) (fun z hz => h z (List.mem_cons_of_mem _ hz))
    show splitC b (x ++ [b] ++ joinC [b] (y :: r)) = _
    rw [List.append_assoc, List.singleton_append, splitC_at _ (h x List.mem_cons_self), ih]
theorem join_split (b : UInt8) : ∀ s : List UInt8, joinC [b] (splitC b s) = s
  | [] => rfl
  | c :: r => by
    have ih := join_split b r
    by_cases h : c = b
    · subst h
      rw [splitC_hit]
      cases hs : splitC c r with
      | nil => exact absurd hs (splitC_ne c r)
      | cons x xs =>
        rw [hs] at ih
        show [] ++ [c] ++ joinC [c] (x :: xs) = _
        rw [ih]
        rfl
    · rw [splitC_cons h]
      cases hs : splitC b r with
      | nil => exact absurd hs (splitC_ne b r)
      | cons x xs =>
        rw [hs] at ih
        cases xs with
        | nil => show c :: x = _; rw [show x = r from ih]
        | cons y ys => show (c :: x) ++ [b] ++ joinC [b] (y :: ys) = _; rw [← ih]; rfl
end Go.Proofs.YtkjommcmeinkaaaGreatDoor
