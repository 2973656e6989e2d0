/- A program read from its text, in plain words: both sides' readings agree. No condition of their own. -/
import Derived.Test.YtkjommcmeinkaaaGreatDoorStrN5
import Derived.Test.YtkjommcmeinkaaaGreatDoorStrokes
namespace Go.Proofs.YtkjommcmeinkaaaGreatDoor
open Go.RowKit
/-- a word read, f reading the numbers, tl the letter -/
def wordF (f : List UInt8 → Option Int) (tl : UInt8 → Option Int) (x : List UInt8) : Option Stroke :=
  match x with
  | [] => none
  | c :: r => match tl c, splitC 46 r with
    | some t, [a, b] => (match f a, f b with | some m, some n => some ⟨t, m, n⟩ | _, _ => none)
    | _, _ => none
def tlI (c : UInt8) : Option Int := if c = 70 then some 1 else if c = 66 then some 2 else none
def tlS (c : UInt8) : Option Int := some (if c = 70 then 1 else if c = 66 then 2 else 0)
def goodW (o : Option Stroke) : Option Stroke := match o with | some s => if strokeOK s = true then some s else none | none => none
theorem goodW_ok {s : Stroke} (h : strokeOK s = true) : goodW (some s) = some s := if_pos h
theorem good_same (x : List UInt8) : goodW (wordF numI tlI x) = goodW (wordF numS tlS x) := by
  cases x with
  | nil => rfl
  | cons c r =>
    unfold wordF
    simp only
    generalize splitC 46 r = ws
    match ws with
    | [] => cases tlI c <;> rfl
    | [a] => cases tlI c <;> rfl
    | a :: b :: d :: e => cases tlI c <;> rfl
    | [a, b] =>
      have hbig : ∀ (t m n : Int), strokeOK ⟨t, m, n⟩ = true → (-10000000000000 < m ∧ m < 10000000000000) ∧ (-10000000000000 < n ∧ n < 10000000000000) ∧ (1 ≤ t ∧ t ≤ 2) := fun t m n h => by
        unfold strokeOK at h
        simp only [Bool.and_eq_true, inB_true] at h
        omega
      have key : ∀ (t : Int), goodW (match numI a, numI b with | some m, some n => some (⟨t, m, n⟩ : Stroke) | _, _ => none) = goodW (match numS a, numS b with | some m, some n => some (⟨t, m, n⟩ : Stroke) | _, _ => none) := fun t => by
        cases ha : numI a with
        | none =>
          have : numS a = none := by
            cases h : numS a with
            | none => rfl
            | some v => have := (numS_numI.1 h).1; rw [ha] at this; cases this
          rw [this]
        | some m =>
          cases hb : numI b with
          | none =>
            have : numS b = none := by
              cases h : numS b with
              | none => rfl
              | some v => have := (numS_numI.1 h).1; rw [hb] at this; cases this
            rw [this]
            cases numS a <;> rfl
          | some n =>
            by_cases hg : strokeOK ⟨t, m, n⟩ = true
            · obtain ⟨h1, h2, _⟩ := hbig t m n hg
              rw [numS_numI.2 ⟨ha, h1⟩, numS_numI.2 ⟨hb, h2⟩]
            · cases hsa : numS a with
              | none => simp [goodW, hg]
              | some m' =>
                have e1 := (numS_numI.1 hsa).1
                rw [ha] at e1
                obtain rfl := Option.some.inj e1
                cases hsb : numS b with
                | none => simp [goodW, hg]
                | some n' =>
                  have e2 := (numS_numI.1 hsb).1
                  rw [hb] at e2
                  obtain rfl := Option.some.inj e2
                  rfl
      unfold tlI tlS
      by_cases h1 : c = 70
      · rw [if_pos h1, if_pos h1]; exact key 1
      · by_cases h2 : c = 66
        · rw [if_neg h1, if_pos h2, if_neg h1, if_pos h2]; exact key 2
        · rw [if_neg h1, if_neg h2, if_neg h1, if_neg h2]
          have h0 : ∀ m n : Int, strokeOK ⟨0, m, n⟩ = false := fun m n => by
            cases h : strokeOK ⟨0, m, n⟩ with
            | false => rfl
            | true => have := (hbig 0 m n h).2.2; omega
          show goodW none = goodW (match numS a, numS b with | some m, some n => some (⟨0, m, n⟩ : Stroke) | _, _ => none)
          cases numS a with
          | none => rfl
          | some m => cases numS b with
            | none => rfl
            | some n => simp [goodW, h0]
/-- a program read: none if it is none -/
def readR (s : List UInt8) : Option (List Stroke) :=
  if s = [] then some [] else
  if ((splitC 32 s).all (fun x => (goodW (wordF numI tlI x)).isSome) && decide ((splitC 32 s).length ≤ 150)) = true then some ((splitC 32 s).map fun x => (goodW (wordF numI tlI x)).getD ⟨0, 0, 0⟩) else none
def readL (s : List UInt8) : List Stroke := (readR s).getD []
def readC (s : List UInt8) : Int := if (readR s).isSome = true then 0 else 6
section
variable {g : List UInt8 → Option Stroke}
/-- the words are all read, and the strokes are a program -/
theorem read_good {s : List UInt8} (hs : s ≠ []) (hg : ∀ x, goodW (g x) = goodW (wordF numI tlI x)) {L : List Stroke} (h : (splitC 32 s).map g = L.map some) (hc : strokesCode L = 0) : readL s = L ∧ readC s = 0 := by
  have hok : L.all strokeOK = true ∧ L.length ≤ 150 := by
    unfold strokesCode at hc
    by_cases h1 : L.all strokeOK = true
    · rw [if_pos h1] at hc
      by_cases h2 : 150 < L.length
      · rw [if_pos h2] at hc; cases hc
      · exact ⟨h1, by omega⟩
    · rw [if_neg h1] at hc; cases hc
  have hl : (splitC 32 s).length = L.length := by have := congrArg List.length h; simpa using this
  have hv : ∀ (i : Nat) (hi : i < (splitC 32 s).length), goodW (wordF numI tlI (splitC 32 s)[i]) = some (L[i]'(by omega)) := fun i hi => by
    have h1 : ((splitC 32 s).map g)[i]? = (L.map some)[i]? := by rw [h]
    rw [List.getElem?_map, List.getElem?_map, List.getElem?_eq_getElem hi, List.getElem?_eq_getElem (by omega)] at h1
    have h2 : g (splitC 32 s)[i] = some (L[i]'(by omega)) := by simpa using h1
    rw [← hg, h2]
    exact goodW_ok (List.all_eq_true.1 hok.1 _ (List.getElem_mem _))
  have hR : readR s = some L := by
    unfold readR
    rw [if_neg hs, if_pos]
    · congr 1
      apply List.ext_getElem (by simpa using hl)
      intro i h1 h2
      rw [List.getElem_map, hv i (by simpa using h1)]
      rfl
    · rw [Bool.and_eq_true]
      refine ⟨List.all_eq_true.2 fun x hx => ?_, by simp; omega⟩
      obtain ⟨i, hi, rfl⟩ := List.getElem_of_mem hx
      rw [hv i hi]
      rfl
  unfold readL readC
  rw [hR]
  exact ⟨rfl, rfl⟩
theorem read_none {s : List UInt8} (h : readR s = none) : readL s = [] ∧ readC s = 6 := by
  unfold readL readC
  rw [h]
  exact ⟨rfl, rfl⟩
theorem read_bad {s : List UInt8} (hs : s ≠ []) (hg : ∀ x, goodW (g x) = goodW (wordF numI tlI x)) {k : Nat} (hk : k < (splitC 32 s).length) (h : g (splitC 32 s)[k] = none) : readL s = [] ∧ readC s = 6 := by
  refine read_none ?_
  unfold readR
  rw [if_neg hs, if_neg]
  intro hc
  rw [Bool.and_eq_true, List.all_eq_true] at hc
  have := hc.1 _ (List.getElem_mem hk)
  rw [← hg, h] at this
  cases this
theorem read_code {s : List UInt8} (hs : s ≠ []) (hg : ∀ x, goodW (g x) = goodW (wordF numI tlI x)) {L : List Stroke} (h : (splitC 32 s).map g = L.map some) (hc : strokesCode L ≠ 0) : readL s = [] ∧ readC s = 6 := by
  refine read_none ?_
  have hl : (splitC 32 s).length = L.length := by have := congrArg List.length h; simpa using this
  unfold readR
  rw [if_neg hs, if_neg]
  intro hcc
  rw [Bool.and_eq_true, List.all_eq_true, decide_eq_true_eq] at hcc
  apply hc
  unfold strokesCode
  have hall : L.all strokeOK = true := List.all_eq_true.2 fun x hx => by
    obtain ⟨i, hi, rfl⟩ := List.getElem_of_mem hx
    have h1 : ((splitC 32 s).map g)[i]? = (L.map some)[i]? := by rw [h]
    rw [List.getElem?_map, List.getElem?_map, List.getElem?_eq_getElem hi, List.getElem?_eq_getElem (by omega)] at h1
    have h2 : g ((splitC 32 s)[i]'(by omega)) = some L[i] := by simpa using h1
    have h3 := hcc.1 _ (List.getElem_mem (show i < (splitC 32 s).length by omega))
    rw [← hg, h2] at h3
    unfold goodW at h3
    simp only at h3
    split at h3
    · assumption
    · cases h3
  rw [if_pos hall, if_neg (by omega)]
theorem read_empty : readL [] = [] ∧ readC [] = 0 := ⟨rfl, rfl⟩
end
end Go.Proofs.YtkjommcmeinkaaaGreatDoor
