/- The usual plan of a chain: plain. No program. -/
import Derived.Test.YtgkobjpoeajkdaaGreatPoint
import Derived.Test.YtgkobjpoeajkdaaGreatChLog
import Derived.Test.YtgkobjpoeajkdaaGreatUnits
import Derived.Test.YtgkobjpoeajkdaaGreatMoveIs
namespace Go.Proofs.YtgkobjpoeajkdaaGreat
theorem pointC_bd {m : Int} (h : 1000 ≤ m ∧ m ≤ 9999) : 0 ≤ pointC m ∧ pointC m ≤ 1048576 := by
  have h1 := logLow_bd (x := m * 100000) (by omega)
  have h2 := logHigh_bd (x := m * 100000) (by omega)
  unfold pointC
  omega
/-- the shift and the cursor after a move; pt is the point of the move's figure -/
def moveS (sh cu k pt : Int) : Int × Int :=
  if k = 0 then (sh, pt) else if k = 1 then (sh, pt + sh) else if k = 2 then (cu - pt, cu) else if k = 3 then (cu, cu) else if k = 4 then (cu - 1048576, cu) else if k = 5 then (sh, sh) else (sh, sh + 1048576)
def setB (sh cu : Int) : Bool := inB sh (-1048576) 1048576 && inB cu 0 1048576
theorem setB_true {sh cu : Int} : setB sh cu = true ↔ (-1048576 ≤ sh ∧ sh ≤ 1048576) ∧ 0 ≤ cu ∧ cu ≤ 1048576 := by
  unfold setB
  rw [Bool.and_eq_true, inB_true, inB_true]
/-- whether the scale that a move needs is on the rule -/
def hasS (l1 l2 : List Int) (k s : Int) : Bool := if k = 0 then decide (s ∈ l1) else decide (s ∈ l2)
/-- a move: the setting after it, and whether it is possible -/
def moveR (l1 l2 : List Int) (sh cu k s pt : Int) : (Int × Int) × Bool :=
  if decide (k ≤ 2) && !hasS l1 l2 k s then ((0, 0), false) else (moveS sh cu k pt, setB (moveS sh cu k pt).1 (moveS sh cu k pt).2)
structure PS where
  sh : Int
  cu : Int
  ms : List Move
  en : Bool
def mvP (p : PS) (k d t : Int) (en : Bool) : PS := ⟨(moveS p.sh p.cu k (pointC d)).1, (moveS p.sh p.cu k (pointC d)).2, p.ms ++ [⟨k, 0, d, t⟩], en⟩
def underP (p : PS) : PS := if p.en then (if 0 ≤ p.sh then mvP p 5 0 0 false else mvP p 6 0 0 false) else p
def fitsB (x d : Int) : Bool := inB (x + pointC d) 0 1048576
def termP (p : PS) (t : Term) : PS :=
  if t.div then mvP (underP p) 2 t.digits t.tens true
  else if p.en && fitsB p.sh t.digits then mvP p 1 t.digits t.tens false
  else mvP (mvP (underP p) (if fitsB (underP p).cu t.digits then 3 else 4) 0 0 false) 1 t.digits t.tens false
def headP (t : Term) : PS := mvP ⟨0, 0, [], false⟩ 0 t.digits t.tens false
def foldP (p : PS) (l : List Term) (k : Nat) : PS := ((l.take k).drop 1).foldl termP p
def usualP : List Term → PS
  | [] => ⟨0, 0, [], false⟩
  | t :: l => underP (l.foldl termP (headP t))
theorem foldP_one (p : PS) (l : List Term) : foldP p l 1 = p := by
  unfold foldP
  rw [List.drop_eq_nil_of_le (by rw [List.length_take]; omega)]
  rfl
theorem foldP_succ (p : PS) (l : List Term) {k : Nat} (h1 : 1 ≤ k) (hk : k < l.length) : foldP p l (k + 1) = termP (foldP p l k) l[k] := by
  unfold foldP
  rw [List.take_succ_eq_append_getElem hk, List.drop_append_of_le_length (by rw [List.length_take]; omega), List.foldl_append]
  rfl
theorem usualP_eq {l : List Term} (h : 0 < l.length) : usualP l = underP (foldP (headP l[0]) l l.length) := by
  match l, h with
  | t :: l, h =>
    unfold usualP foldP
    rw [List.take_length]
    rfl
/-- what holds of a plan: the setting is valid, and all moves are -/
def okP (p : PS) : Prop := ((-1048576 ≤ p.sh ∧ p.sh ≤ 1048576) ∧ 0 ≤ p.cu ∧ p.cu ≤ 1048576) ∧ p.ms.all moveB = true
theorem moveB_fig {k d t : Int} (hk : 0 ≤ k ∧ k ≤ 2) (hf : figOK ⟨d, t⟩ = true) : moveB ⟨k, 0, d, t⟩ = true := by
  rw [moveB_lo hk]
  simp only
  rw [hf]
  decide
theorem moveB_bare {k : Int} (hk : 3 ≤ k ∧ k ≤ 6) : moveB ⟨k, 0, 0, 0⟩ = true := by
  rw [moveB_hi hk]
  rfl
theorem okP_mv {p : PS} {k d t : Int} {en : Bool} (h : okP p) (hs : ((-1048576 ≤ (moveS p.sh p.cu k (pointC d)).1 ∧ (moveS p.sh p.cu k (pointC d)).1 ≤ 1048576) ∧ 0 ≤ (moveS p.sh p.cu k (pointC d)).2 ∧ (moveS p.sh p.cu k (pointC d)).2 ≤ 1048576))
    (hm : moveB ⟨k, 0, d, t⟩ = true) : okP (mvP p k d t en) := by
  refine ⟨hs, ?_⟩
  unfold mvP
  simp only [List.all_append, h.2, Bool.true_and, List.all_cons, List.all_nil, hm]
theorem okP_under {p : PS} (h : okP p) : okP (underP p) := by
  have h0 := h.1
  unfold underP
  cases p.en with
  | false => exact h
  | true =>
    simp only [if_true]
    by_cases h5 : 0 ≤ p.sh
    · rw [if_pos h5]
      refine okP_mv h ?_ (moveB_bare (by omega))
      simp [moveS]; omega
    · rw [if_neg h5]
      refine okP_mv h ?_ (moveB_bare (by omega))
      simp [moveS]; omega
theorem under_en (p : PS) : (underP p).en = false := by
  unfold underP
  cases h : p.en with
  | false => simpa using h
  | true => simp only [if_true]; split <;> rfl
theorem under_len (p : PS) : (underP p).ms.length ≤ p.ms.length + 1 := by
  unfold underP
  split
  · split <;> simp [mvP]
  · omega
theorem fitsB_true {x d : Int} : fitsB x d = true ↔ 0 ≤ x + pointC d ∧ x + pointC d ≤ 1048576 := inB_true
theorem okP_term {p : PS} {t : Term} (h : okP p) (ht : termOK t = true) : okP (termP p t) := by
  have hb := term_bd ht
  have hp := pointC_bd hb.1
  have hu := okP_under h
  have hu0 := hu.1
  have h0 := h.1
  unfold termP
  cases t.div with
  | true =>
    simp only [if_true]
    refine okP_mv hu ?_ (moveB_fig (by omega) ht)
    simp [moveS]; omega
  | false =>
    simp only [Bool.false_eq_true, if_false]
    cases hf : p.en && fitsB p.sh t.digits with
    | true =>
      simp only [if_true]
      rw [Bool.and_eq_true, fitsB_true] at hf
      refine okP_mv h ?_ (moveB_fig (by omega) ht)
      simp [moveS]; omega
    | false =>
      simp only [Bool.false_eq_true, if_false]
      cases hg : fitsB (underP p).cu t.digits with
      | true =>
        rw [fitsB_true] at hg
        simp only [if_true]
        have h3 : okP (mvP (underP p) 3 0 0 false) := okP_mv hu (by simp [moveS]; omega) (moveB_bare (by omega))
        refine okP_mv h3 ?_ (moveB_fig (by omega) ht)
        simp [moveS, mvP]; omega
      | false =>
        have hg' : ¬ (0 ≤ (underP p).cu + pointC t.digits ∧ (underP p).cu + pointC t.digits ≤ 1048576) := by rw [← fitsB_true, hg]; simp
        simp only [Bool.false_eq_true, if_false]
        have h3 : okP (mvP (underP p) 4 0 0 false) := okP_mv hu (by simp [moveS]; omega) (moveB_bare (by omega))
        refine okP_mv h3 ?_ (moveB_fig (by omega) ht)
        simp [moveS, mvP]; omega
theorem term_len (p : PS) (t : Term) : (termP p t).ms.length ≤ p.ms.length + 3 := by
  have := under_len p
  unfold termP
  split
  · simp [mvP]; omega
  · split
    · simp [mvP]
    · simp [mvP]; omega
theorem okP_head {t : Term} (ht : termOK t = true) : okP (headP t) := by
  have hb := term_bd ht
  have hp := pointC_bd hb.1
  refine okP_mv (p := ⟨0, 0, [], false⟩) ⟨by simp only; omega, rfl⟩ ?_ (moveB_fig (by omega) ht)
  simp [moveS]; omega
theorem okP_fold {l : List Term} (hall : l.all termOK = true) {k : Nat} (h1 : 1 ≤ k) (hk : k ≤ l.length) : okP (foldP (headP (l[0]'(by omega))) l k) ∧ (foldP (headP (l[0]'(by omega))) l k).ms.length ≤ 3 * k := by
  induction k with
  | zero => omega
  | succ k ih =>
    by_cases h0 : k = 0
    · subst h0
      rw [foldP_one]
      exact ⟨okP_head (List.all_eq_true.1 hall _ (List.getElem_mem _)), by simp [headP, mvP]⟩
    · obtain ⟨i1, i2⟩ := ih (by omega) (by omega)
      rw [foldP_succ _ _ (by omega) (by omega)]
      refine ⟨okP_term i1 (List.all_eq_true.1 hall _ (List.getElem_mem _)), ?_⟩
      have := term_len (foldP (headP (l[0]'(by omega))) l k) (l[k]'(by omega))
      omega
/-- of a valid chain: all moves of the usual plan are valid, and there are at most 19 -/
theorem usual_ok {l : List Term} (h : 0 < l.length) (h6 : l.length ≤ 6) (hall : l.all termOK = true) : okP (usualP l) ∧ (usualP l).ms.length ≤ 19 := by
  obtain ⟨i1, i2⟩ := okP_fold hall h (Nat.le_refl _)
  rw [usualP_eq h]
  refine ⟨okP_under i1, ?_⟩
  have := under_len (foldP (headP l[0]) l l.length)
  omega
theorem chainB_parts {l : List Term} (h : chainB l = true) : 0 < l.length ∧ l.length ≤ 6 ∧ l.all termOK = true ∧ firstDiv l = false := by
  unfold chainB at h
  simp only [Bool.and_eq_true, Bool.not_eq_true', inB_true] at h
  exact ⟨by omega, by omega, h.1, h.2.2⟩
end Go.Proofs.YtgkobjpoeajkdaaGreat
