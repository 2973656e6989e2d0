/- The stable sort's plain law: rotations, the merge by symMerge, blocks. Plain arrays; no program in sight. Condition: a strict weak order. -/
import Derived.Sort.LotA
namespace Go.Proofs.YtkjommcmeinkaaaGreatDoor
open Go.Sort
section
variable {α : Type} [Inhabited α]

/-- where an element of the rotated range came from -/
def rt (a m b x : Nat) : Nat := if x < a ∨ b ≤ x then x else if x < a + (b - m) then x + (m - a) else x - (b - m)
/-- where an element behind an exchange of two ranges came from -/
def sw (a b n x : Nat) : Nat := if a ≤ x ∧ x < a + n then x - a + b else if b ≤ x ∧ x < b + n then x - b + a else x

theorem rt_s (a m b x : Nat) : ((x < a ∨ b ≤ x) ∧ rt a m b x = x) ∨ (¬(x < a ∨ b ≤ x) ∧ x < a + (b - m) ∧ rt a m b x = x + (m - a)) ∨ (¬(x < a ∨ b ≤ x) ∧ ¬ x < a + (b - m) ∧ rt a m b x = x - (b - m)) := by
  unfold rt; (repeat' split) <;> omega
theorem sw_s (a b n x : Nat) : ((a ≤ x ∧ x < a + n) ∧ sw a b n x = x - a + b) ∨ (¬(a ≤ x ∧ x < a + n) ∧ (b ≤ x ∧ x < b + n) ∧ sw a b n x = x - b + a) ∨ (¬(a ≤ x ∧ x < a + n) ∧ ¬(b ≤ x ∧ x < b + n) ∧ sw a b n x = x) := by
  unfold sw; (repeat' split) <;> omega
theorem get_eq {d : Array α} {i j : Nat} (h : i = j) : d[i]! = d[j]! := by rw [h]
def Rot (a m b : Nat) (d d' : Array α) : Prop := PermIn a b d d' ∧ ∀ x, x < d.size → d'[x]! = d[rt a m b x]!
def SwR (a b n : Nat) (d d' : Array α) : Prop := PermIn a (b + n) d d' ∧ ∀ x, x < d.size → d'[x]! = d[sw a b n x]!

theorem SwR.nil_ (a b : Nat) (d : Array α) : SwR a b 0 d d := ⟨permIn_refl _ _ _, fun x _ => get_eq (by have := sw_s a b 0 x; omega)⟩
theorem SwR.step {a b n k : Nat} {d d' : Array α} (h : SwR a b k d d') (hab : a + n ≤ b) (hb : b + n ≤ d.size) (hk : k < n) : SwR a b (k + 1) d (swp d' (a + k) (b + k)) := by
  have hsz : d'.size = d.size := h.1.1
  refine ⟨permIn_trans _ _ _ _ _ (permIn_mono _ _ _ _ _ _ (Nat.le_refl _) (by omega) (by omega) h.1) (swp_permIn _ _ _ _ _ (by omega) (by omega) (by omega) (by omega) (by omega)), fun x hx => ?_⟩
  rw [swp_get _ (by omega) (by omega), h.2 (a + k) (by omega), h.2 (b + k) (by omega), h.2 x hx]
  have s0 := sw_s a b (k + 1) x
  split
  · exact get_eq (by have := sw_s a b k (a + k); omega)
  · split
    · exact get_eq (by have := sw_s a b k (b + k); omega)
    · exact get_eq (by have := sw_s a b k x; omega)

/-- what is left of a rotation, on d: it leads to the whole rotation of d0 -/
def Left (a m b i j : Nat) (d0 d : Array α) : Prop := PermIn a b d0 d ∧ ∀ x, x < d0.size → d0[rt a m b x]! = d[rt (m - i) m (m + j) x]!
theorem Left.start {a m b : Nat} (ha : a ≤ m) (hb : m ≤ b) (d : Array α) : Left a m b (m - a) (b - m) d d :=
  ⟨permIn_refl _ _ _, fun x _ => by rw [show m - (m - a) = a from by omega, show m + (b - m) = b from by omega]⟩
theorem Left.more {a m b i j : Nat} {d0 d d' : Array α} (h : Left a m b i j d0 d) (hb : b ≤ d0.size) (hi : i ≤ m - a) (ha : a ≤ m) (hj : m + j ≤ b) (hij : j < i) (hs : SwR (m - i) m j d d') : Left a m b (i - j) j d0 d' := by
  refine ⟨permIn_trans _ _ _ _ _ h.1 (permIn_mono _ _ _ _ _ _ (by omega) (by omega) (by have := h.1.1; omega) hs.1), fun x hx => ?_⟩
  have hsz := h.1.1
  have r1 := rt_s (m - (i - j)) m (m + j) x
  rw [h.2 x hx, hs.2 _ (by omega)]
  exact get_eq (by have r2 := rt_s (m - i) m (m + j) x; have r3 := sw_s (m - i) m j (rt (m - (i - j)) m (m + j) x); omega)
theorem Left.less {a m b i j : Nat} {d0 d d' : Array α} (h : Left a m b i j d0 d) (hb : b ≤ d0.size) (hi : i ≤ m - a) (ha : a ≤ m) (hj : m + j ≤ b) (hij : i < j) (hs : SwR (m - i) (m + j - i) i d d') : Left a m b i (j - i) d0 d' := by
  refine ⟨permIn_trans _ _ _ _ _ h.1 (permIn_mono _ _ _ _ _ _ (by omega) (by omega) (by have := h.1.1; omega) hs.1), fun x hx => ?_⟩
  have hsz := h.1.1
  have r1 := rt_s (m - i) m (m + (j - i)) x
  rw [h.2 x hx, hs.2 _ (by omega)]
  exact get_eq (by have r2 := rt_s (m - i) m (m + j) x; have r3 := sw_s (m - i) (m + j - i) i (rt (m - i) m (m + (j - i)) x); omega)
theorem Left.done {a m b i : Nat} {d0 d d' : Array α} (h : Left a m b i i d0 d) (hb : b ≤ d0.size) (hi : i ≤ m - a) (ha : a ≤ m) (hj : m + i ≤ b) (hs : SwR (m - i) m i d d') : Rot a m b d0 d' := by
  refine ⟨permIn_trans _ _ _ _ _ h.1 (permIn_mono _ _ _ _ _ _ (by omega) (by omega) (by have := h.1.1; omega) hs.1), fun x hx => ?_⟩
  have hsz := h.1.1
  rw [h.2 x hx, hs.2 _ (by omega)]
  exact get_eq (by have r2 := rt_s (m - i) m (m + i) x; have r3 := sw_s (m - i) m i x; omega)

/-- one element to the right, or to the left, step by step -/
theorem Rot.nilR (a : Nat) (d : Array α) : Rot a (a + 1) (a + 1) d d := ⟨permIn_refl _ _ _, fun x _ => get_eq (by have := rt_s a (a + 1) (a + 1) x; omega)⟩
theorem Rot.up {a k : Nat} {d d' : Array α} (h : Rot a (a + 1) (k + 1) d d') (hak : a ≤ k) (hk : k + 1 < d.size) : Rot a (a + 1) (k + 2) d (swp d' k (k + 1)) := by
  have hsz : d'.size = d.size := h.1.1
  refine ⟨permIn_trans _ _ _ _ _ (permIn_mono _ _ _ _ _ _ (Nat.le_refl _) (by omega) (by omega) h.1) (swp_permIn _ _ _ _ _ (by omega) (by omega) (by omega) (by omega) (by omega)), fun x hx => ?_⟩
  rw [swp_get _ (by omega) (by omega), h.2 k (by omega), h.2 (k + 1) (by omega), h.2 x hx]
  have s0 := rt_s a (a + 1) (k + 2) x
  split
  · exact get_eq (by have := rt_s a (a + 1) (k + 1) k; omega)
  · split
    · exact get_eq (by have := rt_s a (a + 1) (k + 1) (k + 1); omega)
    · exact get_eq (by have := rt_s a (a + 1) (k + 1) x; omega)
theorem Rot.nilL (m : Nat) (d : Array α) : Rot m m (m + 1) d d := ⟨permIn_refl _ _ _, fun x _ => get_eq (by have := rt_s m m (m + 1) x; omega)⟩
theorem Rot.down {k m : Nat} {d d' : Array α} (h : Rot (k + 1) m (m + 1) d d') (hkm : k < m) (hm : m < d.size) : Rot k m (m + 1) d (swp d' (k + 1) k) := by
  have hsz : d'.size = d.size := h.1.1
  refine ⟨permIn_trans _ _ _ _ _ (permIn_mono _ _ _ _ _ _ (by omega) (by omega) (by omega) h.1) (swp_permIn _ _ _ _ _ (by omega) (by omega) (by omega) (by omega) (by omega)), fun x hx => ?_⟩
  rw [swp_get _ (by omega) (by omega), h.2 k (by omega), h.2 (k + 1) (by omega), h.2 x hx]
  have s0 := rt_s k m (m + 1) x
  split
  · exact get_eq (by have := rt_s (k + 1) m (m + 1) (k + 1); omega)
  · split
    · exact get_eq (by have := rt_s (k + 1) m (m + 1) k; omega)
    · exact get_eq (by have := rt_s (k + 1) m (m + 1) x; omega)
theorem Rot.id_ {a m b : Nat} (h : a = m ∨ m = b) (hb : m ≤ b) (ha : a ≤ m) (d : Array α) : Rot a m b d d := ⟨permIn_refl _ _ _, fun x _ => get_eq (by have := rt_s a m b x; omega)⟩

/-! ### the merge -/
variable {lt : α → α → Bool}
/-- nothing of the second range is less than anything of the first -/
def Cross (lt : α → α → Bool) (a m b : Nat) (d : Array α) : Prop := ∀ i j, a ≤ i → i < m → m ≤ j → j < b → lt d[j]! d[i]! = false
theorem SortedIn.sub {a b a' b' : Nat} {d : Array α} (h : SortedIn lt a b d) (ha : a ≤ a') (hb : b' ≤ b) : SortedIn lt a' b' d := fun i j h1 h2 h3 => h i j (by omega) h2 (by omega)
theorem sorted_congr {a b : Nat} {d d' : Array α} (hs : SortedIn lt a b d) (h : ∀ i, a ≤ i → i < b → d'[i]! = d[i]!) : SortedIn lt a b d' := fun i j hi hij hj => by
  rw [h i hi (by omega), h j (by omega) hj]; exact hs i j hi hij hj
theorem sorted_join {a m b : Nat} {d : Array α} (h1 : SortedIn lt a m d) (h2 : SortedIn lt m b d) (hc : Cross lt a m b d) : SortedIn lt a b d := fun i j hi hij hj => by
  by_cases c : j < m
  · exact h1 i j hi hij c
  · by_cases c' : i < m
    · exact hc i j hi c' (by omega) hj
    · exact h2 i j (by omega) hij hj
theorem Cross.perm {a m b : Nat} {d d' d'' : Array α} (h : Cross lt a m b d) (hb : b ≤ d.size) (hm : m ≤ b) (h1 : PermIn a m d d') (h2 : PermIn m b d' d'') : Cross lt a m b d'' := by
  have s1 := h1.1
  have s2 := h2.1
  have e1 : ∀ i, a ≤ i → i < m → ∀ j, m ≤ j → j < b → lt d'[j]! d'[i]! = false := by
    refine permIn_all d d' a m (fun x => ∀ j, m ≤ j → j < b → lt d'[j]! x = false) (by omega) h1 fun i hi him j hj hjb => ?_
    rw [h1.2.1 j (.inr hj)]
    exact h i j hi him hj hjb
  intro i j hi him hj hjb
  rw [h2.2.1 i (.inl him)]
  exact permIn_all d' d'' m b (fun x => lt x d'[i]! = false) (by omega) h2 (fun y hy hyb => e1 i hi him y hy hyb) j hj hjb

/-- Behind the rotation of [s, e) about m: the first half [a, q) and the second [q, b), q = s + (e - m). -/
theorem rot_parts (hS : SWO lt) {a s m e b : Nat} {d d1 : Array α} (h : a ≤ s ∧ s ≤ m ∧ m ≤ e ∧ e ≤ b ∧ b ≤ d.size) (hu : SortedIn lt a m d) (hv : SortedIn lt m b d)
    (c1 : a < s → e < b → lt d[e]! d[s - 1]! = false) (c2 : s < m → m < e → lt d[e - 1]! d[s]! = true) (hr : Rot s m e d d1) :
    Cross lt a (s + (e - m)) b d1 ∧ SortedIn lt a s d1 ∧ SortedIn lt s (s + (e - m)) d1 ∧ SortedIn lt (s + (e - m)) e d1 ∧ SortedIn lt e b d1 := by
  obtain ⟨h1, h2, h3, h4, h5⟩ := h
  have hg : ∀ x, x < d.size → d1[x]! = d[rt s m e x]! := hr.2
  have g1 : ∀ x, x < s → d1[x]! = d[x]! := fun x hx => by rw [hg x (by omega)]; exact get_eq (by have := rt_s s m e x; omega)
  have g2 : ∀ x, s ≤ x → x < s + (e - m) → d1[x]! = d[x + (m - s)]! := fun x hx hx' => by rw [hg x (by omega)]; exact get_eq (by have := rt_s s m e x; omega)
  have g3 : ∀ x, s + (e - m) ≤ x → x < e → d1[x]! = d[x - (e - m)]! := fun x hx hx' => by rw [hg x (by omega)]; exact get_eq (by have := rt_s s m e x; omega)
  have g4 : ∀ x, e ≤ x → x < b → d1[x]! = d[x]! := fun x hx hx' => by rw [hg x (by omega)]; exact get_eq (by have := rt_s s m e x; omega)
  -- 'not after' along a sorted range, the ends being one too
  have le : ∀ {p q : Nat}, SortedIn lt p q d → ∀ i j, p ≤ i → i ≤ j → j < q → lt d[j]! d[i]! = false := fun hs i j hi hij hj => by
    rcases Nat.lt_or_ge i j with h | h
    · exact hs i j hi h hj
    · have : i = j := by omega
      subst this; exact hS.irrefl _
  -- not after, then less: less
  have ltl : ∀ x y z : α, lt y x = false → lt y z = true → lt x z = true := fun x y z h h' => by
    cases hc : lt x z
    · have := hS.ntrans y x z h hc
      rw [this] at h'; cases h'
    · rfl
  have ltr : ∀ x y z : α, lt x y = true → lt z y = false → lt x z = true := fun x y z h h' => by
    cases hc : lt x z
    · have := hS.ntrans x z y hc h'
      rw [this] at h; cases h
    · rfl
  have asy : ∀ x y : α, lt x y = true → lt y x = false := fun x y h => SWO.asymmA hS h
  -- the four kinds of pairs
  have uv : ∀ i j, a ≤ i → i < s → e ≤ j → j < b → lt d[j]! d[i]! = false := fun i j hi hi' hj hj' =>
    hS.ntrans _ _ _ (hS.ntrans _ _ _ (le hv e j (by omega) hj hj') (c1 (by omega) (by omega))) (le hu i (s - 1) hi (by omega) (by omega))
  have vu : ∀ i j, m ≤ i → i < e → s ≤ j → j < m → lt d[j]! d[i]! = false := fun i j hi hi' hj hj' => by
    have l1 := c2 (by omega) (by omega)
    have l2 : lt d[i]! d[s]! = true := ltl _ _ _ (le hv i (e - 1) hi (by omega) (by omega)) l1
    exact asy _ _ (ltr _ _ _ l2 (le hu s j (by omega) hj hj'))
  refine ⟨?_, ?_, ?_, ?_, ?_⟩
  · intro i j hi hi' hj hj'
    by_cases ci : i < s
    · rw [g1 i ci]
      by_cases cj : j < e
      · rw [g3 j hj cj]; exact le hu _ _ hi (by omega) (by omega)
      · rw [g4 j (by omega) hj']; exact uv i j hi ci (by omega) hj'
    · rw [g2 i (by omega) hi']
      by_cases cj : j < e
      · rw [g3 j hj cj]; exact vu _ _ (by omega) (by omega) (by omega) (by omega)
      · rw [g4 j (by omega) hj']; exact le hv _ _ (by omega) (by omega) (by omega)
  · intro i j hi hij hj; rw [g1 i (by omega), g1 j hj]; exact hu i j hi hij (by omega)
  · intro i j hi hij hj; rw [g2 i hi (by omega), g2 j (by omega) hj]; exact hv _ _ (by omega) (by omega) (by omega)
  · intro i j hi hij hj; rw [g3 i hi (by omega), g3 j (by omega) hj]; exact hu _ _ (by omega) (by omega) (by omega)
  · intro i j hi hij hj; rw [g4 i hi (by omega), g4 j (by omega) hj]; exact hv _ _ (by omega) (by omega) (by omega)

/-- one element of the left range is laid into the right one -/
theorem merge_one_left (hS : SWO lt) {a i b : Nat} {d d1 : Array α} (hi : a + 1 ≤ i ∧ i ≤ b ∧ b ≤ d.size) (hv : SortedIn lt (a + 1) b d)
    (c1 : a + 1 < i → lt d[i - 1]! d[a]! = true) (c2 : i < b → lt d[i]! d[a]! = false) (hr : Rot a (a + 1) i d d1) : PermIn a b d d1 ∧ SortedIn lt a b d1 := by
  obtain ⟨h1, h2, h3⟩ := hi
  obtain ⟨p0, p1, p2, p3, p4⟩ := rot_parts hS (a := a) (s := a) (m := a + 1) (e := i) (b := b) ⟨by omega, by omega, by omega, by omega, by omega⟩ (fun x y => by omega) hv (fun h => by omega) (fun _ h => c1 h) hr
  refine ⟨permIn_mono _ _ _ _ _ _ (Nat.le_refl _) h2 h3 hr.1, sorted_join (m := a + (i - (a + 1))) p2 ?_ p0⟩
  refine sorted_join p3 p4 ?_
  intro x y hx hx' hy hy'
  have gx : d1[x]! = d[a]! := by rw [hr.2 x (by omega)]; exact get_eq (by have := rt_s a (a + 1) i x; omega)
  have gy : d1[y]! = d[y]! := by rw [hr.2 y (by omega)]; exact get_eq (by have := rt_s a (a + 1) i y; omega)
  rw [gx, gy]
  rcases Nat.lt_or_ge i y with h | h
  · exact hS.ntrans _ _ _ (hv i y (by omega) h hy') (c2 (by omega))
  · have : y = i := by omega
    subst this; exact c2 (by omega)
theorem merge_one_right (hS : SWO lt) {a i m : Nat} {d d1 : Array α} (hi : a ≤ i ∧ i ≤ m ∧ m < d.size) (hu : SortedIn lt a m d)
    (c1 : a < i → lt d[m]! d[i - 1]! = false) (c2 : i < m → lt d[m]! d[i]! = true) (hr : Rot i m (m + 1) d d1) : PermIn a (m + 1) d d1 ∧ SortedIn lt a (m + 1) d1 := by
  obtain ⟨h1, h2, h3⟩ := hi
  obtain ⟨p0, p1, p2, p3, p4⟩ := rot_parts hS (a := a) (s := i) (m := m) (e := m + 1) (b := m + 1) ⟨by omega, by omega, by omega, by omega, by omega⟩ hu (fun x y => by omega) (fun _ h => by omega) (fun h _ => c2 h) hr
  refine ⟨permIn_mono _ _ _ _ _ _ h1 (Nat.le_refl _) (by omega) hr.1, sorted_join (m := i + (m + 1 - m)) ?_ p3 p0⟩
  refine sorted_join p1 p2 ?_
  intro x y hx hx' hy hy'
  have gx : d1[x]! = d[x]! := by rw [hr.2 x (by omega)]; exact get_eq (by have := rt_s i m (m + 1) x; omega)
  have gy : d1[y]! = d[m]! := by rw [hr.2 y (by omega)]; exact get_eq (by have := rt_s i m (m + 1) y; omega)
  rw [gx, gy]
  rcases Nat.lt_or_ge x (i - 1) with h | h
  · exact hS.ntrans _ _ _ (c1 (by omega)) (hu x (i - 1) hx h (by omega))
  · have : x = i - 1 := by omega
    subst this; exact c1 (by omega)

/-- the state of the search for the place of the cut -/
def Cut (lt : α → α → Bool) (lo hi p : Nat) (d : Array α) (s r : Nat) : Prop := lo ≤ s ∧ s ≤ r ∧ r ≤ hi ∧ (lo < s → lt d[p - (s - 1)]! d[s - 1]! = false) ∧ (r < hi → lt d[p - r]! d[r]! = true)
theorem Cut.start {lo hi p : Nat} {d : Array α} (h : lo ≤ hi) : Cut lt lo hi p d lo hi := ⟨Nat.le_refl _, h, Nat.le_refl _, fun h => by omega, fun h => by omega⟩
theorem Cut.no {lo hi p s r c : Nat} {d : Array α} (h : Cut lt lo hi p d s r) (hc : s ≤ c) (hc' : c < r) (hl : lt d[p - c]! d[c]! = false) : Cut lt lo hi p d (c + 1) r := by
  obtain ⟨h1, h2, h3, h4, h5⟩ := h
  exact ⟨by omega, by omega, h3, fun _ => by simpa using hl, h5⟩
theorem Cut.yes {lo hi p s r c : Nat} {d : Array α} (h : Cut lt lo hi p d s r) (hc : s ≤ c) (hc' : c < r) (hl : lt d[p - c]! d[c]! = true) : Cut lt lo hi p d s c := by
  obtain ⟨h1, h2, h3, h4, h5⟩ := h
  exact ⟨h1, hc, by omega, h4, fun _ => hl⟩
/-- where the search runs -/
def cutLo (a m b : Nat) : Nat := if (a + b) / 2 < m then (a + b) / 2 + m - b else a
def cutHi (a m b : Nat) : Nat := if (a + b) / 2 < m then (a + b) / 2 else m
theorem cut_bounds {a m b : Nat} (h : a < m) (h' : m < b) : a ≤ cutLo a m b ∧ cutLo a m b ≤ cutHi a m b ∧ cutHi a m b ≤ m ∧ cutHi a m b ≤ (a + b) / 2 ∧ (∀ c, cutLo a m b ≤ c → c ≤ cutHi a m b → m ≤ (a + b) / 2 + m - c ∧ (a + b) / 2 + m - c ≤ b) := by
  unfold cutLo cutHi
  split
  · exact ⟨by omega, by omega, by omega, by omega, fun c h1 h2 => by omega⟩
  · exact ⟨by omega, by omega, by omega, by omega, fun c h1 h2 => by omega⟩

/-- The cut is found; the middle is turned; the halves are merged: the whole is merged. -/
theorem merge_cut (hS : SWO lt) {a m b s : Nat} {d d1 d2 d3 : Array α} (ha : a < m) (hm : m < b) (hb : b ≤ d.size) (hu : SortedIn lt a m d) (hv : SortedIn lt m b d)
    (hc : Cut lt (cutLo a m b) (cutHi a m b) ((a + b) / 2 + m - 1) d s s) (hr : Rot s m ((a + b) / 2 + m - s) d d1)
    (h2 : SortedIn lt a s d1 → SortedIn lt s ((a + b) / 2) d1 → PermIn a ((a + b) / 2) d1 d2 ∧ SortedIn lt a ((a + b) / 2) d2)
    (h3 : SortedIn lt ((a + b) / 2) ((a + b) / 2 + m - s) d2 → SortedIn lt ((a + b) / 2 + m - s) b d2 → PermIn ((a + b) / 2) b d2 d3 ∧ SortedIn lt ((a + b) / 2) b d3) : PermIn a b d d3 ∧ SortedIn lt a b d3 := by
  obtain ⟨b1, b2, b3, b4, b5⟩ := cut_bounds ha hm
  obtain ⟨e1, _, e3, e4, e5⟩ := hc
  obtain ⟨f1, f2⟩ := b5 s e1 e3
  have hq : s + ((a + b) / 2 + m - s - m) = (a + b) / 2 := by omega
  have c1 : a < s → (a + b) / 2 + m - s < b → lt d[(a + b) / 2 + m - s]! d[s - 1]! = false := fun h h' => by
    have hlo : cutLo a m b < s := by
      rcases Nat.lt_or_ge (cutLo a m b) s with h0 | h0
      · exact h0
      · have he : s = cutLo a m b := by omega
        unfold cutLo at he
        split at he <;> omega
    have := e4 hlo
    rwa [show (a + b) / 2 + m - 1 - (s - 1) = (a + b) / 2 + m - s from by omega] at this
  have c2 : s < m → m < (a + b) / 2 + m - s → lt d[(a + b) / 2 + m - s - 1]! d[s]! = true := fun h h' => by
    have hhi : s < cutHi a m b := by
      rcases Nat.lt_or_ge s (cutHi a m b) with h0 | h0
      · exact h0
      · have he : s = cutHi a m b := by omega
        unfold cutHi at he
        split at he <;> omega
    have := e5 hhi
    rwa [show (a + b) / 2 + m - 1 - s = (a + b) / 2 + m - s - 1 from by omega] at this
  obtain ⟨p0, p1, p2, p3, p4⟩ := rot_parts hS (a := a) (s := s) (m := m) (e := (a + b) / 2 + m - s) (b := b) ⟨by omega, by omega, f1, f2, hb⟩ hu hv c1 c2 hr
  rw [hq] at p0 p2 p3
  have s1 := hr.1.1
  obtain ⟨q1, q2⟩ := h2 p1 p2
  have s2 := q1.1
  obtain ⟨r1, r2⟩ := h3 (sorted_congr p3 fun i hi _ => q1.2.1 i (.inr hi)) (sorted_congr p4 fun i hi _ => q1.2.1 i (.inr (by omega)))
  refine ⟨?_, sorted_join (m := (a + b) / 2) ?_ r2 (p0.perm (by omega) (by omega) q1 r1)⟩
  · exact permIn_trans _ _ _ _ _ (permIn_mono _ _ _ _ _ _ (by omega) f2 hb hr.1) (permIn_trans _ _ _ _ _ (permIn_mono _ _ _ _ _ _ (Nat.le_refl _) (by omega) (by omega) q1) (permIn_mono _ _ _ _ _ _ (by omega) (Nat.le_refl _) (by omega) r1))
  · exact sorted_congr q2 fun i _ hi => r1.2.1 i (.inl hi)

/-! ### blocks -/
/-- ahead of 'at' the blocks of size k are sorted -/
def BlkTo (lt : α → α → Bool) (k at_ : Nat) (d : Array α) : Prop := ∀ i j, i < j → j < at_ → i / k = j / k → lt d[j]! d[i]! = false
/-- ahead of 'at' the blocks of size 2k are sorted, from it on those of size k -/
def Blocks (lt : α → α → Bool) (k at_ : Nat) (d : Array α) : Prop := BlkTo lt (2 * k) at_ d ∧ ∀ i j, at_ ≤ i → i < j → j < d.size → i / k = j / k → lt d[j]! d[i]! = false
theorem BlkTo.zero (k : Nat) (d : Array α) : BlkTo lt k 0 d := fun i j _ h => by omega
theorem BlkTo.step {k t a b : Nat} {d d' : Array α} (hk : 0 < k) (ha : a = t * k) (hp : PermIn a b d d') (hs : SortedIn lt a b d') (h : BlkTo lt k a d) : BlkTo lt k b d' := fun i j hij hj he => by
  by_cases c : j < a
  · rw [hp.2.1 i (.inl (by omega)), hp.2.1 j (.inl c)]; exact h i j hij c he
  · have h1 : t ≤ j / k := (Nat.le_div_iff_mul_le hk).2 (by omega)
    have h2 : t * k ≤ i := (Nat.le_div_iff_mul_le hk).1 (by omega)
    exact hs i j (by omega) hij hj
theorem Blocks.start {k : Nat} {d : Array α} (h : BlkTo lt k d.size d) : Blocks lt k 0 d := ⟨BlkTo.zero _ _, fun i j _ hij hj he => h i j hij hj he⟩
theorem Blocks.left {k t a : Nat} {d : Array α} (ha : a = t * (2 * k)) (hn : a + k ≤ d.size) (h : Blocks lt k a d) : SortedIn lt a (a + k) d := fun i j hi hij hj => by
  refine h.2 i j hi hij (by omega) ?_
  have e : a = 2 * t * k := by rw [ha, ← Nat.mul_assoc, Nat.mul_comm t 2]
  rw [Nat.div_eq_of_lt_le (k := 2 * t) (by omega) (by rw [Nat.succ_mul]; omega), Nat.div_eq_of_lt_le (k := 2 * t) (by omega) (by rw [Nat.succ_mul]; omega)]
theorem Blocks.right {k t a b : Nat} {d : Array α} (ha : a = t * (2 * k)) (hb : b ≤ a + 2 * k) (hn : b ≤ d.size) (h : Blocks lt k a d) : SortedIn lt (a + k) b d := fun i j hi hij hj => by
  refine h.2 i j (by omega) hij (by omega) ?_
  have e : a = 2 * t * k := by rw [ha, ← Nat.mul_assoc, Nat.mul_comm t 2]
  rw [Nat.div_eq_of_lt_le (k := 2 * t + 1) (by rw [Nat.succ_mul]; omega) (by rw [Nat.succ_mul, Nat.succ_mul]; omega), Nat.div_eq_of_lt_le (k := 2 * t + 1) (by rw [Nat.succ_mul]; omega) (by rw [Nat.succ_mul, Nat.succ_mul]; omega)]
theorem Blocks.step {k t a : Nat} {d d' : Array α} (hk : 0 < k) (ha : a = t * (2 * k)) (hp : PermIn a (a + 2 * k) d d') (hs : SortedIn lt a (a + 2 * k) d') (h : Blocks lt k a d) : Blocks lt k (a + 2 * k) d' :=
  ⟨h.1.step (t := t) (by omega) ha hp hs, fun i j hi hij hj he => by
    have hsz := hp.1
    rw [hp.2.1 i (.inr hi), hp.2.1 j (.inr (by omega))]
    exact h.2 i j (by omega) hij (by omega) he⟩
theorem Blocks.last {k t a : Nat} {d d' : Array α} (hk : 0 < k) (ha : a = t * (2 * k)) (hp : PermIn a d.size d d') (hs : SortedIn lt a d.size d') (h : Blocks lt k a d) : BlkTo lt (2 * k) d'.size d' := by
  have hsz := hp.1
  rw [hsz]
  exact h.1.step (t := t) (by omega) ha hp hs
theorem Blocks.short {k t a : Nat} {d : Array α} (hk : 0 < k) (ha : a = t * (2 * k)) (hn : d.size ≤ a + k) (h : Blocks lt k a d) : BlkTo lt (2 * k) d.size d := by
  refine h.last hk ha (permIn_refl _ _ _) fun i j hi hij hj => h.2 i j hi hij hj ?_
  have e : a = 2 * t * k := by rw [ha, ← Nat.mul_assoc, Nat.mul_comm t 2]
  rw [Nat.div_eq_of_lt_le (k := 2 * t) (by omega) (by rw [Nat.succ_mul]; omega), Nat.div_eq_of_lt_le (k := 2 * t) (by omega) (by rw [Nat.succ_mul]; omega)]
theorem BlkTo.all {k : Nat} {d : Array α} (hn : d.size ≤ k) (h : BlkTo lt k d.size d) : SortedIn lt 0 d.size d := fun i j _ hij hj =>
  h i j hij hj (by rw [Nat.div_eq_of_lt (by omega), Nat.div_eq_of_lt (by omega)])
end
end Go.Proofs.YtkjommcmeinkaaaGreatDoor
