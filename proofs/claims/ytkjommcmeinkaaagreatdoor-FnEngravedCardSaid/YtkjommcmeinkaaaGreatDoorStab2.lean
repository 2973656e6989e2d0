/- The stable sort's family of Go's library at elements of k cells: symMerge. Over any program that holds these bodies; the condition is what the callers of the family give. -/
import Derived.Test.YtkjommcmeinkaaaGreatDoorStab1
namespace Go.Proofs.YtkjommcmeinkaaaGreatDoor
open Go.Shelf Go.RowKit Go.Lib Go.Sort
section
variable {α : Type} [Inhabited α] {lt : α → α → Bool}
theorem cut_parts (hS : SWO lt) {a m b s : Nat} {d d1 : Array α} (ha : a < m) (hm : m < b) (hb : b ≤ d.size) (hu : SortedIn lt a m d) (hv : SortedIn lt m b d)
    (hc : Cut lt (cutLo a m b) (cutHi a m b) ((a + b) / 2 + m - 1) d s s) (hr : Rot s m ((a + b) / 2 + m - s) d d1) :
    Cross lt a ((a + b) / 2) b d1 ∧ SortedIn lt a s d1 ∧ SortedIn lt s ((a + b) / 2) d1 ∧ SortedIn lt ((a + b) / 2) ((a + b) / 2 + m - s) d1 ∧ SortedIn lt ((a + b) / 2 + m - s) b d1 := by
  obtain ⟨b1, b2, b3, b4, b5⟩ := cut_bounds ha hm
  obtain ⟨e1, _, e3, e4, e5⟩ := hc
  obtain ⟨f1, f2⟩ := b5 s e1 e3
  have hq : s + ((a + b) / 2 + m - s - m) = (a + b) / 2 := by omega
  have c1 : a < s → (a + b) / 2 + m - s < b → lt d[(a + b) / 2 + m - s]! d[s - 1]! = false := fun h h' => by
    have hlo : cutLo a m b < s := by
      rcases Nat.lt_or_ge (cutLo a m b) s with h0 | h0
      · exact h0
      · have he : s = cutLo a m b := by omega
        unfold cutLo at he
        split at he <;> omega
    have := e4 hlo
    rwa [show (a + b) / 2 + m - 1 - (s - 1) = (a + b) / 2 + m - s from by omega] at this
  have c2 : s < m → m < (a + b) / 2 + m - s → lt d[(a + b) / 2 + m - s - 1]! d[s]! = true := fun h h' => by
    have hhi : s < cutHi a m b := by
      rcases Nat.lt_or_ge s (cutHi a m b) with h0 | h0
      · exact h0
      · have he : s = cutHi a m b := by omega
        unfold cutHi at he
        split at he <;> omega
    have := e5 hhi
    rwa [show (a + b) / 2 + m - 1 - s = (a + b) / 2 + m - s - 1 from by omega] at this
  obtain ⟨p0, p1, p2, p3, p4⟩ := rot_parts hS (a := a) (s := s) (m := m) (e := (a + b) / 2 + m - s) (b := b) ⟨by omega, by omega, f1, f2, hb⟩ hu hv c1 c2 hr
  rw [hq] at p0 p2 p3
  exact ⟨p0, p1, p2, p3, p4⟩
theorem merge_done {a q b : Nat} {d d1 d2 d3 : Array α} (h : a ≤ q ∧ q ≤ b ∧ b ≤ d.size) (h0 : PermIn a b d d1) (p0 : Cross lt a q b d1) (q1 : PermIn a q d1 d2) (q2 : SortedIn lt a q d2) (r1 : PermIn q b d2 d3) (r2 : SortedIn lt q b d3) : PermIn a b d d3 ∧ SortedIn lt a b d3 := by
  have s0 := h0.1
  have s1 := q1.1
  refine ⟨permIn_trans _ _ _ _ _ h0 (permIn_trans _ _ _ _ _ (permIn_mono _ _ _ _ _ _ (Nat.le_refl _) (by omega) (by omega) q1) (permIn_mono _ _ _ _ _ _ (by omega) (Nat.le_refl _) (by omega) r1)), sorted_join (m := q) ?_ r2 (p0.perm (by omega) (by omega) q1 r1)⟩
  exact sorted_congr q2 fun i _ hi => r1.2.1 i (.inl hi)
theorem sorted_at {a s q : Nat} {d : Array α} (h1 : SortedIn lt a s d) (h2 : SortedIn lt s q d) (h : a = s ∨ s = q) : SortedIn lt a q d := by
  rcases h with rfl | rfl
  · exact h2
  · exact h1
theorem lt_swap {x y : Bool} (h : x = !y) : (!x) = y := by rw [h]; cases y <;> rfl
end
variable {P : Program} {α : Type} [Inhabited α]
def SymPost {α : Type} [Inhabited α] (enc : α → List Value) (k : Nat) (w0 : World) (blk off a b : Nat) (cf : α → α → Int) (d : Array α) (e : Ending) (w' : World) : Prop :=
  e = .returned (.tuple #[]) ∧ ∃ d', SWK enc k w0 blk off d' w' ∧ PermIn a b d d' ∧ SortedIn (ltOf cf) a b d'
set_option maxHeartbeats 8000000 in
set_option maxRecDepth 1000000 in
theorem symMerge_one {k : Nat} (L : SL P k) (enc : α → List Value) (cf : α → α → Int) (hO : SWO (ltOf cf)) (g : Nat) (cb : Array Value) (blk off cap a m b : Nat) (d0 d : Array α) (w0 w : World)
    (eg : ∀ args w, (callFunc g args).run P w = .ok (.enter g args) w) (hcmp : CmpLays P g cb enc k cf blk off d0.size w0) (R : RowK enc k w0 blk off d0) (hs : d0.size = d.size) (S : SWK enc k w0 blk off d w)
    (ham : a < m) (hmb : m < b) (hb : b ≤ d.size) (hsz : d.size < 4611686018427387904) (hu : SortedIn (ltOf cf) a m d) (hv : SortedIn (ltOf cf) m b d) (h1 : m - a = 1) :
    Calls P 58 #[.slice (some ⟨blk, off, none⟩) d.size cap, .int .i64 a, .int .i64 m, .int .i64 b, .func (.func g) #[] cb] w (SymPost enc k w0 blk off a b cf d) := by
  have mixed := L.mixed; have t0 := L.t0; have a0 := L.a0; have z0 := L.z0; have v0 := L.v0; have t3 := L.t3; have a3 := L.a3; have z3 := L.z3; have v3 := L.v3; have t4 := L.t4; have a4 := L.a4; have z4 := L.z4; have v4 := L.v4; have tu := L.tu; have au := L.au; have zu := L.zu; have vu := L.vu; have t22 := L.t22; have a22 := L.a22; have z22 := L.z22; have v22 := L.v22; have t25 := L.t25; have a25 := L.a25; have z25 := L.z25; have v25 := L.v25; have aE := L.aE; have zE := L.zE; have u22 := run_underlying L.t22
  have HC : Aside _ := hcmp
  have S0 : Aside _ := S
  have HU := Lib.hid hu
  have HV := Lib.hid hv
  have HO := Lib.hid hO
  clear hcmp S hu hv hO
  have hm1 : m = a + 1 := by omega
  subst hm1
  have h1 : ((a : Int) + 1 - (a : Int) == 1) = true := by simp; omega
  go_enter L.f_sym, Tryz.ntmps58
  go_wp2
  go_loopg [10, 11] (b - (a + 1)) (fun gx s10 s11 wr => ∃ (i j : Nat), s10 = .int .i64 i ∧ s11 = .int .i64 j ∧ a + 1 ≤ i ∧ i ≤ j ∧ j ≤ b ∧ j - i ≤ gx ∧ Aside (SWK enc k w0 blk off d wr) ∧ Hid ((a + 1 < i → ltOf cf d[i - 1]! d[a]! = true) ∧ (j < b → ltOf cf d[j]! d[a]! = false)))
  case atStart => exact ⟨a + 1, b, by first | rfl | go_num, rfl, by omega, by omega, by omega, by omega, S0, ⟨fun h => by omega, fun h => by omega⟩⟩
  case round =>
    obtain ⟨i, j, rfl, rfl, hi, hij, hj, hgx, S1, HE⟩ := hrel
    clear S0
    by_cases hlt : i < j
    · have hltz : (i : Int) < (j : Int) := by omega
      cases hL : ltOf cf d[(i + j) / 2]! d[a]! with
      | true =>
        have pz1 : (0 : Int) ≤ (a : Int) := by omega
        have bz1 : (a : Int) < (d.size : Int) := by omega
        have ea1 : (((i : Int) + (j : Int)) / 2).toNat = (i + j) / 2 := by omega
        have pa1 : (0 : Int) ≤ ((i : Int) + (j : Int)) / 2 := by omega
        have ba1 : ((i : Int) + (j : Int)) / 2 < (d.size : Int) := by omega
        have ra1 : IntKind.i64.wrap (((i : Int) + (j : Int)) / 2) = ((i : Int) + (j : Int)) / 2 := by rw [IntKind.wrap_i64]; omega
        obtain ⟨x1, hx1⟩ : ∃ x, x = d[(i + j) / 2]! := ⟨_, rfl⟩
        obtain ⟨y1, hy1⟩ : ∃ x, x = d[a]! := ⟨_, rfl⟩
        have l1a := S1.out.ld R (by omega) P ((i + j) / 2) (by omega)
        have l1b := S1.out.ld R (by omega) P (a) (by omega)
        rw [← hx1] at l1a
        rw [← hy1] at l1b
        have hc1 := S1.out.cmp HC.out (by omega) x1 y1
        have hv1 : cf x1 y1 < 0 := by rw [hx1, hy1]; exact of_decide_eq_true hL
        have hd1 : decide (cf x1 y1 < 0) = true := decide_eq_true hv1
        clear hx1 hy1
        go_wp2_with fail
        go_quiet_grown (first | (go_at_fn g; refine Calls.grown_of (hc1 _ _)))
        have S2 : Aside (SWK enc k w0 blk off d (grow (wr.drewN nq) osq)) := S1.out.grown nq osq
        clear l1a l1b hc1 S1
        generalize grow (wr.drewN nq) osq = w2 at S2 ⊢
        clear nq osq
        go_wp2
        go_roundg (j - ((i + j) / 2 + 1))
        case measure => omega
        case rel => exact ⟨(i + j) / 2 + 1, j, by first | go_num | (congr 1; omega), rfl, by omega, by omega, hj, by omega, S2, (show Hid _ from ⟨fun _ => by simpa using hL, HE.out.2⟩)⟩
      | false =>
        have pz1 : (0 : Int) ≤ (a : Int) := by omega
        have bz1 : (a : Int) < (d.size : Int) := by omega
        have ea1 : (((i : Int) + (j : Int)) / 2).toNat = (i + j) / 2 := by omega
        have pa1 : (0 : Int) ≤ ((i : Int) + (j : Int)) / 2 := by omega
        have ba1 : ((i : Int) + (j : Int)) / 2 < (d.size : Int) := by omega
        have ra1 : IntKind.i64.wrap (((i : Int) + (j : Int)) / 2) = ((i : Int) + (j : Int)) / 2 := by rw [IntKind.wrap_i64]; omega
        obtain ⟨x1, hx1⟩ : ∃ x, x = d[(i + j) / 2]! := ⟨_, rfl⟩
        obtain ⟨y1, hy1⟩ : ∃ x, x = d[a]! := ⟨_, rfl⟩
        have l1a := S1.out.ld R (by omega) P ((i + j) / 2) (by omega)
        have l1b := S1.out.ld R (by omega) P (a) (by omega)
        rw [← hx1] at l1a
        rw [← hy1] at l1b
        have hc1 := S1.out.cmp HC.out (by omega) x1 y1
        have hv1 : ¬ cf x1 y1 < 0 := by rw [hx1, hy1]; exact of_decide_eq_false hL
        have hd1 : decide (cf x1 y1 < 0) = false := decide_eq_false hv1
        clear hx1 hy1
        go_wp2_with fail
        go_quiet_grown (first | (go_at_fn g; refine Calls.grown_of (hc1 _ _)))
        have S2 : Aside (SWK enc k w0 blk off d (grow (wr.drewN nq) osq)) := S1.out.grown nq osq
        clear l1a l1b hc1 S1
        generalize grow (wr.drewN nq) osq = w2 at S2 ⊢
        clear nq osq
        go_wp2
        go_roundg ((i + j) / 2 - i)
        case measure => omega
        case rel => exact ⟨i, (i + j) / 2, rfl, by first | go_num | (congr 1; omega), hi, by omega, by omega, by omega, S2, (show Hid _ from ⟨HE.out.1, fun _ => hL⟩)⟩
    · have hltz : ¬ (i : Int) < (j : Int) := by omega
      have hji : j = i := by omega
      subst hji
      go_wp2
      go_loopg [13] (j - a) (fun gx s13 wr => ∃ (q : Nat) (dk : Array α), s13 = .int .i64 q ∧ a ≤ q ∧ q + 1 ≤ j ∧ j - q ≤ gx ∧ dk.size = d.size ∧ Aside (SWK enc k w0 blk off dk wr) ∧ Hid (Rot a (a + 1) (q + 1) d dk))
      case atStart => exact ⟨a, d, rfl, by omega, by omega, by omega, rfl, S1, Rot.nilR a d⟩
      case round =>
        clear S1
        obtain ⟨q, dk, rfl, hq, hqj, hgx2, hds, S1, HR⟩ := hrel
        by_cases hlt2 : q + 1 < j
        · have hltz2 : (q : Int) < (j : Int) - 1 := by omega
          have py1 : (0 : Int) ≤ (q : Int) := by omega
          have by1 : (q : Int) < (d.size : Int) := by omega
          have ec3 : ((q : Int) + 1).toNat = q + 1 := by omega
          have pc3 : (0 : Int) ≤ (q : Int) + 1 := by omega
          have bc3 : (q : Int) + 1 < (d.size : Int) := by omega
          have rc3 : IntKind.i64.wrap ((q : Int) + 1) = (q : Int) + 1 := by rw [IntKind.wrap_i64]; omega
          have S2 : Aside (SWK enc k w0 blk off (swp dk (q) (q + 1)) ((wr.drew.setCells blk (off + (q) * k) (enc dk[q + 1]!)).setCells blk (off + (q + 1) * k) (enc dk[q]!))) := S1.out.swapped R (q) (q + 1) (by omega) (by omega)
          have l3a := S1.out.ld1 R (by omega) P (q) (by omega)
          have l3b := S1.out.ld1 R (by omega) P (q + 1) (by omega)
          have s3a := S1.out.st1 R (by omega) P (q) (by omega) dk[q + 1]!
          have s3b := S1.out.st2 R (by omega) P (q) (q + 1) (by omega) (by omega) dk[q + 1]! dk[q]!
          have n3a : (enc dk[q]!).length = k := R.hk _
          have n3b : (enc dk[q + 1]!).length = k := R.hk _
          generalize enc dk[q]! = cI3 at S2 l3a s3b n3a
          generalize enc dk[q + 1]! = cJ3 at S2 l3b s3a s3b n3b
          clear S1
          go_wp2_with fail
          go_big_region_o
          clear l3a l3b s3a s3b
          generalize (wr.drew.setCells blk (off + (q) * k) cJ3).setCells blk (off + (q + 1) * k) cI3 = w2 at S2 ⊢
          go_wp2
          go_roundg (j - (q + 1))
          case measure => omega
          case rel => exact ⟨q + 1, swp dk q (q + 1), by go_num, by omega, by omega, Nat.le_refl _, by rw [size_swp]; exact hds, S2, (show Hid _ from HR.out.up hq (by omega))⟩
        · have hltz2 : ¬ (q : Int) < (j : Int) - 1 := by omega
          have hq1 : q + 1 = j := by omega
          go_wp2
          (try simp only [Exit.inBlock, Exit.then]); first | refine bodyPost_ret (results_none rfl _ _ _) rfl ?_ | go_end0
          rw [hq1] at HR
          obtain ⟨p1, p2⟩ := merge_one_left HO.out (i := j) (b := b) ⟨by omega, hj, hb⟩ HV.out HE.out.1 HE.out.2 HR.out
          exact ⟨rfl, dk, S1.out, p1, p2⟩
set_option maxHeartbeats 8000000 in
set_option maxRecDepth 1000000 in
theorem symMerge_right {k : Nat} (L : SL P k) (enc : α → List Value) (cf : α → α → Int) (hO : SWO (ltOf cf)) (g : Nat) (cb : Array Value) (blk off cap a m b : Nat) (d0 d : Array α) (w0 w : World)
    (eg : ∀ args w, (callFunc g args).run P w = .ok (.enter g args) w) (hcmp : CmpLays P g cb enc k cf blk off d0.size w0) (R : RowK enc k w0 blk off d0) (hs : d0.size = d.size) (S : SWK enc k w0 blk off d w)
    (ham : a < m) (hmb : m < b) (hb : b ≤ d.size) (hsz : d.size < 4611686018427387904) (hu : SortedIn (ltOf cf) a m d) (hv : SortedIn (ltOf cf) m b d) (h1 : m - a ≠ 1) (h2 : b - m = 1) :
    Calls P 58 #[.slice (some ⟨blk, off, none⟩) d.size cap, .int .i64 a, .int .i64 m, .int .i64 b, .func (.func g) #[] cb] w (SymPost enc k w0 blk off a b cf d) := by
  have mixed := L.mixed; have t0 := L.t0; have a0 := L.a0; have z0 := L.z0; have v0 := L.v0; have t3 := L.t3; have a3 := L.a3; have z3 := L.z3; have v3 := L.v3; have t4 := L.t4; have a4 := L.a4; have z4 := L.z4; have v4 := L.v4; have tu := L.tu; have au := L.au; have zu := L.zu; have vu := L.vu; have t22 := L.t22; have a22 := L.a22; have z22 := L.z22; have v22 := L.v22; have t25 := L.t25; have a25 := L.a25; have z25 := L.z25; have v25 := L.v25; have aE := L.aE; have zE := L.zE; have u22 := run_underlying L.t22
  have HC : Aside _ := hcmp
  have S0 : Aside _ := S
  have HU := Lib.hid hu
  have HV := Lib.hid hv
  have HO := Lib.hid hO
  clear hcmp S hu hv hO
  have hb1 : b = m + 1 := by omega
  subst hb1
  have h1 : ((m : Int) - (a : Int) == 1) = false := by simp; omega
  have h2 : ((m : Int) + 1 - (m : Int) == 1) = true := by simp; omega
  go_enter L.f_sym, Tryz.ntmps58
  go_wp2
  go_loopg [14, 15] (m - a) (fun gx s14 s15 wr => ∃ (i j : Nat), s14 = .int .i64 i ∧ s15 = .int .i64 j ∧ a ≤ i ∧ i ≤ j ∧ j ≤ m ∧ j - i ≤ gx ∧ Aside (SWK enc k w0 blk off d wr) ∧ Hid ((a < i → ltOf cf d[m]! d[i - 1]! = false) ∧ (j < m → ltOf cf d[m]! d[j]! = true)))
  case atStart => exact ⟨a, m, rfl, rfl, by omega, by omega, by omega, by omega, S0, ⟨fun h => by omega, fun h => by omega⟩⟩
  case round =>
    obtain ⟨i, j, rfl, rfl, hi, hij, hj, hgx, S1, HE⟩ := hrel
    clear S0
    by_cases hlt : i < j
    · have hltz : (i : Int) < (j : Int) := by omega
      cases hL : ltOf cf d[m]! d[(i + j) / 2]! with
      | false =>
        have pz1 : (0 : Int) ≤ (m : Int) := by omega
        have bz1 : (m : Int) < (d.size : Int) := by omega
        have ec1 : (((i : Int) + (j : Int)) / 2).toNat = (i + j) / 2 := by omega
        have pc1 : (0 : Int) ≤ ((i : Int) + (j : Int)) / 2 := by omega
        have bc1 : ((i : Int) + (j : Int)) / 2 < (d.size : Int) := by omega
        have rc1 : IntKind.i64.wrap (((i : Int) + (j : Int)) / 2) = ((i : Int) + (j : Int)) / 2 := by rw [IntKind.wrap_i64]; omega
        obtain ⟨x1, hx1⟩ : ∃ x, x = d[m]! := ⟨_, rfl⟩
        obtain ⟨y1, hy1⟩ : ∃ x, x = d[(i + j) / 2]! := ⟨_, rfl⟩
        have l1a := S1.out.ld R (by omega) P (m) (by omega)
        have l1b := S1.out.ld R (by omega) P ((i + j) / 2) (by omega)
        rw [← hx1] at l1a
        rw [← hy1] at l1b
        have hc1 := S1.out.cmp HC.out (by omega) x1 y1
        have hv1 : ¬ cf x1 y1 < 0 := by rw [hx1, hy1]; exact of_decide_eq_false hL
        have hd1 : decide (cf x1 y1 < 0) = false := decide_eq_false hv1
        clear hx1 hy1
        go_wp2_with fail
        go_quiet_grown (first | (go_at_fn g; refine Calls.grown_of (hc1 _ _)))
        have S2 : Aside (SWK enc k w0 blk off d (grow (wr.drewN nq) osq)) := S1.out.grown nq osq
        clear l1a l1b hc1 S1
        generalize grow (wr.drewN nq) osq = w2 at S2 ⊢
        clear nq osq
        go_wp2
        go_roundg (j - ((i + j) / 2 + 1))
        case measure => omega
        case rel => exact ⟨(i + j) / 2 + 1, j, by first | go_num | (congr 1; omega), rfl, by omega, by omega, hj, by omega, S2, (show Hid _ from ⟨fun _ => by simpa using hL, HE.out.2⟩)⟩
      | true =>
        have pz1 : (0 : Int) ≤ (m : Int) := by omega
        have bz1 : (m : Int) < (d.size : Int) := by omega
        have ec1 : (((i : Int) + (j : Int)) / 2).toNat = (i + j) / 2 := by omega
        have pc1 : (0 : Int) ≤ ((i : Int) + (j : Int)) / 2 := by omega
        have bc1 : ((i : Int) + (j : Int)) / 2 < (d.size : Int) := by omega
        have rc1 : IntKind.i64.wrap (((i : Int) + (j : Int)) / 2) = ((i : Int) + (j : Int)) / 2 := by rw [IntKind.wrap_i64]; omega
        obtain ⟨x1, hx1⟩ : ∃ x, x = d[m]! := ⟨_, rfl⟩
        obtain ⟨y1, hy1⟩ : ∃ x, x = d[(i + j) / 2]! := ⟨_, rfl⟩
        have l1a := S1.out.ld R (by omega) P (m) (by omega)
        have l1b := S1.out.ld R (by omega) P ((i + j) / 2) (by omega)
        rw [← hx1] at l1a
        rw [← hy1] at l1b
        have hc1 := S1.out.cmp HC.out (by omega) x1 y1
        have hv1 : cf x1 y1 < 0 := by rw [hx1, hy1]; exact of_decide_eq_true hL
        have hd1 : decide (cf x1 y1 < 0) = true := decide_eq_true hv1
        clear hx1 hy1
        go_wp2_with fail
        go_quiet_grown (first | (go_at_fn g; refine Calls.grown_of (hc1 _ _)))
        have S2 : Aside (SWK enc k w0 blk off d (grow (wr.drewN nq) osq)) := S1.out.grown nq osq
        clear l1a l1b hc1 S1
        generalize grow (wr.drewN nq) osq = w2 at S2 ⊢
        clear nq osq
        go_wp2
        go_roundg ((i + j) / 2 - i)
        case measure => omega
        case rel => exact ⟨i, (i + j) / 2, rfl, by first | go_num | (congr 1; omega), hi, by omega, by omega, by omega, S2, (show Hid _ from ⟨HE.out.1, fun _ => hL⟩)⟩
    · have hltz : ¬ (i : Int) < (j : Int) := by omega
      have hji : j = i := by omega
      subst hji
      go_wp2
      go_loopg [17] (m - j) (fun gx s17 wr => ∃ (q : Nat) (dk : Array α), s17 = .int .i64 q ∧ j ≤ q ∧ q ≤ m ∧ q - j ≤ gx ∧ dk.size = d.size ∧ Aside (SWK enc k w0 blk off dk wr) ∧ Hid (Rot q m (m + 1) d dk))
      case atStart => exact ⟨m, d, rfl, by omega, by omega, by omega, rfl, S1, Rot.nilL m d⟩
      case round =>
        clear S1
        obtain ⟨q, dk, rfl, hq, hqm, hgx2, hds, S1, HR⟩ := hrel
        by_cases hlt2 : j < q
        · obtain ⟨q, rfl⟩ : ∃ x, q = x + 1 := ⟨q - 1, by omega⟩
          have hltz2 : (j : Int) < (q : Int) + 1 := by omega
          have hqq : (q : Int) + 1 - 1 = (q : Int) := by omega
          have hrq : IntKind.i64.wrap (q : Int) = (q : Int) := by rw [IntKind.wrap_i64]; omega
          have py1 : (0 : Int) ≤ (q : Int) := by omega
          have by1 : (q : Int) < (d.size : Int) := by omega
          have ea3 : ((q : Int) + 1).toNat = q + 1 := by omega
          have pa3 : (0 : Int) ≤ (q : Int) + 1 := by omega
          have ba3 : (q : Int) + 1 < (d.size : Int) := by omega
          have ra3 : IntKind.i64.wrap ((q : Int) + 1) = (q : Int) + 1 := by rw [IntKind.wrap_i64]; omega
          have S2 : Aside (SWK enc k w0 blk off (swp dk (q + 1) (q)) ((wr.drew.setCells blk (off + (q + 1) * k) (enc dk[q]!)).setCells blk (off + (q) * k) (enc dk[q + 1]!))) := S1.out.swapped R (q + 1) (q) (by omega) (by omega)
          have l3a := S1.out.ld1 R (by omega) P (q + 1) (by omega)
          have l3b := S1.out.ld1 R (by omega) P (q) (by omega)
          have s3a := S1.out.st1 R (by omega) P (q + 1) (by omega) dk[q]!
          have s3b := S1.out.st2 R (by omega) P (q + 1) (q) (by omega) (by omega) dk[q]! dk[q + 1]!
          have n3a : (enc dk[q + 1]!).length = k := R.hk _
          have n3b : (enc dk[q]!).length = k := R.hk _
          generalize enc dk[q + 1]! = cI3 at S2 l3a s3b n3a
          generalize enc dk[q]! = cJ3 at S2 l3b s3a s3b n3b
          clear S1
          go_wp2_with fail
          go_big_region_o
          clear l3a l3b s3a s3b
          generalize (wr.drew.setCells blk (off + (q + 1) * k) cJ3).setCells blk (off + (q) * k) cI3 = w2 at S2 ⊢
          go_wp2
          go_roundg (q - j)
          case measure => omega
          case rel => exact ⟨q, swp dk (q + 1) q, by first | rfl | go_num | (congr 1; omega), by omega, by omega, Nat.le_refl _, by rw [size_swp]; exact hds, S2, (show Hid _ from HR.out.down (by omega) (by omega))⟩
        · have hltz2 : ¬ (j : Int) < (q : Int) := by omega
          have hq1 : q = j := by omega
          go_wp2
          (try simp only [Exit.inBlock, Exit.then]); first | refine bodyPost_ret (results_none rfl _ _ _) rfl ?_ | go_end0
          rw [hq1] at HR
          obtain ⟨p1, p2⟩ := merge_one_right HO.out (i := j) (m := m) ⟨hi, hj, by omega⟩ HU.out HE.out.1 HE.out.2 HR.out
          exact ⟨rfl, dk, S1.out, p1, p2⟩
end Go.Proofs.YtkjommcmeinkaaaGreatDoor
