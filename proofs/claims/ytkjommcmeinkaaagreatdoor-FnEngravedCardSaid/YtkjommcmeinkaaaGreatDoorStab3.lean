/- The stable sort's family of Go's library at elements of k cells: symMerge whole, stable, SortStableFunc. Over any program that holds these bodies; the condition is what the callers of the family give. -/
import Derived.Test.YtkjommcmeinkaaaGreatDoorStab2
namespace Go.Proofs.YtkjommcmeinkaaaGreatDoor
open Go.Shelf Go.RowKit Go.Lib Go.Sort
variable {P : Program} {α : Type} [Inhabited α]
set_option maxHeartbeats 8000000 in
set_option maxRecDepth 1000000 in
theorem symMerge_cut {k : Nat} (L : SL P k) (enc : α → List Value) (cf : α → α → Int) (hO : SWO (ltOf cf)) (g : Nat) (cb : Array Value) (blk off cap a m b : Nat) (d0 d : Array α) (w0 w : World)
    (ih : ∀ (x y z : Nat) (dk : Array α) (wr : World), z - x < b - a → dk.size = d.size → SWK enc k w0 blk off dk wr → x < y → y < z → z ≤ d.size → SortedIn (ltOf cf) x y dk → SortedIn (ltOf cf) y z dk →
      Calls P 58 #[.slice (some ⟨blk, off, none⟩) dk.size cap, .int .i64 x, .int .i64 y, .int .i64 z, .func (.func g) #[] cb] wr (SymPost enc k w0 blk off x z cf dk))
    (eg : ∀ args w, (callFunc g args).run P w = .ok (.enter g args) w) (hcmp : CmpLays P g cb enc k cf blk off d0.size w0) (R : RowK enc k w0 blk off d0) (hs : d0.size = d.size) (S : SWK enc k w0 blk off d w)
    (ham : a < m) (hmb : m < b) (hb : b ≤ d.size) (hsz : d.size < 4611686018427387904) (hu : SortedIn (ltOf cf) a m d) (hv : SortedIn (ltOf cf) m b d) (h1 : m - a ≠ 1) (h2 : b - m ≠ 1) :
    Calls P 58 #[.slice (some ⟨blk, off, none⟩) d.size cap, .int .i64 a, .int .i64 m, .int .i64 b, .func (.func g) #[] cb] w (SymPost enc k w0 blk off a b cf d) := by
  have mixed := L.mixed; have t0 := L.t0; have a0 := L.a0; have z0 := L.z0; have v0 := L.v0; have t3 := L.t3; have a3 := L.a3; have z3 := L.z3; have v3 := L.v3; have t4 := L.t4; have a4 := L.a4; have z4 := L.z4; have v4 := L.v4; have tu := L.tu; have au := L.au; have zu := L.zu; have vu := L.vu; have t22 := L.t22; have a22 := L.a22; have z22 := L.z22; have v22 := L.v22; have t25 := L.t25; have a25 := L.a25; have z25 := L.z25; have v25 := L.v25; have aE := L.aE; have zE := L.zE; have u22 := run_underlying L.t22
  have HC : Aside _ := hcmp
  have S0 : Aside _ := S
  have HU := Lib.hid hu
  have HV := Lib.hid hv
  have HO := Lib.hid hO
  clear hcmp S hu hv hO
  have h1 : ((m : Int) - (a : Int) == 1) = false := by simp; omega
  have h2 : ((b : Int) - (m : Int) == 1) = false := by simp; omega
  have e_sym := L.e_sym
  have e_rot := L.e_rot
  have HROT := fun (x y z : Nat) (dk : Array α) (wr : World) (S : SWK enc k w0 blk off dk wr) (hd : dk.size = d.size) (h1 : x < y) (h2 : y < z) (h3 : z ≤ d.size) => Lib.hid (hd ▸ rotate_c L enc (.func (.func g) #[] cb) blk off cap x y z d0 dk w0 wr R (by omega) S h1 h2 (by omega) (by omega) : Calls P 69 #[.slice (some ⟨blk, off, none⟩) d.size cap, .int .i64 x, .int .i64 y, .int .i64 z, .func (.func g) #[] cb] wr fun e w' => e = .returned (.tuple #[]) ∧ ∃ d', Rot x y z dk d' ∧ SWK enc k w0 blk off d' w')
  have HIH := fun (x y z : Nat) (dk : Array α) (wr : World) (S : SWK enc k w0 blk off dk wr) (hd : dk.size = d.size) (h0 : z - x < b - a) (h1 : x < y) (h2 : y < z) (h3 : z ≤ d.size) (hu : SortedIn (ltOf cf) x y dk) (hv : SortedIn (ltOf cf) y z dk) => Lib.hid (hd ▸ ih x y z dk wr h0 hd S h1 h2 h3 hu hv : Calls P 58 #[.slice (some ⟨blk, off, none⟩) d.size cap, .int .i64 x, .int .i64 y, .int .i64 z, .func (.func g) #[] cb] wr (SymPost enc k w0 blk off x z cf dk))
  clear ih
  obtain ⟨q, hq⟩ : ∃ q, q = (a + b) / 2 := ⟨_, rfl⟩
  obtain ⟨lo, hlo⟩ : ∃ x, x = cutLo a m b := ⟨_, rfl⟩
  obtain ⟨hi, hhi⟩ : ∃ x, x = cutHi a m b := ⟨_, rfl⟩
  have CB := cut_bounds ham hmb
  rw [← hlo, ← hhi, ← hq] at CB
  obtain ⟨cb1, cb2, cb3, cb4, cb5⟩ := CB
  have hqz : ((a : Int) + (b : Int)) / 2 = (q : Int) := by omega
  have CB5 := Lib.hid cb5
  clear cb5
  have HQ := Lib.hid hq
  have HLO := Lib.hid hlo
  have HHI := Lib.hid hhi
  have b1 : q < b := by omega
  have b2 : a ≤ q := by omega
  have hlo2 : (q < m → lo = q + m - b ∧ b ≤ q + m) ∧ (¬ q < m → lo = a) := by rw [hlo, hq]; unfold cutLo; constructor <;> intro h <;> (first | rw [if_pos h] | rw [if_neg h]) <;> (first | rfl | (constructor <;> omega))
  have hhi2 : (q < m → hi = q) ∧ (¬ q < m → hi = m) := by rw [hhi, hq]; unfold cutHi; constructor <;> intro h <;> (first | rw [if_pos h] | rw [if_neg h])
  clear hq hlo hhi
  have HL2 := Lib.hid hlo2
  have HH2 := Lib.hid hhi2
  clear hlo2 hhi2
  by_cases hqm : q < m
  all_goals
    first
      | (have hqz2 : (q : Int) < (m : Int) := by omega
         have hx1 := (HL2.out.1 hqm).1
         have hx2 := HH2.out.1 hqm
         have hx3 := (HL2.out.1 hqm).2)
      | (have hqz2 : ¬ (q : Int) < (m : Int) := by omega
         have hx1 := HL2.out.2 hqm
         have hx2 := HH2.out.2 hqm
         have hx3 : True := trivial)
    have X1 := Lib.hid hx1
    have X2 := Lib.hid hx2
    clear hx1 hx2
    go_enter L.f_sym, Tryz.ntmps58
    go_wp2
    go_loopg [20, 21] (hi - lo) (fun gx s20 s21 wr => ∃ (s r : Nat), s20 = .int .i64 s ∧ s21 = .int .i64 r ∧ lo ≤ s ∧ s ≤ r ∧ r ≤ hi ∧ r - s ≤ gx ∧ Aside (SWK enc k w0 blk off d wr) ∧ Hid (Cut (ltOf cf) lo hi (q + m - 1) d s r))
    case atStart => exact ⟨lo, hi, by rw [X1.out] <;> (first | done | rfl | (congr 1; omega)), by rw [X2.out], Nat.le_refl _, cb2, Nat.le_refl _, Nat.le_refl _, S0, Cut.start cb2⟩
    case round =>
      obtain ⟨s, r, rfl, rfl, hs1, hs2, hs3, hgx, S1, HE⟩ := hrel
      clear S0
      have hb5 := CB5.out s hs1 (by omega)
      by_cases hlt : s < r
      · have hltz : (s : Int) < (r : Int) := by omega
        have hb6 := CB5.out ((s + r) / 2) (by omega) (by omega)
        have hb7 := CB5.out ((s + r) / 2 + 1) (by omega) (by omega)
        obtain ⟨pc, hpc⟩ : ∃ x, x = q + m - 1 - (s + r) / 2 := ⟨_, rfl⟩
        have hpz : (q : Int) + (m : Int) - 1 - ((s : Int) + (r : Int)) / 2 = (pc : Int) := by omega
        have hpw : IntKind.i64.wrap ((q : Int) + (m : Int) - 1 - ((s : Int) + (r : Int)) / 2) = (pc : Int) := by rw [IntKind.wrap_i64]; omega
        have hpw2 : IntKind.i64.wrap (pc : Int) = (pc : Int) := by rw [IntKind.wrap_i64]; omega
        have hp0 : (0 : Int) ≤ (pc : Int) := by omega
        have hp1 : (pc : Int) < (d.size : Int) := by omega
        have hp2 : pc < d.size := by omega
        have HPC := Lib.hid hpc
        clear hpc
        cases hL : ltOf cf d[pc]! d[(s + r) / 2]! with
        | false =>
          have ec1 : (((s : Int) + (r : Int)) / 2).toNat = (s + r) / 2 := by omega
          have pc1 : (0 : Int) ≤ ((s : Int) + (r : Int)) / 2 := by omega
          have bc1 : ((s : Int) + (r : Int)) / 2 < (d.size : Int) := by omega
          have rc1 : IntKind.i64.wrap (((s : Int) + (r : Int)) / 2) = ((s : Int) + (r : Int)) / 2 := by rw [IntKind.wrap_i64]; omega
          obtain ⟨x1, hx1⟩ : ∃ x, x = d[pc]! := ⟨_, rfl⟩
          obtain ⟨y1, hy1⟩ : ∃ x, x = d[(s + r) / 2]! := ⟨_, rfl⟩
          have l1a := S1.out.ld R (by omega) P (pc) (by omega)
          have l1b := S1.out.ld R (by omega) P ((s + r) / 2) (by omega)
          rw [← hx1] at l1a
          rw [← hy1] at l1b
          have hc1 := S1.out.cmp HC.out (by omega) x1 y1
          have hv1 : ¬ cf x1 y1 < 0 := by rw [hx1, hy1]; exact of_decide_eq_false hL
          have hd1 : decide (cf x1 y1 < 0) = false := decide_eq_false hv1
          clear hx1 hy1
          go_wp2_with fail
          go_quiet_grown (first | (go_at_fn g; refine Calls.grown_of (hc1 _ _)))
          have S2 : Aside (SWK enc k w0 blk off d (grow (wr.drewN nq) osq)) := S1.out.grown nq osq
          clear l1a l1b hc1 S1
          generalize grow (wr.drewN nq) osq = w2 at S2 ⊢
          clear nq osq
          go_wp2
          go_roundg (r - ((s + r) / 2 + 1))
          case measure => omega
          case rel => exact ⟨(s + r) / 2 + 1, r, by first | go_num | (congr 1; omega), rfl, by omega, by omega, hs3, by omega, S2, (show Hid _ from HE.out.no (by omega) (by omega) (by rw [← HPC.out]; exact hL))⟩
        | true =>
          have ec1 : (((s : Int) + (r : Int)) / 2).toNat = (s + r) / 2 := by omega
          have pc1 : (0 : Int) ≤ ((s : Int) + (r : Int)) / 2 := by omega
          have bc1 : ((s : Int) + (r : Int)) / 2 < (d.size : Int) := by omega
          have rc1 : IntKind.i64.wrap (((s : Int) + (r : Int)) / 2) = ((s : Int) + (r : Int)) / 2 := by rw [IntKind.wrap_i64]; omega
          obtain ⟨x1, hx1⟩ : ∃ x, x = d[pc]! := ⟨_, rfl⟩
          obtain ⟨y1, hy1⟩ : ∃ x, x = d[(s + r) / 2]! := ⟨_, rfl⟩
          have l1a := S1.out.ld R (by omega) P (pc) (by omega)
          have l1b := S1.out.ld R (by omega) P ((s + r) / 2) (by omega)
          rw [← hx1] at l1a
          rw [← hy1] at l1b
          have hc1 := S1.out.cmp HC.out (by omega) x1 y1
          have hv1 : cf x1 y1 < 0 := by rw [hx1, hy1]; exact of_decide_eq_true hL
          have hd1 : decide (cf x1 y1 < 0) = true := decide_eq_true hv1
          clear hx1 hy1
          go_wp2_with fail
          go_quiet_grown (first | (go_at_fn g; refine Calls.grown_of (hc1 _ _)))
          have S2 : Aside (SWK enc k w0 blk off d (grow (wr.drewN nq) osq)) := S1.out.grown nq osq
          clear l1a l1b hc1 S1
          generalize grow (wr.drewN nq) osq = w2 at S2 ⊢
          clear nq osq
          go_wp2
          go_roundg ((s + r) / 2 - s)
          case measure => omega
          case rel => exact ⟨s, (s + r) / 2, rfl, by first | go_num | (congr 1; omega), hs1, by omega, by omega, by omega, S2, (show Hid _ from HE.out.yes (by omega) (by omega) (by rw [← HPC.out]; exact hL))⟩
      · have hltz : ¬ (s : Int) < (r : Int) := by omega
        have hrs : r = s := by omega
        subst hrs
        obtain ⟨en, hen⟩ : ∃ x, x = q + m - r := ⟨_, rfl⟩
        have henz : (q : Int) + (m : Int) - (r : Int) = (en : Int) := by omega
        have n1 : m ≤ en := by omega
        have n2 : en ≤ b := by omega
        have n3 : q ≤ en := by omega
        have HEN := Lib.hid hen
        clear hen hltz hlt hgx hb5
        have HP := fun (d1 : Array α) (hr : Rot r m en d d1) => Lib.hid (by
          have hc := HE.out
          rw [HLO.out, HHI.out, HQ.out] at hc
          rw [HEN.out, HQ.out] at hr
          have := cut_parts HO.out ham hmb hb HU.out HV.out hc hr
          rw [← HQ.out, ← HEN.out] at this
          exact this : Cross (ltOf cf) a q b d1 ∧ SortedIn (ltOf cf) a r d1 ∧ SortedIn (ltOf cf) r q d1 ∧ SortedIn (ltOf cf) q en d1 ∧ SortedIn (ltOf cf) en b d1)
        clear HE
        by_cases u0 : r < m
        · have uz0 : (r : Int) < (m : Int) := by omega
          by_cases v0 : m < en
          · have vz0 : (m : Int) < (en : Int) := by omega
            by_cases u1 : a < r
            · have uz1 : (a : Int) < (r : Int) := by omega
              by_cases v1 : r < q
              · have vz1 : (r : Int) < (q : Int) := by omega
                by_cases u2 : q < en
                · have uz2 : (q : Int) < (en : Int) := by omega
                  by_cases v2 : en < b
                  · have vz2 : (en : Int) < (b : Int) := by omega
                    have hc := HROT r m en d wr S1.out rfl (by omega) (by omega) (by omega)
                    go_wp2_with (go_at_fn 69; refine hc.out.mono ?_; rintro e w2 ⟨rfl, d1, hr, S2⟩; have s1 := hr.1.1; have P1 := HP d1 hr; have S2 : Aside _ := S2; have HR := Lib.hid hr; clear hr hc)
                    have hc2 := HIH a r q d1 w2 S2.out s1 (by omega) (by omega) (by omega) (by omega) P1.out.2.1 P1.out.2.2.1
                    go_wp2_with (go_at_fn 58; refine hc2.out.mono ?_; rintro e w3 ⟨rfl, d2, S3, q1, q2⟩; have s2 : d2.size = d1.size := q1.1; have Q1 := Lib.hid q1; have Q2 := Lib.hid q2; have S3 : Aside _ := S3; clear q1 q2 hc2)
                    have hc3 := HIH q en b d2 w3 S3.out (s2.trans s1) (by omega) (by omega) (by omega) (by omega) (sorted_congr P1.out.2.2.2.1 fun i hi _ => Q1.out.2.1 i (.inr hi)) (sorted_congr P1.out.2.2.2.2 fun i hi _ => Q1.out.2.1 i (.inr (by omega)))
                    go_wp2_with (go_at_fn 58; refine hc3.out.mono ?_; rintro e w4 ⟨rfl, d3, S4, r1, r2⟩; have S4 : Aside _ := S4; have R1 := Lib.hid r1; have R2 := Lib.hid r2; clear r1 r2 hc3)
                    (try simp only [Exit.inBlock, Exit.then])
                    first | go_end0 | refine bodyPost_ret (results_none rfl _ _ _) rfl ?_ | skip
                    obtain ⟨z1, z2⟩ := merge_done (lt := ltOf cf) ⟨b2, by omega, hb⟩ (permIn_mono _ _ _ _ _ _ (by omega) n2 hb HR.out.1) P1.out.1 Q1.out Q2.out R1.out R2.out
                    exact ⟨rfl, d3, S4.out, z1, z2⟩
                  · have vz2 : ¬ (en : Int) < (b : Int) := by omega
                    have hc := HROT r m en d wr S1.out rfl (by omega) (by omega) (by omega)
                    go_wp2_with (go_at_fn 69; refine hc.out.mono ?_; rintro e w2 ⟨rfl, d1, hr, S2⟩; have s1 := hr.1.1; have P1 := HP d1 hr; have S2 : Aside _ := S2; have HR := Lib.hid hr; clear hr hc)
                    have hc2 := HIH a r q d1 w2 S2.out s1 (by omega) (by omega) (by omega) (by omega) P1.out.2.1 P1.out.2.2.1
                    go_wp2_with (go_at_fn 58; refine hc2.out.mono ?_; rintro e w3 ⟨rfl, d2, S3, q1, q2⟩; have s2 : d2.size = d1.size := q1.1; have Q1 := Lib.hid q1; have Q2 := Lib.hid q2; have S3 : Aside _ := S3; clear q1 q2 hc2)
                    have R1 := Lib.hid (permIn_refl d2 q b)
                    have R2 := Lib.hid (sorted_at (sorted_congr P1.out.2.2.2.1 fun i hi _ => Q1.out.2.1 i (.inr hi)) (sorted_congr P1.out.2.2.2.2 fun i hi _ => Q1.out.2.1 i (.inr (by omega))) (.inr (by omega)))
                    go_wp2
                    (try simp only [Exit.inBlock, Exit.then])
                    first | go_end0 | refine bodyPost_ret (results_none rfl _ _ _) rfl ?_ | skip
                    obtain ⟨z1, z2⟩ := merge_done (lt := ltOf cf) ⟨b2, by omega, hb⟩ (permIn_mono _ _ _ _ _ _ (by omega) n2 hb HR.out.1) P1.out.1 Q1.out Q2.out R1.out R2.out
                    exact ⟨rfl, d2, S3.out, z1, z2⟩
                · have uz2 : decide ((q : Int) < (en : Int)) = false := decide_eq_false (by omega)
                  have vz2 : ¬ (q : Int) < (en : Int) := by omega
                  have hc := HROT r m en d wr S1.out rfl (by omega) (by omega) (by omega)
                  go_wp2_with (go_at_fn 69; refine hc.out.mono ?_; rintro e w2 ⟨rfl, d1, hr, S2⟩; have s1 := hr.1.1; have P1 := HP d1 hr; have S2 : Aside _ := S2; have HR := Lib.hid hr; clear hr hc)
                  have hc2 := HIH a r q d1 w2 S2.out s1 (by omega) (by omega) (by omega) (by omega) P1.out.2.1 P1.out.2.2.1
                  go_wp2_with (go_at_fn 58; refine hc2.out.mono ?_; rintro e w3 ⟨rfl, d2, S3, q1, q2⟩; have s2 : d2.size = d1.size := q1.1; have Q1 := Lib.hid q1; have Q2 := Lib.hid q2; have S3 : Aside _ := S3; clear q1 q2 hc2)
                  have R1 := Lib.hid (permIn_refl d2 q b)
                  have R2 := Lib.hid (sorted_at (sorted_congr P1.out.2.2.2.1 fun i hi _ => Q1.out.2.1 i (.inr hi)) (sorted_congr P1.out.2.2.2.2 fun i hi _ => Q1.out.2.1 i (.inr (by omega))) (.inl (by omega)))
                  go_wp2
                  (try simp only [Exit.inBlock, Exit.then])
                  first | go_end0 | refine bodyPost_ret (results_none rfl _ _ _) rfl ?_ | skip
                  obtain ⟨z1, z2⟩ := merge_done (lt := ltOf cf) ⟨b2, by omega, hb⟩ (permIn_mono _ _ _ _ _ _ (by omega) n2 hb HR.out.1) P1.out.1 Q1.out Q2.out R1.out R2.out
                  exact ⟨rfl, d2, S3.out, z1, z2⟩
              · have vz1 : ¬ (r : Int) < (q : Int) := by omega
                by_cases u2 : q < en
                · have uz2 : (q : Int) < (en : Int) := by omega
                  by_cases v2 : en < b
                  · have vz2 : (en : Int) < (b : Int) := by omega
                    have hc := HROT r m en d wr S1.out rfl (by omega) (by omega) (by omega)
                    go_wp2_with (go_at_fn 69; refine hc.out.mono ?_; rintro e w2 ⟨rfl, d1, hr, S2⟩; have s1 := hr.1.1; have P1 := HP d1 hr; have S2 : Aside _ := S2; have HR := Lib.hid hr; clear hr hc)
                    have Q1 := Lib.hid (permIn_refl d1 a q)
                    have Q2 := Lib.hid (sorted_at P1.out.2.1 P1.out.2.2.1 (.inr (by omega)))
                    have hc3 := HIH q en b d1 w2 S2.out s1 (by omega) (by omega) (by omega) (by omega) (sorted_congr P1.out.2.2.2.1 fun i hi _ => Q1.out.2.1 i (.inr hi)) (sorted_congr P1.out.2.2.2.2 fun i hi _ => Q1.out.2.1 i (.inr (by omega)))
                    go_wp2_with (go_at_fn 58; refine hc3.out.mono ?_; rintro e w4 ⟨rfl, d3, S4, r1, r2⟩; have S4 : Aside _ := S4; have R1 := Lib.hid r1; have R2 := Lib.hid r2; clear r1 r2 hc3)
                    (try simp only [Exit.inBlock, Exit.then])
                    first | go_end0 | refine bodyPost_ret (results_none rfl _ _ _) rfl ?_ | skip
                    obtain ⟨z1, z2⟩ := merge_done (lt := ltOf cf) ⟨b2, by omega, hb⟩ (permIn_mono _ _ _ _ _ _ (by omega) n2 hb HR.out.1) P1.out.1 Q1.out Q2.out R1.out R2.out
                    exact ⟨rfl, d3, S4.out, z1, z2⟩
                  · have vz2 : ¬ (en : Int) < (b : Int) := by omega
                    have hc := HROT r m en d wr S1.out rfl (by omega) (by omega) (by omega)
                    go_wp2_with (go_at_fn 69; refine hc.out.mono ?_; rintro e w2 ⟨rfl, d1, hr, S2⟩; have s1 := hr.1.1; have P1 := HP d1 hr; have S2 : Aside _ := S2; have HR := Lib.hid hr; clear hr hc)
                    have Q1 := Lib.hid (permIn_refl d1 a q)
                    have Q2 := Lib.hid (sorted_at P1.out.2.1 P1.out.2.2.1 (.inr (by omega)))
                    have R1 := Lib.hid (permIn_refl d1 q b)
                    have R2 := Lib.hid (sorted_at (sorted_congr P1.out.2.2.2.1 fun i hi _ => Q1.out.2.1 i (.inr hi)) (sorted_congr P1.out.2.2.2.2 fun i hi _ => Q1.out.2.1 i (.inr (by omega))) (.inr (by omega)))
                    go_wp2
                    (try simp only [Exit.inBlock, Exit.then])
                    first | go_end0 | refine bodyPost_ret (results_none rfl _ _ _) rfl ?_ | skip
                    obtain ⟨z1, z2⟩ := merge_done (lt := ltOf cf) ⟨b2, by omega, hb⟩ (permIn_mono _ _ _ _ _ _ (by omega) n2 hb HR.out.1) P1.out.1 Q1.out Q2.out R1.out R2.out
                    exact ⟨rfl, d1, S2.out, z1, z2⟩
                · have uz2 : decide ((q : Int) < (en : Int)) = false := decide_eq_false (by omega)
                  have vz2 : ¬ (q : Int) < (en : Int) := by omega
                  have hc := HROT r m en d wr S1.out rfl (by omega) (by omega) (by omega)
                  go_wp2_with (go_at_fn 69; refine hc.out.mono ?_; rintro e w2 ⟨rfl, d1, hr, S2⟩; have s1 := hr.1.1; have P1 := HP d1 hr; have S2 : Aside _ := S2; have HR := Lib.hid hr; clear hr hc)
                  have Q1 := Lib.hid (permIn_refl d1 a q)
                  have Q2 := Lib.hid (sorted_at P1.out.2.1 P1.out.2.2.1 (.inr (by omega)))
                  have R1 := Lib.hid (permIn_refl d1 q b)
                  have R2 := Lib.hid (sorted_at (sorted_congr P1.out.2.2.2.1 fun i hi _ => Q1.out.2.1 i (.inr hi)) (sorted_congr P1.out.2.2.2.2 fun i hi _ => Q1.out.2.1 i (.inr (by omega))) (.inl (by omega)))
                  go_wp2
                  (try simp only [Exit.inBlock, Exit.then])
                  first | go_end0 | refine bodyPost_ret (results_none rfl _ _ _) rfl ?_ | skip
                  obtain ⟨z1, z2⟩ := merge_done (lt := ltOf cf) ⟨b2, by omega, hb⟩ (permIn_mono _ _ _ _ _ _ (by omega) n2 hb HR.out.1) P1.out.1 Q1.out Q2.out R1.out R2.out
                  exact ⟨rfl, d1, S2.out, z1, z2⟩
            · have uz1 : decide ((a : Int) < (r : Int)) = false := decide_eq_false (by omega)
              have vz1 : ¬ (a : Int) < (r : Int) := by omega
              by_cases u2 : q < en
              · have uz2 : (q : Int) < (en : Int) := by omega
                by_cases v2 : en < b
                · have vz2 : (en : Int) < (b : Int) := by omega
                  have hc := HROT r m en d wr S1.out rfl (by omega) (by omega) (by omega)
                  go_wp2_with (go_at_fn 69; refine hc.out.mono ?_; rintro e w2 ⟨rfl, d1, hr, S2⟩; have s1 := hr.1.1; have P1 := HP d1 hr; have S2 : Aside _ := S2; have HR := Lib.hid hr; clear hr hc)
                  have Q1 := Lib.hid (permIn_refl d1 a q)
                  have Q2 := Lib.hid (sorted_at P1.out.2.1 P1.out.2.2.1 (.inl (by omega)))
                  have hc3 := HIH q en b d1 w2 S2.out s1 (by omega) (by omega) (by omega) (by omega) (sorted_congr P1.out.2.2.2.1 fun i hi _ => Q1.out.2.1 i (.inr hi)) (sorted_congr P1.out.2.2.2.2 fun i hi _ => Q1.out.2.1 i (.inr (by omega)))
                  go_wp2_with (go_at_fn 58; refine hc3.out.mono ?_; rintro e w4 ⟨rfl, d3, S4, r1, r2⟩; have S4 : Aside _ := S4; have R1 := Lib.hid r1; have R2 := Lib.hid r2; clear r1 r2 hc3)
                  (try simp only [Exit.inBlock, Exit.then])
                  first | go_end0 | refine bodyPost_ret (results_none rfl _ _ _) rfl ?_ | skip
                  obtain ⟨z1, z2⟩ := merge_done (lt := ltOf cf) ⟨b2, by omega, hb⟩ (permIn_mono _ _ _ _ _ _ (by omega) n2 hb HR.out.1) P1.out.1 Q1.out Q2.out R1.out R2.out
                  exact ⟨rfl, d3, S4.out, z1, z2⟩
                · have vz2 : ¬ (en : Int) < (b : Int) := by omega
                  have hc := HROT r m en d wr S1.out rfl (by omega) (by omega) (by omega)
                  go_wp2_with (go_at_fn 69; refine hc.out.mono ?_; rintro e w2 ⟨rfl, d1, hr, S2⟩; have s1 := hr.1.1; have P1 := HP d1 hr; have S2 : Aside _ := S2; have HR := Lib.hid hr; clear hr hc)
                  have Q1 := Lib.hid (permIn_refl d1 a q)
                  have Q2 := Lib.hid (sorted_at P1.out.2.1 P1.out.2.2.1 (.inl (by omega)))
                  have R1 := Lib.hid (permIn_refl d1 q b)
                  have R2 := Lib.hid (sorted_at (sorted_congr P1.out.2.2.2.1 fun i hi _ => Q1.out.2.1 i (.inr hi)) (sorted_congr P1.out.2.2.2.2 fun i hi _ => Q1.out.2.1 i (.inr (by omega))) (.inr (by omega)))
                  go_wp2
                  (try simp only [Exit.inBlock, Exit.then])
                  first | go_end0 | refine bodyPost_ret (results_none rfl _ _ _) rfl ?_ | skip
                  obtain ⟨z1, z2⟩ := merge_done (lt := ltOf cf) ⟨b2, by omega, hb⟩ (permIn_mono _ _ _ _ _ _ (by omega) n2 hb HR.out.1) P1.out.1 Q1.out Q2.out R1.out R2.out
                  exact ⟨rfl, d1, S2.out, z1, z2⟩
              · have uz2 : decide ((q : Int) < (en : Int)) = false := decide_eq_false (by omega)
                have vz2 : ¬ (q : Int) < (en : Int) := by omega
                have hc := HROT r m en d wr S1.out rfl (by omega) (by omega) (by omega)
                go_wp2_with (go_at_fn 69; refine hc.out.mono ?_; rintro e w2 ⟨rfl, d1, hr, S2⟩; have s1 := hr.1.1; have P1 := HP d1 hr; have S2 : Aside _ := S2; have HR := Lib.hid hr; clear hr hc)
                have Q1 := Lib.hid (permIn_refl d1 a q)
                have Q2 := Lib.hid (sorted_at P1.out.2.1 P1.out.2.2.1 (.inl (by omega)))
                have R1 := Lib.hid (permIn_refl d1 q b)
                have R2 := Lib.hid (sorted_at (sorted_congr P1.out.2.2.2.1 fun i hi _ => Q1.out.2.1 i (.inr hi)) (sorted_congr P1.out.2.2.2.2 fun i hi _ => Q1.out.2.1 i (.inr (by omega))) (.inl (by omega)))
                go_wp2
                (try simp only [Exit.inBlock, Exit.then])
                first | go_end0 | refine bodyPost_ret (results_none rfl _ _ _) rfl ?_ | skip
                obtain ⟨z1, z2⟩ := merge_done (lt := ltOf cf) ⟨b2, by omega, hb⟩ (permIn_mono _ _ _ _ _ _ (by omega) n2 hb HR.out.1) P1.out.1 Q1.out Q2.out R1.out R2.out
                exact ⟨rfl, d1, S2.out, z1, z2⟩
          · have vz0 : ¬ (m : Int) < (en : Int) := by omega
            by_cases u1 : a < r
            · have uz1 : (a : Int) < (r : Int) := by omega
              by_cases v1 : r < q
              · have vz1 : (r : Int) < (q : Int) := by omega
                by_cases u2 : q < en
                · have uz2 : (q : Int) < (en : Int) := by omega
                  by_cases v2 : en < b
                  · have vz2 : (en : Int) < (b : Int) := by omega
                    have HR := Lib.hid (Rot.id_ (.inr (by omega)) (by omega) (by omega) d : Rot r m en d d)
                    have P1 := HP d HR.out
                    have hc2 := HIH a r q d wr S1.out rfl (by omega) (by omega) (by omega) (by omega) P1.out.2.1 P1.out.2.2.1
                    go_wp2_with (go_at_fn 58; refine hc2.out.mono ?_; rintro e w3 ⟨rfl, d2, S3, q1, q2⟩; have s2 : d2.size = d.size := q1.1; have Q1 := Lib.hid q1; have Q2 := Lib.hid q2; have S3 : Aside _ := S3; clear q1 q2 hc2)
                    have hc3 := HIH q en b d2 w3 S3.out s2 (by omega) (by omega) (by omega) (by omega) (sorted_congr P1.out.2.2.2.1 fun i hi _ => Q1.out.2.1 i (.inr hi)) (sorted_congr P1.out.2.2.2.2 fun i hi _ => Q1.out.2.1 i (.inr (by omega)))
                    go_wp2_with (go_at_fn 58; refine hc3.out.mono ?_; rintro e w4 ⟨rfl, d3, S4, r1, r2⟩; have S4 : Aside _ := S4; have R1 := Lib.hid r1; have R2 := Lib.hid r2; clear r1 r2 hc3)
                    (try simp only [Exit.inBlock, Exit.then])
                    first | go_end0 | refine bodyPost_ret (results_none rfl _ _ _) rfl ?_ | skip
                    obtain ⟨z1, z2⟩ := merge_done (lt := ltOf cf) ⟨b2, by omega, hb⟩ (permIn_mono _ _ _ _ _ _ (by omega) n2 hb HR.out.1) P1.out.1 Q1.out Q2.out R1.out R2.out
                    exact ⟨rfl, d3, S4.out, z1, z2⟩
                  · have vz2 : ¬ (en : Int) < (b : Int) := by omega
                    have HR := Lib.hid (Rot.id_ (.inr (by omega)) (by omega) (by omega) d : Rot r m en d d)
                    have P1 := HP d HR.out
                    have hc2 := HIH a r q d wr S1.out rfl (by omega) (by omega) (by omega) (by omega) P1.out.2.1 P1.out.2.2.1
                    go_wp2_with (go_at_fn 58; refine hc2.out.mono ?_; rintro e w3 ⟨rfl, d2, S3, q1, q2⟩; have s2 : d2.size = d.size := q1.1; have Q1 := Lib.hid q1; have Q2 := Lib.hid q2; have S3 : Aside _ := S3; clear q1 q2 hc2)
                    have R1 := Lib.hid (permIn_refl d2 q b)
                    have R2 := Lib.hid (sorted_at (sorted_congr P1.out.2.2.2.1 fun i hi _ => Q1.out.2.1 i (.inr hi)) (sorted_congr P1.out.2.2.2.2 fun i hi _ => Q1.out.2.1 i (.inr (by omega))) (.inr (by omega)))
                    go_wp2
                    (try simp only [Exit.inBlock, Exit.then])
                    first | go_end0 | refine bodyPost_ret (results_none rfl _ _ _) rfl ?_ | skip
                    obtain ⟨z1, z2⟩ := merge_done (lt := ltOf cf) ⟨b2, by omega, hb⟩ (permIn_mono _ _ _ _ _ _ (by omega) n2 hb HR.out.1) P1.out.1 Q1.out Q2.out R1.out R2.out
                    exact ⟨rfl, d2, S3.out, z1, z2⟩
                · have uz2 : decide ((q : Int) < (en : Int)) = false := decide_eq_false (by omega)
                  have vz2 : ¬ (q : Int) < (en : Int) := by omega
                  have HR := Lib.hid (Rot.id_ (.inr (by omega)) (by omega) (by omega) d : Rot r m en d d)
                  have P1 := HP d HR.out
                  have hc2 := HIH a r q d wr S1.out rfl (by omega) (by omega) (by omega) (by omega) P1.out.2.1 P1.out.2.2.1
                  go_wp2_with (go_at_fn 58; refine hc2.out.mono ?_; rintro e w3 ⟨rfl, d2, S3, q1, q2⟩; have s2 : d2.size = d.size := q1.1; have Q1 := Lib.hid q1; have Q2 := Lib.hid q2; have S3 : Aside _ := S3; clear q1 q2 hc2)
                  have R1 := Lib.hid (permIn_refl d2 q b)
                  have R2 := Lib.hid (sorted_at (sorted_congr P1.out.2.2.2.1 fun i hi _ => Q1.out.2.1 i (.inr hi)) (sorted_congr P1.out.2.2.2.2 fun i hi _ => Q1.out.2.1 i (.inr (by omega))) (.inl (by omega)))
                  go_wp2
                  (try simp only [Exit.inBlock, Exit.then])
                  first | go_end0 | refine bodyPost_ret (results_none rfl _ _ _) rfl ?_ | skip
                  obtain ⟨z1, z2⟩ := merge_done (lt := ltOf cf) ⟨b2, by omega, hb⟩ (permIn_mono _ _ _ _ _ _ (by omega) n2 hb HR.out.1) P1.out.1 Q1.out Q2.out R1.out R2.out
                  exact ⟨rfl, d2, S3.out, z1, z2⟩
              · have vz1 : ¬ (r : Int) < (q : Int) := by omega
                by_cases u2 : q < en
                · have uz2 : (q : Int) < (en : Int) := by omega
                  by_cases v2 : en < b
                  · have vz2 : (en : Int) < (b : Int) := by omega
                    have HR := Lib.hid (Rot.id_ (.inr (by omega)) (by omega) (by omega) d : Rot r m en d d)
                    have P1 := HP d HR.out
                    have Q1 := Lib.hid (permIn_refl d a q)
                    have Q2 := Lib.hid (sorted_at P1.out.2.1 P1.out.2.2.1 (.inr (by omega)))
                    have hc3 := HIH q en b d wr S1.out rfl (by omega) (by omega) (by omega) (by omega) (sorted_congr P1.out.2.2.2.1 fun i hi _ => Q1.out.2.1 i (.inr hi)) (sorted_congr P1.out.2.2.2.2 fun i hi _ => Q1.out.2.1 i (.inr (by omega)))
                    go_wp2_with (go_at_fn 58; refine hc3.out.mono ?_; rintro e w4 ⟨rfl, d3, S4, r1, r2⟩; have S4 : Aside _ := S4; have R1 := Lib.hid r1; have R2 := Lib.hid r2; clear r1 r2 hc3)
                    (try simp only [Exit.inBlock, Exit.then])
                    first | go_end0 | refine bodyPost_ret (results_none rfl _ _ _) rfl ?_ | skip
                    obtain ⟨z1, z2⟩ := merge_done (lt := ltOf cf) ⟨b2, by omega, hb⟩ (permIn_mono _ _ _ _ _ _ (by omega) n2 hb HR.out.1) P1.out.1 Q1.out Q2.out R1.out R2.out
                    exact ⟨rfl, d3, S4.out, z1, z2⟩
                  · have vz2 : ¬ (en : Int) < (b : Int) := by omega
                    have HR := Lib.hid (Rot.id_ (.inr (by omega)) (by omega) (by omega) d : Rot r m en d d)
                    have P1 := HP d HR.out
                    have Q1 := Lib.hid (permIn_refl d a q)
                    have Q2 := Lib.hid (sorted_at P1.out.2.1 P1.out.2.2.1 (.inr (by omega)))
                    have R1 := Lib.hid (permIn_refl d q b)
                    have R2 := Lib.hid (sorted_at (sorted_congr P1.out.2.2.2.1 fun i hi _ => Q1.out.2.1 i (.inr hi)) (sorted_congr P1.out.2.2.2.2 fun i hi _ => Q1.out.2.1 i (.inr (by omega))) (.inr (by omega)))
                    go_wp2
                    (try simp only [Exit.inBlock, Exit.then])
                    first | go_end0 | refine bodyPost_ret (results_none rfl _ _ _) rfl ?_ | skip
                    obtain ⟨z1, z2⟩ := merge_done (lt := ltOf cf) ⟨b2, by omega, hb⟩ (permIn_mono _ _ _ _ _ _ (by omega) n2 hb HR.out.1) P1.out.1 Q1.out Q2.out R1.out R2.out
                    exact ⟨rfl, d, S1.out, z1, z2⟩
                · have uz2 : decide ((q : Int) < (en : Int)) = false := decide_eq_false (by omega)
                  have vz2 : ¬ (q : Int) < (en : Int) := by omega
                  have HR := Lib.hid (Rot.id_ (.inr (by omega)) (by omega) (by omega) d : Rot r m en d d)
                  have P1 := HP d HR.out
                  have Q1 := Lib.hid (permIn_refl d a q)
                  have Q2 := Lib.hid (sorted_at P1.out.2.1 P1.out.2.2.1 (.inr (by omega)))
                  have R1 := Lib.hid (permIn_refl d q b)
                  have R2 := Lib.hid (sorted_at (sorted_congr P1.out.2.2.2.1 fun i hi _ => Q1.out.2.1 i (.inr hi)) (sorted_congr P1.out.2.2.2.2 fun i hi _ => Q1.out.2.1 i (.inr (by omega))) (.inl (by omega)))
                  go_wp2
                  (try simp only [Exit.inBlock, Exit.then])
                  first | go_end0 | refine bodyPost_ret (results_none rfl _ _ _) rfl ?_ | skip
                  obtain ⟨z1, z2⟩ := merge_done (lt := ltOf cf) ⟨b2, by omega, hb⟩ (permIn_mono _ _ _ _ _ _ (by omega) n2 hb HR.out.1) P1.out.1 Q1.out Q2.out R1.out R2.out
                  exact ⟨rfl, d, S1.out, z1, z2⟩
            · have uz1 : decide ((a : Int) < (r : Int)) = false := decide_eq_false (by omega)
              have vz1 : ¬ (a : Int) < (r : Int) := by omega
              by_cases u2 : q < en
              · have uz2 : (q : Int) < (en : Int) := by omega
                by_cases v2 : en < b
                · have vz2 : (en : Int) < (b : Int) := by omega
                  have HR := Lib.hid (Rot.id_ (.inr (by omega)) (by omega) (by omega) d : Rot r m en d d)
                  have P1 := HP d HR.out
                  have Q1 := Lib.hid (permIn_refl d a q)
                  have Q2 := Lib.hid (sorted_at P1.out.2.1 P1.out.2.2.1 (.inl (by omega)))
                  have hc3 := HIH q en b d wr S1.out rfl (by omega) (by omega) (by omega) (by omega) (sorted_congr P1.out.2.2.2.1 fun i hi _ => Q1.out.2.1 i (.inr hi)) (sorted_congr P1.out.2.2.2.2 fun i hi _ => Q1.out.2.1 i (.inr (by omega)))
                  go_wp2_with (go_at_fn 58; refine hc3.out.mono ?_; rintro e w4 ⟨rfl, d3, S4, r1, r2⟩; have S4 : Aside _ := S4; have R1 := Lib.hid r1; have R2 := Lib.hid r2; clear r1 r2 hc3)
                  (try simp only [Exit.inBlock, Exit.then])
                  first | go_end0 | refine bodyPost_ret (results_none rfl _ _ _) rfl ?_ | skip
                  obtain ⟨z1, z2⟩ := merge_done (lt := ltOf cf) ⟨b2, by omega, hb⟩ (permIn_mono _ _ _ _ _ _ (by omega) n2 hb HR.out.1) P1.out.1 Q1.out Q2.out R1.out R2.out
                  exact ⟨rfl, d3, S4.out, z1, z2⟩
                · have vz2 : ¬ (en : Int) < (b : Int) := by omega
                  have HR := Lib.hid (Rot.id_ (.inr (by omega)) (by omega) (by omega) d : Rot r m en d d)
                  have P1 := HP d HR.out
                  have Q1 := Lib.hid (permIn_refl d a q)
                  have Q2 := Lib.hid (sorted_at P1.out.2.1 P1.out.2.2.1 (.inl (by omega)))
                  have R1 := Lib.hid (permIn_refl d q b)
                  have R2 := Lib.hid (sorted_at (sorted_congr P1.out.2.2.2.1 fun i hi _ => Q1.out.2.1 i (.inr hi)) (sorted_congr P1.out.2.2.2.2 fun i hi _ => Q1.out.2.1 i (.inr (by omega))) (.inr (by omega)))
                  go_wp2
                  (try simp only [Exit.inBlock, Exit.then])
                  first | go_end0 | refine bodyPost_ret (results_none rfl _ _ _) rfl ?_ | skip
                  obtain ⟨z1, z2⟩ := merge_done (lt := ltOf cf) ⟨b2, by omega, hb⟩ (permIn_mono _ _ _ _ _ _ (by omega) n2 hb HR.out.1) P1.out.1 Q1.out Q2.out R1.out R2.out
                  exact ⟨rfl, d, S1.out, z1, z2⟩
              · have uz2 : decide ((q : Int) < (en : Int)) = false := decide_eq_false (by omega)
                have vz2 : ¬ (q : Int) < (en : Int) := by omega
                have HR := Lib.hid (Rot.id_ (.inr (by omega)) (by omega) (by omega) d : Rot r m en d d)
                have P1 := HP d HR.out
                have Q1 := Lib.hid (permIn_refl d a q)
                have Q2 := Lib.hid (sorted_at P1.out.2.1 P1.out.2.2.1 (.inl (by omega)))
                have R1 := Lib.hid (permIn_refl d q b)
                have R2 := Lib.hid (sorted_at (sorted_congr P1.out.2.2.2.1 fun i hi _ => Q1.out.2.1 i (.inr hi)) (sorted_congr P1.out.2.2.2.2 fun i hi _ => Q1.out.2.1 i (.inr (by omega))) (.inl (by omega)))
                go_wp2
                (try simp only [Exit.inBlock, Exit.then])
                first | go_end0 | refine bodyPost_ret (results_none rfl _ _ _) rfl ?_ | skip
                obtain ⟨z1, z2⟩ := merge_done (lt := ltOf cf) ⟨b2, by omega, hb⟩ (permIn_mono _ _ _ _ _ _ (by omega) n2 hb HR.out.1) P1.out.1 Q1.out Q2.out R1.out R2.out
                exact ⟨rfl, d, S1.out, z1, z2⟩
        · have uz0 : decide ((r : Int) < (m : Int)) = false := decide_eq_false (by omega)
          have vz0 : ¬ (r : Int) < (m : Int) := by omega
          by_cases u1 : a < r
          · have uz1 : (a : Int) < (r : Int) := by omega
            by_cases v1 : r < q
            · have vz1 : (r : Int) < (q : Int) := by omega
              by_cases u2 : q < en
              · have uz2 : (q : Int) < (en : Int) := by omega
                by_cases v2 : en < b
                · have vz2 : (en : Int) < (b : Int) := by omega
                  have HR := Lib.hid (Rot.id_ (.inl (by omega)) (by omega) (by omega) d : Rot r m en d d)
                  have P1 := HP d HR.out
                  have hc2 := HIH a r q d wr S1.out rfl (by omega) (by omega) (by omega) (by omega) P1.out.2.1 P1.out.2.2.1
                  go_wp2_with (go_at_fn 58; refine hc2.out.mono ?_; rintro e w3 ⟨rfl, d2, S3, q1, q2⟩; have s2 : d2.size = d.size := q1.1; have Q1 := Lib.hid q1; have Q2 := Lib.hid q2; have S3 : Aside _ := S3; clear q1 q2 hc2)
                  have hc3 := HIH q en b d2 w3 S3.out s2 (by omega) (by omega) (by omega) (by omega) (sorted_congr P1.out.2.2.2.1 fun i hi _ => Q1.out.2.1 i (.inr hi)) (sorted_congr P1.out.2.2.2.2 fun i hi _ => Q1.out.2.1 i (.inr (by omega)))
                  go_wp2_with (go_at_fn 58; refine hc3.out.mono ?_; rintro e w4 ⟨rfl, d3, S4, r1, r2⟩; have S4 : Aside _ := S4; have R1 := Lib.hid r1; have R2 := Lib.hid r2; clear r1 r2 hc3)
                  (try simp only [Exit.inBlock, Exit.then])
                  first | go_end0 | refine bodyPost_ret (results_none rfl _ _ _) rfl ?_ | skip
                  obtain ⟨z1, z2⟩ := merge_done (lt := ltOf cf) ⟨b2, by omega, hb⟩ (permIn_mono _ _ _ _ _ _ (by omega) n2 hb HR.out.1) P1.out.1 Q1.out Q2.out R1.out R2.out
                  exact ⟨rfl, d3, S4.out, z1, z2⟩
                · have vz2 : ¬ (en : Int) < (b : Int) := by omega
                  have HR := Lib.hid (Rot.id_ (.inl (by omega)) (by omega) (by omega) d : Rot r m en d d)
                  have P1 := HP d HR.out
                  have hc2 := HIH a r q d wr S1.out rfl (by omega) (by omega) (by omega) (by omega) P1.out.2.1 P1.out.2.2.1
                  go_wp2_with (go_at_fn 58; refine hc2.out.mono ?_; rintro e w3 ⟨rfl, d2, S3, q1, q2⟩; have s2 : d2.size = d.size := q1.1; have Q1 := Lib.hid q1; have Q2 := Lib.hid q2; have S3 : Aside _ := S3; clear q1 q2 hc2)
                  have R1 := Lib.hid (permIn_refl d2 q b)
                  have R2 := Lib.hid (sorted_at (sorted_congr P1.out.2.2.2.1 fun i hi _ => Q1.out.2.1 i (.inr hi)) (sorted_congr P1.out.2.2.2.2 fun i hi _ => Q1.out.2.1 i (.inr (by omega))) (.inr (by omega)))
                  go_wp2
                  (try simp only [Exit.inBlock, Exit.then])
                  first | go_end0 | refine bodyPost_ret (results_none rfl _ _ _) rfl ?_ | skip
                  obtain ⟨z1, z2⟩ := merge_done (lt := ltOf cf) ⟨b2, by omega, hb⟩ (permIn_mono _ _ _ _ _ _ (by omega) n2 hb HR.out.1) P1.out.1 Q1.out Q2.out R1.out R2.out
                  exact ⟨rfl, d2, S3.out, z1, z2⟩
              · have uz2 : decide ((q : Int) < (en : Int)) = false := decide_eq_false (by omega)
                have vz2 : ¬ (q : Int) < (en : Int) := by omega
                have HR := Lib.hid (Rot.id_ (.inl (by omega)) (by omega) (by omega) d : Rot r m en d d)
                have P1 := HP d HR.out
                have hc2 := HIH a r q d wr S1.out rfl (by omega) (by omega) (by omega) (by omega) P1.out.2.1 P1.out.2.2.1
                go_wp2_with (go_at_fn 58; refine hc2.out.mono ?_; rintro e w3 ⟨rfl, d2, S3, q1, q2⟩; have s2 : d2.size = d.size := q1.1; have Q1 := Lib.hid q1; have Q2 := Lib.hid q2; have S3 : Aside _ := S3; clear q1 q2 hc2)
                have R1 := Lib.hid (permIn_refl d2 q b)
                have R2 := Lib.hid (sorted_at (sorted_congr P1.out.2.2.2.1 fun i hi _ => Q1.out.2.1 i (.inr hi)) (sorted_congr P1.out.2.2.2.2 fun i hi _ => Q1.out.2.1 i (.inr (by omega))) (.inl (by omega)))
                go_wp2
                (try simp only [Exit.inBlock, Exit.then])
                first | go_end0 | refine bodyPost_ret (results_none rfl _ _ _) rfl ?_ | skip
                obtain ⟨z1, z2⟩ := merge_done (lt := ltOf cf) ⟨b2, by omega, hb⟩ (permIn_mono _ _ _ _ _ _ (by omega) n2 hb HR.out.1) P1.out.1 Q1.out Q2.out R1.out R2.out
                exact ⟨rfl, d2, S3.out, z1, z2⟩
            · have vz1 : ¬ (r : Int) < (q : Int) := by omega
              by_cases u2 : q < en
              · have uz2 : (q : Int) < (en : Int) := by omega
                by_cases v2 : en < b
                · have vz2 : (en : Int) < (b : Int) := by omega
                  have HR := Lib.hid (Rot.id_ (.inl (by omega)) (by omega) (by omega) d : Rot r m en d d)
                  have P1 := HP d HR.out
                  have Q1 := Lib.hid (permIn_refl d a q)
                  have Q2 := Lib.hid (sorted_at P1.out.2.1 P1.out.2.2.1 (.inr (by omega)))
                  have hc3 := HIH q en b d wr S1.out rfl (by omega) (by omega) (by omega) (by omega) (sorted_congr P1.out.2.2.2.1 fun i hi _ => Q1.out.2.1 i (.inr hi)) (sorted_congr P1.out.2.2.2.2 fun i hi _ => Q1.out.2.1 i (.inr (by omega)))
                  go_wp2_with (go_at_fn 58; refine hc3.out.mono ?_; rintro e w4 ⟨rfl, d3, S4, r1, r2⟩; have S4 : Aside _ := S4; have R1 := Lib.hid r1; have R2 := Lib.hid r2; clear r1 r2 hc3)
                  (try simp only [Exit.inBlock, Exit.then])
                  first | go_end0 | refine bodyPost_ret (results_none rfl _ _ _) rfl ?_ | skip
                  obtain ⟨z1, z2⟩ := merge_done (lt := ltOf cf) ⟨b2, by omega, hb⟩ (permIn_mono _ _ _ _ _ _ (by omega) n2 hb HR.out.1) P1.out.1 Q1.out Q2.out R1.out R2.out
                  exact ⟨rfl, d3, S4.out, z1, z2⟩
                · have vz2 : ¬ (en : Int) < (b : Int) := by omega
                  have HR := Lib.hid (Rot.id_ (.inl (by omega)) (by omega) (by omega) d : Rot r m en d d)
                  have P1 := HP d HR.out
                  have Q1 := Lib.hid (permIn_refl d a q)
                  have Q2 := Lib.hid (sorted_at P1.out.2.1 P1.out.2.2.1 (.inr (by omega)))
                  have R1 := Lib.hid (permIn_refl d q b)
                  have R2 := Lib.hid (sorted_at (sorted_congr P1.out.2.2.2.1 fun i hi _ => Q1.out.2.1 i (.inr hi)) (sorted_congr P1.out.2.2.2.2 fun i hi _ => Q1.out.2.1 i (.inr (by omega))) (.inr (by omega)))
                  go_wp2
                  (try simp only [Exit.inBlock, Exit.then])
                  first | go_end0 | refine bodyPost_ret (results_none rfl _ _ _) rfl ?_ | skip
                  obtain ⟨z1, z2⟩ := merge_done (lt := ltOf cf) ⟨b2, by omega, hb⟩ (permIn_mono _ _ _ _ _ _ (by omega) n2 hb HR.out.1) P1.out.1 Q1.out Q2.out R1.out R2.out
                  exact ⟨rfl, d, S1.out, z1, z2⟩
              · have uz2 : decide ((q : Int) < (en : Int)) = false := decide_eq_false (by omega)
                have vz2 : ¬ (q : Int) < (en : Int) := by omega
                have HR := Lib.hid (Rot.id_ (.inl (by omega)) (by omega) (by omega) d : Rot r m en d d)
                have P1 := HP d HR.out
                have Q1 := Lib.hid (permIn_refl d a q)
                have Q2 := Lib.hid (sorted_at P1.out.2.1 P1.out.2.2.1 (.inr (by omega)))
                have R1 := Lib.hid (permIn_refl d q b)
                have R2 := Lib.hid (sorted_at (sorted_congr P1.out.2.2.2.1 fun i hi _ => Q1.out.2.1 i (.inr hi)) (sorted_congr P1.out.2.2.2.2 fun i hi _ => Q1.out.2.1 i (.inr (by omega))) (.inl (by omega)))
                go_wp2
                (try simp only [Exit.inBlock, Exit.then])
                first | go_end0 | refine bodyPost_ret (results_none rfl _ _ _) rfl ?_ | skip
                obtain ⟨z1, z2⟩ := merge_done (lt := ltOf cf) ⟨b2, by omega, hb⟩ (permIn_mono _ _ _ _ _ _ (by omega) n2 hb HR.out.1) P1.out.1 Q1.out Q2.out R1.out R2.out
                exact ⟨rfl, d, S1.out, z1, z2⟩
          · have uz1 : decide ((a : Int) < (r : Int)) = false := decide_eq_false (by omega)
            have vz1 : ¬ (a : Int) < (r : Int) := by omega
            by_cases u2 : q < en
            · have uz2 : (q : Int) < (en : Int) := by omega
              by_cases v2 : en < b
              · have vz2 : (en : Int) < (b : Int) := by omega
                have HR := Lib.hid (Rot.id_ (.inl (by omega)) (by omega) (by omega) d : Rot r m en d d)
                have P1 := HP d HR.out
                have Q1 := Lib.hid (permIn_refl d a q)
                have Q2 := Lib.hid (sorted_at P1.out.2.1 P1.out.2.2.1 (.inl (by omega)))
                have hc3 := HIH q en b d wr S1.out rfl (by omega) (by omega) (by omega) (by omega) (sorted_congr P1.out.2.2.2.1 fun i hi _ => Q1.out.2.1 i (.inr hi)) (sorted_congr P1.out.2.2.2.2 fun i hi _ => Q1.out.2.1 i (.inr (by omega)))
                go_wp2_with (go_at_fn 58; refine hc3.out.mono ?_; rintro e w4 ⟨rfl, d3, S4, r1, r2⟩; have S4 : Aside _ := S4; have R1 := Lib.hid r1; have R2 := Lib.hid r2; clear r1 r2 hc3)
                (try simp only [Exit.inBlock, Exit.then])
                first | go_end0 | refine bodyPost_ret (results_none rfl _ _ _) rfl ?_ | skip
                obtain ⟨z1, z2⟩ := merge_done (lt := ltOf cf) ⟨b2, by omega, hb⟩ (permIn_mono _ _ _ _ _ _ (by omega) n2 hb HR.out.1) P1.out.1 Q1.out Q2.out R1.out R2.out
                exact ⟨rfl, d3, S4.out, z1, z2⟩
              · have vz2 : ¬ (en : Int) < (b : Int) := by omega
                have HR := Lib.hid (Rot.id_ (.inl (by omega)) (by omega) (by omega) d : Rot r m en d d)
                have P1 := HP d HR.out
                have Q1 := Lib.hid (permIn_refl d a q)
                have Q2 := Lib.hid (sorted_at P1.out.2.1 P1.out.2.2.1 (.inl (by omega)))
                have R1 := Lib.hid (permIn_refl d q b)
                have R2 := Lib.hid (sorted_at (sorted_congr P1.out.2.2.2.1 fun i hi _ => Q1.out.2.1 i (.inr hi)) (sorted_congr P1.out.2.2.2.2 fun i hi _ => Q1.out.2.1 i (.inr (by omega))) (.inr (by omega)))
                go_wp2
                (try simp only [Exit.inBlock, Exit.then])
                first | go_end0 | refine bodyPost_ret (results_none rfl _ _ _) rfl ?_ | skip
                obtain ⟨z1, z2⟩ := merge_done (lt := ltOf cf) ⟨b2, by omega, hb⟩ (permIn_mono _ _ _ _ _ _ (by omega) n2 hb HR.out.1) P1.out.1 Q1.out Q2.out R1.out R2.out
                exact ⟨rfl, d, S1.out, z1, z2⟩
            · have uz2 : decide ((q : Int) < (en : Int)) = false := decide_eq_false (by omega)
              have vz2 : ¬ (q : Int) < (en : Int) := by omega
              have HR := Lib.hid (Rot.id_ (.inl (by omega)) (by omega) (by omega) d : Rot r m en d d)
              have P1 := HP d HR.out
              have Q1 := Lib.hid (permIn_refl d a q)
              have Q2 := Lib.hid (sorted_at P1.out.2.1 P1.out.2.2.1 (.inl (by omega)))
              have R1 := Lib.hid (permIn_refl d q b)
              have R2 := Lib.hid (sorted_at (sorted_congr P1.out.2.2.2.1 fun i hi _ => Q1.out.2.1 i (.inr hi)) (sorted_congr P1.out.2.2.2.2 fun i hi _ => Q1.out.2.1 i (.inr (by omega))) (.inl (by omega)))
              go_wp2
              (try simp only [Exit.inBlock, Exit.then])
              first | go_end0 | refine bodyPost_ret (results_none rfl _ _ _) rfl ?_ | skip
              obtain ⟨z1, z2⟩ := merge_done (lt := ltOf cf) ⟨b2, by omega, hb⟩ (permIn_mono _ _ _ _ _ _ (by omega) n2 hb HR.out.1) P1.out.1 Q1.out Q2.out R1.out R2.out
              exact ⟨rfl, d, S1.out, z1, z2⟩
theorem symMerge_c {k : Nat} (L : SL P k) (enc : α → List Value) (cf : α → α → Int) (hO : SWO (ltOf cf)) (g : Nat) (cb : Array Value) (blk off cap : Nat) (d0 : Array α) (w0 : World)
    (eg : ∀ args w, (callFunc g args).run P w = .ok (.enter g args) w) (hcmp : CmpLays P g cb enc k cf blk off d0.size w0) (R : RowK enc k w0 blk off d0) (hsz : d0.size < 4611686018427387904) : ∀ (N a m b : Nat) (d : Array α) (w : World), b - a ≤ N → d0.size = d.size → SWK enc k w0 blk off d w →
    a < m → m < b → b ≤ d.size → SortedIn (ltOf cf) a m d → SortedIn (ltOf cf) m b d →
    Calls P 58 #[.slice (some ⟨blk, off, none⟩) d.size cap, .int .i64 a, .int .i64 m, .int .i64 b, .func (.func g) #[] cb] w (SymPost enc k w0 blk off a b cf d) := by
  intro N
  induction N with
  | zero => intro a m b d w hN hs S h1 h2; omega
  | succ N ih =>
    intro a m b d w hN hs S ham hmb hb hu hv
    by_cases h1 : m - a = 1
    · exact symMerge_one L enc cf hO g cb blk off cap a m b d0 d w0 w eg hcmp R hs S ham hmb hb (by omega) hu hv h1
    · by_cases h2 : b - m = 1
      · exact symMerge_right L enc cf hO g cb blk off cap a m b d0 d w0 w eg hcmp R hs S ham hmb hb (by omega) hu hv h1 h2
      · exact symMerge_cut L enc cf hO g cb blk off cap a m b d0 d w0 w (fun x y z dk wr h0 hd S h1 h2 h3 hu hv => ih x y z dk wr (by omega) (by omega) S h1 h2 (by omega) hu hv) eg hcmp R hs S ham hmb hb (by omega) hu hv h1 h2
end Go.Proofs.YtkjommcmeinkaaaGreatDoor
