/- The stable sort's family of Go's library at elements of k cells: stable, SortStableFunc. Over any program that holds these bodies; the condition is what the callers of the family give. -/
import Derived.Test.YtkjommcmeinkaaaGreatDoorStab3
namespace Go.Proofs.YtkjommcmeinkaaaGreatDoor
open Go.Shelf Go.RowKit Go.Lib Go.Sort
variable {P : Program} {α : Type} [Inhabited α]

/-- what a sort of the range [a, b) leaves -/
def InsPost {α : Type} [Inhabited α] (enc : α → List Value) (k : Nat) (w0 : World) (blk off a b : Nat) (cf : α → α → Int) (d : Array α) (e : Ending) (w' : World) : Prop :=
  e = .returned (.tuple #[]) ∧ ∃ d', SWK enc k w0 blk off d' w' ∧ PermIn a b d d' ∧ SortedIn (ltOf cf) a b d'
def AtBlk (t k a : Nat) : Prop := a = t * k
theorem AtBlk.next {t k a : Nat} (h : AtBlk t k a) : AtBlk (t + 1) k (a + k) := by unfold AtBlk at *; rw [h, Nat.succ_mul]
theorem perm_up {α : Type} [Inhabited α] {n a b : Nat} {d d1 d2 : Array α} (h : PermIn 0 n d d1) (h' : PermIn a b d1 d2) (hb : b ≤ n) (hn : n = d.size) : PermIn 0 n d d2 := by
  have := h.1
  exact permIn_trans _ _ _ _ _ h (permIn_mono _ _ _ _ _ _ (by omega) hb (by omega) h')
set_option maxHeartbeats 8000000 in
set_option maxRecDepth 1000000 in
theorem stable_c {k : Nat} (L : SL P k) (enc : α → List Value) (cf : α → α → Int) (hO : SWO (ltOf cf)) (g : Nat) (cb : Array Value) (blk off cap : Nat) (d0 d : Array α) (w0 w : World)
    (eg : ∀ args w, (callFunc g args).run P w = .ok (.enter g args) w) (hcmp : CmpLays P g cb enc k cf blk off d0.size w0) (R : RowK enc k w0 blk off d0) (hs : d0.size = d.size) (S : SWK enc k w0 blk off d w) (hsz : d.size ≤ 1000000)
    (hins : ∀ (a b : Nat) (dk : Array α) (wr : World), dk.size = d.size → SWK enc k w0 blk off dk wr → a ≤ b → b ≤ d.size → Calls P 57 #[.slice (some ⟨blk, off, none⟩) d.size cap, .int .i64 a, .int .i64 b, .func (.func g) #[] cb] wr (InsPost enc k w0 blk off a b cf dk)) :
    Calls P 41 #[.slice (some ⟨blk, off, none⟩) d.size cap, .int .i64 d.size, .func (.func g) #[] cb] w (SymPost enc k w0 blk off 0 d.size cf d) := by
  have mixed := L.mixed; have t0 := L.t0; have a0 := L.a0; have z0 := L.z0; have v0 := L.v0; have t3 := L.t3; have a3 := L.a3; have z3 := L.z3; have v3 := L.v3; have t4 := L.t4; have a4 := L.a4; have z4 := L.z4; have v4 := L.v4; have tu := L.tu; have au := L.au; have zu := L.zu; have vu := L.vu; have t22 := L.t22; have a22 := L.a22; have z22 := L.z22; have v22 := L.v22; have t25 := L.t25; have a25 := L.a25; have z25 := L.z25; have v25 := L.v25; have aE := L.aE; have zE := L.zE; have u22 := run_underlying L.t22
  have e_sym := L.e_sym
  have e_ins := L.e_ins
  have HSYM := fun (x y z : Nat) (dk : Array α) (wr : World) (S : SWK enc k w0 blk off dk wr) (hd : dk.size = d.size) (h1 : x < y) (h2 : y < z) (h3 : z ≤ d.size) (hu : SortedIn (ltOf cf) x y dk) (hv : SortedIn (ltOf cf) y z dk) => Lib.hid (hd ▸ symMerge_c L enc cf hO g cb blk off cap d0 w0 eg hcmp R (by omega) (z - x) x y z dk wr (Nat.le_refl _) (by omega) S h1 h2 (by omega) hu hv : Calls P 58 #[.slice (some ⟨blk, off, none⟩) d.size cap, .int .i64 x, .int .i64 y, .int .i64 z, .func (.func g) #[] cb] wr (SymPost enc k w0 blk off x z cf dk))
  have HINS := fun (x y : Nat) (dk : Array α) (wr : World) (hd : dk.size = d.size) (S : SWK enc k w0 blk off dk wr) (h1 : x ≤ y) (h2 : y ≤ d.size) => Lib.hid (hins x y dk wr hd S h1 h2)
  have S0 : Aside _ := S
  clear hcmp S hins hO
  go_enter L.f_stab, Tryz.ntmps41
  go_wp2
  go_loopg [7, 8] d.size (fun gx s7 s8 wr => ∃ (a t : Nat) (dk : Array α), s7 = .int .i64 a ∧ s8 = .int .i64 ((a : Int) + 20) ∧ Hid (AtBlk t 20 a) ∧ a ≤ d.size ∧ d.size - a ≤ gx ∧ dk.size = d.size ∧ Aside (SWK enc k w0 blk off dk wr) ∧ Hid (BlkTo (ltOf cf) 20 a dk ∧ PermIn 0 d.size d dk))
  case atStart => exact ⟨0, 0, d, rfl, rfl, (show AtBlk 0 20 0 from rfl), Nat.zero_le _, by omega, rfl, S0, ⟨BlkTo.zero _ _, permIn_refl _ _ _⟩⟩
  case round =>
    obtain ⟨a, t, dk, rfl, rfl, ha, han, hgx, hds, S1, HE⟩ := hrel
    clear S0
    by_cases hlt : a + 20 ≤ d.size
    · have hltz : (a : Int) + 20 ≤ (d.size : Int) := by omega
      have hc := HINS a (a + 20) dk wr hds S1.out (by omega) hlt
      have hcz : ((a + 20 : Nat) : Int) = (a : Int) + 20 := by omega
      have hc' := hc.out
      rw [hcz] at hc'
      have hc := Lib.hid hc'
      clear hc' hcz S1
      go_wp2_with (go_at_fn 57; refine hc.out.mono ?_; rintro e w2 ⟨rfl, d2, S2, q1, q2⟩; have S2 : Aside _ := S2; have s2 : d2.size = dk.size := q1.1; have Q1 := Lib.hid q1; have Q2 := Lib.hid q2; clear q1 q2 hc)
      go_roundg (d.size - (a + 20))
      case measure => omega
      case rel => exact ⟨a + 20, t + 1, d2, by go_num, by first | go_num | (congr 1; omega), (show Hid _ from ha.out.next), hlt, Nat.le_refl _, by omega, S2, (show Hid _ from ⟨HE.out.1.step (t := t) (by omega) ha.out Q1.out Q2.out, perm_up HE.out.2 Q1.out hlt rfl⟩)⟩
    · have hltz : ¬ (a : Int) + 20 ≤ (d.size : Int) := by omega
      have hc := HINS a d.size dk wr hds S1.out han (Nat.le_refl _)
      clear S1
      go_wp2_with (go_at_fn 57; refine hc.out.mono ?_; rintro e w2 ⟨rfl, d2, S2, q1, q2⟩; have S2 : Aside _ := S2; have s2 : d2.size = dk.size := q1.1; have Q1 := Lib.hid q1; have Q2 := Lib.hid q2; clear q1 q2 hc)
      have HB : Hid (BlkTo (ltOf cf) 20 d.size d2 ∧ PermIn 0 d.size d d2) := ⟨HE.out.1.step (t := t) (by omega) ha.out Q1.out Q2.out, perm_up HE.out.2 Q1.out (Nat.le_refl _) rfl⟩
      clear HE Q1 Q2 ha hlt hltz
      go_loopg [6] d.size (fun gx s6 wr => ∃ (bs : Nat) (dk : Array α), s6 = .int .i64 bs ∧ 0 < bs ∧ bs ≤ 2000000 ∧ d.size - bs ≤ gx ∧ dk.size = d.size ∧ Aside (SWK enc k w0 blk off dk wr) ∧ Hid (BlkTo (ltOf cf) bs d.size dk ∧ PermIn 0 d.size d dk))
      case atStart => exact ⟨20, d2, rfl, by omega, by omega, by omega, by omega, S2, HB⟩
      case round =>
        clear S2 HB s2 hds
        obtain ⟨bs, dk, rfl, hbs, hbs2, hgx2, hds, S1, HE⟩ := hrel
        by_cases hbn : bs < d.size
        · have hbz : (bs : Int) < (d.size : Int) := by omega
          go_wp2
          go_loopg [7, 8] d.size (fun gx s7 s8 wr => ∃ (a t : Nat) (dk : Array α), s7 = .int .i64 a ∧ s8 = .int .i64 ((a : Int) + 2 * (bs : Int)) ∧ Hid (AtBlk t (2 * bs) a) ∧ a ≤ d.size ∧ d.size - a ≤ gx ∧ dk.size = d.size ∧ Aside (SWK enc k w0 blk off dk wr) ∧ Hid (Blocks (ltOf cf) bs a dk ∧ PermIn 0 d.size d dk))
          case atStart => exact ⟨0, 0, dk, rfl, by first | rfl | (congr 1; omega), (show AtBlk 0 (2 * bs) 0 by simp [AtBlk]), Nat.zero_le _, by omega, hds, S1, ⟨by have := HE.out.1; rw [← hds] at this; exact Blocks.start this, HE.out.2⟩⟩
          case round =>
            clear S1 HE hds han
            obtain ⟨a, t, dk, rfl, rfl, ha, han, hgx3, hds, S1, HE⟩ := hrel
            by_cases hlt : a + 2 * bs ≤ d.size
            · have hltz : (a : Int) + 2 * (bs : Int) ≤ (d.size : Int) := by omega
              have hc := (HSYM a (a + bs) (a + 2 * bs) dk wr S1.out hds (by omega) (by omega) hlt (HE.out.1.left ha.out (by omega)) (HE.out.1.right ha.out (Nat.le_refl _) (by omega))).out
              rw [show ((a + bs : Nat) : Int) = (a : Int) + (bs : Int) from by omega, show ((a + 2 * bs : Nat) : Int) = (a : Int) + 2 * (bs : Int) from by omega] at hc
              have hc := Lib.hid hc
              clear S1
              go_wp2_with (go_at_fn 58; refine hc.out.mono ?_; rintro e w2 ⟨rfl, d2, S2, q1, q2⟩; have S2 : Aside _ := S2; have s2 : d2.size = dk.size := q1.1; have Q1 := Lib.hid q1; have Q2 := Lib.hid q2; clear q1 q2)
              go_roundg (d.size - (a + 2 * bs))
              case measure => omega
              case rel => exact ⟨a + 2 * bs, t + 1, d2, by first | go_num | (congr 1; omega), by first | go_num | (congr 1; omega), (show Hid _ from ha.out.next), hlt, Nat.le_refl _, by omega, S2, (show Hid _ from ⟨HE.out.1.step (t := t) hbs ha.out Q1.out Q2.out, perm_up HE.out.2 Q1.out hlt rfl⟩)⟩
            · have hltz : ¬ (a : Int) + 2 * (bs : Int) ≤ (d.size : Int) := by omega
              by_cases hm : a + bs < d.size
              · have hmz : (a : Int) + (bs : Int) < (d.size : Int) := by omega
                have hc := (HSYM a (a + bs) d.size dk wr S1.out hds (by omega) (by omega) (Nat.le_refl _) (HE.out.1.left ha.out (by omega)) (HE.out.1.right ha.out (by omega) (by omega))).out
                rw [show ((a + bs : Nat) : Int) = (a : Int) + (bs : Int) from by omega] at hc
                have hc := Lib.hid hc
                clear S1
                go_wp2_with (go_at_fn 58; refine hc.out.mono ?_; rintro e w2 ⟨rfl, d2, S2, q1, q2⟩; have S2 : Aside _ := S2; have s2 : d2.size = dk.size := q1.1; have Q1 := Lib.hid q1; have Q2 := Lib.hid q2; clear q1 q2)
                go_roundg (d.size - 2 * bs)
                case measure => omega
                case rel => exact ⟨2 * bs, d2, by first | go_num | (congr 1; omega), by omega, by omega, by omega, by omega, S2, (show Hid _ from ⟨by have := HE.out.1.last (t := t) hbs ha.out (by rw [hds]; exact Q1.out) (by rw [hds]; exact Q2.out); rw [s2, hds] at this; exact this, perm_up HE.out.2 Q1.out (Nat.le_refl _) rfl⟩)⟩
              · have hmz : ¬ (a : Int) + (bs : Int) < (d.size : Int) := by omega
                go_wp2
                go_roundg (d.size - 2 * bs)
                case measure => omega
                case rel => exact ⟨2 * bs, dk, by first | go_num | (congr 1; omega), by omega, by omega, by omega, by omega, S1, (show Hid _ from ⟨by have := HE.out.1.short (t := t) hbs ha.out (by omega); rw [hds] at this; exact this, HE.out.2⟩)⟩
        · have hbz : ¬ (bs : Int) < (d.size : Int) := by omega
          go_wp2
          go_end0
          refine ⟨rfl, dk, S1.out, HE.out.2, ?_⟩
          have := HE.out.1
          rw [← hds] at this ⊢
          exact this.all (by omega)
set_option maxRecDepth 1000000 in
theorem sortStable_c {k : Nat} (L : SL P k) (f_top : P.funcs[21]? = some Tryz.f21) (enc : α → List Value) (cf : α → α → Int) (hO : SWO (ltOf cf)) (g : Nat) (cb : Array Value) (blk off cap : Nat) (d : Array α) (w : World)
    (eg : ∀ args w, (callFunc g args).run P w = .ok (.enter g args) w) (hcmp : CmpLays P g cb enc k cf blk off d.size w) (R : RowK enc k w blk off d) (hsz : d.size ≤ 1000000)
    (hins : ∀ (a b : Nat) (dk : Array α) (wr : World), dk.size = d.size → SWK enc k w blk off dk wr → a ≤ b → b ≤ d.size → Calls P 57 #[.slice (some ⟨blk, off, none⟩) d.size cap, .int .i64 a, .int .i64 b, .func (.func g) #[] cb] wr (InsPost enc k w blk off a b cf dk)) :
    Calls P 21 #[.slice (some ⟨blk, off, none⟩) d.size cap, .func (.func g) #[] cb] w (SymPost enc k w blk off 0 d.size cf d) := by
  have mixed := L.mixed; have t0 := L.t0; have a0 := L.a0; have z0 := L.z0; have v0 := L.v0; have t3 := L.t3; have a3 := L.a3; have z3 := L.z3; have v3 := L.v3; have t4 := L.t4; have a4 := L.a4; have z4 := L.z4; have v4 := L.v4; have tu := L.tu; have au := L.au; have zu := L.zu; have vu := L.vu; have t22 := L.t22; have a22 := L.a22; have z22 := L.z22; have v22 := L.v22; have t25 := L.t25; have a25 := L.a25; have z25 := L.z25; have v25 := L.v25; have aE := L.aE; have zE := L.zE; have u22 := run_underlying L.t22
  have e_stab := L.e_stab
  have hc := Lib.hid (stable_c L enc cf hO g cb blk off cap d d w w eg hcmp R rfl (SWK.start R.hH) hsz hins)
  clear hcmp hins hO
  go_enter f_top, Tryz.ntmps21
  go_wp2_with (go_at_fn 41; refine hc.out.mono ?_; rintro e w2 ⟨rfl, hp⟩)
  go_end0
  exact ⟨rfl, hp⟩
end Go.Proofs.YtkjommcmeinkaaaGreatDoor
