/- The stable sort's family of Go's library at elements of k cells: swapRange, rotate. Over any program that holds these bodies; the condition is what the callers of the family give. -/
import Derived.Test.YtkjommcmeinkaaaGreatDoorProg
import Derived.Test.YtkjommcmeinkaaaGreatDoorStabP
import Derived.Shelf.SlSortCmp.KitK
import Derived.Sort.WalkB2
import Derived.Sort.WalkB12
import Derived.Deep.LoopGhost
import Derived.Lib.Hide
namespace Go.Proofs.YtkjommcmeinkaaaGreatDoor
open Go.Shelf Go.RowKit Go.Lib Go.Sort
variable {P : Program} {α : Type} [Inhabited α]
/-- what the family's bodies ask of the program -/
structure SL (P : Program) (k : Nat) : Prop where
  mixed : P.follows .mixedOrders = true
  f_swap : P.funcs[79]? = some Tryz.f79
  f_rot : P.funcs[69]? = some Tryz.f69
  f_sym : P.funcs[58]? = some Tryz.f58
  f_stab : P.funcs[41]? = some Tryz.f41
  e_swap : ∀ args w, (callFunc 79 args).run P w = .ok (.enter 79 args) w
  e_rot : ∀ args w, (callFunc 69 args).run P w = .ok (.enter 69 args) w
  e_sym : ∀ args w, (callFunc 58 args).run P w = .ok (.enter 58 args) w
  e_stab : ∀ args w, (callFunc 41 args).run P w = .ok (.enter 41 args) w
  e_ins : ∀ args w, (callFunc 57 args).run P w = .ok (.enter 57 args) w
  t0 : P.underlying 0 = some (TypeDesc.tuple #[])
  a0 : ∀ w, (isAgg 0).run P w = .ok false w
  z0 : ∀ w, (Go.sizeOf 0).run P w = .ok 1 w
  v0 : ∀ w, (zeroValue 0).run P w = .ok (Value.tuple #[]) w
  t3 : P.underlying 3 = some (TypeDesc.int IntKind.i64)
  a3 : ∀ w, (isAgg 3).run P w = .ok false w
  z3 : ∀ w, (Go.sizeOf 3).run P w = .ok 1 w
  v3 : ∀ w, (zeroValue 3).run P w = .ok (Value.int IntKind.i64 0) w
  t4 : P.underlying 4 = some (TypeDesc.bool)
  a4 : ∀ w, (isAgg 4).run P w = .ok false w
  z4 : ∀ w, (Go.sizeOf 4).run P w = .ok 1 w
  v4 : ∀ w, (zeroValue 4).run P w = .ok (Value.bool false) w
  tu : P.underlying 92 = some (TypeDesc.int IntKind.u64)
  au : ∀ w, (isAgg 92).run P w = .ok false w
  zu : ∀ w, (Go.sizeOf 92).run P w = .ok 1 w
  vu : ∀ w, (zeroValue 92).run P w = .ok (Value.int IntKind.u64 0) w
  t22 : P.underlying 24 = some (TypeDesc.slice 35)
  a22 : ∀ w, (isAgg 24).run P w = .ok false w
  z22 : ∀ w, (Go.sizeOf 24).run P w = .ok 1 w
  v22 : ∀ w, (zeroValue 24).run P w = .ok (Value.slice none 0 0) w
  t25 : P.underlying 46 = some (TypeDesc.func #[35, 35] #[3] false)
  a25 : ∀ w, (isAgg 46).run P w = .ok false w
  z25 : ∀ w, (Go.sizeOf 46).run P w = .ok 1 w
  v25 : ∀ w, (zeroValue 46).run P w = .ok (Value.nilFunc) w
  aE : ∀ w, (isAgg 35).run P w = .ok true w
  zE : ∀ w, (Go.sizeOf 35).run P w = .ok k w
set_option maxHeartbeats 4000000 in
set_option maxRecDepth 1000000 in
theorem swapRange_c {k : Nat} (L : SL P k) (enc : α → List Value) (fv : Value) (blk off cap a b n : Nat) (d0 d : Array α) (w0 w : World)
    (R : RowK enc k w0 blk off d0) (hs : d0.size = d.size) (S : SWK enc k w0 blk off d w) (hab : a + n ≤ b) (hb : b + n ≤ d.size) (hsz : d.size < 4611686018427387904) :
    Calls P 79 #[.slice (some ⟨blk, off, none⟩) d.size cap, .int .i64 a, .int .i64 b, .int .i64 n, fv] w fun e w' =>
      e = .returned (.tuple #[]) ∧ ∃ d', SwR a b n d d' ∧ SWK enc k w0 blk off d' w' := by
  have mixed := L.mixed; have t0 := L.t0; have a0 := L.a0; have z0 := L.z0; have v0 := L.v0; have t3 := L.t3; have a3 := L.a3; have z3 := L.z3; have v3 := L.v3; have t4 := L.t4; have a4 := L.a4; have z4 := L.z4; have v4 := L.v4; have tu := L.tu; have au := L.au; have zu := L.zu; have vu := L.vu; have t22 := L.t22; have a22 := L.a22; have z22 := L.z22; have v22 := L.v22; have t25 := L.t25; have a25 := L.a25; have z25 := L.z25; have v25 := L.v25; have aE := L.aE; have zE := L.zE; have u22 := run_underlying L.t22
  have S0 : Aside _ := S
  clear S
  go_enter L.f_swap, Tryz.ntmps79
  go_wp2
  go_loopg [10] n (fun gx s10 wr => ∃ (i : Nat) (dk : Array α), s10 = .int .i64 i ∧ i ≤ n ∧ n - i ≤ gx ∧ dk.size = d.size ∧ Aside (SWK enc k w0 blk off dk wr) ∧ Hid (SwR a b i d dk))
  case atStart => exact ⟨0, d, rfl, Nat.zero_le _, Nat.le_refl _, rfl, S0, SwR.nil_ a b d⟩
  case round =>
    obtain ⟨i, dk, rfl, hi, hgx, hds, S1, HE⟩ := hrel
    clear S0
    by_cases hlt : i < n
    · have hltz : (i : Int) < (n : Int) := by omega
      have ea1 : ((a : Int) + (i : Int)).toNat = a + i := by omega
      have pa1 : (0 : Int) ≤ (a : Int) + (i : Int) := by omega
      have ba1 : (a : Int) + (i : Int) < (d.size : Int) := by omega
      have ra1 : IntKind.i64.wrap ((a : Int) + (i : Int)) = (a : Int) + (i : Int) := by rw [IntKind.wrap_i64]; omega
      have ec1 : ((b : Int) + (i : Int)).toNat = b + i := by omega
      have pc1 : (0 : Int) ≤ (b : Int) + (i : Int) := by omega
      have bc1 : (b : Int) + (i : Int) < (d.size : Int) := by omega
      have rc1 : IntKind.i64.wrap ((b : Int) + (i : Int)) = (b : Int) + (i : Int) := by rw [IntKind.wrap_i64]; omega
      have S2 : Aside (SWK enc k w0 blk off (swp dk (a + i) (b + i)) ((wr.drew.setCells blk (off + (a + i) * k) (enc dk[b + i]!)).setCells blk (off + (b + i) * k) (enc dk[a + i]!))) := S1.out.swapped R (a + i) (b + i) (by omega) (by omega)
      have l1a := S1.out.ld1 R (by omega) P (a + i) (by omega)
      have l1b := S1.out.ld1 R (by omega) P (b + i) (by omega)
      have s1a := S1.out.st1 R (by omega) P (a + i) (by omega) dk[b + i]!
      have s1b := S1.out.st2 R (by omega) P (a + i) (b + i) (by omega) (by omega) dk[b + i]! dk[a + i]!
      have n1a : (enc dk[a + i]!).length = k := R.hk _
      have n1b : (enc dk[b + i]!).length = k := R.hk _
      generalize enc dk[a + i]! = cI1 at S2 l1a s1b n1a
      generalize enc dk[b + i]! = cJ1 at S2 l1b s1a s1b n1b
      clear S1
      go_wp2_with fail
      go_big_region_o
      clear l1a l1b s1a s1b
      generalize (wr.drew.setCells blk (off + (a + i) * k) cJ1).setCells blk (off + (b + i) * k) cI1 = w2 at S2 ⊢
      go_wp2
      go_roundg (n - (i + 1))
      case measure => omega
      case rel => exact ⟨i + 1, swp dk (a + i) (b + i), by go_num, by omega, Nat.le_refl _, by rw [size_swp]; exact hds, S2, (show Hid _ from HE.out.step hab hb hlt)⟩
    · have hltz : ¬ (i : Int) < (n : Int) := by omega
      have : i = n := by omega
      subst this
      go_wp2
      go_end0
      exact ⟨rfl, dk, HE.out, S1.out⟩

set_option maxHeartbeats 4000000 in
set_option maxRecDepth 1000000 in
theorem rotate_c {k : Nat} (L : SL P k) (enc : α → List Value) (fv : Value) (blk off cap a m b : Nat) (d0 d : Array α) (w0 w : World)
    (R : RowK enc k w0 blk off d0) (hs : d0.size = d.size) (S : SWK enc k w0 blk off d w) (ham : a < m) (hmb : m < b) (hb : b ≤ d.size) (hsz : d.size < 4611686018427387904) :
    Calls P 69 #[.slice (some ⟨blk, off, none⟩) d.size cap, .int .i64 a, .int .i64 m, .int .i64 b, fv] w fun e w' =>
      e = .returned (.tuple #[]) ∧ ∃ d', Rot a m b d d' ∧ SWK enc k w0 blk off d' w' := by
  have mixed := L.mixed; have t0 := L.t0; have a0 := L.a0; have z0 := L.z0; have v0 := L.v0; have t3 := L.t3; have a3 := L.a3; have z3 := L.z3; have v3 := L.v3; have t4 := L.t4; have a4 := L.a4; have z4 := L.z4; have v4 := L.v4; have tu := L.tu; have au := L.au; have zu := L.zu; have vu := L.vu; have t22 := L.t22; have a22 := L.a22; have z22 := L.z22; have v22 := L.v22; have t25 := L.t25; have a25 := L.a25; have z25 := L.z25; have v25 := L.v25; have aE := L.aE; have zE := L.zE; have u22 := run_underlying L.t22
  have e_swap := L.e_swap
  have S0 : Aside _ := S
  clear S
  have q1 : IntKind.i64.wrap ((m : Int) - (a : Int)) = ((m - a : Nat) : Int) := by rw [IntKind.wrap_i64]; omega
  have q2 : IntKind.i64.wrap ((b : Int) - (m : Int)) = ((b - m : Nat) : Int) := by rw [IntKind.wrap_i64]; omega
  have HS := fun (dk : Array α) (wr : World) (h : dk.size = d.size) (S : SWK enc k w0 blk off dk wr) (x y n : Nat) (h1 : x + n ≤ y) (h2 : y + n ≤ dk.size) => Lib.hid (h ▸ swapRange_c L enc fv blk off cap x y n d0 dk w0 wr R (by omega) S h1 h2 (by omega) : Calls P 79 #[.slice (some ⟨blk, off, none⟩) d.size cap, .int .i64 x, .int .i64 y, .int .i64 n, fv] wr fun e w' => e = .returned (.tuple #[]) ∧ ∃ d', SwR x y n dk d' ∧ SWK enc k w0 blk off d' w')
  go_enter L.f_rot, Tryz.ntmps69
  go_wp2
  go_loopg [10, 11] (m - a + (b - m)) (fun gx s10 s11 wr => ∃ (i j : Nat) (dk : Array α), s10 = .int .i64 i ∧ s11 = .int .i64 j ∧ 1 ≤ i ∧ i ≤ m - a ∧ 1 ≤ j ∧ j ≤ b - m ∧ i + j ≤ gx ∧ dk.size = d.size ∧ Aside (SWK enc k w0 blk off dk wr) ∧ Hid (Left a m b i j d dk))
  case atStart => exact ⟨m - a, b - m, d, by first | rfl | (congr 1; omega), by first | rfl | (congr 1; omega), by omega, by omega, by omega, by omega, by omega, rfl, S0, Left.start (by omega) (by omega) d⟩
  case round =>
    obtain ⟨i, j, dk, rfl, rfl, hi1, hi, hj1, hj, hgx, hds, S1, HE⟩ := hrel
    clear S0 q1 q2
    by_cases hij : i = j
    · subst hij
      have hne : ((i : Int) != (i : Int)) = false := by simp
      have hc := HS dk wr hds S1.out (m - i) m i (by omega) (by omega)
      have q3 : (m : Int) - (i : Int) = ((m - i : Nat) : Int) := by omega
      have Q3 := Lib.hid q3
      clear q3
      go_wp2_with (go_at_fn 79; rw [Q3.out]; refine hc.out.mono ?_; rintro e w2 ⟨rfl, d2, hsw, S2⟩)
      go_end0
      exact ⟨rfl, d2, HE.out.done hb hi (by omega) (by omega) hsw, S2⟩
    · have hne : ((i : Int) != (j : Int)) = true := by simp; omega
      by_cases hlt : j < i
      · have hltz : (j : Int) < (i : Int) := by omega
        have hc := HS dk wr hds S1.out (m - i) m j (by omega) (by omega)
        have q3 : (m : Int) - (i : Int) = ((m - i : Nat) : Int) := by omega
        have Q3 := Lib.hid q3
        clear q3 S1
        go_wp2_with (go_at_fn 79; rw [Q3.out]; refine hc.out.mono ?_; rintro e w2 ⟨rfl, d2, hsw, S2⟩; have S2 : Aside _ := S2; have hsw := Lib.hid hsw)
        go_roundg (i - j + j)
        case measure => omega
        case rel => exact ⟨i - j, j, d2, by first | go_num | (congr 1; omega), rfl, by omega, by omega, by omega, by omega, Nat.le_refl _, by have := hsw.out.1.1; omega, S2, (show Hid _ from HE.out.more (by omega) hi (by omega) (by omega) hlt hsw.out)⟩
      · have hltz : ¬ (j : Int) < (i : Int) := by omega
        have hc := HS dk wr hds S1.out (m - i) (m + j - i) i (by omega) (by omega)
        have q3 : (m : Int) - (i : Int) = ((m - i : Nat) : Int) := by omega
        have q4 : (m : Int) + (j : Int) - (i : Int) = ((m + j - i : Nat) : Int) := by omega
        have Q3 := Lib.hid q3
        have Q4 := Lib.hid q4
        clear q3 q4 S1
        go_wp2_with (go_at_fn 79; rw [Q4.out, Q3.out]; refine hc.out.mono ?_; rintro e w2 ⟨rfl, d2, hsw, S2⟩; have S2 : Aside _ := S2; have hsw := Lib.hid hsw)
        go_roundg (i + (j - i))
        case measure => omega
        case rel => exact ⟨i, j - i, d2, rfl, by first | go_num | (congr 1; omega), by omega, by omega, by omega, by omega, Nat.le_refl _, by have := hsw.out.1.1; omega, S2, (show Hid _ from HE.out.less (by omega) hi (by omega) (by omega) (by omega) hsw.out)⟩
end Go.Proofs.YtkjommcmeinkaaaGreatDoor
