/- sort.Search at a function value that only computes. Condition: from some place r on it answers true, and before it false. -/
import Derived.Test.YtgkobjpoeajkdaaGreatMem
import Derived.Shelf.Abstract
namespace Go.Proofs.YtgkobjpoeajkdaaGreat
open Go.RowKit
/-- the function value computes p at the places below n, in every world that keeps all that lies in w -/
def PredI (g : FuncId) (lb : Array Value) (n : Nat) (p : Nat → Bool) (w : World) : Prop :=
  ∀ (i : Nat) (W : World), i < n → Below w.heap.size w W → Calls Tryz.prog g (#[.int .i64 i] ++ lb) W fun e w' => e = .returned (.bool (p i)) ∧ Below W.heap.size W w'
set_option maxRecDepth 100000 in
theorem search_c (g : FuncId) (lb : Array Value) (n r : Nat) (p : Nat → Bool) (w : World) (hn : n ≤ 1000000000)
    (eg : ∀ args w, (callFunc g args).run Tryz.prog w = .ok (.enter g args) w) (hp : PredI g lb n p w) (hr : r ≤ n) (hlo : ∀ i, i < r → p i = false) (hhi : ∀ i, r ≤ i → i < n → p i = true) :
    Calls Tryz.prog 168 #[.int .i64 n, .func (.func g) #[] lb] w fun e w' => e = .returned (.int .i64 r) ∧ Below w.heap.size w w' := by
  have Hlo := Lib.hid hlo; clear hlo
  have Hhi := Lib.hid hhi; clear hhi
  have HP := Lib.hid hp; clear hp
  go_enter Tryz.func168, Tryz.ntmps168
  go_wp2_with fail
  go_loopw [5, 6] (fun i j wr => ∃ a b : Nat, a ≤ r ∧ r ≤ b ∧ b ≤ n ∧ i = .int .i64 a ∧ j = .int .i64 b ∧ Below w.heap.size w wr) (fun i j _ => (intOf j).toNat - (intOf i).toNat)
  case atStart => exact ⟨0, n, Nat.zero_le _, hr, Nat.le_refl _, rfl, rfl, Below.refl _ _⟩
  case round =>
    obtain ⟨a, b, ha, hrb, hbn, rfl, rfl, hb⟩ := hrel
    by_cases hlt : a < b
    · have hlt' : (a : Int) < b := by omega
      obtain ⟨h, hh⟩ : ∃ h : Nat, h = (a + b) / 2 := ⟨_, rfl⟩
      have hcast : ((a : Int) + b) / 2 = (h : Int) := by omega
      have h1 : a ≤ h := by omega
      have h2 : h < b := by omega
      have Hh := Lib.hid hh; clear hh
      have Hcast := Lib.hid hcast; clear hcast
      have hcall := HP.out h wr (by omega) hb
      by_cases hrh : r ≤ h
      · rw [Hhi.out h hrh (by omega)] at hcall
        have H := Lib.hid hcall; clear hcall
        go_wp2_with fail
        rw [Hcast.out]
        refine H.out.mono ?_; rintro e w1 ⟨rfl, hb1⟩
        go_wp2
        go_roundw
        case rel => exact ⟨a, h, ha, hrh, by omega, rfl, rfl, hb.trans (hb1.mono hb.size)⟩
        case measure => simp [intOf]; omega
      · rw [Hlo.out h (by omega)] at hcall
        have H := Lib.hid hcall; clear hcall
        go_wp2_with fail
        rw [Hcast.out]
        refine H.out.mono ?_; rintro e w1 ⟨rfl, hb1⟩
        go_wp2
        go_roundw
        case rel => exact ⟨h + 1, b, by omega, hrb, hbn, by go_num, rfl, hb.trans (hb1.mono hb.size)⟩
        case measure => simp [intOf]; omega
    · have : a = b := by omega
      subst this
      have : a = r := by omega
      subst this
      go_wp2
      go_ret
      exact ⟨rfl, hb⟩
end Go.Proofs.YtgkobjpoeajkdaaGreat
