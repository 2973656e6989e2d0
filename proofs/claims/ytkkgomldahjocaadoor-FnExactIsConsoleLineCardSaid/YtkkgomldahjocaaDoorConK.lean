/- The console's commands and how they are built, both sides. No condition of their own. -/
import Derived.Test.YtkkgomldahjocaaDoorStrN5
namespace Go.Proofs.YtkkgomldahjocaaDoor
open Go.RowKit
set_option linter.unusedSimpArgs false
theorem bs_lit (x l : List UInt8) : ((bs x).toList == l) = decide (x = l) := by
  rw [ByteArray.toList_eq, bs_data]
  by_cases h : x = l
  · subst h; simp
  · rw [decide_eq_false h]; simpa using h
def conTab : List (List UInt8 × List UInt8) := [([114, 117, 108, 101], [84, 84, 84]), ([101, 114, 114, 111, 114, 115], [73, 73, 73]), ([99, 104, 97, 105, 110], [84]), ([108, 111, 103], [84]), ([114, 111, 111, 116], [84]), ([99, 104, 97, 114, 116], [84, 73, 73, 73]), ([112, 108, 97, 110], []), ([114, 101, 115, 117, 108, 116], []), ([115, 112, 97, 110], []), ([98, 111, 117, 110, 100], []), ([116, 105, 109, 101, 115], [84, 84]), ([111, 118, 101, 114], [84, 84]), ([114, 101, 97, 100], [84, 73, 73]), ([108, 105, 110, 101], [84, 84, 73]), ([115, 97, 102, 101], [73])]
def kindOf (x : List UInt8) : Option (List UInt8) := (conTab.find? fun p => p.1 == x).map (·.2)
theorem kindOf_mem {x sh : List UInt8} (h : kindOf x = some sh) : ∃ p ∈ conTab, p.2 = sh := by
  unfold kindOf at h
  cases hf : conTab.find? fun p => p.1 == x with
  | none => rw [hf] at h; cases h
  | some p =>
    rw [hf] at h
    exact ⟨p, List.mem_of_find?_eq_some hf, by simpa using h⟩
theorem conTab_ok : ∀ p ∈ conTab, p.2.length ≤ 4 ∧ (∀ c ∈ p.2, c = 84 ∨ c = 73) ∧ p.2 ≠ [45] := by decide
theorem kindOf_ok {x sh : List UInt8} (h : kindOf x = some sh) : sh.length ≤ 4 ∧ (∀ c ∈ sh, c = 84 ∨ c = 73) ∧ sh ≠ [45] := by
  obtain ⟨p, hp, rfl⟩ := kindOf_mem h
  exact conTab_ok p hp
theorem kindOf_none {x : List UInt8} (h : ∀ p ∈ conTab, p.1 ≠ x) : kindOf x = none := by
  unfold kindOf
  rw [List.find?_eq_none.2 (fun p hp => by simpa using h p hp)]
  rfl
set_option maxRecDepth 100000 in
set_option maxHeartbeats 4000000 in
theorem commandShape_c (x : List UInt8) (w : World) : Calls Tryd.prog 47 #[.string (bs x)] w fun e w' => e = .returned (.tuple #[.string (bs ((kindOf x).getD [])), .bool (kindOf x).isSome]) ∧ w = w' := by
  have f0 : ((bs x).toList == ([114, 117, 108, 101] : List UInt8)) = decide (x = [114, 117, 108, 101]) := bs_lit x [114, 117, 108, 101]
  have f1 : ((bs x).toList == ([101, 114, 114, 111, 114, 115] : List UInt8)) = decide (x = [101, 114, 114, 111, 114, 115]) := bs_lit x [101, 114, 114, 111, 114, 115]
  have f2 : ((bs x).toList == ([99, 104, 97, 105, 110] : List UInt8)) = decide (x = [99, 104, 97, 105, 110]) := bs_lit x [99, 104, 97, 105, 110]
  have f3 : ((bs x).toList == ([108, 111, 103] : List UInt8)) = decide (x = [108, 111, 103]) := bs_lit x [108, 111, 103]
  have f4 : ((bs x).toList == ([114, 111, 111, 116] : List UInt8)) = decide (x = [114, 111, 111, 116]) := bs_lit x [114, 111, 111, 116]
  have f5 : ((bs x).toList == ([99, 104, 97, 114, 116] : List UInt8)) = decide (x = [99, 104, 97, 114, 116]) := bs_lit x [99, 104, 97, 114, 116]
  have f6 : ((bs x).toList == ([112, 108, 97, 110] : List UInt8)) = decide (x = [112, 108, 97, 110]) := bs_lit x [112, 108, 97, 110]
  have f7 : ((bs x).toList == ([114, 101, 115, 117, 108, 116] : List UInt8)) = decide (x = [114, 101, 115, 117, 108, 116]) := bs_lit x [114, 101, 115, 117, 108, 116]
  have f8 : ((bs x).toList == ([115, 112, 97, 110] : List UInt8)) = decide (x = [115, 112, 97, 110]) := bs_lit x [115, 112, 97, 110]
  have f9 : ((bs x).toList == ([98, 111, 117, 110, 100] : List UInt8)) = decide (x = [98, 111, 117, 110, 100]) := bs_lit x [98, 111, 117, 110, 100]
  have f10 : ((bs x).toList == ([116, 105, 109, 101, 115] : List UInt8)) = decide (x = [116, 105, 109, 101, 115]) := bs_lit x [116, 105, 109, 101, 115]
  have f11 : ((bs x).toList == ([111, 118, 101, 114] : List UInt8)) = decide (x = [111, 118, 101, 114]) := bs_lit x [111, 118, 101, 114]
  have f12 : ((bs x).toList == ([114, 101, 97, 100] : List UInt8)) = decide (x = [114, 101, 97, 100]) := bs_lit x [114, 101, 97, 100]
  have f13 : ((bs x).toList == ([108, 105, 110, 101] : List UInt8)) = decide (x = [108, 105, 110, 101]) := bs_lit x [108, 105, 110, 101]
  have f14 : ((bs x).toList == ([115, 97, 102, 101] : List UInt8)) = decide (x = [115, 97, 102, 101]) := bs_lit x [115, 97, 102, 101]
  by_cases h0 : x = [114, 117, 108, 101]
  · have hk : kindOf x = some [84, 84, 84] := by rw [h0]; rfl
    rw [hk]
    rw [decide_eq_true h0] at f0
    rw [decide_eq_false (by rw [h0]; decide)] at f1
    rw [decide_eq_false (by rw [h0]; decide)] at f2
    rw [decide_eq_false (by rw [h0]; decide)] at f3
    rw [decide_eq_false (by rw [h0]; decide)] at f4
    rw [decide_eq_false (by rw [h0]; decide)] at f5
    rw [decide_eq_false (by rw [h0]; decide)] at f6
    rw [decide_eq_false (by rw [h0]; decide)] at f7
    rw [decide_eq_false (by rw [h0]; decide)] at f8
    rw [decide_eq_false (by rw [h0]; decide)] at f9
    rw [decide_eq_false (by rw [h0]; decide)] at f10
    rw [decide_eq_false (by rw [h0]; decide)] at f11
    rw [decide_eq_false (by rw [h0]; decide)] at f12
    rw [decide_eq_false (by rw [h0]; decide)] at f13
    rw [decide_eq_false (by rw [h0]; decide)] at f14
    have hr : Hid (bs ((some ([84, 84, 84] : List UInt8)).getD []) = ⟨#[84, 84, 84]⟩) := Lib.hid rfl
    generalize bs ((some ([84, 84, 84] : List UInt8)).getD []) = R at *
    generalize bs x = X at *
    clear hk h0
    go_enter Tryd.func47, Tryd.ntmps47
    go_wp2
    go_ret2
    exact ⟨by rw [hr.out]; rfl, rfl⟩
  by_cases h1 : x = [101, 114, 114, 111, 114, 115]
  · have hk : kindOf x = some [73, 73, 73] := by rw [h1]; rfl
    rw [hk]
    rw [decide_eq_false (by rw [h1]; decide)] at f0
    rw [decide_eq_true h1] at f1
    rw [decide_eq_false (by rw [h1]; decide)] at f2
    rw [decide_eq_false (by rw [h1]; decide)] at f3
    rw [decide_eq_false (by rw [h1]; decide)] at f4
    rw [decide_eq_false (by rw [h1]; decide)] at f5
    rw [decide_eq_false (by rw [h1]; decide)] at f6
    rw [decide_eq_false (by rw [h1]; decide)] at f7
    rw [decide_eq_false (by rw [h1]; decide)] at f8
    rw [decide_eq_false (by rw [h1]; decide)] at f9
    rw [decide_eq_false (by rw [h1]; decide)] at f10
    rw [decide_eq_false (by rw [h1]; decide)] at f11
    rw [decide_eq_false (by rw [h1]; decide)] at f12
    rw [decide_eq_false (by rw [h1]; decide)] at f13
    rw [decide_eq_false (by rw [h1]; decide)] at f14
    have hr : Hid (bs ((some ([73, 73, 73] : List UInt8)).getD []) = ⟨#[73, 73, 73]⟩) := Lib.hid rfl
    generalize bs ((some ([73, 73, 73] : List UInt8)).getD []) = R at *
    generalize bs x = X at *
    clear hk h0 h1
    go_enter Tryd.func47, Tryd.ntmps47
    go_wp2
    go_ret2
    exact ⟨by rw [hr.out]; rfl, rfl⟩
  by_cases h2 : x = [99, 104, 97, 105, 110]
  · have hk : kindOf x = some [84] := by rw [h2]; rfl
    rw [hk]
    rw [decide_eq_false (by rw [h2]; decide)] at f0
    rw [decide_eq_false (by rw [h2]; decide)] at f1
    rw [decide_eq_true h2] at f2
    rw [decide_eq_false (by rw [h2]; decide)] at f3
    rw [decide_eq_false (by rw [h2]; decide)] at f4
    rw [decide_eq_false (by rw [h2]; decide)] at f5
    rw [decide_eq_false (by rw [h2]; decide)] at f6
    rw [decide_eq_false (by rw [h2]; decide)] at f7
    rw [decide_eq_false (by rw [h2]; decide)] at f8
    rw [decide_eq_false (by rw [h2]; decide)] at f9
    rw [decide_eq_false (by rw [h2]; decide)] at f10
    rw [decide_eq_false (by rw [h2]; decide)] at f11
    rw [decide_eq_false (by rw [h2]; decide)] at f12
    rw [decide_eq_false (by rw [h2]; decide)] at f13
    rw [decide_eq_false (by rw [h2]; decide)] at f14
    have hr : Hid (bs ((some ([84] : List UInt8)).getD []) = ⟨#[84]⟩) := Lib.hid rfl
    generalize bs ((some ([84] : List UInt8)).getD []) = R at *
    generalize bs x = X at *
    clear hk h0 h1 h2
    go_enter Tryd.func47, Tryd.ntmps47
    go_wp2
    go_ret2
    exact ⟨by rw [hr.out]; rfl, rfl⟩
  by_cases h3 : x = [108, 111, 103]
  · have hk : kindOf x = some [84] := by rw [h3]; rfl
    rw [hk]
    rw [decide_eq_false (by rw [h3]; decide)] at f0
    rw [decide_eq_false (by rw [h3]; decide)] at f1
    rw [decide_eq_false (by rw [h3]; decide)] at f2
    rw [decide_eq_true h3] at f3
    rw [decide_eq_false (by rw [h3]; decide)] at f4
    rw [decide_eq_false (by rw [h3]; decide)] at f5
    rw [decide_eq_false (by rw [h3]; decide)] at f6
    rw [decide_eq_false (by rw [h3]; decide)] at f7
    rw [decide_eq_false (by rw [h3]; decide)] at f8
    rw [decide_eq_false (by rw [h3]; decide)] at f9
    rw [decide_eq_false (by rw [h3]; decide)] at f10
    rw [decide_eq_false (by rw [h3]; decide)] at f11
    rw [decide_eq_false (by rw [h3]; decide)] at f12
    rw [decide_eq_false (by rw [h3]; decide)] at f13
    rw [decide_eq_false (by rw [h3]; decide)] at f14
    have hr : Hid (bs ((some ([84] : List UInt8)).getD []) = ⟨#[84]⟩) := Lib.hid rfl
    generalize bs ((some ([84] : List UInt8)).getD []) = R at *
    generalize bs x = X at *
    clear hk h0 h1 h2 h3
    go_enter Tryd.func47, Tryd.ntmps47
    go_wp2
    go_ret2
    exact ⟨by rw [hr.out]; rfl, rfl⟩
  by_cases h4 : x = [114, 111, 111, 116]
  · have hk : kindOf x = some [84] := by rw [h4]; rfl
    rw [hk]
    rw [decide_eq_false (by rw [h4]; decide)] at f0
    rw [decide_eq_false (by rw [h4]; decide)] at f1
    rw [decide_eq_false (by rw [h4]; decide)] at f2
    rw [decide_eq_false (by rw [h4]; decide)] at f3
    rw [decide_eq_true h4] at f4
    rw [decide_eq_false (by rw [h4]; decide)] at f5
    rw [decide_eq_false (by rw [h4]; decide)] at f6
    rw [decide_eq_false (by rw [h4]; decide)] at f7
    rw [decide_eq_false (by rw [h4]; decide)] at f8
    rw [decide_eq_false (by rw [h4]; decide)] at f9
    rw [decide_eq_false (by rw [h4]; decide)] at f10
    rw [decide_eq_false (by rw [h4]; decide)] at f11
    rw [decide_eq_false (by rw [h4]; decide)] at f12
    rw [decide_eq_false (by rw [h4]; decide)] at f13
    rw [decide_eq_false (by rw [h4]; decide)] at f14
    have hr : Hid (bs ((some ([84] : List UInt8)).getD []) = ⟨#[84]⟩) := Lib.hid rfl
    generalize bs ((some ([84] : List UInt8)).getD []) = R at *
    generalize bs x = X at *
    clear hk h0 h1 h2 h3 h4
    go_enter Tryd.func47, Tryd.ntmps47
    go_wp2
    go_ret2
    exact ⟨by rw [hr.out]; rfl, rfl⟩
  by_cases h5 : x = [99, 104, 97, 114, 116]
  · have hk : kindOf x = some [84, 73, 73, 73] := by rw [h5]; rfl
    rw [hk]
    rw [decide_eq_false (by rw [h5]; decide)] at f0
    rw [decide_eq_false (by rw [h5]; decide)] at f1
    rw [decide_eq_false (by rw [h5]; decide)] at f2
    rw [decide_eq_false (by rw [h5]; decide)] at f3
    rw [decide_eq_false (by rw [h5]; decide)] at f4
    rw [decide_eq_true h5] at f5
    rw [decide_eq_false (by rw [h5]; decide)] at f6
    rw [decide_eq_false (by rw [h5]; decide)] at f7
    rw [decide_eq_false (by rw [h5]; decide)] at f8
    rw [decide_eq_false (by rw [h5]; decide)] at f9
    rw [decide_eq_false (by rw [h5]; decide)] at f10
    rw [decide_eq_false (by rw [h5]; decide)] at f11
    rw [decide_eq_false (by rw [h5]; decide)] at f12
    rw [decide_eq_false (by rw [h5]; decide)] at f13
    rw [decide_eq_false (by rw [h5]; decide)] at f14
    have hr : Hid (bs ((some ([84, 73, 73, 73] : List UInt8)).getD []) = ⟨#[84, 73, 73, 73]⟩) := Lib.hid rfl
    generalize bs ((some ([84, 73, 73, 73] : List UInt8)).getD []) = R at *
    generalize bs x = X at *
    clear hk h0 h1 h2 h3 h4 h5
    go_enter Tryd.func47, Tryd.ntmps47
    go_wp2
    go_ret2
    exact ⟨by rw [hr.out]; rfl, rfl⟩
  by_cases h6 : x = [112, 108, 97, 110]
  · have hk : kindOf x = some [] := by rw [h6]; rfl
    rw [hk]
    rw [decide_eq_false (by rw [h6]; decide)] at f0
    rw [decide_eq_false (by rw [h6]; decide)] at f1
    rw [decide_eq_false (by rw [h6]; decide)] at f2
    rw [decide_eq_false (by rw [h6]; decide)] at f3
    rw [decide_eq_false (by rw [h6]; decide)] at f4
    rw [decide_eq_false (by rw [h6]; decide)] at f5
    rw [decide_eq_true h6] at f6
    rw [decide_eq_false (by rw [h6]; decide)] at f7
    rw [decide_eq_false (by rw [h6]; decide)] at f8
    rw [decide_eq_false (by rw [h6]; decide)] at f9
    rw [decide_eq_false (by rw [h6]; decide)] at f10
    rw [decide_eq_false (by rw [h6]; decide)] at f11
    rw [decide_eq_false (by rw [h6]; decide)] at f12
    rw [decide_eq_false (by rw [h6]; decide)] at f13
    rw [decide_eq_false (by rw [h6]; decide)] at f14
    have hr : Hid (bs ((some ([] : List UInt8)).getD []) = ⟨#[]⟩) := Lib.hid rfl
    generalize bs ((some ([] : List UInt8)).getD []) = R at *
    generalize bs x = X at *
    clear hk h0 h1 h2 h3 h4 h5 h6
    go_enter Tryd.func47, Tryd.ntmps47
    go_wp2
    go_ret2
    exact ⟨by rw [hr.out]; rfl, rfl⟩
  by_cases h7 : x = [114, 101, 115, 117, 108, 116]
  · have hk : kindOf x = some [] := by rw [h7]; rfl
    rw [hk]
    rw [decide_eq_false (by rw [h7]; decide)] at f0
    rw [decide_eq_false (by rw [h7]; decide)] at f1
    rw [decide_eq_false (by rw [h7]; decide)] at f2
    rw [decide_eq_false (by rw [h7]; decide)] at f3
    rw [decide_eq_false (by rw [h7]; decide)] at f4
    rw [decide_eq_false (by rw [h7]; decide)] at f5
    rw [decide_eq_false (by rw [h7]; decide)] at f6
    rw [decide_eq_true h7] at f7
    rw [decide_eq_false (by rw [h7]; decide)] at f8
    rw [decide_eq_false (by rw [h7]; decide)] at f9
    rw [decide_eq_false (by rw [h7]; decide)] at f10
    rw [decide_eq_false (by rw [h7]; decide)] at f11
    rw [decide_eq_false (by rw [h7]; decide)] at f12
    rw [decide_eq_false (by rw [h7]; decide)] at f13
    rw [decide_eq_false (by rw [h7]; decide)] at f14
    have hr : Hid (bs ((some ([] : List UInt8)).getD []) = ⟨#[]⟩) := Lib.hid rfl
    generalize bs ((some ([] : List UInt8)).getD []) = R at *
    generalize bs x = X at *
    clear hk h0 h1 h2 h3 h4 h5 h6 h7
    go_enter Tryd.func47, Tryd.ntmps47
    go_wp2
    go_ret2
    exact ⟨by rw [hr.out]; rfl, rfl⟩
  by_cases h8 : x = [115, 112, 97, 110]
  · have hk : kindOf x = some [] := by rw [h8]; rfl
    rw [hk]
    rw [decide_eq_false (by rw [h8]; decide)] at f0
    rw [decide_eq_false (by rw [h8]; decide)] at f1
    rw [decide_eq_false (by rw [h8]; decide)] at f2
    rw [decide_eq_false (by rw [h8]; decide)] at f3
    rw [decide_eq_false (by rw [h8]; decide)] at f4
    rw [decide_eq_false (by rw [h8]; decide)] at f5
    rw [decide_eq_false (by rw [h8]; decide)] at f6
    rw [decide_eq_false (by rw [h8]; decide)] at f7
    rw [decide_eq_true h8] at f8
    rw [decide_eq_false (by rw [h8]; decide)] at f9
    rw [decide_eq_false (by rw [h8]; decide)] at f10
    rw [decide_eq_false (by rw [h8]; decide)] at f11
    rw [decide_eq_false (by rw [h8]; decide)] at f12
    rw [decide_eq_false (by rw [h8]; decide)] at f13
    rw [decide_eq_false (by rw [h8]; decide)] at f14
    have hr : Hid (bs ((some ([] : List UInt8)).getD []) = ⟨#[]⟩) := Lib.hid rfl
    generalize bs ((some ([] : List UInt8)).getD []) = R at *
    generalize bs x = X at *
    clear hk h0 h1 h2 h3 h4 h5 h6 h7 h8
    go_enter Tryd.func47, Tryd.ntmps47
    go_wp2
    go_ret2
    exact ⟨by rw [hr.out]; rfl, rfl⟩
  by_cases h9 : x = [98, 111, 117, 110, 100]
  · have hk : kindOf x = some [] := by rw [h9]; rfl
    rw [hk]
    rw [decide_eq_false (by rw [h9]; decide)] at f0
    rw [decide_eq_false (by rw [h9]; decide)] at f1
    rw [decide_eq_false (by rw [h9]; decide)] at f2
    rw [decide_eq_false (by rw [h9]; decide)] at f3
    rw [decide_eq_false (by rw [h9]; decide)] at f4
    rw [decide_eq_false (by rw [h9]; decide)] at f5
    rw [decide_eq_false (by rw [h9]; decide)] at f6
    rw [decide_eq_false (by rw [h9]; decide)] at f7
    rw [decide_eq_false (by rw [h9]; decide)] at f8
    rw [decide_eq_true h9] at f9
    rw [decide_eq_false (by rw [h9]; decide)] at f10
    rw [decide_eq_false (by rw [h9]; decide)] at f11
    rw [decide_eq_false (by rw [h9]; decide)] at f12
    rw [decide_eq_false (by rw [h9]; decide)] at f13
    rw [decide_eq_false (by rw [h9]; decide)] at f14
    have hr : Hid (bs ((some ([] : List UInt8)).getD []) = ⟨#[]⟩) := Lib.hid rfl
    generalize bs ((some ([] : List UInt8)).getD []) = R at *
    generalize bs x = X at *
    clear hk h0 h1 h2 h3 h4 h5 h6 h7 h8 h9
    go_enter Tryd.func47, Tryd.ntmps47
    go_wp2
    go_ret2
    exact ⟨by rw [hr.out]; rfl, rfl⟩
  by_cases h10 : x = [116, 105, 109, 101, 115]
  · have hk : kindOf x = some [84, 84] := by rw [h10]; rfl
    rw [hk]
    rw [decide_eq_false (by rw [h10]; decide)] at f0
    rw [decide_eq_false (by rw [h10]; decide)] at f1
    rw [decide_eq_false (by rw [h10]; decide)] at f2
    rw [decide_eq_false (by rw [h10]; decide)] at f3
    rw [decide_eq_false (by rw [h10]; decide)] at f4
    rw [decide_eq_false (by rw [h10]; decide)] at f5
    rw [decide_eq_false (by rw [h10]; decide)] at f6
    rw [decide_eq_false (by rw [h10]; decide)] at f7
    rw [decide_eq_false (by rw [h10]; decide)] at f8
    rw [decide_eq_false (by rw [h10]; decide)] at f9
    rw [decide_eq_true h10] at f10
    rw [decide_eq_false (by rw [h10]; decide)] at f11
    rw [decide_eq_false (by rw [h10]; decide)] at f12
    rw [decide_eq_false (by rw [h10]; decide)] at f13
    rw [decide_eq_false (by rw [h10]; decide)] at f14
    have hr : Hid (bs ((some ([84, 84] : List UInt8)).getD []) = ⟨#[84, 84]⟩) := Lib.hid rfl
    generalize bs ((some ([84, 84] : List UInt8)).getD []) = R at *
    generalize bs x = X at *
    clear hk h0 h1 h2 h3 h4 h5 h6 h7 h8 h9 h10
    go_enter Tryd.func47, Tryd.ntmps47
    go_wp2
    go_ret2
    exact ⟨by rw [hr.out]; rfl, rfl⟩
  by_cases h11 : x = [111, 118, 101, 114]
  · have hk : kindOf x = some [84, 84] := by rw [h11]; rfl
    rw [hk]
    rw [decide_eq_false (by rw [h11]; decide)] at f0
    rw [decide_eq_false (by rw [h11]; decide)] at f1
    rw [decide_eq_false (by rw [h11]; decide)] at f2
    rw [decide_eq_false (by rw [h11]; decide)] at f3
    rw [decide_eq_false (by rw [h11]; decide)] at f4
    rw [decide_eq_false (by rw [h11]; decide)] at f5
    rw [decide_eq_false (by rw [h11]; decide)] at f6
    rw [decide_eq_false (by rw [h11]; decide)] at f7
    rw [decide_eq_false (by rw [h11]; decide)] at f8
    rw [decide_eq_false (by rw [h11]; decide)] at f9
    rw [decide_eq_false (by rw [h11]; decide)] at f10
    rw [decide_eq_true h11] at f11
    rw [decide_eq_false (by rw [h11]; decide)] at f12
    rw [decide_eq_false (by rw [h11]; decide)] at f13
    rw [decide_eq_false (by rw [h11]; decide)] at f14
    have hr : Hid (bs ((some ([84, 84] : List UInt8)).getD []) = ⟨#[84, 84]⟩) := Lib.hid rfl
    generalize bs ((some ([84, 84] : List UInt8)).getD []) = R at *
    generalize bs x = X at *
    clear hk h0 h1 h2 h3 h4 h5 h6 h7 h8 h9 h10 h11
    go_enter Tryd.func47, Tryd.ntmps47
    go_wp2
    go_ret2
    exact ⟨by rw [hr.out]; rfl, rfl⟩
  by_cases h12 : x = [114, 101, 97, 100]
  · have hk : kindOf x = some [84, 73, 73] := by rw [h12]; rfl
    rw [hk]
    rw [decide_eq_false (by rw [h12]; decide)] at f0
    rw [decide_eq_false (by rw [h12]; decide)] at f1
    rw [decide_eq_false (by rw [h12]; decide)] at f2
    rw [decide_eq_false (by rw [h12]; decide)] at f3
    rw [decide_eq_false (by rw [h12]; decide)] at f4
    rw [decide_eq_false (by rw [h12]; decide)] at f5
    rw [decide_eq_false (by rw [h12]; decide)] at f6
    rw [decide_eq_false (by rw [h12]; decide)] at f7
    rw [decide_eq_false (by rw [h12]; decide)] at f8
    rw [decide_eq_false (by rw [h12]; decide)] at f9
    rw [decide_eq_false (by rw [h12]; decide)] at f10
    rw [decide_eq_false (by rw [h12]; decide)] at f11
    rw [decide_eq_true h12] at f12
    rw [decide_eq_false (by rw [h12]; decide)] at f13
    rw [decide_eq_false (by rw [h12]; decide)] at f14
    have hr : Hid (bs ((some ([84, 73, 73] : List UInt8)).getD []) = ⟨#[84, 73, 73]⟩) := Lib.hid rfl
    generalize bs ((some ([84, 73, 73] : List UInt8)).getD []) = R at *
    generalize bs x = X at *
    clear hk h0 h1 h2 h3 h4 h5 h6 h7 h8 h9 h10 h11 h12
    go_enter Tryd.func47, Tryd.ntmps47
    go_wp2
    go_ret2
    exact ⟨by rw [hr.out]; rfl, rfl⟩
  by_cases h13 : x = [108, 105, 110, 101]
  · have hk : kindOf x = some [84, 84, 73] := by rw [h13]; rfl
    rw [hk]
    rw [decide_eq_false (by rw [h13]; decide)] at f0
    rw [decide_eq_false (by rw [h13]; decide)] at f1
    rw [decide_eq_false (by rw [h13]; decide)] at f2
    rw [decide_eq_false (by rw [h13]; decide)] at f3
    rw [decide_eq_false (by rw [h13]; decide)] at f4
    rw [decide_eq_false (by rw [h13]; decide)] at f5
    rw [decide_eq_false (by rw [h13]; decide)] at f6
    rw [decide_eq_false (by rw [h13]; decide)] at f7
    rw [decide_eq_false (by rw [h13]; decide)] at f8
    rw [decide_eq_false (by rw [h13]; decide)] at f9
    rw [decide_eq_false (by rw [h13]; decide)] at f10
    rw [decide_eq_false (by rw [h13]; decide)] at f11
    rw [decide_eq_false (by rw [h13]; decide)] at f12
    rw [decide_eq_true h13] at f13
    rw [decide_eq_false (by rw [h13]; decide)] at f14
    have hr : Hid (bs ((some ([84, 84, 73] : List UInt8)).getD []) = ⟨#[84, 84, 73]⟩) := Lib.hid rfl
    generalize bs ((some ([84, 84, 73] : List UInt8)).getD []) = R at *
    generalize bs x = X at *
    clear hk h0 h1 h2 h3 h4 h5 h6 h7 h8 h9 h10 h11 h12 h13
    go_enter Tryd.func47, Tryd.ntmps47
    go_wp2
    go_ret2
    exact ⟨by rw [hr.out]; rfl, rfl⟩
  by_cases h14 : x = [115, 97, 102, 101]
  · have hk : kindOf x = some [73] := by rw [h14]; rfl
    rw [hk]
    rw [decide_eq_false (by rw [h14]; decide)] at f0
    rw [decide_eq_false (by rw [h14]; decide)] at f1
    rw [decide_eq_false (by rw [h14]; decide)] at f2
    rw [decide_eq_false (by rw [h14]; decide)] at f3
    rw [decide_eq_false (by rw [h14]; decide)] at f4
    rw [decide_eq_false (by rw [h14]; decide)] at f5
    rw [decide_eq_false (by rw [h14]; decide)] at f6
    rw [decide_eq_false (by rw [h14]; decide)] at f7
    rw [decide_eq_false (by rw [h14]; decide)] at f8
    rw [decide_eq_false (by rw [h14]; decide)] at f9
    rw [decide_eq_false (by rw [h14]; decide)] at f10
    rw [decide_eq_false (by rw [h14]; decide)] at f11
    rw [decide_eq_false (by rw [h14]; decide)] at f12
    rw [decide_eq_false (by rw [h14]; decide)] at f13
    rw [decide_eq_true h14] at f14
    have hr : Hid (bs ((some ([73] : List UInt8)).getD []) = ⟨#[73]⟩) := Lib.hid rfl
    generalize bs ((some ([73] : List UInt8)).getD []) = R at *
    generalize bs x = X at *
    clear hk h0 h1 h2 h3 h4 h5 h6 h7 h8 h9 h10 h11 h12 h13 h14
    go_enter Tryd.func47, Tryd.ntmps47
    go_wp2
    go_ret2
    exact ⟨by rw [hr.out]; rfl, rfl⟩
  have hk : kindOf x = none := kindOf_none (by
    intro p hp e
    simp only [conTab, List.mem_cons, List.not_mem_nil, or_false] at hp
    rcases hp with rfl | rfl | rfl | rfl | rfl | rfl | rfl | rfl | rfl | rfl | rfl | rfl | rfl | rfl | rfl
    · exact h0 e.symm
    · exact h1 e.symm
    · exact h2 e.symm
    · exact h3 e.symm
    · exact h4 e.symm
    · exact h5 e.symm
    · exact h6 e.symm
    · exact h7 e.symm
    · exact h8 e.symm
    · exact h9 e.symm
    · exact h10 e.symm
    · exact h11 e.symm
    · exact h12 e.symm
    · exact h13 e.symm
    · exact h14 e.symm)
  rw [hk]
  rw [decide_eq_false h0] at f0
  rw [decide_eq_false h1] at f1
  rw [decide_eq_false h2] at f2
  rw [decide_eq_false h3] at f3
  rw [decide_eq_false h4] at f4
  rw [decide_eq_false h5] at f5
  rw [decide_eq_false h6] at f6
  rw [decide_eq_false h7] at f7
  rw [decide_eq_false h8] at f8
  rw [decide_eq_false h9] at f9
  rw [decide_eq_false h10] at f10
  rw [decide_eq_false h11] at f11
  rw [decide_eq_false h12] at f12
  rw [decide_eq_false h13] at f13
  rw [decide_eq_false h14] at f14
  have hr : Hid (bs ((none : Option (List UInt8)).getD []) = ⟨#[]⟩) := Lib.hid rfl
  generalize bs ((none : Option (List UInt8)).getD []) = R at *
  generalize bs x = X at *
  clear hk h0 h1 h2 h3 h4 h5 h6 h7 h8 h9 h10 h11 h12 h13 h14
  go_enter Tryd.func47, Tryd.ntmps47
  go_wp2
  go_ret2
  exact ⟨by rw [hr.out]; rfl, rfl⟩
set_option maxRecDepth 100000 in
set_option maxHeartbeats 4000000 in
theorem l34Kind_c (x : List UInt8) (w : World) : Calls Tryd.prog 45 #[.string (bs x)] w fun e w' => e = .returned (.string (bs ((kindOf x).getD [45]))) ∧ w = w' := by
  have f0 : ((bs x).toList == ([114, 117, 108, 101] : List UInt8)) = decide (x = [114, 117, 108, 101]) := bs_lit x [114, 117, 108, 101]
  have f1 : ((bs x).toList == ([101, 114, 114, 111, 114, 115] : List UInt8)) = decide (x = [101, 114, 114, 111, 114, 115]) := bs_lit x [101, 114, 114, 111, 114, 115]
  have f2 : ((bs x).toList == ([99, 104, 97, 105, 110] : List UInt8)) = decide (x = [99, 104, 97, 105, 110]) := bs_lit x [99, 104, 97, 105, 110]
  have f3 : ((bs x).toList == ([108, 111, 103] : List UInt8)) = decide (x = [108, 111, 103]) := bs_lit x [108, 111, 103]
  have f4 : ((bs x).toList == ([114, 111, 111, 116] : List UInt8)) = decide (x = [114, 111, 111, 116]) := bs_lit x [114, 111, 111, 116]
  have f5 : ((bs x).toList == ([99, 104, 97, 114, 116] : List UInt8)) = decide (x = [99, 104, 97, 114, 116]) := bs_lit x [99, 104, 97, 114, 116]
  have f6 : ((bs x).toList == ([112, 108, 97, 110] : List UInt8)) = decide (x = [112, 108, 97, 110]) := bs_lit x [112, 108, 97, 110]
  have f7 : ((bs x).toList == ([114, 101, 115, 117, 108, 116] : List UInt8)) = decide (x = [114, 101, 115, 117, 108, 116]) := bs_lit x [114, 101, 115, 117, 108, 116]
  have f8 : ((bs x).toList == ([115, 112, 97, 110] : List UInt8)) = decide (x = [115, 112, 97, 110]) := bs_lit x [115, 112, 97, 110]
  have f9 : ((bs x).toList == ([98, 111, 117, 110, 100] : List UInt8)) = decide (x = [98, 111, 117, 110, 100]) := bs_lit x [98, 111, 117, 110, 100]
  have f10 : ((bs x).toList == ([116, 105, 109, 101, 115] : List UInt8)) = decide (x = [116, 105, 109, 101, 115]) := bs_lit x [116, 105, 109, 101, 115]
  have f11 : ((bs x).toList == ([111, 118, 101, 114] : List UInt8)) = decide (x = [111, 118, 101, 114]) := bs_lit x [111, 118, 101, 114]
  have f12 : ((bs x).toList == ([114, 101, 97, 100] : List UInt8)) = decide (x = [114, 101, 97, 100]) := bs_lit x [114, 101, 97, 100]
  have f13 : ((bs x).toList == ([108, 105, 110, 101] : List UInt8)) = decide (x = [108, 105, 110, 101]) := bs_lit x [108, 105, 110, 101]
  have f14 : ((bs x).toList == ([115, 97, 102, 101] : List UInt8)) = decide (x = [115, 97, 102, 101]) := bs_lit x [115, 97, 102, 101]
  by_cases h0 : x = [114, 117, 108, 101]
  · have hk : kindOf x = some [84, 84, 84] := by rw [h0]; rfl
    rw [hk]
    rw [decide_eq_true h0] at f0
    rw [decide_eq_false (by rw [h0]; decide)] at f1
    rw [decide_eq_false (by rw [h0]; decide)] at f2
    rw [decide_eq_false (by rw [h0]; decide)] at f3
    rw [decide_eq_false (by rw [h0]; decide)] at f4
    rw [decide_eq_false (by rw [h0]; decide)] at f5
    rw [decide_eq_false (by rw [h0]; decide)] at f6
    rw [decide_eq_false (by rw [h0]; decide)] at f7
    rw [decide_eq_false (by rw [h0]; decide)] at f8
    rw [decide_eq_false (by rw [h0]; decide)] at f9
    rw [decide_eq_false (by rw [h0]; decide)] at f10
    rw [decide_eq_false (by rw [h0]; decide)] at f11
    rw [decide_eq_false (by rw [h0]; decide)] at f12
    rw [decide_eq_false (by rw [h0]; decide)] at f13
    rw [decide_eq_false (by rw [h0]; decide)] at f14
    have hr : Hid (bs ((some ([84, 84, 84] : List UInt8)).getD [45]) = ⟨#[84, 84, 84]⟩) := Lib.hid rfl
    generalize bs ((some ([84, 84, 84] : List UInt8)).getD [45]) = R at *
    generalize bs x = X at *
    clear hk h0
    go_enter Tryd.func45, Tryd.ntmps45
    go_wp2
    go_ret
    exact ⟨by rw [hr.out]; rfl, rfl⟩
  by_cases h1 : x = [101, 114, 114, 111, 114, 115]
  · have hk : kindOf x = some [73, 73, 73] := by rw [h1]; rfl
    rw [hk]
    rw [decide_eq_false (by rw [h1]; decide)] at f0
    rw [decide_eq_true h1] at f1
    rw [decide_eq_false (by rw [h1]; decide)] at f2
    rw [decide_eq_false (by rw [h1]; decide)] at f3
    rw [decide_eq_false (by rw [h1]; decide)] at f4
    rw [decide_eq_false (by rw [h1]; decide)] at f5
    rw [decide_eq_false (by rw [h1]; decide)] at f6
    rw [decide_eq_false (by rw [h1]; decide)] at f7
    rw [decide_eq_false (by rw [h1]; decide)] at f8
    rw [decide_eq_false (by rw [h1]; decide)] at f9
    rw [decide_eq_false (by rw [h1]; decide)] at f10
    rw [decide_eq_false (by rw [h1]; decide)] at f11
    rw [decide_eq_false (by rw [h1]; decide)] at f12
    rw [decide_eq_false (by rw [h1]; decide)] at f13
    rw [decide_eq_false (by rw [h1]; decide)] at f14
    have hr : Hid (bs ((some ([73, 73, 73] : List UInt8)).getD [45]) = ⟨#[73, 73, 73]⟩) := Lib.hid rfl
    generalize bs ((some ([73, 73, 73] : List UInt8)).getD [45]) = R at *
    generalize bs x = X at *
    clear hk h0 h1
    go_enter Tryd.func45, Tryd.ntmps45
    go_wp2
    go_ret
    exact ⟨by rw [hr.out]; rfl, rfl⟩
  by_cases h2 : x = [99, 104, 97, 105, 110]
  · have hk : kindOf x = some [84] := by rw [h2]; rfl
    rw [hk]
    rw [decide_eq_false (by rw [h2]; decide)] at f0
    rw [decide_eq_false (by rw [h2]; decide)] at f1
    rw [decide_eq_true h2] at f2
    rw [decide_eq_false (by rw [h2]; decide)] at f3
    rw [decide_eq_false (by rw [h2]; decide)] at f4
    rw [decide_eq_false (by rw [h2]; decide)] at f5
    rw [decide_eq_false (by rw [h2]; decide)] at f6
    rw [decide_eq_false (by rw [h2]; decide)] at f7
    rw [decide_eq_false (by rw [h2]; decide)] at f8
    rw [decide_eq_false (by rw [h2]; decide)] at f9
    rw [decide_eq_false (by rw [h2]; decide)] at f10
    rw [decide_eq_false (by rw [h2]; decide)] at f11
    rw [decide_eq_false (by rw [h2]; decide)] at f12
    rw [decide_eq_false (by rw [h2]; decide)] at f13
    rw [decide_eq_false (by rw [h2]; decide)] at f14
    have hr : Hid (bs ((some ([84] : List UInt8)).getD [45]) = ⟨#[84]⟩) := Lib.hid rfl
    generalize bs ((some ([84] : List UInt8)).getD [45]) = R at *
    generalize bs x = X at *
    clear hk h0 h1 h2
    go_enter Tryd.func45, Tryd.ntmps45
    go_wp2
    go_ret
    exact ⟨by rw [hr.out]; rfl, rfl⟩
  by_cases h3 : x = [108, 111, 103]
  · have hk : kindOf x = some [84] := by rw [h3]; rfl
    rw [hk]
    rw [decide_eq_false (by rw [h3]; decide)] at f0
    rw [decide_eq_false (by rw [h3]; decide)] at f1
    rw [decide_eq_false (by rw [h3]; decide)] at f2
    rw [decide_eq_true h3] at f3
    rw [decide_eq_false (by rw [h3]; decide)] at f4
    rw [decide_eq_false (by rw [h3]; decide)] at f5
    rw [decide_eq_false (by rw [h3]; decide)] at f6
    rw [decide_eq_false (by rw [h3]; decide)] at f7
    rw [decide_eq_false (by rw [h3]; decide)] at f8
    rw [decide_eq_false (by rw [h3]; decide)] at f9
    rw [decide_eq_false (by rw [h3]; decide)] at f10
    rw [decide_eq_false (by rw [h3]; decide)] at f11
    rw [decide_eq_false (by rw [h3]; decide)] at f12
    rw [decide_eq_false (by rw [h3]; decide)] at f13
    rw [decide_eq_false (by rw [h3]; decide)] at f14
    have hr : Hid (bs ((some ([84] : List UInt8)).getD [45]) = ⟨#[84]⟩) := Lib.hid rfl
    generalize bs ((some ([84] : List UInt8)).getD [45]) = R at *
    generalize bs x = X at *
    clear hk h0 h1 h2 h3
    go_enter Tryd.func45, Tryd.ntmps45
    go_wp2
    go_ret
    exact ⟨by rw [hr.out]; rfl, rfl⟩
  by_cases h4 : x = [114, 111, 111, 116]
  · have hk : kindOf x = some [84] := by rw [h4]; rfl
    rw [hk]
    rw [decide_eq_false (by rw [h4]; decide)] at f0
    rw [decide_eq_false (by rw [h4]; decide)] at f1
    rw [decide_eq_false (by rw [h4]; decide)] at f2
    rw [decide_eq_false (by rw [h4]; decide)] at f3
    rw [decide_eq_true h4] at f4
    rw [decide_eq_false (by rw [h4]; decide)] at f5
    rw [decide_eq_false (by rw [h4]; decide)] at f6
    rw [decide_eq_false (by rw [h4]; decide)] at f7
    rw [decide_eq_false (by rw [h4]; decide)] at f8
    rw [decide_eq_false (by rw [h4]; decide)] at f9
    rw [decide_eq_false (by rw [h4]; decide)] at f10
    rw [decide_eq_false (by rw [h4]; decide)] at f11
    rw [decide_eq_false (by rw [h4]; decide)] at f12
    rw [decide_eq_false (by rw [h4]; decide)] at f13
    rw [decide_eq_false (by rw [h4]; decide)] at f14
    have hr : Hid (bs ((some ([84] : List UInt8)).getD [45]) = ⟨#[84]⟩) := Lib.hid rfl
    generalize bs ((some ([84] : List UInt8)).getD [45]) = R at *
    generalize bs x = X at *
    clear hk h0 h1 h2 h3 h4
    go_enter Tryd.func45, Tryd.ntmps45
    go_wp2
    go_ret
    exact ⟨by rw [hr.out]; rfl, rfl⟩
  by_cases h5 : x = [99, 104, 97, 114, 116]
  · have hk : kindOf x = some [84, 73, 73, 73] := by rw [h5]; rfl
    rw [hk]
    rw [decide_eq_false (by rw [h5]; decide)] at f0
    rw [decide_eq_false (by rw [h5]; decide)] at f1
    rw [decide_eq_false (by rw [h5]; decide)] at f2
    rw [decide_eq_false (by rw [h5]; decide)] at f3
    rw [decide_eq_false (by rw [h5]; decide)] at f4
    rw [decide_eq_true h5] at f5
    rw [decide_eq_false (by rw [h5]; decide)] at f6
    rw [decide_eq_false (by rw [h5]; decide)] at f7
    rw [decide_eq_false (by rw [h5]; decide)] at f8
    rw [decide_eq_false (by rw [h5]; decide)] at f9
    rw [decide_eq_false (by rw [h5]; decide)] at f10
    rw [decide_eq_false (by rw [h5]; decide)] at f11
    rw [decide_eq_false (by rw [h5]; decide)] at f12
    rw [decide_eq_false (by rw [h5]; decide)] at f13
    rw [decide_eq_false (by rw [h5]; decide)] at f14
    have hr : Hid (bs ((some ([84, 73, 73, 73] : List UInt8)).getD [45]) = ⟨#[84, 73, 73, 73]⟩) := Lib.hid rfl
    generalize bs ((some ([84, 73, 73, 73] : List UInt8)).getD [45]) = R at *
    generalize bs x = X at *
    clear hk h0 h1 h2 h3 h4 h5
    go_enter Tryd.func45, Tryd.ntmps45
    go_wp2
    go_ret
    exact ⟨by rw [hr.out]; rfl, rfl⟩
  by_cases h6 : x = [112, 108, 97, 110]
  · have hk : kindOf x = some [] := by rw [h6]; rfl
    rw [hk]
    rw [decide_eq_false (by rw [h6]; decide)] at f0
    rw [decide_eq_false (by rw [h6]; decide)] at f1
    rw [decide_eq_false (by rw [h6]; decide)] at f2
    rw [decide_eq_false (by rw [h6]; decide)] at f3
    rw [decide_eq_false (by rw [h6]; decide)] at f4
    rw [decide_eq_false (by rw [h6]; decide)] at f5
    rw [decide_eq_true h6] at f6
    rw [decide_eq_false (by rw [h6]; decide)] at f7
    rw [decide_eq_false (by rw [h6]; decide)] at f8
    rw [decide_eq_false (by rw [h6]; decide)] at f9
    rw [decide_eq_false (by rw [h6]; decide)] at f10
    rw [decide_eq_false (by rw [h6]; decide)] at f11
    rw [decide_eq_false (by rw [h6]; decide)] at f12
    rw [decide_eq_false (by rw [h6]; decide)] at f13
    rw [decide_eq_false (by rw [h6]; decide)] at f14
    have hr : Hid (bs ((some ([] : List UInt8)).getD [45]) = ⟨#[]⟩) := Lib.hid rfl
    generalize bs ((some ([] : List UInt8)).getD [45]) = R at *
    generalize bs x = X at *
    clear hk h0 h1 h2 h3 h4 h5 h6
    go_enter Tryd.func45, Tryd.ntmps45
    go_wp2
    go_ret
    exact ⟨by rw [hr.out]; rfl, rfl⟩
  by_cases h7 : x = [114, 101, 115, 117, 108, 116]
  · have hk : kindOf x = some [] := by rw [h7]; rfl
    rw [hk]
    rw [decide_eq_false (by rw [h7]; decide)] at f0
    rw [decide_eq_false (by rw [h7]; decide)] at f1
    rw [decide_eq_false (by rw [h7]; decide)] at f2
    rw [decide_eq_false (by rw [h7]; decide)] at f3
    rw [decide_eq_false (by rw [h7]; decide)] at f4
    rw [decide_eq_false (by rw [h7]; decide)] at f5
    rw [decide_eq_false (by rw [h7]; decide)] at f6
    rw [decide_eq_true h7] at f7
    rw [decide_eq_false (by rw [h7]; decide)] at f8
    rw [decide_eq_false (by rw [h7]; decide)] at f9
    rw [decide_eq_false (by rw [h7]; decide)] at f10
    rw [decide_eq_false (by rw [h7]; decide)] at f11
    rw [decide_eq_false (by rw [h7]; decide)] at f12
    rw [decide_eq_false (by rw [h7]; decide)] at f13
    rw [decide_eq_false (by rw [h7]; decide)] at f14
    have hr : Hid (bs ((some ([] : List UInt8)).getD [45]) = ⟨#[]⟩) := Lib.hid rfl
    generalize bs ((some ([] : List UInt8)).getD [45]) = R at *
    generalize bs x = X at *
    clear hk h0 h1 h2 h3 h4 h5 h6 h7
    go_enter Tryd.func45, Tryd.ntmps45
    go_wp2
    go_ret
    exact ⟨by rw [hr.out]; rfl, rfl⟩
  by_cases h8 : x = [115, 112, 97, 110]
  · have hk : kindOf x = some [] := by rw [h8]; rfl
    rw [hk]
    rw [decide_eq_false (by rw [h8]; decide)] at f0
    rw [decide_eq_false (by rw [h8]; decide)] at f1
    rw [decide_eq_false (by rw [h8]; decide)] at f2
    rw [decide_eq_false (by rw [h8]; decide)] at f3
    rw [decide_eq_false (by rw [h8]; decide)] at f4
    rw [decide_eq_false (by rw [h8]; decide)] at f5
    rw [decide_eq_false (by rw [h8]; decide)] at f6
    rw [decide_eq_false (by rw [h8]; decide)] at f7
    rw [decide_eq_true h8] at f8
    rw [decide_eq_false (by rw [h8]; decide)] at f9
    rw [decide_eq_false (by rw [h8]; decide)] at f10
    rw [decide_eq_false (by rw [h8]; decide)] at f11
    rw [decide_eq_false (by rw [h8]; decide)] at f12
    rw [decide_eq_false (by rw [h8]; decide)] at f13
    rw [decide_eq_false (by rw [h8]; decide)] at f14
    have hr : Hid (bs ((some ([] : List UInt8)).getD [45]) = ⟨#[]⟩) := Lib.hid rfl
    generalize bs ((some ([] : List UInt8)).getD [45]) = R at *
    generalize bs x = X at *
    clear hk h0 h1 h2 h3 h4 h5 h6 h7 h8
    go_enter Tryd.func45, Tryd.ntmps45
    go_wp2
    go_ret
    exact ⟨by rw [hr.out]; rfl, rfl⟩
  by_cases h9 : x = [98, 111, 117, 110, 100]
  · have hk : kindOf x = some [] := by rw [h9]; rfl
    rw [hk]
    rw [decide_eq_false (by rw [h9]; decide)] at f0
    rw [decide_eq_false (by rw [h9]; decide)] at f1
    rw [decide_eq_false (by rw [h9]; decide)] at f2
    rw [decide_eq_false (by rw [h9]; decide)] at f3
    rw [decide_eq_false (by rw [h9]; decide)] at f4
    rw [decide_eq_false (by rw [h9]; decide)] at f5
    rw [decide_eq_false (by rw [h9]; decide)] at f6
    rw [decide_eq_false (by rw [h9]; decide)] at f7
    rw [decide_eq_false (by rw [h9]; decide)] at f8
    rw [decide_eq_true h9] at f9
    rw [decide_eq_false (by rw [h9]; decide)] at f10
    rw [decide_eq_false (by rw [h9]; decide)] at f11
    rw [decide_eq_false (by rw [h9]; decide)] at f12
    rw [decide_eq_false (by rw [h9]; decide)] at f13
    rw [decide_eq_false (by rw [h9]; decide)] at f14
    have hr : Hid (bs ((some ([] : List UInt8)).getD [45]) = ⟨#[]⟩) := Lib.hid rfl
    generalize bs ((some ([] : List UInt8)).getD [45]) = R at *
    generalize bs x = X at *
    clear hk h0 h1 h2 h3 h4 h5 h6 h7 h8 h9
    go_enter Tryd.func45, Tryd.ntmps45
    go_wp2
    go_ret
    exact ⟨by rw [hr.out]; rfl, rfl⟩
  by_cases h10 : x = [116, 105, 109, 101, 115]
  · have hk : kindOf x = some [84, 84] := by rw [h10]; rfl
    rw [hk]
    rw [decide_eq_false (by rw [h10]; decide)] at f0
    rw [decide_eq_false (by rw [h10]; decide)] at f1
    rw [decide_eq_false (by rw [h10]; decide)] at f2
    rw [decide_eq_false (by rw [h10]; decide)] at f3
    rw [decide_eq_false (by rw [h10]; decide)] at f4
    rw [decide_eq_false (by rw [h10]; decide)] at f5
    rw [decide_eq_false (by rw [h10]; decide)] at f6
    rw [decide_eq_false (by rw [h10]; decide)] at f7
    rw [decide_eq_false (by rw [h10]; decide)] at f8
    rw [decide_eq_false (by rw [h10]; decide)] at f9
    rw [decide_eq_true h10] at f10
    rw [decide_eq_false (by rw [h10]; decide)] at f11
    rw [decide_eq_false (by rw [h10]; decide)] at f12
    rw [decide_eq_false (by rw [h10]; decide)] at f13
    rw [decide_eq_false (by rw [h10]; decide)] at f14
    have hr : Hid (bs ((some ([84, 84] : List UInt8)).getD [45]) = ⟨#[84, 84]⟩) := Lib.hid rfl
    generalize bs ((some ([84, 84] : List UInt8)).getD [45]) = R at *
    generalize bs x = X at *
    clear hk h0 h1 h2 h3 h4 h5 h6 h7 h8 h9 h10
    go_enter Tryd.func45, Tryd.ntmps45
    go_wp2
    go_ret
    exact ⟨by rw [hr.out]; rfl, rfl⟩
  by_cases h11 : x = [111, 118, 101, 114]
  · have hk : kindOf x = some [84, 84] := by rw [h11]; rfl
    rw [hk]
    rw [decide_eq_false (by rw [h11]; decide)] at f0
    rw [decide_eq_false (by rw [h11]; decide)] at f1
    rw [decide_eq_false (by rw [h11]; decide)] at f2
    rw [decide_eq_false (by rw [h11]; decide)] at f3
    rw [decide_eq_false (by rw [h11]; decide)] at f4
    rw [decide_eq_false (by rw [h11]; decide)] at f5
    rw [decide_eq_false (by rw [h11]; decide)] at f6
    rw [decide_eq_false (by rw [h11]; decide)] at f7
    rw [decide_eq_false (by rw [h11]; decide)] at f8
    rw [decide_eq_false (by rw [h11]; decide)] at f9
    rw [decide_eq_false (by rw [h11]; decide)] at f10
    rw [decide_eq_true h11] at f11
    rw [decide_eq_false (by rw [h11]; decide)] at f12
    rw [decide_eq_false (by rw [h11]; decide)] at f13
    rw [decide_eq_false (by rw [h11]; decide)] at f14
    have hr : Hid (bs ((some ([84, 84] : List UInt8)).getD [45]) = ⟨#[84, 84]⟩) := Lib.hid rfl
    generalize bs ((some ([84, 84] : List UInt8)).getD [45]) = R at *
    generalize bs x = X at *
    clear hk h0 h1 h2 h3 h4 h5 h6 h7 h8 h9 h10 h11
    go_enter Tryd.func45, Tryd.ntmps45
    go_wp2
    go_ret
    exact ⟨by rw [hr.out]; rfl, rfl⟩
  by_cases h12 : x = [114, 101, 97, 100]
  · have hk : kindOf x = some [84, 73, 73] := by rw [h12]; rfl
    rw [hk]
    rw [decide_eq_false (by rw [h12]; decide)] at f0
    rw [decide_eq_false (by rw [h12]; decide)] at f1
    rw [decide_eq_false (by rw [h12]; decide)] at f2
    rw [decide_eq_false (by rw [h12]; decide)] at f3
    rw [decide_eq_false (by rw [h12]; decide)] at f4
    rw [decide_eq_false (by rw [h12]; decide)] at f5
    rw [decide_eq_false (by rw [h12]; decide)] at f6
    rw [decide_eq_false (by rw [h12]; decide)] at f7
    rw [decide_eq_false (by rw [h12]; decide)] at f8
    rw [decide_eq_false (by rw [h12]; decide)] at f9
    rw [decide_eq_false (by rw [h12]; decide)] at f10
    rw [decide_eq_false (by rw [h12]; decide)] at f11
    rw [decide_eq_true h12] at f12
    rw [decide_eq_false (by rw [h12]; decide)] at f13
    rw [decide_eq_false (by rw [h12]; decide)] at f14
    have hr : Hid (bs ((some ([84, 73, 73] : List UInt8)).getD [45]) = ⟨#[84, 73, 73]⟩) := Lib.hid rfl
    generalize bs ((some ([84, 73, 73] : List UInt8)).getD [45]) = R at *
    generalize bs x = X at *
    clear hk h0 h1 h2 h3 h4 h5 h6 h7 h8 h9 h10 h11 h12
    go_enter Tryd.func45, Tryd.ntmps45
    go_wp2
    go_ret
    exact ⟨by rw [hr.out]; rfl, rfl⟩
  by_cases h13 : x = [108, 105, 110, 101]
  · have hk : kindOf x = some [84, 84, 73] := by rw [h13]; rfl
    rw [hk]
    rw [decide_eq_false (by rw [h13]; decide)] at f0
    rw [decide_eq_false (by rw [h13]; decide)] at f1
    rw [decide_eq_false (by rw [h13]; decide)] at f2
    rw [decide_eq_false (by rw [h13]; decide)] at f3
    rw [decide_eq_false (by rw [h13]; decide)] at f4
    rw [decide_eq_false (by rw [h13]; decide)] at f5
    rw [decide_eq_false (by rw [h13]; decide)] at f6
    rw [decide_eq_false (by rw [h13]; decide)] at f7
    rw [decide_eq_false (by rw [h13]; decide)] at f8
    rw [decide_eq_false (by rw [h13]; decide)] at f9
    rw [decide_eq_false (by rw [h13]; decide)] at f10
    rw [decide_eq_false (by rw [h13]; decide)] at f11
    rw [decide_eq_false (by rw [h13]; decide)] at f12
    rw [decide_eq_true h13] at f13
    rw [decide_eq_false (by rw [h13]; decide)] at f14
    have hr : Hid (bs ((some ([84, 84, 73] : List UInt8)).getD [45]) = ⟨#[84, 84, 73]⟩) := Lib.hid rfl
    generalize bs ((some ([84, 84, 73] : List UInt8)).getD [45]) = R at *
    generalize bs x = X at *
    clear hk h0 h1 h2 h3 h4 h5 h6 h7 h8 h9 h10 h11 h12 h13
    go_enter Tryd.func45, Tryd.ntmps45
    go_wp2
    go_ret
    exact ⟨by rw [hr.out]; rfl, rfl⟩
  by_cases h14 : x = [115, 97, 102, 101]
  · have hk : kindOf x = some [73] := by rw [h14]; rfl
    rw [hk]
    rw [decide_eq_false (by rw [h14]; decide)] at f0
    rw [decide_eq_false (by rw [h14]; decide)] at f1
    rw [decide_eq_false (by rw [h14]; decide)] at f2
    rw [decide_eq_false (by rw [h14]; decide)] at f3
    rw [decide_eq_false (by rw [h14]; decide)] at f4
    rw [decide_eq_false (by rw [h14]; decide)] at f5
    rw [decide_eq_false (by rw [h14]; decide)] at f6
    rw [decide_eq_false (by rw [h14]; decide)] at f7
    rw [decide_eq_false (by rw [h14]; decide)] at f8
    rw [decide_eq_false (by rw [h14]; decide)] at f9
    rw [decide_eq_false (by rw [h14]; decide)] at f10
    rw [decide_eq_false (by rw [h14]; decide)] at f11
    rw [decide_eq_false (by rw [h14]; decide)] at f12
    rw [decide_eq_false (by rw [h14]; decide)] at f13
    rw [decide_eq_true h14] at f14
    have hr : Hid (bs ((some ([73] : List UInt8)).getD [45]) = ⟨#[73]⟩) := Lib.hid rfl
    generalize bs ((some ([73] : List UInt8)).getD [45]) = R at *
    generalize bs x = X at *
    clear hk h0 h1 h2 h3 h4 h5 h6 h7 h8 h9 h10 h11 h12 h13 h14
    go_enter Tryd.func45, Tryd.ntmps45
    go_wp2
    go_ret
    exact ⟨by rw [hr.out]; rfl, rfl⟩
  have hk : kindOf x = none := kindOf_none (by
    intro p hp e
    simp only [conTab, List.mem_cons, List.not_mem_nil, or_false] at hp
    rcases hp with rfl | rfl | rfl | rfl | rfl | rfl | rfl | rfl | rfl | rfl | rfl | rfl | rfl | rfl | rfl
    · exact h0 e.symm
    · exact h1 e.symm
    · exact h2 e.symm
    · exact h3 e.symm
    · exact h4 e.symm
    · exact h5 e.symm
    · exact h6 e.symm
    · exact h7 e.symm
    · exact h8 e.symm
    · exact h9 e.symm
    · exact h10 e.symm
    · exact h11 e.symm
    · exact h12 e.symm
    · exact h13 e.symm
    · exact h14 e.symm)
  rw [hk]
  rw [decide_eq_false h0] at f0
  rw [decide_eq_false h1] at f1
  rw [decide_eq_false h2] at f2
  rw [decide_eq_false h3] at f3
  rw [decide_eq_false h4] at f4
  rw [decide_eq_false h5] at f5
  rw [decide_eq_false h6] at f6
  rw [decide_eq_false h7] at f7
  rw [decide_eq_false h8] at f8
  rw [decide_eq_false h9] at f9
  rw [decide_eq_false h10] at f10
  rw [decide_eq_false h11] at f11
  rw [decide_eq_false h12] at f12
  rw [decide_eq_false h13] at f13
  rw [decide_eq_false h14] at f14
  have hr : Hid (bs ((none : Option (List UInt8)).getD [45]) = ⟨#[45]⟩) := Lib.hid rfl
  generalize bs ((none : Option (List UInt8)).getD [45]) = R at *
  generalize bs x = X at *
  clear hk h0 h1 h2 h3 h4 h5 h6 h7 h8 h9 h10 h11 h12 h13 h14
  go_enter Tryd.func45, Tryd.ntmps45
  go_wp2
  go_ret
  exact ⟨by rw [hr.out]; rfl, rfl⟩
end Go.Proofs.YtkkgomldahjocaaDoor
