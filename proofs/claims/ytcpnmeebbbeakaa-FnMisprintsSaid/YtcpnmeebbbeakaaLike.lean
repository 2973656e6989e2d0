/- The laws' comparisons of lists, walked. No condition beyond the length. -/
import Derived.Test.YtcpnmeebbbeakaaInt64
import Derived.Test.YtcpnmeebbbeakaaTick
import Derived.Laws.StructEq
namespace Go.Proofs.Ytcpnmeebbbeakaa
open Go.RowKit
set_option maxRecDepth 100000 in
theorem likeInts_c (A A' : Option Addr) (c c' : Nat) (l : List Int) (w : World) (hl : l.length ≤ 140737488351232) (hs : Sl w w.heap.size 1 A (l.map ic)) (hs' : Sl w w.heap.size 1 A' (l.map ic)) :
   Calls Try.prog 77 #[.slice A l.length c, .slice A' l.length c'] w fun e w' => e = .returned (.bool true) ∧ Below w.heap.size w w' := by
  go_enter Try.func77, Try.ntmps77
  go_wp2_with fail
  go_loopw [5] (fun i wr => ∃ k : Nat, k ≤ l.length ∧ i = .int .i64 k ∧ Below w.heap.size w wr) (fun i _ => l.length - (intOf i).toNat)
  case atStart => exact ⟨0, Nat.zero_le _, rfl, Below.refl _ _⟩
  case round =>
    obtain ⟨k, hk, rfl, hb⟩ := hrel
    by_cases hlt : k < l.length
    · obtain ⟨b, off, rfl, hbB, hc⟩ := hs.int hlt
      obtain ⟨b', off', rfl, hbB', hc'⟩ := hs'.int hlt
      have c0 : wr.cell? ⟨b, off + k, none⟩ = some (.int .i64 l[k]) := by rw [hb.cell hbB]; exact hc
      have d0 : wr.cell? ⟨b', off' + k, none⟩ = some (.int .i64 l[k]) := by rw [hb.cell hbB']; exact hc'
      clear hc hc'
      go_wp2_with fail
      go_quiet (fail)
      go_wp2
      go_roundw
      case rel => exact ⟨k + 1, by omega, by go_num, (by repeat (first | with_reducible exact hb | with_reducible apply below_drewN' | with_reducible apply Below.drew | (with_reducible refine Below.alloc ?_ (by first | omega | (simp; omega) | simp) _) | (with_reducible refine Below.setCell ?_ (by first | omega | (simp; omega) | simp) _) | exact hb))⟩
      case measure => simp [intOf]; omega
    · have : k = l.length := by omega
      subst this
      go_wp2
      go_ret
      exact ⟨rfl, hb⟩
set_option maxRecDepth 100000 in
theorem hasInt_c (A : Option Addr) (c : Nat) (l : List Int) (x : Int) (w : World) (hl : l.length ≤ 140737488351232) (hx : x ∈ l) (hs : Sl w w.heap.size 1 A (l.map ic)) :
   Calls Try.prog 78 #[.slice A l.length c, .int .i64 x] w fun e w' => e = .returned (.bool true) ∧ Below w.heap.size w w' := by
  have hx' := Lib.hid hx; clear hx
  go_enter Try.func78, Try.ntmps78
  go_wp2_with fail
  go_loopw [5] (fun i wr => ∃ k : Nat, k ≤ l.length ∧ i = .int .i64 k ∧ Below w.heap.size w wr ∧ Hid (x ∉ l.take k)) (fun i _ => l.length - (intOf i).toNat)
  case atStart => exact ⟨0, Nat.zero_le _, rfl, Below.refl _ _, (show x ∉ l.take 0 by simp)⟩
  case round =>
    obtain ⟨k, hk, rfl, hb, hno⟩ := hrel
    by_cases hlt : k < l.length
    · obtain ⟨b, off, rfl, hbB, hc⟩ := hs.int hlt
      have c0 : wr.cell? ⟨b, off + k, none⟩ = some (.int .i64 l[k]) := by rw [hb.cell hbB]; exact hc
      have hnx : l.take (k + 1) = l.take k ++ [l[k]] := List.take_succ_eq_append_getElem hlt
      have Hnx := Lib.hid hnx; clear hnx hc
      generalize l[k] = y at *
      by_cases he : y = x
      · subst he
        go_wp2
        go_ret
        exact ⟨rfl, hb⟩
      · have hno2 : Hid (x ∉ l.take (k + 1)) := by
          unfold Hid
          rw [Hnx.out, List.mem_append, List.mem_singleton]
          rintro (h | h)
          · exact hno.out h
          · exact he h.symm
        go_wp2
        go_roundw
        case rel => exact ⟨k + 1, by omega, by go_num, hb, hno2⟩
        case measure => simp [intOf]; omega
    · exfalso
      have : k = l.length := by omega
      rw [this] at hno
      exact hno.out (by rw [List.take_length]; exact hx'.out)
set_option maxRecDepth 100000 in
theorem neTick (a b d : Int) (w : World) : Sem.run Try.prog (binOp .neq 46 (.agg #[.int .i64 a, .int .i64 b, .int .i64 d]) (.agg #[.int .i64 a, .int .i64 b, .int .i64 d])) w = .ok (.bool false) w := by
  have hS : Try.prog.underlying 46 = some (.struct (Try.prog.fieldsOf 46)) := by kernel_rfl
  have hp : Try.prog.stoodInHeld 46 = false := by kernel_rfl
  have u3 := Try.underlying2
  have a3 := Try.isAgg2
  have z3 := Try.sizeOf2
  rw [run_neq_struct, show (10000 : Nat) = 9999 + 1 from rfl, run_equalIn_agg w 9999 46 _ _ hS hp]
  simp only [Program.fieldsOf, Try.underlying46]
  go_simp
set_option maxRecDepth 100000 in
theorem likeTicks_c (A A' : Option Addr) (c c' : Nat) (l : List Tick) (w : World) (hl : l.length ≤ 140737488351232) (hs : Sl w w.heap.size 3 A (l.map Tick.cells)) (hs' : Sl w w.heap.size 3 A' (l.map Tick.cells)) :
   Calls Try.prog 76 #[.slice A l.length c, .slice A' l.length c'] w fun e w' => e = .returned (.bool true) ∧ Below w.heap.size w w' := by
  have HN := fun a b d w => neTick a b d w
  have hgd : Try.prog.eqGuardType Try.prog.depth 46 = false := by kernel_rfl
  go_enter Try.func76, Try.ntmps76
  go_wp2_with fail
  go_loopw [5] (fun i wr => ∃ k : Nat, k ≤ l.length ∧ i = .int .i64 k ∧ Below w.heap.size w wr) (fun i _ => l.length - (intOf i).toNat)
  case atStart => exact ⟨0, Nat.zero_le _, rfl, Below.refl _ _⟩
  case round =>
    obtain ⟨k, hk, rfl, hb⟩ := hrel
    by_cases hlt : k < l.length
    · obtain ⟨b, off, rfl, hbB, hc⟩ := hs.at_ (i := k) (by simpa using hlt)
      obtain ⟨b', off', rfl, hbB', hc'⟩ := hs'.at_ (i := k) (by simpa using hlt)
      simp only [List.getElem_map] at hc hc'
      have c0 : wr.cell? ⟨b, off + k * 3, none⟩ = some (.int .i64 l[k].mark) := by rw [hb.cell hbB]; exact hc 0 _ rfl
      have c1 : wr.cell? ⟨b, off + k * 3 + 1, none⟩ = some (.int .i64 l[k].place) := by rw [hb.cell hbB]; exact hc 1 _ rfl
      have c2 : wr.cell? ⟨b, off + k * 3 + 2, none⟩ = some (.int .i64 l[k].height) := by rw [hb.cell hbB]; exact hc 2 _ rfl
      have d0 : wr.cell? ⟨b', off' + k * 3, none⟩ = some (.int .i64 l[k].mark) := by rw [hb.cell hbB']; exact hc' 0 _ rfl
      have d1 : wr.cell? ⟨b', off' + k * 3 + 1, none⟩ = some (.int .i64 l[k].place) := by rw [hb.cell hbB']; exact hc' 1 _ rfl
      have d2 : wr.cell? ⟨b', off' + k * 3 + 2, none⟩ = some (.int .i64 l[k].height) := by rw [hb.cell hbB']; exact hc' 2 _ rfl
      clear hc hc'
      go_wp2_with fail
      go_quiet (fail)
      go_wp2
      go_roundw
      case rel => exact ⟨k + 1, by omega, by go_num, (by repeat (first | with_reducible exact hb | with_reducible apply below_drewN' | with_reducible apply Below.drew | (with_reducible refine Below.alloc ?_ (by first | omega | (simp; omega) | simp) _) | (with_reducible refine Below.setCell ?_ (by first | omega | (simp; omega) | simp) _) | exact hb))⟩
      case measure => simp [intOf]; omega
    · have : k = l.length := by omega
      subst this
      go_wp2
      go_ret
      exact ⟨rfl, hb⟩
end Go.Proofs.Ytcpnmeebbbeakaa
