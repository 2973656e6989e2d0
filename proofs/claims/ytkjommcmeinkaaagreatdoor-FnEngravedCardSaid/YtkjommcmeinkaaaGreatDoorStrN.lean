/- Numbers read, texts split: the program's and the reference's. Conditions: what the library's variables hold; the lengths. -/
import Derived.Test.YtkjommcmeinkaaaGreatDoorStrT2
import Derived.Test.YtkjommcmeinkaaaGreatDoorLayP
namespace Go.Proofs.YtkjommcmeinkaaaGreatDoor
open Go.RowKit
set_option linter.unusedSimpArgs false
theorem bs_beq (l m : List UInt8) : ((bs l).toList == (bs m).toList) = decide (l = m) := by
  rw [ByteArray.toList_eq, ByteArray.toList_eq, bs_data, bs_data]
  by_cases h : l = m
  · subst h; simp
  · rw [decide_eq_false h]; simpa using h
theorem bs_extract (l : List UInt8) (a b : Nat) : (bs l).extract a b = bs ((l.drop a).take (b - a)) := by
  apply ByteArray.ext
  unfold bs
  simp only [ByteArray.data_extract]
  apply Array.ext'
  simp
theorem bs_get {l : List UInt8} {k : Nat} (_ : k < (bs l).size) (h2 : k < l.length) : l[k] = (bs l)[k]'(by rw [bs_size]; exact h2) := rfl
theorem lt_step {a d p x : Nat} (hd : d ≤ 9) (h : x < (a * 10 + d + 1) * p) : x < (a + 1) * (10 * p) := by
  have h2 : (a * 10 + d + 1) * p ≤ ((a + 1) * 10) * p := Nat.mul_le_mul_right p (by omega)
  rw [← Nat.mul_assoc]
  omega
theorem valD_lt (l : List UInt8) : ∀ a : Nat, l.all digB = true → valD a l < (a + 1) * 10 ^ l.length := by
  induction l with
  | nil =>
    intro a _
    rw [List.length_nil, Nat.pow_zero, Nat.mul_one]
    exact Nat.lt_succ_self a
  | cons c r ih =>
    intro a h
    rw [List.all_cons, Bool.and_eq_true] at h
    have hc := digB_iff.1 h.1
    have h1 := ih (a * 10 + (c.toNat - 48)) h.2
    rw [List.length_cons, Nat.pow_succ, Nat.mul_comm (10 ^ r.length) 10]
    exact lt_step (by omega) h1
theorem valD_13 {l : List UInt8} {k : Nat} (h : (l.take k).all digB = true) (hk : k ≤ 13) : valD 0 (l.take k) < 10000000000000 := by
  have h1 := valD_lt (l.take k) 0 h
  have h2 : 10 ^ (l.take k).length ≤ 10 ^ 13 := Nat.pow_le_pow_right (by omega) (by rw [List.length_take]; omega)
  omega
/-- what the library's variables hold -/
structure LwP (w : World) : Prop where
  t : LwT w
  s : ∃ te pe, w.cell? ⟨3, 0, none⟩ = some (.iface te pe)
  r : ∃ te pe, w.cell? ⟨4, 0, none⟩ = some (.iface te pe)
  m : ∃ m, w.cell? ⟨0, 0, none⟩ = some (.int .i64 m)
theorem LwP.below {w w' : World} (h : LwP w) (hb : Below w.heap.size w w') : LwP w' := by
  obtain ⟨t, ⟨a, b, s⟩, ⟨c, d, r⟩, ⟨m, hm⟩⟩ := h
  exact ⟨t.below hb, ⟨a, b, cell_keep hb s⟩, ⟨c, d, cell_keep hb r⟩, ⟨m, cell_keep hb hm⟩⟩
/-- how the library's parser answers -/
def ParseP (s : List UInt8) (e : Ending) : Prop := (∃ v : Int, Lib.parseIntB 64 s = .ok v ∧ e = .returned (.tuple #[.int .i64 v, .nilIface])) ∨ ((∀ v, Lib.parseIntB 64 s ≠ .ok v) ∧ ∃ (n : Int) (t : TypeId) (N : Nat), e = .returned (.tuple #[.int .i64 n, .iface t (.pointer (some ⟨N, 0, none⟩))]))
theorem parse_c (s : List UInt8) (w : World) (hl : s.length ≤ 1048576) (L : LwP w) : Calls Tryz.prog 64 #[.string (bs s), .int .i64 10, .int .i64 64] w fun e w' => ParseP s e ∧ Below w.heap.size w w' := by
  have hsz := bs_size s
  cases hp : Lib.parseIntB 64 s
  · rename_i v
    refine (Any.strconv_ParseInt_10_at64_ok Tryz.layParse (bs s) (by omega) v (by rw [bs_data]; exact hp) w).mono ?_
    rintro e w' ⟨rfl, hw⟩
    refine ⟨.inl ⟨v, hp, rfl⟩, ?_⟩
    rcases hw with rfl | ⟨t, rfl⟩
    · exact Below.refl _ _
    · exact Lib.bytesWorld_below _ _ _
  · obtain ⟨te, pe, hv⟩ := L.s
    refine (Any.strconv_ParseInt_10_at64_syntax Tryz.layParse (bs s) (by omega) (by rw [bs_data]; exact hp) _ w hv (.inr ⟨te, pe, rfl⟩)).mono ?_
    rintro e w' ⟨N, rfl, _, _, hb⟩
    exact ⟨.inr ⟨(by intro v; rw [hp]; nofun), _, _, _, rfl⟩, hb⟩
  · obtain ⟨te, pe, hv⟩ := L.r
    refine (Any.strconv_ParseInt_10_at64_range Tryz.layParse (bs s) (by omega) (by rw [bs_data]; exact hp) _ w hv (.inr ⟨te, pe, rfl⟩)).mono ?_
    rintro e w' ⟨N, rfl, _, _, hb⟩
    exact ⟨.inr ⟨(by intro v; rw [hp]; nofun), _, _, _, rfl⟩, hb⟩
def NumP (o : Option Int) (e : Ending) : Prop := ∃ n : Int, e = .returned (.tuple #[.int .i64 n, .bool o.isSome]) ∧ ∀ v, o = some v → n = v
theorem numI_ok {s : List UInt8} {v : Int} (h : Lib.parseIntB 64 s = .ok v) : numI s = if Lib.itoa v = s then some v else none := by
  unfold numI
  rw [h]
theorem numI_no {s : List UInt8} (h : ∀ v, Lib.parseIntB 64 s ≠ .ok v) : numI s = none := by
  unfold numI
  split
  · rename_i v hv
    exact absurd hv (h v)
  · rfl
set_option maxRecDepth 100000 in
theorem number_c (s : List UInt8) (w : World) (hl : s.length ≤ 1048576) (L : LwP w) : Calls Tryz.prog 47 #[.string (bs s)] w fun e w' => NumP (numI s) e ∧ Below w.heap.size w w' := by
  have HP := Lib.hid (parse_c s w hl L)
  have HT : Hid (∀ W, Below w.heap.size w W → LwT W) := Lib.hid (fun W h => L.t.below h)
  have HE := Lib.hid (fun v => bs_beq (Lib.itoa v) s)
  have HO := Lib.hid (fun v h => numI_ok (s := s) (v := v) h)
  have HN := Lib.hid (fun h => numI_no (s := s) h)
  clear L
  unfold NumP
  generalize numI s = o at *
  generalize hbs : bs s = S at *
  replace hbs := Lib.hid hbs
  go_enter Tryz.func47, Tryz.ntmps47
  go_wp2_with fail
  refine Calls.mono HP.out ?_; rintro e w1 ⟨hq, hb1⟩
  rcases hq with ⟨v, hv, rfl⟩ | ⟨hv, n, t, N, rfl⟩
  · have hvb := Lib.parseIntB_bounds hv
    simp at hvb
    have hD := Lib.hid (decimal_c v w1 (by omega) (by omega) (HT.out w1 hb1))
    have hE := HE.out v
    have hO := HO.out v hv
    by_cases he : Lib.itoa v = s
    · rw [decide_eq_true he] at hE
      rw [if_pos he] at hO
      subst hO
      clear HP HT HE HO HN he hv
      generalize bs (Lib.itoa v) = T at *
      go_wp2_with fail
      refine Calls.mono hD.out ?_; rintro e w2 ⟨rfl, hb2⟩
      go_wp2
      go_ret2
      exact ⟨⟨v, rfl, fun u h => by simpa using h⟩, hb1.trans (hb2.mono hb1.size)⟩
    · rw [decide_eq_false he] at hE
      rw [if_neg he] at hO
      subst hO
      clear HP HT HE HO HN he hv
      generalize bs (Lib.itoa v) = T at *
      go_wp2_with fail
      refine Calls.mono hD.out ?_; rintro e w2 ⟨rfl, hb2⟩
      go_wp2
      go_ret2
      exact ⟨⟨0, rfl, nofun⟩, hb1.trans (hb2.mono hb1.size)⟩
  · obtain rfl := HN.out hv
    clear HP HT HE HO HN hv
    go_wp2
    go_ret2
    exact ⟨⟨0, rfl, nofun⟩, hb1⟩
end Go.Proofs.YtkjommcmeinkaaaGreatDoor
