/- Releases as records: their cells behind a name. Conditions: the lengths. -/
import Derived.Test.YtmdliicdlehibaaMrk
import Derived.Test.YtmdliicdlehibaaRel0
import Derived.Deep.WholeRow
namespace Go.Proofs.Ytmdliicdlehibaa
open Go.RowKit
structure Rl where
  fd : Int
  ft : Int
  nm : ByteArray
  l : List Int
  wd : Int
  lf : Int
  rt : Int
  lud : Int
  lut : Int
  hud : Int
  hut : Int
  lvd : Int
  lvt : Int
  hvd : Int
  hvt : Int
  ey : Int
  bo : Int
def Rl.cells (r : Rl) (A : Option Addr) (c : Nat) : List Value := [.int .i64 r.fd, .int .i64 r.ft, .string r.nm, .slice A r.l.length c, .int .i64 r.wd, .int .i64 r.lf, .int .i64 r.rt, .int .i64 r.lud, .int .i64 r.lut, .int .i64 r.hud, .int .i64 r.hut, .int .i64 r.lvd, .int .i64 r.lvt, .int .i64 r.hvd, .int .i64 r.hvt, .int .i64 r.ey, .int .i64 r.bo]
def Rl.zero : List Value := [.int .i64 0, .int .i64 0, .string ByteArray.empty, .slice none 0 0, .int .i64 0, .int .i64 0, .int .i64 0, .int .i64 0, .int .i64 0, .int .i64 0, .int .i64 0, .int .i64 0, .int .i64 0, .int .i64 0, .int .i64 0, .int .i64 0, .int .i64 0]
theorem Rl.len (r : Rl) (A : Option Addr) (c : Nat) : (r.cells A c).length = 17 := rfl
theorem Rl.one (r : Rl) (A : Option Addr) (c : Nat) : ∀ v ∈ r.cells A c, v.oneCell' = true := by
  unfold Rl.cells
  simp only [List.mem_cons, List.not_mem_nil, or_false]
  rintro v hv
  rcases hv with h | h | h | h | h | h | h | h | h | h | h | h | h | h | h | h | h <;> subst h <;> rfl
def Rl.b (r : Rl) : Bool := relB r.fd r.ft r.nm r.l r.wd r.lf r.rt ⟨r.lud, r.lut⟩ ⟨r.hud, r.hut⟩ ⟨r.lvd, r.lvt⟩ ⟨r.hvd, r.hvt⟩ r.ey r.bo
def Rl.nums (r : Rl) : List Int := relNums r.fd r.ft r.l r.wd r.lf r.rt ⟨r.lud, r.lut⟩ ⟨r.hud, r.hut⟩ ⟨r.lvd, r.lvt⟩ ⟨r.hvd, r.hvt⟩ r.ey r.bo
structure RlIn (w : World) (A : Option Addr) (c : Nat) (r : Rl) : Prop where
  h : r.l.length ≤ 1048576
  hn : r.nm.size ≤ 1048576
  s : Sl w w.heap.size 1 A (r.l.map ic)
theorem RlIn.later {w W : World} {A : Option Addr} {c : Nat} {r : Rl} (E : RlIn w A c r) (hW : Below w.heap.size w W) : RlIn W A c r := ⟨E.h, E.hn, (E.s.below hW).more hW.size⟩
structure RlLaid (w : World) (A : Option Addr) (c : Nat) (r : Rl) : Prop where
  hm : r.nm.size ≤ maxLen
  k : r.l.length ≤ c
  z : r.l.length ≤ 140737488351232
  s : Sl w w.heap.size 1 A (r.l.map ic)
theorem RlLaid.rl {w : World} {A : Option Addr} {c : Nat} {r : Rl} (E : RlLaid w A c r) (h : r.nm.size ≤ 1048576 ∧ r.l.length ≤ 1048576) : RlIn w A c r := ⟨h.2, h.1, E.s⟩
/-- a whole struct into the block that was made last -/
theorem wpList_store_new {P : Program} {ops : Array Oper} {rest : List Oper} {op : Oper} {a : Act} {w : World} {Q : Exit → Act → World → Prop} {ty : TypeId} {c : Array Value} (hgd : op.guard = none) (x y : Operand) (ho : op.op = .store ty x y)
    (cs : List Value) (hx : a.eval x = .pointer (some ⟨w.heap.size, 0, none⟩)) (hy : a.eval y = .agg cs.toArray) (hi : (P.info? ty).map (·.size) = some cs.length) (hs : c.size = cs.length) (h1 : ∀ v ∈ cs, v.oneCell' = true)
    (h : wpList P ops Q rest (a.put op.dst undef) (w.alloc (.cells cs.toArray ty))) : wpList P ops Q (op :: rest) a (w.alloc (.cells c ty)) := by
  refine wpList_plain hgd fun K hK => ?_
  unfold Oper.wp execOp
  have hr := run_storeVar_new (P := P) w ty c cs.toArray (by simpa using hi) (by simpa using hs) (all_oneCell_toArray h1)
  simp only [ho, hx, hy, Instr.storeAt, Instr.sureAddr, Sem.run_bind, Sem.run_pure, Result.andThen_ok, hr]
  exact hK _ _ h
def RlCopy (r : Rl) (v : Value) (w : World) : Prop := ∃ B d, v = .agg (r.cells B d).toArray ∧ RlIn w B d r
theorem RlCopy.below {r : Rl} {v : Value} {w w' : World} (h : RlCopy r v w) (hb : Below w.heap.size w w') : RlCopy r v w' := let ⟨B, d, h1, h2⟩ := h; ⟨B, d, h1, h2.later hb⟩
theorem toRl_c (r : Rl) (A : Option Addr) (c : Nat) (w : World) (E : RlIn w A c r) : Calls Try.prog 8 #[.agg (r.cells A c).toArray] w fun e w' => (∃ v, e = .returned v ∧ RlCopy r v w') ∧ Below w.heap.size w w' :=
  (toRelease_c r.fd r.ft r.nm A c r.l r.wd r.lf r.rt r.lud r.lut r.hud r.hut r.lvd r.lvt r.hvd r.hvt r.ey r.bo w E.h E.s).mono fun _ _ ⟨B, d, he, o, hb⟩ => ⟨⟨_, he, B, d, rfl, E.h, E.hn, o.sl⟩, hb⟩
theorem eqRl_c (r : Rl) (A : Option Addr) (c : Nat) (B : Option Addr) (d : Nat) (w : World) (E : RlIn w A c r) (F : RlIn w B d r) : Calls Try.prog 10 #[.agg (r.cells A c).toArray, .agg (r.cells B d).toArray] w fun e w' => e = .returned (.bool true) ∧ Below w.heap.size w w' :=
  eqRelease_c r.fd r.ft r.nm A c B d r.l r.wd r.lf r.rt r.lud r.lut r.hud r.hut r.lvd r.lvt r.hvd r.hvt r.ey r.bo w E.h E.s F.s
theorem szRl_c (r : Rl) (A : Option Addr) (c : Nat) (left : Int) (w : World) (E : RlLaid w A c r) (hl : 0 ≤ left ∧ left ≤ 1048576) : Calls Try.prog 6 #[.agg (r.cells A c).toArray, .int .i64 left] w (SzP left (r.nm.size ≤ 1048576 ∧ r.l.length ≤ 1048576) w) :=
  szRelease_c r.fd r.ft r.nm A r.l.length c r.wd r.lf r.rt r.lud r.lut r.hud r.hut r.lvd r.lvt r.hvd r.hvt r.ey r.bo left w E.z E.hm hl
theorem implIsRl_c (r : Rl) (A : Option Addr) (c : Nat) (w : World) (E : RlIn w A c r) : Calls Try.prog 27 #[.agg (r.cells A c).toArray] w fun e w' => e = .returned (.bool r.b) ∧ Below w.heap.size w w' :=
  implIsRelease_c r.fd r.ft r.nm A c r.l r.wd r.lf r.rt ⟨r.lud, r.lut⟩ ⟨r.hud, r.hut⟩ ⟨r.lvd, r.lvt⟩ ⟨r.hvd, r.hvt⟩ r.ey r.bo w E.hn E.h E.s
theorem implMarkRl_c (r : Rl) (A : Option Addr) (c : Nat) (w : World) (E : RlIn w A c r) : Calls Try.prog 9 #[.agg (r.cells A c).toArray] w fun e w' => e = .returned (.tuple #[.int .i64 (relMark r.b r.nums), .int .i64 (relCode r.b)]) ∧ Below w.heap.size w w' :=
  implMarkOf_c r.fd r.ft r.nm A c r.l r.wd r.lf r.rt ⟨r.lud, r.lut⟩ ⟨r.hud, r.hut⟩ ⟨r.lvd, r.lvt⟩ ⟨r.hvd, r.hvt⟩ r.ey r.bo w E.hn E.h E.s
theorem specIsRl_c (r : Rl) (A : Option Addr) (c : Nat) (w : World) (E : RlIn w A c r) : Calls Try.prog 23 #[.agg (r.cells A c).toArray] w fun e w' => e = .returned (.bool r.b) ∧ Below w.heap.size w w' :=
  specIsRelease_c r.fd r.ft r.nm A c r.l r.wd r.lf r.rt ⟨r.lud, r.lut⟩ ⟨r.hud, r.hut⟩ ⟨r.lvd, r.lvt⟩ ⟨r.hvd, r.hvt⟩ r.ey r.bo w E.hn E.h E.s
theorem specMarkRl_c (r : Rl) (A : Option Addr) (c : Nat) (w : World) (E : RlIn w A c r) : Calls Try.prog 7 #[.agg (r.cells A c).toArray] w fun e w' => e = .returned (.tuple #[.int .i64 (relMark r.b r.nums), .int .i64 (relCode r.b)]) ∧ Below w.heap.size w w' :=
  specMarkOf_c r.fd r.ft r.nm A c r.l r.wd r.lf r.rt ⟨r.lud, r.lut⟩ ⟨r.hud, r.hut⟩ ⟨r.lvd, r.lvt⟩ ⟨r.hvd, r.hvt⟩ r.ey r.bo w E.hn E.h E.s
end Go.Proofs.Ytmdliicdlehibaa
