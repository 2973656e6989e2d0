/- The reference's draws of the laws on catalogues and on the marks of releases. Condition: the code has at most 4096 bytes. -/
import Derived.Test.YtednjmldjbndhaaGreatDoorKCt40
set_option linter.unusedSimpArgs false
set_option linter.unusedVariables false
set_option maxRecDepth 100000
set_option maxHeartbeats 8000000
namespace Go.Proofs.YtednjmldjbndhaaGreatDoor
open Go.RowKit
theorem res_slot_cells {P:Program} {fn:Func} {tm:Array Value} {j k:Nat} {t:TypeId} {g:Nat} {w:World} {v:Value} {vs:List Value} {t':TypeId} (hr:fn.results=#[.tmp j,.cell k t]) (hj:tm.getD j undef=v)
  (ht:tm.getD k undef=.pointer (some ⟨g,0,none⟩)) (hA:(isAgg t).run P w=.ok true w) (hS:(sizeOf t).run P w=.ok vs.length w) (hB:Blk w g t' vs.toArray) :
  (results fn tm).run P w=.ok (.tuple #[v,.agg vs.toArray]) w:=by
 have hl:=run_loadCells_list (P:=P) w ⟨g,0,none⟩ vs (fun j v hv=>by
  have:=hB.cell j
  rw [show (⟨g,0,none⟩:Addr).add j=⟨g,j,none⟩ by cases j <;> simp [Addr.add],this]
  simpa using hv)
 unfold loadCells at hl
 rw [Array.getD_eq_getD_getElem?] at ht hj
 unfold results
 rw [hr]
 simp [asAddr,loadVar,ht,hj,hA,hS,hl,go_sem,List.mapM_cons]
def DKe (w:World) (e:Ending) (w':World):Prop:=∃ (es:List EnR) (Al:Option Addr) (cl:Nat),e=.returned (.slice Al es.length cl)∧EnsIn w' Al es∧(es.length ≤ 13∧es.length ≤ cl)∧Below w.heap.size w w'
def DOr (w:World) (e:Ending) (w':World):Prop:=∃ (es:List EnR) (Al:Option Addr) (cl:Nat) (i:Int),e=.returned (.tuple #[.slice Al es.length cl,.int .i64 i])∧EnsIn w' Al es∧(es.length ≤ 13∧es.length ≤ cl)∧Below w.heap.size w w'
def DAd (w:World) (e:Ending) (w':World):Prop:=∃ (es:List EnR) (Al:Option Addr) (cl:Nat) (f:EnR),e=.returned (.tuple #[.slice Al es.length cl,.agg f.cells.toArray])∧EnsIn w' Al es∧(es.length ≤ 13∧es.length ≤ cl)∧EnIn w' f.A f.c f.e∧Below w.heap.size w w'
theorem drawKeptEntries_c (A:Option Addr) (n c:Nat) (w:World) (hn:n ≤ 4096) (hb:Bytes w A n w.heap.size):Calls Tryz.prog 14 #[.slice A n c] w (DKe w):=by
 have hF:=Lib.hid (l01From_c A n c w hn hb)
 clear hb
 unfold DKe
 go_enter Tryz.func14,Tryz.ntmps14
 go_wp2_with fail
 refine hF.out.mono ?_;rintro e w4 ⟨rfl,hS,hB⟩
 clear hF
 go_wp2_with fail
 refine (l33Draw_c A n c _ _ hS).mono ?_;rintro e w5 ⟨es,Al,cl,rfl,hE,hS5,hg⟩
 have hB5:=below_src hB hg hB.size (Nat.le_refl _)
 clear hS hg hB
 go_wp2
 go_ret
 exact ⟨es,Al,cl,rfl,hE.in_,⟨hE.n,by have:=hE.o.le_cap;simpa using this⟩,hB5⟩
theorem drawOriginOf_c (A:Option Addr) (n c:Nat) (w:World) (hn:n ≤ 4096) (hb:Bytes w A n w.heap.size):Calls Tryz.prog 9 #[.slice A n c] w (DOr w):=by
 have hF:=Lib.hid (l01From_c A n c w hn hb)
 clear hb
 unfold DOr
 go_enter Tryz.func9,Tryz.ntmps9
 go_wp2_with fail
 refine hF.out.mono ?_;rintro e w4 ⟨rfl,hS,hB⟩
 clear hF
 go_wp2_with fail
 refine (l33Draw_c A n c _ _ hS).mono ?_;rintro e w5 ⟨es,Al,cl,rfl,hE,hS5,hg⟩
 have hB5:=below_src hB hg hB.size (Nat.le_refl _)
 have hgl:=hS.lt
 clear hS hg hB
 go_wp2_with (go_at_call 44;refine (l01Next_c A n c w.heap.size _ _ hS5).mono ?_;rintro e w6 ⟨x,rfl,_,_,hS6,hg6⟩;have hB6:=below_src hB5 hg6 hB5.size (Nat.le_refl _);have hE6:=hE.src hg6 hgl;refine Hid.out ?_)
 refine Lib.hid ?_
 clear hB5 hE hS5 hg6
 go_wp2_with (go_at_call 44;refine (l01Next_c A n c w.heap.size _ _ hS6).mono ?_;rintro e w7 ⟨y,rfl,_,_,hS7,hg7⟩;have hB7:=below_src hB6 hg7 hB6.size (Nat.le_refl _);have hE7:=hE6.src hg7 hgl;refine Hid.out ?_)
 refine Lib.hid ?_
 clear hB6 hE6 hS6 hg7
 go_wp2_with (go_at_call 44;refine (l01Next_c A n c w.heap.size _ _ hS7).mono ?_;rintro e w8 ⟨z,rfl,_,_,hS8,hg8⟩;have hB8:=below_src hB7 hg8 hB7.size (Nat.le_refl _);have hE8:=hE7.src hg8 hgl;refine Hid.out ?_)
 refine Lib.hid ?_
 clear hB7 hE7 hS7 hg8
 go_wp2
 go_ret2
 exact ⟨es,Al,cl,_,rfl,hE8.in_,⟨hE8.n,by have:=hE8.o.le_cap;simpa using this⟩,hB8⟩
theorem drawAddEntry_c (A:Option Addr) (n c:Nat) (w:World) (hn:n ≤ 4096) (hb:Bytes w A n w.heap.size):Calls Tryz.prog 6 #[.slice A n c] w (DAd w):=by
 have B0:=Blk.new w 35 EnZ.toArray
 have hal:Below w.heap.size w (w.alloc (.cells EnZ.toArray 35)):=(Below.refl _ _).alloc (Nat.le_refl _) _
 have hF:=Lib.hid (l01From_c A n c (w.alloc (.cells EnZ.toArray 35)) hn ((hb.keep fun p hp=>hal.cell hp).more hal.size))
 have hz:(w.alloc (.cells EnZ.toArray 35)).heap.size=w.heap.size+1:=by simp
 clear hb
 unfold DAd
 unfold EnZ at hF hal hz
 have B0':Blk (w.alloc (.cells [.string ⟨#[]⟩,.int .i64 0,.int .i64 0,.int .i64 0,.string ⟨#[]⟩,.slice none 0 0,.int .i64 0,.int .i64 0,.int .i64 0,.int .i64 0,.int .i64 0,.int .i64 0,.int .i64 0,.int .i64 0,.int .i64 0,.int .i64 0,.int .i64 0,.int .i64 0,.int .i64 0,.int .i64 0].toArray 35)) w.heap.size 35 EnZ.toArray:=B0
 clear B0
 go_enter Tryz.func6,Tryz.ntmps6
 go_wp2_with fail
 generalize w.alloc (.cells [.string ⟨#[]⟩,.int .i64 0,.int .i64 0,.int .i64 0,.string ⟨#[]⟩,.slice none 0 0,.int .i64 0,.int .i64 0,.int .i64 0,.int .i64 0,.int .i64 0,.int .i64 0,.int .i64 0,.int .i64 0,.int .i64 0,.int .i64 0,.int .i64 0,.int .i64 0,.int .i64 0,.int .i64 0].toArray 35)=w3 at *
 refine hF.out.mono ?_;rintro e w4 ⟨rfl,hS,hB⟩
 clear hF
 have hB4:=hal.trans (hB.mono (by omega))
 replace B0':=B0'.below hB (by omega)
 clear hB hal
 rw [hz] at hS
 have hz4:(.pointer (some ⟨w3.heap.size,0,none⟩):Value)=.pointer (some ⟨w.heap.size+1,0,none⟩):=by rw [hz]
 rw [hz]
 clear hz4 hz
 go_wp2_with fail
 refine (l33Draw_c A n c _ _ hS).mono ?_;rintro e w5 ⟨es,Al,cl,rfl,hE,hS5,hg⟩
 have hB5:=below_src hB4 hg hB4.size (Nat.le_succ _)
 replace B0':=B0'.src hg (by omega)
 have hgl:=hS.lt
 have hg5:=hg.size
 clear hS hg hB4
 go_wp2_with fail
 refine (l33DrawEntry_c A n c _ _ hS5 w4.heap.size Al cl es hE hgl hg5).mono ?_;rintro e w6 ⟨f,rfl,hf,hS6,hg6⟩
 have hB6:=below_src hB5 hg6 hB5.size (Nat.le_succ _)
 replace B0':=B0'.src hg6 (by omega)
 replace hE:=hE.src hg6 hgl
 have hw4:w.heap.size < w4.heap.size:=by omega
 clear hg6 hB5 hS5 hS6
 have hfl:f.cells.length=20:=rfl
 have hfo:=En.one f.e f.A f.c
 rw [show f.e.cells f.A f.c=f.cells from rfl] at hfo
 generalize hfc:f.cells=fc at *
 replace hfc:=Lib.hid hfc
 unfold EnZ at B0'
 go_wp2_with (refine wpList_store_part rfl 35 _ _ rfl w.heap.size 0 fc rfl rfl B0' (by rw [hfl];simp) (by rw [hfl];kernel_rfl) hfo ?_;intro w9 hg9 D9;refine Hid.out ?_)
 refine Lib.hid ?_
 have R9:Blk w9 w.heap.size 35 fc.toArray:=by
  have h:=fill_mid fc [Value.string ⟨#[]⟩,.int .i64 0,.int .i64 0,.int .i64 0,.string ⟨#[]⟩,.slice none 0 0,.int .i64 0,.int .i64 0,.int .i64 0,.int .i64 0,.int .i64 0,.int .i64 0,.int .i64 0,.int .i64 0,.int .i64 0,.int .i64 0,.int .i64 0,.int .i64 0,.int .i64 0,.int .i64 0] [] [] (by rw [hfl];rfl)
  simp only [List.nil_append,List.append_nil,List.length_nil] at h
  rw [← h]
  exact D9
 have hE9:EnsD w9 w4.heap.size (.slice Al es.length cl) es:=⟨hE.n,hE.o.kept hg9 (.inr (fun e=>by have:=(hE.o.1.lt _ e).1;omega)),fun x hx=>(hE.i x hx).off hg9 (fun b off e=>by have:=(hE.i x hx).2.1.nb b off e;omega)⟩
 have hf9:=hf.off hg9 (fun b off e=>by have:=hf.2.1.nb b off e;omega)
 have hB9:=hB6.grown hg9 hB6.size (fun r e=>by cases e;exact Nat.le_refl _)
 clear D9 B0' hE hf hB6 hg9
 go_wp2_with fail
 refine bodyPost_ret (res_slot_cells (j:=2) (k:=3) (v:=.slice Al es.length cl) (vs:=fc) Tryz.results6 rfl rfl (aggEnD w9) (by rw [hfl];exact szEnD w9) R9) rfl ⟨es,Al,cl,f,by rw [hfc.out],hE9.in_,⟨hE9.n,by have:=hE9.o.le_cap;simpa using this⟩,hf9.in_,hB9⟩
structure LaS (A:Option Addr) (n c g lo:Nat) (w w5:World) (V:Value) (es:List EnR) (v:World):Prop where
 s:Src v A n c g
 b:Below w.heap.size w v
 l:EnsD v lo V es
end Go.Proofs.YtednjmldjbndhaaGreatDoor
