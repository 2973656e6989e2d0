/- The reference's draw of catalogues. Condition: the code has at most 4096 bytes. -/
import Derived.Deep.DeepCutAuto
import Derived.Deep.CutBlock
import Derived.Test.YtednjmldjbndhaaGreatDoorKMr39
set_option linter.unusedSimpArgs false
set_option linter.unusedVariables false
set_option maxRecDepth 100000
set_option maxHeartbeats 8000000
namespace Go.Proofs.YtednjmldjbndhaaGreatDoor
open Go.RowKit
structure LsD (A:Option Addr) (n c g:Nat) (w:World) (es:List EnR) (V:Value) (v:World):Prop where
 d:Ds A n c g w v
 l:EnsD v w.heap.size V es
section
variable {A : Option Addr} {n c g : Nat} {w : World} {es : List EnR} {V V' : Value} {v v' : World} {f : EnR}
theorem LsD.to (h:LsD A n c g w es V v) (hw:g < w.heap.size) (hS:Src v' A n c g) (hg:v.grownBy v' (some g)):LsD A n c g w es V v':=⟨h.d.to hS hg,h.l.src hg hw⟩
theorem LsD.below (h:LsD A n c g w es V v) (hb:Below v.heap.size v v'):LsD A n c g w es V v':=⟨h.d.below hb,h.l.below hb⟩
theorem LsD.alloc (h:LsD A n c g w es V v) (ob:Obj):LsD A n c g w es V (v.alloc ob):=h.below ((Below.refl _ _).alloc (Nat.le_refl _) ob)
theorem EnD.alloc {lo:Nat} {ow:Option Nat} (h:EnD v lo ow f) (ob:Obj):EnD (v.alloc ob) lo ow f:=h.below ((Below.refl _ _).alloc (Nat.le_refl _) ob)
theorem grown_appD {w a b:World} {g:Nat} {row:Option Nat} (h:w.grownBy a (some g)) (h':a.grownBy b row) (hr:∀ r,row=some r→w.heap.size ≤ r):w.grownBy b (some g) :=
 ⟨h'.os.trans h.os,h'.tape.trans h.tape,h'.output.trans h.output,Nat.le_trans h.size h'.size,fun k hk hne=>(h'.block k (Nat.lt_of_lt_of_le hk h.size) (fun e=>by have:=hr k e.symm;omega)).trans (h.block k hk hne)⟩
theorem LsD.push (h:LsD A n c g w es V v) (hw:g < w.heap.size) (hf:EnD v w.heap.size V.ownBlock f) (hn:es.length ≤ 12) (ho:Own v' w.heap.size 35 20 V' (es.map EnR.cells ++ [f.cells])) (hg:v.grownBy v' V.ownBlock) (hat:V'.ownBlock=V.ownBlock ∨ V'.ownBlock=some v.heap.size) :
  ∃ Al cl,V'=.slice Al (es ++ [f]).length cl∧LsD A n c g w (es ++ [f]) (.slice Al (es ++ [f]).length cl) v':=by
 obtain ⟨Al,cl,rfl,_⟩:=ho.form
 have hl:(es.map EnR.cells ++ [f.cells]).length=(es ++ [f]).length:=by simp
 have hr:es.map EnR.cells ++ [f.cells]=(es ++ [f]).map EnR.cells:=by simp
 rw [hl] at ho hat
 rw [hl]
 rw [hr] at ho
 have hge:=h.l.o.ownGe
 refine ⟨Al,cl,rfl,⟨h.d.s.grown hg (fun r e=>Nat.lt_of_lt_of_le hw (hge r e)),grown_appD h.d.g hg hge⟩,⟨by simp;omega,ho,fun x hx=>?_⟩⟩
 have hx2:EnD v w.heap.size V.ownBlock x:=by
  rcases List.mem_append.1 hx with h2 | h2
  ·exact h.l.i x h2
  ·rw [List.mem_singleton.1 h2];exact hf
 refine ⟨hx2.1,hx2.2.1.keep_ hg.size (fun b off e hb _=>hg.block b hb (fun e2=>hx2.2.2 b off e e2.symm)),fun b off e=>?_⟩
 rcases hat with h2 | h2
 ·rw [h2];exact hx2.2.2 b off e
 ·rw [h2]
  have:=hx2.2.1.ub b off e
  simp only [ne_eq,Option.some.injEq]
  omega
theorem EnD.in_ {lo:Nat} {ow:Option Nat} (h:EnD v lo ow f):EnIn v f.A f.c f.e:=⟨by have:=h.1.1;omega,by have:=h.1.2.2;omega,by have:=h.1.2.1;omega,h.2.1.s⟩
theorem EnsD.in_ {lo n cl:Nat} {Al:Option Addr} (h:EnsD v lo (.slice Al n cl) es):EnsIn v Al es:=⟨by have:=h.n;omega,h.o.sl,fun f hf=>(h.i f hf).in_⟩
theorem LsD.add (h:LsD A n c g w es V v) (hf:EnD v w.heap.size V.ownBlock f) (hb:Below v.heap.size v v') (hk:es.length ≤ 12) {x:Value} (ho:EnsOwn (ens es ++ [f.e]) x v' v.heap.size) :
  ∃ (es':List EnR) (Al:Option Addr) (cl:Nat),x=.slice Al es'.length cl∧es'.length=es.length+1∧LsD A n c g w es' (.slice Al es'.length cl) v':=by
 obtain ⟨Al,cl,fs,rfl,h2,h3,h4,h5,_⟩:=ho
 have hl:fs.length=(ens es ++ [f.e]).length:=by rw [← h2,ens_len]
 have hl2:fs.length=es.length+1:=by rw [hl];simp [ens]
 rw [← hl] at h4
 rw [← hl]
 have hsz:=h.d.size
 refine ⟨fs,Al,cl,rfl,hl2,h.d.below hb,⟨by omega,h4.mono hsz,fun y hy=>?_⟩⟩
 have hm:y.e ∈ ens es ++ [f.e]:=by rw [← h2];exact List.mem_map.2 ⟨y,hy,rfl⟩
 obtain ⟨p1,p2⟩:=h5 y hy
 refine ⟨?_,PwN.ofOwn p1 hsz,fun b off e hx=>?_⟩
 ·rcases List.mem_append.1 hm with h6 | h6
  ·obtain ⟨z,hz,hze⟩:=List.mem_map.1 h6
   rw [← hze]
   exact (h.l.i z hz).1
  ·rw [List.mem_singleton.1 h6];exact hf.1
 ·cases Al with
  | none=>simp [Value.ownBlock] at hx
  | some a =>
   obtain ⟨q,cap,cur,hv,_⟩:=(h4.1.2.resolve_left (by simp))
   injection hv with hq
   injection hq with hq
   subst hq
   simp only [Value.ownBlock,Option.some.injEq] at hx
   subst hx
   exact p2 _ rfl _ off e rfl
end
def DEs (A:Option Addr) (n c g:Nat) (w:World) (e:Ending) (w':World):Prop:=∃ (es:List EnR) (Al:Option Addr) (cl:Nat),e=.returned (.slice Al es.length cl)∧EnsD w' w.heap.size (.slice Al es.length cl) es∧Src w' A n c g∧w.grownBy w' (some g)
theorem l33Draw_c (A:Option Addr) (n c g:Nat) (w:World) (hS:Src w A n c g):Calls Tryz.prog 37 #[.pointer (some ⟨g,0,none⟩)] w (DEs A n c g w):=by
 obtain ⟨ii,hi,hz0,hz1,hz2⟩:=info_parts info_Entry
 have hlt:=hS.lt
 have hL:LsD A n c g w [] (.slice (some ⟨w.heap.size,0,none⟩) 0 0) (w.alloc (.cells #[] 35)):=⟨(Ds.init hS).alloc _,⟨by simp,Own.empty (Nat.le_refl _),by simp⟩⟩
 clear hS
 unfold DEs
 go_enter Tryz.func37,Tryz.ntmps37
 go_wp2_with fail
 generalize w.alloc (.cells #[] 35)=w0 at *
 refine (l01Next_c A n c g _ _ hL.d.s).mono ?_;rintro e w1 ⟨x,rfl,⟨xa,xb⟩,xd,hS,hg⟩
 replace hL:=hL.to hlt hS hg
 clear hS hg
 obtain ⟨k,rfl⟩:=Int.eq_ofNat_of_zero_le xa
 have hk:k ≤ 5:=by omega
 clear xa xb xd
 have hV:∃ (es:List EnR) (Al:Option Addr) (cl:Nat),(Value.slice (some ⟨w.heap.size,0,none⟩) 0 0)=.slice Al es.length cl∧es.length+k ≤ 5∧LsD A n c g w es (.slice Al es.length cl) w1:=⟨[],some ⟨w.heap.size,0,none⟩,0,rfl,by simp;omega,hL⟩
 clear hL
 go_wp2_with fail
 go_loopg [3,4,5,6,7] 5 (fun gx s3 s4 s5 s6 s7 wr=>∃ (es:List EnR) (Al:Option Addr) (cl k:Nat),s3=.slice Al es.length cl∧s4=.int .i64 (k:Int)∧k ≤ gx∧es.length+k ≤ 5∧LsD A n c g w es (.slice Al es.length cl) wr)
 case atStart =>
  obtain ⟨es,Al,cl,h1,h2,h3⟩:=hV
  exact ⟨es,Al,cl,k,h1,rfl,by omega,h2,h3⟩
 case round =>
  clear hV hk
  obtain ⟨es,Al,cl,k,hs6,hs7,hkg,hke,hL⟩:=hrel
  subst hs6;subst hs7
  by_cases hk0:(0:Int) < (k:Int)
  ·have hw1:IntKind.i64.wrap ((k:Int) - 1)=((k - 1:Nat):Int):=by rw [IntWalk.i64_in _ (by omega)];omega
   have HH:=Lib.hid (And.intro hkg hke)
   have hes:es.length ≤ 5:=by omega
   clear hkg hke
   replace hes:=Lib.hid hes
   go_wp2_with fail
   refine (l33DrawEntry_c A n c g _ hL.d.s w.heap.size Al cl es hL.l hlt hL.d.size).mono ?_;rintro e w7 ⟨f,rfl,hf,hS,hg⟩
   replace hL:=(hL.to hlt hS hg).alloc (.cells f.cells.toArray 35)
   replace hf:=hf.alloc (.cells f.cells.toArray 35)
   have Bf:=(Blk.new w7 35 f.cells.toArray).range
   clear hS hg
   have hfl:f.cells.length=20:=rfl
   have hfo:=En.one f.e f.A f.c
   rw [show f.e.cells f.A f.c=f.cells from rfl] at hfo
   have HA:=Lib.hid (specAddEntry_c Al cl es f.e f.A f.c _ hL.l.in_ hf.in_)
   rw [show f.e.cells f.A f.c=f.cells from rfl] at HA
   have HF:=Lib.hid hf
   clear hf
   generalize hfc:f.cells=fc at *
   replace hfc:=Lib.hid hfc
   have hz7:(w7.alloc (.cells fc.toArray 35)).heap.size=w7.heap.size+1:=by simp
   go_wp2_with (first | (refine wpList_store_new rfl _ _ rfl fc rfl rfl (by rw [hfl];kernel_rfl) (by rw [hfl];rfl) hfo ?_) | (refine wpList_load_mid rfl 35 _ rfl (w7.heap.size) 0 rfl (fc) _ Bf Tryz.underlying35 rfl (by kernel_rfl) ?_) | fail)
   generalize w7.alloc (.cells fc.toArray 35)=w8 at *
   have hcode:addC (ens es) f.e=0→addR (ens es) f.e=ens es ++ [f.e]:=fun h=>by unfold addR;rw [if_pos h]
   replace hcode:=Lib.hid hcode
   generalize addC (ens es) f.e=cd at *
   generalize addR (ens es) f.e=cr at *
   refine Calls.mono HA.out ?_;rintro e w9 ⟨x,rfl,hO,hb⟩
   clear HA Bf hfo
   by_cases hc0:cd=0
   ·rw [hcode.out hc0] at hO
    obtain ⟨es',Al',cl',rfl,hl',hL'⟩:=hL.add HF.out hb (by have:=hes.out;omega) hO
    subst hc0
    clear hO hb hL hcode HF
    obtain ⟨hkg,hke⟩:=HH.out
    replace hl':=Lib.hid hl'
    go_wp2_with fail
    go_roundg (k - 1)
    case measure=>omega
    case rel=>exact ⟨es',Al',cl',k - 1,rfl,rfl,by omega,by have:=hl'.out;omega,hL'⟩
   ·have hcb:(cd == 0)=false:=by simpa using hc0
    replace hL:=hL.below hb
    clear hO hb hcode HF hc0
    obtain ⟨hkg,hke⟩:=HH.out
    go_wp2_with fail
    go_roundg (k - 1)
    case measure=>omega
    case rel=>exact ⟨es,Al,cl,k - 1,rfl,rfl,by omega,by omega,hL⟩
  ·have hes:es.length ≤ 5:=by omega
   have hkz:k=0:=by omega
   clear hkg hke hk0
   subst hkz
   go_wp2_with fail
   refine (l01Next_c A n c g _ _ hL.d.s).mono ?_;rintro e w2 ⟨x,rfl,_,_,hS,hg⟩
   replace hL:=hL.to hlt hS hg
   clear hS hg
   go_upto_if 29 with fail
   go_cut [3] (fun s3 wx=>∃ (es:List EnR) (Al:Option Addr) (cl:Nat),s3=.slice Al es.length cl∧es.length ≤ 6∧LsD A n c g w es (.slice Al es.length cl) wx)
   case first =>
    by_cases hx0:x=0
    ·subst hx0
     replace hes:=Lib.hid hes
     go_wp2_with fail
     refine (l33DrawEntry_c A n c g _ hL.d.s w.heap.size Al cl es hL.l hlt hL.d.size).mono ?_;rintro e w7 ⟨f,rfl,hf,hS,hg⟩
     have hz77:w.heap.size ≤ w7.heap.size:=Nat.le_trans hL.d.size hg.size
     replace hL:=(hL.to hlt hS hg).alloc (.cells f.cells.toArray 35)
     replace hf:=hf.alloc (.cells f.cells.toArray 35)
     clear hS hg
     have hfl:f.cells.length=20:=rfl
     have hfo:=En.one f.e f.A f.c
     rw [show f.e.cells f.A f.c=f.cells from rfl] at hfo
     have hone5:∀ y ∈ [f.cells],∀ u ∈ y,u.oneCell'=true:=fun y hy u hu=>by
      obtain rfl:y=f.cells:=by simpa using hy
      exact hfo u hu
     have OL:=Own.lit1 (w:=w7) (base:=w.heap.size) (e:=35) (k:=20) (cs:=f.cells) hz77 hfl
     have HP:=Lib.hid (fun V' v' ho hg hat=>hL.push (V':=V') (v':=v') hlt hf (by have:=hes.out;omega) ho hg hat)
     have hLo:=hL.l.o
     have hLz:=hL.d.size
     clear hf hL
     generalize f.cells=fc at *
     go_wp2_with (first | (refine wpList_build_one rfl 24 35 _ rfl fc 20 hfl (by decide) (by decide) rfl ii _ Tryz.underlying24 hi hz0 hz1 ?_) | (at_builtin;refine wpList_append_rows _ rfl _ _ _ rfl w.heap.size 35 ii _ 20 192 Tryz.underlying24 hi hz0 hz1 hz2 rfl (by omega) _ _ rfl hLo _ _ _ _ [fc] rfl rfl OL.sl hone5 (by have:=hes.out;simp [maxLen];omega) (by have:=hes.out;simp;omega) hLz ?_;intro v9 w9 hO9 hg9 hat9))
     obtain ⟨Al',cl',rfl,hL9⟩:=HP.out _ _ hO9 hg9 hat9
     clear HP hO9 hg9 hat9 OL hone5 hfo hLo
     go_wp2_with fail
     go_meet
     case rel=>exact ⟨es ++ [f],Al',cl',rfl,by have:=hes.out;simp;omega,hL9⟩
    ·have hxb:(x == 0)=false:=by simpa using hx0
     go_wp2_with fail
     go_meet
     case rel=>exact ⟨es,Al,cl,rfl,by omega,hL⟩
   case rest =>
    clear hL hes es Al cl
    obtain ⟨es,Al,cl,rfl,hes,hL⟩:=hcut
    by_cases hnz:es.length=0
    ·have hn0:¬ (0:Int) < (es.length:Int):=by omega
     clear hnz
     go_wp2
     go_ret
     exact ⟨es,Al,cl,rfl,hL.l,hL.d.s,hL.d.g⟩
    ·have hn0:(0:Int) < (es.length:Int):=by omega
     clear hnz
     go_wp2_with fail
     refine (l01Next_c A n c g _ _ hL.d.s).mono ?_;rintro e w2 ⟨x,rfl,_,_,hS,hg⟩
     replace hL:=hL.to hlt hS hg
     clear hS hg
     by_cases hx0:x=0
     ·subst hx0
      have hV:∃ (es':List EnR) (Al':Option Addr) (cl' k:Nat),(Value.slice Al es.length cl)=.slice Al' es'.length cl'∧es'.length+k=13∧0 < es'.length∧LsD A n c g w es' (.slice Al' es'.length cl') w2:=⟨es,Al,cl,13 - es.length,rfl,by omega,by omega,hL⟩
      clear hL
      go_wp2_with fail
      go_loopg [3] 13 (fun gx s3 wr=>∃ (es:List EnR) (Al:Option Addr) (cl k:Nat),s3=.slice Al es.length cl∧k ≤ gx∧es.length+k=13∧0 < es.length∧LsD A n c g w es (.slice Al es.length cl) wr)
      case atStart =>
       obtain ⟨es',Al',cl',k,h1,h2,h3,h4⟩:=hV
       exact ⟨es',Al',cl',k,h1,by omega,h2,h3,h4⟩
      case round =>
       clear hV hn0 hes
       obtain ⟨es,Al,cl,k,rfl,hkg,hek,he0,hL⟩:=hrel
       have HH:=Lib.hid (And.intro hkg (And.intro hek he0))
       have hn0:(0:Int) < (es.length:Int):=by omega
       clear hkg hek he0
       go_wp2_with fail
       refine (l01Next_c A n c g _ _ hL.d.s).mono ?_;rintro e w3 ⟨q,rfl,⟨qa,qb⟩,qd,hS,hg⟩
       replace hL:=hL.to hlt hS hg
       clear hS hg
       have hq:q=0 ∨ q=1:=by omega
       have hw12:IntKind.i64.wrap (12+q)=12+q:=IntWalk.i64_in _ (by omega)
       by_cases hlq:(es.length:Int) < 12+q
       ·have hw1:IntKind.i64.wrap ((es.length:Int)+1)=es.length+1:=IntWalk.i64_in _ (by have:=HH.out;omega)
        have hlz:0 < es.length:=by have:=HH.out;omega
        have hl12:es.length ≤ 12:=by omega
        obtain ⟨b,off,hA,hbB,hc⟩:=hL.l.o.sl.rg (i:=0) (by simpa using hlz)
        subst hA
        simp only [List.getElem_map,Nat.zero_mul,Nat.add_zero] at hc
        have hmem:=List.getElem_mem hlz
        have hrr:w3.rangeAt b (off+2) (es[0].e.r.cells es[0].A es[0].c):=range_mid (P:=[.string es[0].e.ti,.int .i64 es[0].e.ve]) (T:=[.int .i64 es[0].e.ba]) hc
        clear hc hq qa qb qd
        have hf0:=hL.l.i _ hmem
        clear hmem
        generalize es[0]=f0 at *
        obtain ⟨⟨ti,ve,r,ba⟩,B,d⟩:=f0
        simp only at hrr hf0
        have hf:EnD w3 w.heap.size (Value.slice (some ⟨b,off,none⟩) es.length cl).ownBlock ⟨⟨⟨#[109,97,110,121]⟩,es.length+1,r,-1⟩,B,d⟩:=⟨⟨(show (⟨#[109,97,110,121]⟩:ByteArray).size ≤ 13 by decide),hf0.1.2⟩,hf0.2⟩
        have HP:=Lib.hid (fun ob V' v' ho hg hat=>(hL.alloc ob).push (V':=V') (v':=v') hlt (hf.alloc ob) hl12 ho hg hat)
        have HLen:=Lib.hid hl12
        have hLo:=hL.l.o
        have hLz:=hL.d.size
        clear hf0 hf hL hl12
        unfold Rl.cells at hrr
        obtain ⟨fd,ft,nm,l,wd,lf,rt,lud,lut,hud,hut,lvd,lvt,hvd,hvt,ey,bo⟩:=r
        simp only at hrr
        go_wp2_with (first | (refine wpList_load_mid rfl 33 _ rfl b (off+2) rfl _ _ hrr Tryz.underlying33 rfl (by kernel_rfl) ?_) | (at_builtin;refine wpList_append_rows _ rfl _ _ _ rfl w.heap.size 35 ii _ 20 192 Tryz.underlying24 hi hz0 hz1 hz2 rfl (by omega) _ _ rfl (hLo.alloc _) _ _ _ _ [EnR.cells ⟨⟨⟨#[109,97,110,121]⟩,es.length+1,⟨fd,ft,nm,l,wd,lf,rt,lud,lut,hud,hut,lvd,lvt,hvd,hvt,ey,bo⟩,-1⟩,B,d⟩] rfl rfl (Sl.of_blk (Blk.new' _ _ _ (by first | rfl | simp)) _ rfl (by simp [EnR.cells,En.cells,Rl.cells])) (fun y hy u hu=>by obtain rfl:=List.mem_singleton.1 hy;exact En.one _ _ _ u hu) (by have:=HLen.out;simp [maxLen];omega) (by have:=HLen.out;simp;omega) (by simp;omega) ?_;intro v9 w9 hO9 hg9 hat9))
        obtain ⟨Al',cl',rfl,hL9⟩:=HP.out _ _ _ hO9 hg9 hat9
        clear HP hO9 hg9 hat9 hLo hrr
        obtain ⟨hkg,hek,he0⟩:=HH.out
        have hl12:=HLen.out
        go_wp2_with fail
        go_roundg (k - 1)
        case measure=>omega
        case rel=>exact ⟨_,Al',cl',k - 1,rfl,by omega,by simp;omega,by simp,hL9⟩
       ·clear hq qa qb qd
        go_wp2
        go_ret
        exact ⟨es,Al,cl,rfl,hL.l,hL.d.s,hL.d.g⟩
     ·have hxb:(x == 0)=false:=by simpa using hx0
      clear hx0
      go_wp2
      go_ret
      exact ⟨es,Al,cl,rfl,hL.l,hL.d.s,hL.d.g⟩
end Go.Proofs.YtednjmldjbndhaaGreatDoor
