/- A forest in the heap: spans, places and fans by their keys; how it is planted. -/
import Derived.Test.YtgfjpnpbkkadpaaGreatDels
import Derived.Test.YtgfjpnpbkkadpaaGreatClsPs
import Derived.Test.YtgfjpnpbkkadpaaGreatMp
namespace Go.Proofs.YtgfjpnpbkkadpaaGreat
open Tryz
open Go.RowKit
namespace ClsF
open KeyP PackP SetP SetW SetF Cls ClsW
attribute [local go_sem] Eng.ev Eng.getO_cons Eng.getO_nil
abbrev TPl:TypeId:=91
abbrev Pc:=Pq
abbrev zP:Value:=.agg #[.int .i64 0,.int .i64 0,.int .i64 0,.int .i64 0,.int .i64 0,.int .i64 0]
def cnt (L:List Sn) (t p:Int):Nat:=(L.filter (fun y=>decide (y.t=t)&&decide (y.p=p))).length
theorem cnt_le (L:List Sn) (t p:Int):cnt L t p≤L.length:=List.length_filter_le _ _
theorem cnt_snoc {L:List Sn} {k:Nat} (h:k<L.length) (t p:Int):cnt (L.take (k+1)) t p=cnt (L.take k) t p+if L[k].t=t∧L[k].p=p then 1 else 0:=by
 unfold cnt
 rw [List.take_succ_eq_append_getElem h,List.filter_append,List.length_append,List.filter_cons]
 by_cases e:L[k].t=t∧L[k].p=p
 ·rw [if_pos e,decide_eq_true e.1,decide_eq_true e.2];rfl
 ·rw [if_neg e]
  have:(decide (L[k].t=t)&&decide (L[k].p=p))=false:=by
   rw [←Bool.decide_and];exact decide_eq_false e
  rw [this];rfl
end ClsF
namespace ClsS
open KeyP
instance decBA:DecidableEq ByteArray:=fun x y=>if h:x.data=y.data then isTrue (ByteArray.ext h) else isFalse (fun e=>h (by rw [e]))
instance decMem (n:ByteArray) (l:List ByteArray):Decidable (n∈l):=decidable_of_iff (l.any (fun x=>decide (x=n))=true) (by simp)
end ClsS
namespace ClsF
open KeyP PackP SetP SetW SetF Cls ClsW ClsS
attribute [local go_sem] Eng.ev Eng.getO_cons Eng.getO_nil
theorem nodup_snoc {s:List Sn} {y:Sn} (hn:s.Nodup) (hf:(fnd y s).isSome=false):(s++ [y]).Nodup:=by
 rw [List.nodup_append]
 refine ⟨hn,by simp,fun a ha b hb e=>?_⟩
 simp at hb;subst hb;subst e
 have:fnd a s=none:=by cases hq:fnd a s with
  |none=>rfl
  |some q=>rw [hq] at hf;cases hf
 have:=fnd_none this a ha
 rw [one_refl] at this;cases this
end ClsF
namespace ClsF
open KeyP PackP SetP SetW SetF Cls ClsW ClsS
attribute [local go_sem] Eng.ev Eng.getO_cons Eng.getO_nil
abbrev put6 (w:World) (b:Nat) (p:Pc):World:=((((((w.setCell ⟨b,0,none⟩ (.int .i64 p.t)).setCell ⟨b,1,none⟩ (.int .i64 p.i)).setCell ⟨b,2,none⟩ (.int .i64 p.c)).setCell ⟨b,3,none⟩ (.int .i64 p.d)).setCell ⟨b,4,none⟩ (.int .i64 p.p)).setCell ⟨b,5,none⟩ (.int .i64 p.f))
theorem put6_bk {w:World} {b:Nat} {q:Pc} (h:Bk w b q.arr TPl) (p:Pc):Bk (put6 w b p) b p.arr TPl:=by
 have h1:=((((((h.set 0 (.int .i64 p.t)).set 1 (.int .i64 p.i)).set 2 (.int .i64 p.c)).set 3 (.int .i64 p.d)).set 4 (.int .i64 p.p)).set 5 (.int .i64 p.f))
 simpa using h1
theorem frs1 {w w':World} {b:Nat} (h:Fr (fun k=>k=b) w w') (o:Nat) (u:Value):Fr (fun k=>k=b) w (w'.setCell ⟨b,o,none⟩ u):=h.trans (Fr.setCell w' ⟨b,o,none⟩ u (S:=fun k=>k=b) rfl) (fun _ _ h=>h) (fun _ _ h=>h)
theorem put6_fr (w:World) (b:Nat) (p:Pc):Fr (fun k=>k=b) w (put6 w b p):=(frs1 (frs1 (frs1 (frs1 (frs1 (frs1 (Fr.refl _ w) 0 (.int .i64 p.t)) 1 (.int .i64 p.i)) 2 (.int .i64 p.c)) 3 (.int .i64 p.d)) 4 (.int .i64 p.p)) 5 (.int .i64 p.f))
abbrev z6:Pc:=⟨0,0,0,0,0,0⟩
end ClsF
namespace ClsF
open KeyP PackP SetP SetW SetF Cls ClsW ClsS
attribute [local go_sem] Eng.ev Eng.getO_cons Eng.getO_nil
def plc (L:List Sn) (y:Sn):Pc:=⟨y.t,y.i,(cdt L y).1,(cdt L y).2.1,(cdt L y).2.2,((fan L y:Nat):Int)⟩
end ClsF
namespace ClsF
open KeyP PackP SetP SetW SetF Cls ClsW ClsS
attribute [local go_sem] Eng.ev Eng.getO_cons Eng.getO_nil
abbrev TPls:TypeId:=78
theorem infoP:(prog.info? TPl).map (fun i=>(i.zero,i.size,i.bytes))=some (some zP,6,48):=by kernel_rfl
abbrev pcs (l:List Pc):List Value:=l.flatMap Pq.cs
theorem spn_srs (L:List Sn):Srs (spn L):=List.Pairwise.filter _ (setOf_ok L).srs
theorem spn_len (L:List Sn):(spn L).length≤L.length:=Nat.le_trans (alive_len _) (setOf_len L)
abbrev plcs (L:List Sn):List Pc:=L.map (plc L)
end ClsF
namespace ClsF
open KeyP PackP SetP SetW SetF Cls ClsW ClsS Pack
attribute [local go_sem] Eng.ev Eng.getO_cons Eng.getO_nil
abbrev wy (L:List Sn) (t i:Int):List Sn:=(way L t (L.length+1) [] i).1
theorem wy_len (L:List Sn) (t i:Int):(wy L t i).length≤L.length:=by
 obtain ⟨e,h1,h2,-⟩:=way_T (L:=L) (t:=t) i
 exact sub_len h2 (fun z hz=>(h1.mem z hz).1)
end ClsF
set_option maxRecDepth 100000
set_option maxHeartbeats 1000000
namespace ClsF
open KeyP PackP SetP SetW SetF Cls ClsW ClsS Pack
attribute [local go_sem] Eng.ev Eng.getO_cons Eng.getO_nil
theorem posI_none {L:List Sn} {t i:Int} (h:nx L t i=none) (z:Sn) (h1:z.t=t) (h2:z.i=i):posI z L= -1:=by
 unfold posI
 rw [pos_none (fun y hy=>?_)]
 have:=List.find?_eq_none.1 h y hy
 cases ho:one y z with
 |false=>rfl
 |true=>
  have:=one_iff.1 ho
  subst h1 h2
  simp_all
theorem posI_some {L:List Sn} {t i:Int} {y:Sn} (h:nx L t i=some y) (z:Sn) (h1:z.t=t) (h2:z.i=i):∃k:Nat,∃hk:k<L.length,posI z L=(k:Int)∧L[k]=y:=by
 obtain ⟨hp,k,hk,hy,hn⟩:=List.find?_eq_some_iff_getElem.1 h
 refine ⟨k,hk,?_,hy⟩
 subst h1 h2
 unfold posI
 rw [pos_at (k:=k) (fun x hx=>?_) hk (one_iff.2 (by rw [hy];simpa using hp))]
 obtain ⟨j,hj,rfl⟩:=List.mem_iff_getElem.1 hx
 rw [List.length_take] at hj
 have:=hn j (by omega)
 cases ho:one ((L.take k)[j]) z with
 |false=>rfl
 |true=>
  have h3:=one_iff.1 ho
  rw [List.getElem_take] at h3
  simp [h3.1,h3.2] at this
theorem posI_fnd (y:Sn) (s:List Sn):decide (posI y s≥0)=(fnd y s).isSome:=by
 unfold posI pos fnd
 cases h:s.findIdx? (fun x=>one x y) with
 |none=>
  rw [List.findIdx?_eq_none_iff] at h
  rw [List.find?_eq_none.2 (fun x hx=>by rw [h x hx];simp)]
  rfl
 |some k=>
  obtain ⟨hk,hy,-⟩:=List.findIdx?_eq_some_iff_getElem.1 h
  have:(s.find? (fun x=>one x y)).isSome=true:=List.find?_isSome.2 ⟨s[k],List.getElem_mem hk,hy⟩
  rw [this]
  simp
theorem way_go {L:List Sn} {t i:Int} {n:Nat} {s:List Sn} {y:Sn} (hn:nx L t i=some y) (hf:(fnd y s).isSome=false):way L t (n+1) s i=way L t n (s++ [y]) y.p:=by
 conv=>lhs;unfold way
 rw [hn];dsimp only;rw [if_neg (by rw [hf];simp)]
theorem RChain (t i0:Int) (A:Option Addr) (c:Nat) (L:List Sn) (w:World) (hS:Ls w A c L) (hlen:L.length≤1000000) (W:List Sn × Bool) (hW:way L t (L.length+1) [] i0=W):
  Calls prog 156 #[.slice A L.length c,.int .i64 t,.int .i64 i0] w fun e w'=>∃A' c',e=.returned (.tuple #[.slice A' W.1.length c',.bool W.2])∧Sl w' 9 A' W.1.length c' (W.1.flatMap scs)∧Below w.heap.size w w':=by
 obtain ⟨j0,hi,hz0,hz1,hz2⟩:=info_parts infoS
 have HS:=Lib.hid hS;have HW:=Lib.hid hW
 clear hS hW
 have kb:∀ (i:Int) (W:World),(Instr.build TSn #[(0,.int .i64 t),(1,.int .i64 i)]).run prog W=.ok (.agg #[.int .i64 t,.int .i64 i,.int .i64 0,.int .i64 0,.string ByteArray.empty,.string ByteArray.empty,.int .i64 0,.int .i64 0,.bool false]) W:=fun i W=>by kernel_rfl
 go_enter func156,ntmps156
 go_wp2_with fail
 go_loopg [2,8,9] (L.length+1) (fun gk v2 v8 _ wr=>∃ (s:List Sn) (i:Int),v2=.int .i64 i∧gk=L.length+1-s.length∧wr.ownsRow w.heap.size TSn 9 v8 s.length (s.flatMap scs)∧Below w.heap.size w wr∧Ch L t i0 s i∧s.Nodup∧way L t gk s i=W)
 case atStart=>exact ⟨[],i0,rfl,rfl,World.ownsRow_nil _ _ _ _,Below.refl _ _,.nil _,List.nodup_nil,HW.out⟩
 case round=>
  clear HW
  obtain ⟨s,i,rfl,hg,hown,hbel,hch,hnd,hw⟩:=hrel
  have hsl:s.length≤L.length:=sub_len hnd (fun z hz=>(hch.mem z hz).1)
  obtain ⟨r,hr⟩:∃r,gk=r+1:=⟨L.length-s.length,by omega⟩
  subst hr
  obtain ⟨A8,c8,hv8,h8,hA8⟩:=Sl.of_own hown
  subst hv8
  have HG:=Lib.hid hg;have HO:=Lib.hid hown;have HBe:=Lib.hid hbel;have HCh:=Lib.hid hch;have HNd:=Lib.hid hnd;have HWa:=Lib.hid hw
  have HLr:=Lib.hid (HS.out.below hbel);have HK1:=Lib.hid (ownsRow_blk hown)
  have hszw:w.heap.size≤wr.heap.size:=hbel.size
  clear hg hown hbel hch hnd hw h8 hA8
  have HFd:=Lib.hid (Find A c L ⟨t,i,0,0,ByteArray.empty,ByteArray.empty,0,0,false⟩ wr HLr.out.s)
  have kb1:=kb i
  go_upto_region 2 with (fail)
  cases hn:nx L t i with
  |none=>
   have hw1:way L t (r+1) s i=(s,false):=by unfold way;rw [hn]
   have HWe:=Lib.hid (HWa.out.symm.trans hw1)
   rw [posI_none hn _ rfl rfl] at HFd
   clear hw1 hn kb
   go_wp2_with fail
   refine HFd.out.mono ?_
   rintro e w3 ⟨rfl,hf3⟩
   have HO3:=Lib.hid (ownsRow_fr HO.out hf3 (fun _ _ h=>h));have HB3:=Lib.hid (HBe.out.trans (hf3.below hszw (fun _ _ h=>h)))
   clear hf3 HFd kb1
   go_wp2_with fail
   go_ret2
   obtain ⟨A9,c9,hv9,h9,-⟩:=Sl.of_own HO3.out
   injection hv9 with h91 h92 h93
   subst h91 h93
   rw [HWe.out]
   exact ⟨A8,c8,rfl,h9,HB3.out⟩
  |some y=>
   obtain ⟨k,hk,hpk,hy⟩:=posI_some hn ⟨t,i,0,0,ByteArray.empty,ByteArray.empty,0,0,false⟩ rfl rfl
   rw [hpk] at HFd
   have HSt:Hid ((fnd y s).isSome=true→(s,true)=W):=fun hf=>by rw [←HWa.out];unfold way;rw [hn];dsimp only;rw [if_pos hf]
   have HGo:Hid ((fnd y s).isSome=false→way L t r (s++ [y]) y.p=W):=fun hf=>(way_go hn hf).symm.trans HWa.out
   have HSn:=Lib.hid (HCh.out.snoc hn)
   obtain ⟨b1,o1,rfl,hb1,c1⟩:=HS.out.s.at hk (by omega)
   have hA0:=At.row c1 hk
   rw [hy] at hA0
   have HA0:=Lib.hid hA0
   have HA:=Lib.hid (hA0.fr (Fr.of_below' HBe.out (fun _=>False)) (fun h=>h))
   clear c1 hb1 hn hpk hy kb hA0
   have q1:(0:Int)≤(k:Int):=by omega
   have q2:(k:Int)<(L.length:Int):=by omega
   have q3:decide ((k:Int)<0)=false:=by simp
   go_wp2_with fail
   refine HFd.out.mono ?_
   rintro e w3 ⟨rfl,hf3⟩
   have HO3:=Lib.hid (ownsRow_fr HO.out hf3 (fun _ _ h=>h));have HB3:=Lib.hid (HBe.out.trans (hf3.below hszw (fun _ _ h=>h)))
   have HA3:=Lib.hid (HA.out.keep hf3)
   have hsz3:w.heap.size≤w3.heap.size:=HB3.out.size
   clear hf3 HFd kb1 HA HO HLr
   obtain ⟨A9,c9,hv9,h9,-⟩:=Sl.of_own HO3.out
   injection hv9 with h91 h92 h93
   subst h91 h93
   have HFe:=Lib.hid (Find A8 c8 s y w3 h9)
   clear h9
   obtain ⟨yc0,yc1,yc2,yc3,yc4,yc5,yc6,yc7,yc8⟩:=SetW.at9 HA3.out
   go_wp2_with fail
   refine HFe.out.mono ?_
   rintro e w4 ⟨rfl,hf4⟩
   have HO4:=Lib.hid (ownsRow_fr HO3.out hf4 (fun _ _ h=>h));have HB4:=Lib.hid (HB3.out.trans (hf4.below hsz3 (fun _ _ h=>h)))
   have HA4:=Lib.hid (HA3.out.keep hf4)
   have hsz4:w.heap.size≤w4.heap.size:=HB4.out.size
   have hpf:=posI_fnd y s
   clear hf4 HFe HA3 HO3 yc0 yc1 yc2 yc3 yc4 yc5 yc6 yc7 yc8
   generalize posI y s=pp at *
   cases hf:(fnd y s).isSome with
   |true=>
    have HWe:=Lib.hid (HSt.out hf)
    rw [hf] at hpf
    clear hf HGo HSt
    go_wp2_with fail
    go_ret2
    obtain ⟨A9,c9,hv9,h9,-⟩:=Sl.of_own HO4.out
    injection hv9 with h91 h92 h93
    subst h91 h93
    rw [←HWe.out]
    exact ⟨A8,c8,rfl,h9,HB4.out⟩
   |false=>
    have HWe:=Lib.hid (HGo.out hf)
    have HNf:=Lib.hid hf
    rw [hf] at hpf
    have hown4:=HO4.out
    have hown1':=hown4.alloc (.cells y.arr TSn)
    clear hf HGo HSt
    obtain ⟨yc0,yc1,yc2,yc3,yc4,yc5,yc6,yc7,yc8⟩:=SetW.at9 HA4.out
    go_wp2_with (at_builtin;refine wpList_append_sl _ rfl (.tmp 26) (.tmp 31) TSs rfl w.heap.size TSn j0 (.agg #[.int .i64 0,.int .i64 0,.int .i64 0,.int .i64 0,.string ByteArray.empty,.string ByteArray.empty,.int .i64 0,.int .i64 0,.bool false]) 9 88 underlying27 hi hz0 hz1 hz2 rfl (by decide) _ _ _ rfl hown1' _ _ _ _ rfl (Sl.one w4 TSn (scs y) 9 rfl) (by simp [Value.oneCell']) ?_ ?_ ?_ ?_)
    ·unfold maxLen;omega
    ·omega
    ·first|omega| (simp;omega)
    intro v1 w5 hown1 hgrow1
    have HO5:=Lib.hid hown1;have HGr:=Lib.hid hgrow1
    have f5:Fr (fun b=>w.heap.size≤b) w4 w5:=(Fr.alloc (fun _=>False) w4 (.cells y.arr TSn)).trans (Fr.grown (S:=fun b=>w.heap.size≤b) hgrow1 (fun b e=>(HK1.out b e).1)) (fun _ _ h=>h.elim) (fun _ _ h=>h)
    have HB5:=Lib.hid (HB4.out.trans (f5.below hsz4 (fun k hk e=>by omega)))
    have HA5:=Lib.hid (HA0.out.fr (Fr.of_below' HB5.out (fun _=>False)) (fun h=>h))
    have hnd2:=nodup_snoc HNd.out HNf.out
    have hsl2:(s++ [y]).length≤L.length:=sub_len hnd2 (fun z hz=>(HSn.out.mem z hz).1)
    rw [List.length_append,List.length_singleton] at hsl2
    have HNd2:=Lib.hid hnd2
    clear hown1 hgrow1 hown1' hown4 hnd2 f5 yc0 yc1 yc2 yc3 yc4 yc5 yc6 yc7 yc8
    obtain ⟨yc0,yc1,yc2,yc3,yc4,yc5,yc6,yc7,yc8⟩:=SetW.at9 HA5.out
    go_wp2_with fail
    go_roundg r
    case rel=>exact ⟨s++ [y],y.p,rfl,by rw [List.length_append,List.length_singleton];have:=HG.out;omega,by rw [List.length_append,List.flatMap_append];simpa using HO5.out,HB5.out,HSn.out,HNd2.out,HWe.out⟩
    case measure=>omega
end ClsF
set_option maxRecDepth 100000
set_option maxHeartbeats 400000
namespace ClsF
open KeyP PackP SetP SetW SetF Cls ClsW ClsS Pack
attribute [local go_sem] Eng.ev Eng.getO_cons Eng.getO_nil
theorem fn5a {ops:Array Oper} (hops:Eng.fnOps Tryz.f157 5=ops) (a0:Act) (Q:Exit→Act→World→Prop) (w0 w:World) (b1 o1 len c k Bx:Nat) (y z:Sn) (hst:At2 w0 w b1 (o1+k*9) Bx 0 y z) (hk:k<len) (_hlen:len≤9223372036854775807) (h1:(y.t==z.t)=true)
  (hn:a0.tmps.size=34) (h_0:a0.tmps.getD 0 undef=.slice (some ⟨b1,o1,none⟩) len c) (h_3:a0.tmps.getD 3 undef=.pointer (some ⟨Bx,0,none⟩)) (h_6:a0.tmps.getD 6 undef=.int .i64 (k:Int))
  (hpost:∀ (x:Nat→Value) (w':World),x 30=.bool (y.p==z.i)→At2 w0 w' b1 (o1+k*9) Bx 0 y z→Q .normal (Eng.setAll a0 [13,14,15,16,17,18,19,20,21,22,23,24,25,26,27,28,29,30] x) w'):
  (Code.region 5 ops true).wp prog Q a0 w:=by
 simp only [Eng.fnOps,Eng.regOps,Tryz.f157,Option.bind_some,Option.getD_some,Nat.reduceEqDiff,↓reduceIte] at hops
 subst hops
 have q1:(0:Int)≤(k:Int):=by omega
 have q2:(k:Int)<(len:Int):=by omega
 have HSt:=Lib.hid (hst.fr (Fr.drew _ _))
 refine Eng.regionN [(0,true),(1,true),(2,true),(3,true),(4,true),(5,true),(6,true),(7,true),(8,true),(9,true),(10,true),(11,true),(12,true),(13,true),(14,true),(15,true),(16,true),(17,true)] (fun w'=>w'.cell? ⟨b1,o1+k*9,none⟩=some (.int .i64 y.t)∧w'.cell? ⟨b1,o1+k*9+1,none⟩=some (.int .i64 y.i)∧w'.cell? ⟨b1,o1+k*9+1+1,none⟩=some (.int .i64 y.p)∧w'.cell? ⟨b1,o1+k*9+1+1+1,none⟩=some (.int .i64 y.r)∧w'.cell? ⟨b1,o1+k*9+1+1+1+1,none⟩=some (.string y.s)∧w'.cell? ⟨b1,o1+k*9+1+1+1+1+1,none⟩=some (.string y.o)∧w'.cell? ⟨b1,o1+k*9+1+1+1+1+1+1,none⟩=some (.int .i64 y.b)∧w'.cell? ⟨b1,o1+k*9+1+1+1+1+1+1+1,none⟩=some (.int .i64 y.d)∧w'.cell? ⟨b1,o1+k*9+1+1+1+1+1+1+1+1,none⟩=some (.bool y.g)∧w'.cell? ⟨Bx,0,none⟩=some (.int .i64 z.t)∧w'.cell? ⟨Bx,1,none⟩=some (.int .i64 z.i)∧w'.cell? ⟨Bx,2,none⟩=some (.int .i64 z.p)∧w'.cell? ⟨Bx,3,none⟩=some (.int .i64 z.r)∧w'.cell? ⟨Bx,4,none⟩=some (.string z.s)∧w'.cell? ⟨Bx,5,none⟩=some (.string z.o)∧w'.cell? ⟨Bx,6,none⟩=some (.int .i64 z.b)∧w'.cell? ⟨Bx,7,none⟩=some (.int .i64 z.d)∧w'.cell? ⟨Bx,8,none⟩=some (.bool z.g)) (by kernel_rfl) 34 hn (by kernel_rfl) rfl (by kernel_rfl) (⟨HSt.out.a 0 _ rfl,HSt.out.a 1 _ rfl,HSt.out.a 2 _ rfl,HSt.out.a 3 _ rfl,HSt.out.a 4 _ rfl,HSt.out.a 5 _ rfl,HSt.out.a 6 _ rfl,HSt.out.a 7 _ rfl,HSt.out.a 8 _ rfl,HSt.out.b 0 _ rfl,HSt.out.b 1 _ rfl,HSt.out.b 2 _ rfl,HSt.out.b 3 _ rfl,HSt.out.b 4 _ rfl,HSt.out.b 5 _ rfl,HSt.out.b 6 _ rfl,HSt.out.b 7 _ rfl,HSt.out.b 8 _ rfl⟩) (fun a b ha hb=>?_)
 subst ha
 have hb0:b 0=.slice (some ⟨b1,o1,none⟩) len c:=(hb 0).symm.trans h_0
 have hb3:b 3=.pointer (some ⟨Bx,0,none⟩):=(hb 3).symm.trans h_3
 have hb6:b 6=.int .i64 (k:Int):=(hb 6).symm.trans h_6
 clear hb h_0 h_3 h_6
 have HP:=Lib.hid hpost;have HN:=Lib.hid hn
 clear hpost hn
 iterate 18 (refine Eng.Sch.tk ?_)
 refine Eng.Sch.end_ [13,14,15,16,17,18,19,20,21,22,23,24,25,26,27,28,29,30] HN.out (by kernel_rfl) (by kernel_rfl) ?_
 exact HP.out _ _ rfl HSt.out
theorem fn5b {ops:Array Oper} (hops:Eng.fnOps Tryz.f157 5=ops) (a0:Act) (Q:Exit→Act→World→Prop) (w0 w:World) (b1 o1 len c k Bx:Nat) (y z:Sn) (hst:At2 w0 w b1 (o1+k*9) Bx 0 y z) (hk:k<len) (_hlen:len≤9223372036854775807) (h1:(y.t==z.t)=false)
  (hn:a0.tmps.size=34) (h_0:a0.tmps.getD 0 undef=.slice (some ⟨b1,o1,none⟩) len c) (h_3:a0.tmps.getD 3 undef=.pointer (some ⟨Bx,0,none⟩)) (h_6:a0.tmps.getD 6 undef=.int .i64 (k:Int))
  (hpost:∀ (x:Nat→Value) (w':World),x 30=.bool false→At2 w0 w' b1 (o1+k*9) Bx 0 y z→Q .normal (Eng.setAll a0 [13,14,15,16,17,18,19,20,21,22,23,24,25,26,27,28,29,30] x) w'):
  (Code.region 5 ops true).wp prog Q a0 w:=by
 simp only [Eng.fnOps,Eng.regOps,Tryz.f157,Option.bind_some,Option.getD_some,Nat.reduceEqDiff,↓reduceIte] at hops
 subst hops
 have q1:(0:Int)≤(k:Int):=by omega
 have q2:(k:Int)<(len:Int):=by omega
 have HSt:=Lib.hid (hst.fr (Fr.drew _ _))
 refine Eng.regionN [(0,true),(1,true),(2,true),(3,true),(4,true),(5,true),(6,true),(7,true),(8,true),(9,true),(10,true),(11,true),(12,true),(13,true),(14,true),(15,true),(16,true),(17,true)] (fun w'=>w'.cell? ⟨b1,o1+k*9,none⟩=some (.int .i64 y.t)∧w'.cell? ⟨b1,o1+k*9+1,none⟩=some (.int .i64 y.i)∧w'.cell? ⟨b1,o1+k*9+1+1,none⟩=some (.int .i64 y.p)∧w'.cell? ⟨b1,o1+k*9+1+1+1,none⟩=some (.int .i64 y.r)∧w'.cell? ⟨b1,o1+k*9+1+1+1+1,none⟩=some (.string y.s)∧w'.cell? ⟨b1,o1+k*9+1+1+1+1+1,none⟩=some (.string y.o)∧w'.cell? ⟨b1,o1+k*9+1+1+1+1+1+1,none⟩=some (.int .i64 y.b)∧w'.cell? ⟨b1,o1+k*9+1+1+1+1+1+1+1,none⟩=some (.int .i64 y.d)∧w'.cell? ⟨b1,o1+k*9+1+1+1+1+1+1+1+1,none⟩=some (.bool y.g)∧w'.cell? ⟨Bx,0,none⟩=some (.int .i64 z.t)∧w'.cell? ⟨Bx,1,none⟩=some (.int .i64 z.i)∧w'.cell? ⟨Bx,2,none⟩=some (.int .i64 z.p)∧w'.cell? ⟨Bx,3,none⟩=some (.int .i64 z.r)∧w'.cell? ⟨Bx,4,none⟩=some (.string z.s)∧w'.cell? ⟨Bx,5,none⟩=some (.string z.o)∧w'.cell? ⟨Bx,6,none⟩=some (.int .i64 z.b)∧w'.cell? ⟨Bx,7,none⟩=some (.int .i64 z.d)∧w'.cell? ⟨Bx,8,none⟩=some (.bool z.g)) (by kernel_rfl) 34 hn (by kernel_rfl) rfl (by kernel_rfl) (⟨HSt.out.a 0 _ rfl,HSt.out.a 1 _ rfl,HSt.out.a 2 _ rfl,HSt.out.a 3 _ rfl,HSt.out.a 4 _ rfl,HSt.out.a 5 _ rfl,HSt.out.a 6 _ rfl,HSt.out.a 7 _ rfl,HSt.out.a 8 _ rfl,HSt.out.b 0 _ rfl,HSt.out.b 1 _ rfl,HSt.out.b 2 _ rfl,HSt.out.b 3 _ rfl,HSt.out.b 4 _ rfl,HSt.out.b 5 _ rfl,HSt.out.b 6 _ rfl,HSt.out.b 7 _ rfl,HSt.out.b 8 _ rfl⟩) (fun a b ha hb=>?_)
 subst ha
 have hb0:b 0=.slice (some ⟨b1,o1,none⟩) len c:=(hb 0).symm.trans h_0
 have hb3:b 3=.pointer (some ⟨Bx,0,none⟩):=(hb 3).symm.trans h_3
 have hb6:b 6=.int .i64 (k:Int):=(hb 6).symm.trans h_6
 clear hb h_0 h_3 h_6
 have HP:=Lib.hid hpost;have HN:=Lib.hid hn
 clear hpost hn
 iterate 9 (refine Eng.Sch.tk ?_)
 iterate 8 (refine Eng.Sch.skip rfl rfl (by decide) (by kernel_rfl) ?_)
 refine Eng.Sch.tk ?_
 refine Eng.Sch.end_ [13,14,15,16,17,18,19,20,21,22,23,24,25,26,27,28,29,30] HN.out (by kernel_rfl) (by kernel_rfl) ?_
 exact HP.out _ _ rfl HSt.out
theorem Fan (A:Option Addr) (c:Nat) (L:List Sn) (z:Sn) (w:World) (hS:Sl w 9 A L.length c (L.flatMap scs)):
  Calls prog 157 #[.slice A L.length c,z.v] w fun e w'=>e=.returned (.int .i64 ((fan L z:Nat):Int))∧Fr (fun _=>False) w w':=by
 have hlen:L.length≤9223372036854775807:=by have:=hS.2.1;have:=hS.2.2.1;unfold maxLen at this;omega
 have HS:=Lib.hid hS
 have HB:=Lib.hid (Bk.new w z.arr TSn)
 clear hS
 go_enter func157,ntmps157
 go_wp2_with fail
 go_loopg [5,6] L.length (fun gk n i wr=>∃k:Nat,i=.int .i64 k∧n=.int .i64 ((cnt (L.take k) z.t z.i:Nat):Int)∧k≤L.length∧gk=L.length-k∧Fr (fun _=>False) (w.alloc (.cells z.arr TSn)) wr)
 case atStart=>exact ⟨0,rfl,rfl,Nat.zero_le _,rfl,Fr.refl _ _⟩
 case round=>
  obtain ⟨k,rfl,rfl,hk,hg,hf⟩:=hrel
  have HG:=Lib.hid hg;have HF:=Lib.hid hf
  clear hg hf
  by_cases hlt:k<L.length
  ·obtain ⟨b1,o1,rfl,hb1,c1⟩:=HS.out.at hlt (by omega)
   have HA:=Lib.hid ((At.row c1 hlt).fr ((Fr.alloc (fun _=>False) w (.cells z.arr TSn)).trans HF.out (T:=fun _=>False) (fun _ _ h=>h) (fun _ _ h=>h)) (fun h=>h))
   have HX:=Lib.hid ((At.box HB.out).keep HF.out)
   have HSn:=Lib.hid (cnt_snoc hlt z.t z.i)
   have hcl:=cnt_le (L.take k) z.t z.i
   rw [List.length_take] at hcl
   clear c1 hb1
   generalize cnt (L.take k) z.t z.i=n at *
   generalize L[k]=y at *
   go_upto_region 5 with (fail)
   cases ht:(y.t==z.t) with
   |false=>
    have HE:Hid (cnt (L.take (k+1)) z.t z.i=n):=by show _=_;rw [HSn.out,if_neg (fun h=>by rw [h.1] at ht;simp at ht)];rfl
    refine fn5b (by kernel_rfl) _ _ wr wr b1 o1 _ c k _ y z ⟨HA.out,HX.out,Fr.refl _ _⟩ hlt hlen ht rfl rfl rfl rfl ?_
    intro x w2 h17 hst
    simp only [Eng.setAll,Act.put,List.setIfInBounds_toArray,List.set_cons_succ,List.set_cons_zero]
    rw [h17]
    have HSt:=Lib.hid hst
    clear h17 hst ht
    go_wp2_with fail
    go_roundg (L.length-(k+1))
    case rel=>exact ⟨k+1,by go_num,by rw [HE.out],by omega,rfl,HF.out.trans HSt.out.f (fun _ _ h=>h) (fun _ _ h=>h)⟩
    case measure=>have:=HG.out;omega
   |true=>
    refine fn5a (by kernel_rfl) _ _ wr wr b1 o1 _ c k _ y z ⟨HA.out,HX.out,Fr.refl _ _⟩ hlt hlen ht rfl rfl rfl rfl ?_
    intro x w2 h17 hst
    simp only [Eng.setAll,Act.put,List.setIfInBounds_toArray,List.set_cons_succ,List.set_cons_zero]
    rw [h17]
    have HSt:=Lib.hid hst
    have ht':y.t=z.t:=by simpa using ht
    clear h17 hst ht
    cases hi:(y.p==z.i) with
    |false=>
     have HE:Hid (cnt (L.take (k+1)) z.t z.i=n):=by show _=_;rw [HSn.out,if_neg (fun h=>by rw [h.2] at hi;simp at hi)];rfl
     clear hi ht'
     go_wp2_with fail
     go_roundg (L.length-(k+1))
     case rel=>exact ⟨k+1,by go_num,by rw [HE.out],by omega,rfl,HF.out.trans HSt.out.f (fun _ _ h=>h) (fun _ _ h=>h)⟩
     case measure=>have:=HG.out;omega
    |true=>
     have HE:Hid (cnt (L.take (k+1)) z.t z.i=n+1):=by show _=_;rw [HSn.out,if_pos ⟨ht',by simpa using hi⟩]
     have q9:IntKind.i64.wrap ((n:Int)+1)=(n:Int)+1:=by rw [IntKind.wrap_i64];omega
     clear hi ht'
     go_wp2_with fail
     go_roundg (L.length-(k+1))
     case rel=>exact ⟨k+1,by go_num,by rw [HE.out];rfl,by omega,rfl,HF.out.trans HSt.out.f (fun _ _ h=>h) (fun _ _ h=>h)⟩
     case measure=>have:=HG.out;omega
  ·obtain rfl:k=L.length:=by omega
   have HE:Hid (cnt (L.take L.length) z.t z.i=fan L z):=by show _=_;rw [List.take_length];rfl
   have hx:=HE.out
   rw [hx]
   clear hx
   go_wp2_with fail
   go_ret
   exact ⟨rfl,(Fr.alloc (fun _=>False) w _).trans HF.out (fun _ _ h=>h) (fun _ _ h=>h)⟩
end ClsF
set_option maxRecDepth 100000
set_option maxHeartbeats 2000000
namespace ClsF
open KeyP PackP SetP SetW SetF Cls ClsW ClsS
attribute [local go_sem] Eng.ev Eng.getO_cons Eng.getO_nil
structure AS (wc w:World) (A:Option Addr) (c:Nat) (L:List Sn) (Bx:Nat) (x:Sn) (bs:List Nat) (q:Pc):Prop where
 s:Sl w 9 A L.length c (L.flatMap scs)
 a:At w Bx 0 x
 r:Fr (fun _=>False) wc w
 p:∀b∈bs,Bk w b q.arr TPl∧wc.heap.size≤b
theorem AS.fr {wc w w':World} {A:Option Addr} {c:Nat} {L:List Sn} {Bx:Nat} {x:Sn} {bs:List Nat} {q:Pc} (H:AS wc w A c L Bx x bs q) (hf:Fr (fun _=>False) w w'):AS wc w' A c L Bx x bs q:=
 ⟨H.s.fr hf (fun _ _ h=>h),H.a.keep hf,H.r.trans hf (fun _ _ h=>h) (fun _ _ h=>h),fun b hb=>⟨(H.p b hb).1.fr hf (fun _ _ h=>h),(H.p b hb).2⟩⟩
theorem AS.alloc {wc w:World} {A:Option Addr} {c:Nat} {L:List Sn} {Bx:Nat} {x:Sn} {q:Pc} (H:AS wc w A c L Bx x [] q) (p:Pc):AS wc (w.alloc (.cells p.arr TPl)) A c L Bx x [w.heap.size] p:=by
 have hf:=Fr.alloc (fun _=>False) w (.cells p.arr TPl)
 exact ⟨H.s.fr hf (fun _ _ h=>h),H.a.keep hf,H.r.trans hf (fun _ _ h=>h) (fun _ _ h=>h),fun b hb=>by
  simp only [List.mem_singleton] at hb;subst hb
  exact ⟨Bk.new w p.arr TPl,H.r.size⟩⟩
theorem _root_.Go.Proofs.YtgfjpnpbkkadpaaGreat.Sl.fr' {S:Nat→Prop} {w w':World} {sz:Nat} {A:Option Addr} {n c:Nat} {xs:List Value} (h:Sl w sz A n c xs) (hf:Fr S w w') (hs:xs≠ []→∀a,A=some a→¬S a.block):Sl w' sz A n c xs:=by
 by_cases hne:xs= []
 ·obtain ⟨h1,h2,h3,h4,h5⟩:=h
  exact ⟨h1,h2,h3,h4,fun h=>absurd hne h⟩
 ·exact h.fr hf (hs hne)
theorem AS.store {wc w:World} {A:Option Addr} {c:Nat} {L:List Sn} {Bx Bp:Nat} {x:Sn} {q:Pc} (H:AS wc w A c L Bx x [Bp] q) (p:Pc) (h1:L.flatMap scs≠ []→∀a,A=some a→a.block<wc.heap.size) (h2:Bx<wc.heap.size):AS wc (put6 w Bp p) A c L Bx x [Bp] p:=by
 obtain ⟨h3,h4⟩:=H.p Bp (by simp)
 have hf:=put6_fr w Bp p
 exact ⟨H.s.fr' hf (fun hne a ha e=>by have:=h1 hne a ha;omega),H.a.fr hf (fun e=>by omega),H.r.trans hf (fun _ _ h=>h) (fun k hk e=>by omega),fun b hb=>by
  simp only [List.mem_singleton] at hb;subst hb
  exact ⟨put6_bk h3 p,h4⟩⟩
theorem buildP3 (t i f:Int) (W:World):(Instr.build TPl #[(0,.int .i64 t),(1,.int .i64 i),(5,.int .i64 f)]).run prog W=.ok (.agg #[.int .i64 t,.int .i64 i,.int .i64 0,.int .i64 0,.int .i64 0,.int .i64 f]) W:=by kernel_rfl
theorem at2 {ops:Array Oper} (hops:Eng.fnOps Tryz.f94 2=ops) (a0:Act) (Q:Exit→Act→World→Prop) (wc w:World) (A:Option Addr) (c:Nat) (L:List Sn) (Bx:Nat) (x:Sn) (h1:L.flatMap scs≠ []→∀a,A=some a→a.block<wc.heap.size) (h2:Bx<wc.heap.size) (hst:AS wc w A c L Bx x [] z6)
  (hn:a0.tmps.size=52) (h_0:a0.tmps.getD 0 undef=.slice A L.length c) (h_3:a0.tmps.getD 3 undef=.pointer (some ⟨Bx,0,none⟩))
  (hpost:∀ (x_:Nat→Value) (w':World) (Bp:Nat),x_ 7=.pointer (some ⟨Bp,0,none⟩)→AS wc w' A c L Bx x [Bp] ⟨x.t,x.i,0,0,0,((fan L x:Nat):Int)⟩→Q .normal (Eng.setAll a0 [7,18,19,20,21,22,23,24,25] x_) w'):
  (Code.region 2 ops true).wp prog Q a0 w:=by
 simp only [Eng.fnOps,Eng.regOps,Tryz.f94,Option.bind_some,Option.getD_some,Nat.reduceEqDiff,↓reduceIte] at hops
 subst hops
 have kb:=buildP3
 have HSt:=Lib.hid (hst.fr (Fr.drew _ _))
 refine Eng.regionT (.take 0 (.take 1 (.take 2 (.take 3 (.take 4 (.take 5 (.alt 6 (.take 7 (.alt 8 (.alt 9 (.done) (.stop)) (.stop))) (.alt 8 (.alt 6 (.take 7 (.alt 9 (.done) (.stop))) (.stop)) (.stop))))))))) (fun w'=>w'.cell? ⟨Bx,0,none⟩=some (.int .i64 x.t)∧w'.cell? ⟨Bx,1,none⟩=some (.int .i64 x.i)∧w'.cell? ⟨Bx,2,none⟩=some (.int .i64 x.p)∧w'.cell? ⟨Bx,3,none⟩=some (.int .i64 x.r)∧w'.cell? ⟨Bx,4,none⟩=some (.string x.s)∧w'.cell? ⟨Bx,5,none⟩=some (.string x.o)∧w'.cell? ⟨Bx,6,none⟩=some (.int .i64 x.b)∧w'.cell? ⟨Bx,7,none⟩=some (.int .i64 x.d)∧w'.cell? ⟨Bx,8,none⟩=some (.bool x.g)) (by kernel_rfl) 52 hn (by kernel_rfl) (by kernel_rfl) (by kernel_rfl) (⟨HSt.out.a 0 _ rfl,HSt.out.a 1 _ rfl,HSt.out.a 2 _ rfl,HSt.out.a 3 _ rfl,HSt.out.a 4 _ rfl,HSt.out.a 5 _ rfl,HSt.out.a 6 _ rfl,HSt.out.a 7 _ rfl,HSt.out.a 8 _ rfl⟩) (fun a b ha hb=>?_)
 subst ha
 have hb0:b 0=.slice A L.length c:=(hb 0).symm.trans h_0
 have hb3:b 3=.pointer (some ⟨Bx,0,none⟩):=(hb 3).symm.trans h_3
 clear hb h_0 h_3
 have HP:=Lib.hid hpost;have HN:=Lib.hid hn
 clear hpost hn
 iterate 6 (refine Eng.TW.tk ?_)
 refine Eng.TW.both ?_ ?_
 ·refine Eng.TW.call rfl rfl (by decide) (by kernel_rfl) ?_ (Fan A c L x _ (HSt.out.s)) ?_
  ·go_simp
  rintro e w2 ⟨rfl,hf1⟩
  have HSt2:=Lib.hid (HSt.out.fr hf1)
  clear hf1
  refine ⟨_,rfl,⟨HSt2.out.a 0 _ rfl,HSt2.out.a 1 _ rfl,HSt2.out.a 2 _ rfl,HSt2.out.a 3 _ rfl,HSt2.out.a 4 _ rfl,HSt2.out.a 5 _ rfl,HSt2.out.a 6 _ rfl,HSt2.out.a 7 _ rfl,HSt2.out.a 8 _ rfl⟩,?_⟩
  refine Eng.TW.tk ?_
  have HSt3:=Lib.hid (HSt2.out.alloc z6)
  refine Eng.TW.step rfl rfl (by decide) (by kernel_rfl) (by go_simp;first|done|with_reducible rfl) (⟨HSt3.out.a 0 _ rfl,HSt3.out.a 1 _ rfl,HSt3.out.a 2 _ rfl,HSt3.out.a 3 _ rfl,HSt3.out.a 4 _ rfl,HSt3.out.a 5 _ rfl,HSt3.out.a 6 _ rfl,HSt3.out.a 7 _ rfl,HSt3.out.a 8 _ rfl⟩) ?_
  have hSS:=SetW.at0 HSt3.out.a
  have u0:=(HSt3.out.p _ (List.mem_cons_self ..)).1.cell 0
  have v0:=(HSt3.out.p _ (List.mem_cons_self ..)).1.free 0
  have u1:=(HSt3.out.p _ (List.mem_cons_self ..)).1.cell 1
  have v1:=(HSt3.out.p _ (List.mem_cons_self ..)).1.free 1
  have u2:=(HSt3.out.p _ (List.mem_cons_self ..)).1.cell 2
  have v2:=(HSt3.out.p _ (List.mem_cons_self ..)).1.free 2
  have u3:=(HSt3.out.p _ (List.mem_cons_self ..)).1.cell 3
  have v3:=(HSt3.out.p _ (List.mem_cons_self ..)).1.free 3
  have u4:=(HSt3.out.p _ (List.mem_cons_self ..)).1.cell 4
  have v4:=(HSt3.out.p _ (List.mem_cons_self ..)).1.free 4
  have u5:=(HSt3.out.p _ (List.mem_cons_self ..)).1.cell 5
  have v5:=(HSt3.out.p _ (List.mem_cons_self ..)).1.free 5
  simp only [List.getElem?_toArray,List.getElem?_cons_zero,List.getElem?_cons_succ] at u0 u1 u2 u3 u4 u5
  have HSt4:=Lib.hid (HSt2.out.alloc ⟨x.t,x.i,0,0,0,((fan L x:Nat):Int)⟩)
  refine Eng.TW.step0 rfl rfl (by kernel_rfl) (by go_simp;first|done|with_reducible rfl) (⟨HSt4.out.a 0 _ rfl,HSt4.out.a 1 _ rfl,HSt4.out.a 2 _ rfl,HSt4.out.a 3 _ rfl,HSt4.out.a 4 _ rfl,HSt4.out.a 5 _ rfl,HSt4.out.a 6 _ rfl,HSt4.out.a 7 _ rfl,HSt4.out.a 8 _ rfl⟩) ?_
  refine Eng.TW.end_ [7,18,19,20,21,22,23,24,25] HN.out (by kernel_rfl) (by kernel_rfl) ?_
  exact HP.out _ _ _ rfl HSt4.out
 refine Eng.TW.step rfl rfl (by decide) (by kernel_rfl) (by go_simp;first|done|with_reducible rfl) (⟨(HSt.out.alloc z6).a 0 _ rfl,(HSt.out.alloc z6).a 1 _ rfl,(HSt.out.alloc z6).a 2 _ rfl,(HSt.out.alloc z6).a 3 _ rfl,(HSt.out.alloc z6).a 4 _ rfl,(HSt.out.alloc z6).a 5 _ rfl,(HSt.out.alloc z6).a 6 _ rfl,(HSt.out.alloc z6).a 7 _ rfl,(HSt.out.alloc z6).a 8 _ rfl⟩) ?_
 have HSt2:=Lib.hid (show AS wc _ A c L Bx x [w.heap.size] z6 from HSt.out.alloc z6)
 have hSS:=SetW.at0 HSt2.out.a
 refine Eng.TW.call rfl rfl (by decide) (by kernel_rfl) ?_ (Fan A c L x _ (HSt2.out.s)) ?_
 ·go_simp
 rintro e w3 ⟨rfl,hf1⟩
 have HSt3:=Lib.hid (HSt2.out.fr hf1)
 clear hf1
 refine ⟨_,rfl,⟨HSt3.out.a 0 _ rfl,HSt3.out.a 1 _ rfl,HSt3.out.a 2 _ rfl,HSt3.out.a 3 _ rfl,HSt3.out.a 4 _ rfl,HSt3.out.a 5 _ rfl,HSt3.out.a 6 _ rfl,HSt3.out.a 7 _ rfl,HSt3.out.a 8 _ rfl⟩,?_⟩
 refine Eng.TW.tk ?_
 have u0:=(HSt3.out.p _ (List.mem_cons_self ..)).1.cell 0
 have v0:=(HSt3.out.p _ (List.mem_cons_self ..)).1.free 0
 have u1:=(HSt3.out.p _ (List.mem_cons_self ..)).1.cell 1
 have v1:=(HSt3.out.p _ (List.mem_cons_self ..)).1.free 1
 have u2:=(HSt3.out.p _ (List.mem_cons_self ..)).1.cell 2
 have v2:=(HSt3.out.p _ (List.mem_cons_self ..)).1.free 2
 have u3:=(HSt3.out.p _ (List.mem_cons_self ..)).1.cell 3
 have v3:=(HSt3.out.p _ (List.mem_cons_self ..)).1.free 3
 have u4:=(HSt3.out.p _ (List.mem_cons_self ..)).1.cell 4
 have v4:=(HSt3.out.p _ (List.mem_cons_self ..)).1.free 4
 have u5:=(HSt3.out.p _ (List.mem_cons_self ..)).1.cell 5
 have v5:=(HSt3.out.p _ (List.mem_cons_self ..)).1.free 5
 simp only [List.getElem?_toArray,List.getElem?_cons_zero,List.getElem?_cons_succ] at u0 u1 u2 u3 u4 u5
 have HSt4:=Lib.hid (HSt3.out.store ⟨x.t,x.i,0,0,0,((fan L x:Nat):Int)⟩ h1 h2)
 refine Eng.TW.step0 rfl rfl (by kernel_rfl) (by go_simp;first|done|with_reducible rfl) (⟨HSt4.out.a 0 _ rfl,HSt4.out.a 1 _ rfl,HSt4.out.a 2 _ rfl,HSt4.out.a 3 _ rfl,HSt4.out.a 4 _ rfl,HSt4.out.a 5 _ rfl,HSt4.out.a 6 _ rfl,HSt4.out.a 7 _ rfl,HSt4.out.a 8 _ rfl⟩) ?_
 refine Eng.TW.end_ [7,18,19,20,21,22,23,24,25] HN.out (by kernel_rfl) (by kernel_rfl) ?_
 exact HP.out _ _ _ rfl HSt4.out
abbrev rPc (L:List Sn) (x:Sn):Pc:=⟨x.t,x.i,(refAt L x).1,(refAt L x).2.1,(refAt L x).2.2,((fan L x:Nat):Int)⟩
theorem rPc_plc {L:List Sn} (hs:Srs L) {x:Sn} (hx:x∈L):rPc L x=plc L x:=by unfold rPc plc;rw [ref_at hs hx]
theorem rPc_cyc {L:List Sn} {x:Sn} {s:List Sn} {sb:Bool} (hW:way L x.t (L.length+1) [] x.i=(s,sb)) (h:(sb||decide (s.length=0))=true):rPc L x=⟨x.t,x.i,3,0,0,((fan L x:Nat):Int)⟩:=by
 have h2:refAt L x=(3,0,0):=by unfold refAt;rw [hW];dsimp only;rw [if_pos h]
 unfold rPc;rw [h2]
theorem rPc_top {L:List Sn} {x z:Sn} {s:List Sn} (hW:way L x.t (L.length+1) [] x.i=(s,false)) {q:Nat} (hq:s.length=q+1) (hz:s[q]=z):rPc L x=⟨x.t,x.i,if z.p=0 then 1 else 2,(s.length:Int),z.i,((fan L x:Nat):Int)⟩:=by
 have hl:s.getLast? =some z:=by rw [List.getLast?_eq_getElem?,hq,Nat.add_sub_cancel,List.getElem?_eq_getElem (by omega),hz]
 have h2:refAt L x=(if z.p=0 then 1 else 2,(s.length:Int),z.i):=by
  unfold refAt;rw [hW];dsimp only;rw [if_neg (by simp [hq]),hl]
 unfold rPc;rw [h2]
theorem RAt (A:Option Addr) (c:Nat) (L:List Sn) (x:Sn) (w:World) (hS:Ls w A c L) (hlen:L.length≤1000000) (U:Pc) (hU:rPc L x=U):
  Calls prog 94 #[.slice A L.length c,x.v] w fun e w'=>e=.returned U.v∧Below w.heap.size w w':=by
 have f1:=Fr.alloc (fun _=>False) w (.cells x.arr TSn)
 have f2:=Fr.alloc (fun _=>False) (w.alloc (.cells x.arr TSn)) (.cells #[.int .i64 0,.int .i64 0,.int .i64 0,.int .i64 0,.int .i64 0,.int .i64 0] TPl)
 have f12:=f1.trans f2 (T:=fun _=>False) (fun _ _ h=>h) (fun _ _ h=>h)
 have r2:Bk ((w.alloc (.cells x.arr TSn)).alloc (.cells #[.int .i64 0,.int .i64 0,.int .i64 0,.int .i64 0,.int .i64 0,.int .i64 0] TPl)) (w.heap.size+1) z6.arr TPl:=by
  have:=Bk.new (w.alloc (.cells x.arr TSn)) #[.int .i64 0,.int .i64 0,.int .i64 0,.int .i64 0,.int .i64 0,.int .i64 0] TPl
  rwa [World.size_alloc] at this
 have hsz1:((w.alloc (.cells x.arr TSn)).alloc (.cells #[.int .i64 0,.int .i64 0,.int .i64 0,.int .i64 0,.int .i64 0,.int .i64 0] TPl)).heap.size=w.heap.size+2:=by rw [World.size_alloc,World.size_alloc]
 have HR:=Lib.hid r2
 have HA:=Lib.hid ((At.box (Bk.new w x.arr TSn)).keep f2)
 have HB:=Lib.hid (f12.below (Nat.le_refl _) (fun _ _ h=>h))
 have HS:=Lib.hid (hS.below (f12.below (Nat.le_refl _) (fun _ _ h=>h)))
 have hAb:L.flatMap scs≠ []→∀a,A=some a→a.block<w.heap.size:=fun hne a ha=>hS.s.lt hne a ha
 obtain ⟨⟨s,sb⟩,hW⟩:∃W,way L x.t (L.length+1) [] x.i=W:=⟨_,rfl⟩
 have HW:=Lib.hid hW
 have hsl:s.length≤L.length:=by have:=wy_len L x.t x.i;rw [wy,hW] at this;exact this
 have HAb:=Lib.hid hAb;have HU:=Lib.hid hU
 clear f1 f2 f12 r2 hS hW hAb hU
 go_enter func94,ntmps94
 go_upto_region 1 with (fail)
 generalize ((w.alloc (.cells x.arr TSn)).alloc (.cells #[.int .i64 0,.int .i64 0,.int .i64 0,.int .i64 0,.int .i64 0,.int .i64 0] TPl))=w1 at *
 have HCh:=Lib.hid (RChain x.t x.i A c L w1 HS.out hlen (s,sb) HW.out)
 have xc0:w1.cell? ⟨w.heap.size,0,none⟩=some (.int .i64 x.t):=HA.out 0 _ rfl
 have xc1:w1.cell? ⟨w.heap.size,1,none⟩=some (.int .i64 x.i):=HA.out 1 _ rfl
 have xc2:w1.cell? ⟨w.heap.size,2,none⟩=some (.int .i64 x.p):=HA.out 2 _ rfl
 have xc3:w1.cell? ⟨w.heap.size,3,none⟩=some (.int .i64 x.r):=HA.out 3 _ rfl
 have xc4:w1.cell? ⟨w.heap.size,4,none⟩=some (.string x.s):=HA.out 4 _ rfl
 have xc5:w1.cell? ⟨w.heap.size,5,none⟩=some (.string x.o):=HA.out 5 _ rfl
 have xc6:w1.cell? ⟨w.heap.size,6,none⟩=some (.int .i64 x.b):=HA.out 6 _ rfl
 have xc7:w1.cell? ⟨w.heap.size,7,none⟩=some (.int .i64 x.d):=HA.out 7 _ rfl
 have xc8:w1.cell? ⟨w.heap.size,8,none⟩=some (.bool x.g):=HA.out 8 _ rfl
 go_wp2_with fail
 refine HCh.out.mono ?_
 rintro e w3 ⟨A3,c3,rfl,hs3,hb⟩
 have f3:=Fr.of_below' hb (fun _=>False)
 have HS3:=Lib.hid hs3
 have HSt:=Lib.hid (show AS w3 w3 A c L w.heap.size x [] z6 from ⟨(HS.out.below hb).s,HA.out.keep f3,Fr.refl _ _,by simp⟩)
 have HR3:=Lib.hid (HR.out.fr f3 (fun _ _ h=>h));have HB3:=Lib.hid (HB.out.trans (hb.mono HB.out.size))
 have hsz3:w.heap.size+2≤w3.heap.size:=by have:=f3.size;omega
 clear hs3 hb f3 HCh HA HS HR HB xc0 xc1 xc2 xc3 xc4 xc5 xc6 xc7 xc8
 go_upto_region 2 with (fail)
 refine at2 (by kernel_rfl) _ _ w3 w3 A c L w.heap.size x (fun hne a ha=>by have:=HAb.out hne a ha;omega) (by omega) HSt.out rfl rfl rfl ?_
 intro v w4 Bp hv hst
 simp only [hv,Eng.setAll,Act.put,List.setIfInBounds_toArray,List.set_cons_succ,List.set_cons_zero]
 have HP4:=Lib.hid (hst.p Bp (by simp)).1
 have hbp:=(hst.p Bp (by simp)).2
 have HR4:=Lib.hid (HR3.out.fr hst.r (fun _ _ h=>h));have HB4:=Lib.hid (HB3.out.trans (hst.r.below HB3.out.size (fun _ _ h=>h)))
 have HS4:=Lib.hid (HS3.out.fr hst.r (fun _ _ h=>h))
 have n1:¬Bp=w.heap.size+1:=by omega
 have n2:¬w.heap.size+1=Bp:=by omega
 clear hst hv HSt HR3 HB3 HS3
 cases sb with
 |true=>
  have HE:=Lib.hid (HU.out.symm.trans (rPc_cyc HW.out (by simp)))
  have u0:w4.cell? ⟨Bp,0,none⟩=some (.int .i64 x.t):=HP4.out.cell 0
  have v0:w4.frozen? ⟨Bp,0,none⟩=false:=HP4.out.free 0
  have u1:w4.cell? ⟨Bp,1,none⟩=some (.int .i64 x.i):=HP4.out.cell 1
  have v1:w4.frozen? ⟨Bp,1,none⟩=false:=HP4.out.free 1
  have u2:w4.cell? ⟨Bp,2,none⟩=some (.int .i64 0):=HP4.out.cell 2
  have v2:w4.frozen? ⟨Bp,2,none⟩=false:=HP4.out.free 2
  have u3:w4.cell? ⟨Bp,3,none⟩=some (.int .i64 0):=HP4.out.cell 3
  have v3:w4.frozen? ⟨Bp,3,none⟩=false:=HP4.out.free 3
  have u4:w4.cell? ⟨Bp,4,none⟩=some (.int .i64 0):=HP4.out.cell 4
  have v4:w4.frozen? ⟨Bp,4,none⟩=false:=HP4.out.free 4
  have u5:w4.cell? ⟨Bp,5,none⟩=some (.int .i64 ((fan L x:Nat):Int)):=HP4.out.cell 5
  have v5:w4.frozen? ⟨Bp,5,none⟩=false:=HP4.out.free 5
  have o0:w4.cell? ⟨(w.heap.size+1),0,none⟩=some (.int .i64 0):=HR4.out.cell 0
  have z0:w4.frozen? ⟨(w.heap.size+1),0,none⟩=false:=HR4.out.free 0
  have o1:w4.cell? ⟨(w.heap.size+1),1,none⟩=some (.int .i64 0):=HR4.out.cell 1
  have z1:w4.frozen? ⟨(w.heap.size+1),1,none⟩=false:=HR4.out.free 1
  have o2:w4.cell? ⟨(w.heap.size+1),2,none⟩=some (.int .i64 0):=HR4.out.cell 2
  have z2:w4.frozen? ⟨(w.heap.size+1),2,none⟩=false:=HR4.out.free 2
  have o3:w4.cell? ⟨(w.heap.size+1),3,none⟩=some (.int .i64 0):=HR4.out.cell 3
  have z3:w4.frozen? ⟨(w.heap.size+1),3,none⟩=false:=HR4.out.free 3
  have o4:w4.cell? ⟨(w.heap.size+1),4,none⟩=some (.int .i64 0):=HR4.out.cell 4
  have z4:w4.frozen? ⟨(w.heap.size+1),4,none⟩=false:=HR4.out.free 4
  have o5:w4.cell? ⟨(w.heap.size+1),5,none⟩=some (.int .i64 0):=HR4.out.cell 5
  have z5:w4.frozen? ⟨(w.heap.size+1),5,none⟩=false:=HR4.out.free 5
  go_wp2_with fail
  have hb:=(HP4.out.set 2 (.int .i64 3))
  have hf5:Fr (fun k=>k=Bp) w4 (w4.setCell ⟨Bp,2,none⟩ (.int .i64 3)):=Fr.setCell _ _ _ rfl
  have hr5:=HR4.out.fr hf5 (fun k hk e=>by simp at hk;omega)
  clear hb
  generalize (w4.setCell ⟨Bp,2,none⟩ (.int .i64 3))=w5 at *
  exact bodyPost_ret (results_cell_row rfl _ _ (w.heap.size+1) TPl _ (0,0) _ rfl (put6_bk hr5 ⟨x.t,x.i,3,0,0,((fan L x:Nat):Int)⟩) underlying91 rfl (by kernel_rfl)) rfl ⟨by rw [HE.out],(HB4.out.trans (hf5.below HB4.out.size (fun k hk e=>by omega))).trans ((put6_fr w5 (w.heap.size+1) ⟨x.t,x.i,3,0,0,((fan L x:Nat):Int)⟩).below (Nat.le_trans HB4.out.size hf5.size) (fun k hk e=>by omega))⟩
 |false=>
  by_cases h0:s.length=0
  ·have q0:((s.length:Int)==0)=true:=by simp [h0]
   have HE:=Lib.hid (HU.out.symm.trans (rPc_cyc HW.out (by simp [h0])))
   have u0:w4.cell? ⟨Bp,0,none⟩=some (.int .i64 x.t):=HP4.out.cell 0
   have v0:w4.frozen? ⟨Bp,0,none⟩=false:=HP4.out.free 0
   have u1:w4.cell? ⟨Bp,1,none⟩=some (.int .i64 x.i):=HP4.out.cell 1
   have v1:w4.frozen? ⟨Bp,1,none⟩=false:=HP4.out.free 1
   have u2:w4.cell? ⟨Bp,2,none⟩=some (.int .i64 0):=HP4.out.cell 2
   have v2:w4.frozen? ⟨Bp,2,none⟩=false:=HP4.out.free 2
   have u3:w4.cell? ⟨Bp,3,none⟩=some (.int .i64 0):=HP4.out.cell 3
   have v3:w4.frozen? ⟨Bp,3,none⟩=false:=HP4.out.free 3
   have u4:w4.cell? ⟨Bp,4,none⟩=some (.int .i64 0):=HP4.out.cell 4
   have v4:w4.frozen? ⟨Bp,4,none⟩=false:=HP4.out.free 4
   have u5:w4.cell? ⟨Bp,5,none⟩=some (.int .i64 ((fan L x:Nat):Int)):=HP4.out.cell 5
   have v5:w4.frozen? ⟨Bp,5,none⟩=false:=HP4.out.free 5
   have o0:w4.cell? ⟨(w.heap.size+1),0,none⟩=some (.int .i64 0):=HR4.out.cell 0
   have z0:w4.frozen? ⟨(w.heap.size+1),0,none⟩=false:=HR4.out.free 0
   have o1:w4.cell? ⟨(w.heap.size+1),1,none⟩=some (.int .i64 0):=HR4.out.cell 1
   have z1:w4.frozen? ⟨(w.heap.size+1),1,none⟩=false:=HR4.out.free 1
   have o2:w4.cell? ⟨(w.heap.size+1),2,none⟩=some (.int .i64 0):=HR4.out.cell 2
   have z2:w4.frozen? ⟨(w.heap.size+1),2,none⟩=false:=HR4.out.free 2
   have o3:w4.cell? ⟨(w.heap.size+1),3,none⟩=some (.int .i64 0):=HR4.out.cell 3
   have z3:w4.frozen? ⟨(w.heap.size+1),3,none⟩=false:=HR4.out.free 3
   have o4:w4.cell? ⟨(w.heap.size+1),4,none⟩=some (.int .i64 0):=HR4.out.cell 4
   have z4:w4.frozen? ⟨(w.heap.size+1),4,none⟩=false:=HR4.out.free 4
   have o5:w4.cell? ⟨(w.heap.size+1),5,none⟩=some (.int .i64 0):=HR4.out.cell 5
   have z5:w4.frozen? ⟨(w.heap.size+1),5,none⟩=false:=HR4.out.free 5
   go_wp2_with fail
   have hb:=(HP4.out.set 2 (.int .i64 3))
   have hf5:Fr (fun k=>k=Bp) w4 (w4.setCell ⟨Bp,2,none⟩ (.int .i64 3)):=Fr.setCell _ _ _ rfl
   have hr5:=HR4.out.fr hf5 (fun k hk e=>by simp at hk;omega)
   clear hb
   generalize (w4.setCell ⟨Bp,2,none⟩ (.int .i64 3))=w5 at *
   exact bodyPost_ret (results_cell_row rfl _ _ (w.heap.size+1) TPl _ (0,0) _ rfl (put6_bk hr5 ⟨x.t,x.i,3,0,0,((fan L x:Nat):Int)⟩) underlying91 rfl (by kernel_rfl)) rfl ⟨by rw [HE.out],(HB4.out.trans (hf5.below HB4.out.size (fun k hk e=>by omega))).trans ((put6_fr w5 (w.heap.size+1) ⟨x.t,x.i,3,0,0,((fan L x:Nat):Int)⟩).below (Nat.le_trans HB4.out.size hf5.size) (fun k hk e=>by omega))⟩
  ·have q0:((s.length:Int)==0)=false:=by simpa using h0
   obtain ⟨q,hq⟩:∃q,s.length=q+1:=⟨s.length-1,by omega⟩
   have hql:q<s.length:=by omega
   obtain ⟨b1,o1,rfl,hb1,c1⟩:=HS4.out.at hql (by omega)
   obtain ⟨z,hz⟩:∃z,s[q]=z:=⟨_,rfl⟩
   have HZ:=Lib.hid (At.row c1 hql)
   rw [hz] at HZ
   have HQe:=Lib.hid hq;have HZe:=Lib.hid hz
   clear c1 hb1 hz hq h0
   have q3:IntKind.i64.wrap ((s.length:Int)-1)=(q:Int):=by rw [IntKind.wrap_i64];have:=HQe.out;omega
   have q4:(0:Int)≤(q:Int):=by omega
   have q5:(q:Int)<(s.length:Int):=by omega
   obtain ⟨zc0,zc1,zc2,zc3,zc4,zc5,zc6,zc7,zc8⟩:=SetW.at9 HZ.out
   go_upto_region 7 with (fail)
   have f5:=Fr.alloc (fun _=>False) w4 (.cells z.arr TSn)
   have HZ5:=Lib.hid (At.box (Bk.new w4 z.arr TSn))
   have HP5:=Lib.hid (HP4.out.fr f5 (fun _ _ h=>h));have HR5:=Lib.hid (HR4.out.fr f5 (fun _ _ h=>h));have HB5:=Lib.hid (HB4.out.trans (f5.below HB4.out.size (fun _ _ h=>h)))
   have hlt:=lt_of_heap HP4.out
   clear f5 HZ zc0 zc1 zc2 zc3 zc4 zc5 zc6 zc7 zc8
   generalize (w4.alloc (.cells z.arr TSn))=w5 at *
   generalize w4.heap.size=Bz at *
   have n3:¬Bp=Bz:=by omega
   have n4:¬Bz=Bp:=by omega
   have zc0:w5.cell? ⟨Bz,0,none⟩=some (.int .i64 z.t):=HZ5.out 0 _ rfl
   have zc1:w5.cell? ⟨Bz,1,none⟩=some (.int .i64 z.i):=HZ5.out 1 _ rfl
   have zc2:w5.cell? ⟨Bz,2,none⟩=some (.int .i64 z.p):=HZ5.out 2 _ rfl
   have zc3:w5.cell? ⟨Bz,3,none⟩=some (.int .i64 z.r):=HZ5.out 3 _ rfl
   have zc4:w5.cell? ⟨Bz,4,none⟩=some (.string z.s):=HZ5.out 4 _ rfl
   have zc5:w5.cell? ⟨Bz,5,none⟩=some (.string z.o):=HZ5.out 5 _ rfl
   have zc6:w5.cell? ⟨Bz,6,none⟩=some (.int .i64 z.b):=HZ5.out 6 _ rfl
   have zc7:w5.cell? ⟨Bz,7,none⟩=some (.int .i64 z.d):=HZ5.out 7 _ rfl
   have zc8:w5.cell? ⟨Bz,8,none⟩=some (.bool z.g):=HZ5.out 8 _ rfl
   cases hz0:(z.p==0) with
   |true=>
    have HE:Hid (U=⟨x.t,x.i,1,(s.length:Int),z.i,((fan L x:Nat):Int)⟩):=by show _=_;rw [←HU.out,rPc_top HW.out HQe.out HZe.out,if_pos (by simpa using hz0)]
    have u0:w5.cell? ⟨Bp,0,none⟩=some (.int .i64 x.t):=HP5.out.cell 0
    have v0:w5.frozen? ⟨Bp,0,none⟩=false:=HP5.out.free 0
    have u1:w5.cell? ⟨Bp,1,none⟩=some (.int .i64 x.i):=HP5.out.cell 1
    have v1:w5.frozen? ⟨Bp,1,none⟩=false:=HP5.out.free 1
    have u2:w5.cell? ⟨Bp,2,none⟩=some (.int .i64 0):=HP5.out.cell 2
    have v2:w5.frozen? ⟨Bp,2,none⟩=false:=HP5.out.free 2
    have u3:w5.cell? ⟨Bp,3,none⟩=some (.int .i64 0):=HP5.out.cell 3
    have v3:w5.frozen? ⟨Bp,3,none⟩=false:=HP5.out.free 3
    have u4:w5.cell? ⟨Bp,4,none⟩=some (.int .i64 0):=HP5.out.cell 4
    have v4:w5.frozen? ⟨Bp,4,none⟩=false:=HP5.out.free 4
    have u5:w5.cell? ⟨Bp,5,none⟩=some (.int .i64 ((fan L x:Nat):Int)):=HP5.out.cell 5
    have v5:w5.frozen? ⟨Bp,5,none⟩=false:=HP5.out.free 5
    have o0:w5.cell? ⟨(w.heap.size+1),0,none⟩=some (.int .i64 0):=HR5.out.cell 0
    have z0:w5.frozen? ⟨(w.heap.size+1),0,none⟩=false:=HR5.out.free 0
    have o1:w5.cell? ⟨(w.heap.size+1),1,none⟩=some (.int .i64 0):=HR5.out.cell 1
    have z1:w5.frozen? ⟨(w.heap.size+1),1,none⟩=false:=HR5.out.free 1
    have o2:w5.cell? ⟨(w.heap.size+1),2,none⟩=some (.int .i64 0):=HR5.out.cell 2
    have z2:w5.frozen? ⟨(w.heap.size+1),2,none⟩=false:=HR5.out.free 2
    have o3:w5.cell? ⟨(w.heap.size+1),3,none⟩=some (.int .i64 0):=HR5.out.cell 3
    have z3:w5.frozen? ⟨(w.heap.size+1),3,none⟩=false:=HR5.out.free 3
    have o4:w5.cell? ⟨(w.heap.size+1),4,none⟩=some (.int .i64 0):=HR5.out.cell 4
    have z4:w5.frozen? ⟨(w.heap.size+1),4,none⟩=false:=HR5.out.free 4
    have o5:w5.cell? ⟨(w.heap.size+1),5,none⟩=some (.int .i64 0):=HR5.out.cell 5
    have z5:w5.frozen? ⟨(w.heap.size+1),5,none⟩=false:=HR5.out.free 5
    have hf6:=((((((((Fr.refl (fun k=>k=Bp) w5).trans (Fr.setCell (S:=fun k=>k=Bp) w5 ⟨Bp,2,none⟩ (.int .i64 2) rfl) (fun _ _ h=>h) (fun _ _ h=>h))).trans (Fr.setCell (S:=fun k=>k=Bp) (w5.setCell ⟨Bp,2,none⟩ (.int .i64 2)) ⟨Bp,2,none⟩ (.int .i64 1) rfl) (fun _ _ h=>h) (fun _ _ h=>h))).trans (Fr.setCell (S:=fun k=>k=Bp) ((w5.setCell ⟨Bp,2,none⟩ (.int .i64 2)).setCell ⟨Bp,2,none⟩ (.int .i64 1)) ⟨Bp,3,none⟩ (.int .i64 (s.length:Int)) rfl) (fun _ _ h=>h) (fun _ _ h=>h))).trans (Fr.setCell (S:=fun k=>k=Bp) (((w5.setCell ⟨Bp,2,none⟩ (.int .i64 2)).setCell ⟨Bp,2,none⟩ (.int .i64 1)).setCell ⟨Bp,3,none⟩ (.int .i64 (s.length:Int))) ⟨Bp,4,none⟩ (.int .i64 z.i) rfl) (fun _ _ h=>h) (fun _ _ h=>h))
    have hr6:=HR5.out.fr hf6 (fun k hk e=>by simp at hk;omega)
    have HR6:=Lib.hid hr6;have HF6:=Lib.hid hf6
    clear hf6 hr6
    go_wp2_with fail
    generalize ((((w5.setCell ⟨Bp,2,none⟩ (.int .i64 2)).setCell ⟨Bp,2,none⟩ (.int .i64 1)).setCell ⟨Bp,3,none⟩ (.int .i64 (s.length:Int))).setCell ⟨Bp,4,none⟩ (.int .i64 z.i))=w6 at *
    exact bodyPost_ret (results_cell_row rfl _ _ (w.heap.size+1) TPl _ (0,0) _ rfl (put6_bk HR6.out ⟨x.t,x.i,1,(s.length:Int),z.i,((fan L x:Nat):Int)⟩) underlying91 rfl (by kernel_rfl)) rfl ⟨by rw [HE.out],(HB5.out.trans (HF6.out.below HB5.out.size (fun k hk e=>by omega))).trans ((put6_fr w6 (w.heap.size+1) ⟨x.t,x.i,1,(s.length:Int),z.i,((fan L x:Nat):Int)⟩).below (Nat.le_trans HB5.out.size HF6.out.size) (fun k hk e=>by omega))⟩
   |false=>
    have HE:Hid (U=⟨x.t,x.i,2,(s.length:Int),z.i,((fan L x:Nat):Int)⟩):=by show _=_;rw [←HU.out,rPc_top HW.out HQe.out HZe.out,if_neg (by simpa using hz0)]
    have u0:w5.cell? ⟨Bp,0,none⟩=some (.int .i64 x.t):=HP5.out.cell 0
    have v0:w5.frozen? ⟨Bp,0,none⟩=false:=HP5.out.free 0
    have u1:w5.cell? ⟨Bp,1,none⟩=some (.int .i64 x.i):=HP5.out.cell 1
    have v1:w5.frozen? ⟨Bp,1,none⟩=false:=HP5.out.free 1
    have u2:w5.cell? ⟨Bp,2,none⟩=some (.int .i64 0):=HP5.out.cell 2
    have v2:w5.frozen? ⟨Bp,2,none⟩=false:=HP5.out.free 2
    have u3:w5.cell? ⟨Bp,3,none⟩=some (.int .i64 0):=HP5.out.cell 3
    have v3:w5.frozen? ⟨Bp,3,none⟩=false:=HP5.out.free 3
    have u4:w5.cell? ⟨Bp,4,none⟩=some (.int .i64 0):=HP5.out.cell 4
    have v4:w5.frozen? ⟨Bp,4,none⟩=false:=HP5.out.free 4
    have u5:w5.cell? ⟨Bp,5,none⟩=some (.int .i64 ((fan L x:Nat):Int)):=HP5.out.cell 5
    have v5:w5.frozen? ⟨Bp,5,none⟩=false:=HP5.out.free 5
    have o0:w5.cell? ⟨(w.heap.size+1),0,none⟩=some (.int .i64 0):=HR5.out.cell 0
    have z0:w5.frozen? ⟨(w.heap.size+1),0,none⟩=false:=HR5.out.free 0
    have o1:w5.cell? ⟨(w.heap.size+1),1,none⟩=some (.int .i64 0):=HR5.out.cell 1
    have z1:w5.frozen? ⟨(w.heap.size+1),1,none⟩=false:=HR5.out.free 1
    have o2:w5.cell? ⟨(w.heap.size+1),2,none⟩=some (.int .i64 0):=HR5.out.cell 2
    have z2:w5.frozen? ⟨(w.heap.size+1),2,none⟩=false:=HR5.out.free 2
    have o3:w5.cell? ⟨(w.heap.size+1),3,none⟩=some (.int .i64 0):=HR5.out.cell 3
    have z3:w5.frozen? ⟨(w.heap.size+1),3,none⟩=false:=HR5.out.free 3
    have o4:w5.cell? ⟨(w.heap.size+1),4,none⟩=some (.int .i64 0):=HR5.out.cell 4
    have z4:w5.frozen? ⟨(w.heap.size+1),4,none⟩=false:=HR5.out.free 4
    have o5:w5.cell? ⟨(w.heap.size+1),5,none⟩=some (.int .i64 0):=HR5.out.cell 5
    have z5:w5.frozen? ⟨(w.heap.size+1),5,none⟩=false:=HR5.out.free 5
    have hf6:=((((((Fr.refl (fun k=>k=Bp) w5).trans (Fr.setCell (S:=fun k=>k=Bp) w5 ⟨Bp,2,none⟩ (.int .i64 2) rfl) (fun _ _ h=>h) (fun _ _ h=>h))).trans (Fr.setCell (S:=fun k=>k=Bp) (w5.setCell ⟨Bp,2,none⟩ (.int .i64 2)) ⟨Bp,3,none⟩ (.int .i64 (s.length:Int)) rfl) (fun _ _ h=>h) (fun _ _ h=>h))).trans (Fr.setCell (S:=fun k=>k=Bp) ((w5.setCell ⟨Bp,2,none⟩ (.int .i64 2)).setCell ⟨Bp,3,none⟩ (.int .i64 (s.length:Int))) ⟨Bp,4,none⟩ (.int .i64 z.i) rfl) (fun _ _ h=>h) (fun _ _ h=>h))
    have hr6:=HR5.out.fr hf6 (fun k hk e=>by simp at hk;omega)
    have HR6:=Lib.hid hr6;have HF6:=Lib.hid hf6
    clear hf6 hr6
    go_wp2_with fail
    generalize (((w5.setCell ⟨Bp,2,none⟩ (.int .i64 2)).setCell ⟨Bp,3,none⟩ (.int .i64 (s.length:Int))).setCell ⟨Bp,4,none⟩ (.int .i64 z.i))=w6 at *
    exact bodyPost_ret (results_cell_row rfl _ _ (w.heap.size+1) TPl _ (0,0) _ rfl (put6_bk HR6.out ⟨x.t,x.i,2,(s.length:Int),z.i,((fan L x:Nat):Int)⟩) underlying91 rfl (by kernel_rfl)) rfl ⟨by rw [HE.out],(HB5.out.trans (HF6.out.below HB5.out.size (fun k hk e=>by omega))).trans ((put6_fr w6 (w.heap.size+1) ⟨x.t,x.i,2,(s.length:Int),z.i,((fan L x:Nat):Int)⟩).below (Nat.le_trans HB5.out.size HF6.out.size) (fun k hk e=>by omega))⟩
end ClsF
set_option maxRecDepth 100000
set_option maxHeartbeats 1000000
namespace ClsF
open KeyP PackP SetP SetW SetF Cls ClsW ClsS
attribute [local go_sem] Eng.ev Eng.getO_cons Eng.getO_nil
def eqP (a b:Pc):Bool:=decide (a.t=b.t∧a.i=b.i∧a.c=b.c∧a.d=b.d∧a.p=b.p∧a.f=b.f)
theorem eqP_iff {a b:Pc}:eqP a b=true↔a=b:=by
 cases a;cases b;simp [eqP]
theorem neq_pc (t i c d p f t' i' c' d' p' f':Int) (w:World):(binOp .neq TPl (.agg #[.int .i64 t,.int .i64 i,.int .i64 c,.int .i64 d,.int .i64 p,.int .i64 f]) (.agg #[.int .i64 t',.int .i64 i',.int .i64 c',.int .i64 d',.int .i64 p',.int .i64 f'])).run prog w=.ok (.bool (!eqP ⟨t,i,c,d,p,f⟩ ⟨t',i',c',d',p',f'⟩)) w:=by
 unfold eqP
 have hS:prog.underlying TPl=some (.struct (prog.fieldsOf TPl)):=by kernel_rfl
 have hp:prog.stoodInHeld TPl=false:=by kernel_rfl
 rw [run_neq_struct,show (10000:Nat)=9999+1 from rfl,run_equalIn_agg w 9999 TPl _ _ hS hp]
 simp only [Program.fieldsOf,underlying91]
 go_simp
 clear hS hp
 (repeat' split)<;>simp_all
abbrev AtP (w:World) (b o:Nat) (p:Pc):Prop:=∀j u,p.cs[j]? =some u→w.cell? ⟨b,o+j,none⟩=some u
theorem pcs_at {l:List Pc} {k:Nat} (h:k<l.length) {j:Nat} (hj:j<6):(pcs l)[k*6+j]? =l[k].cs[j]? :=by
 induction l generalizing k with
 |nil=>simp at h
 |cons a l ih=>
  have e:pcs (a::l)=a.cs++pcs l:=rfl
  rw [e]
  cases k with
  |zero=>rw [Nat.zero_mul,Nat.zero_add,List.getElem?_append_left (by exact hj)];rfl
  |succ k=>
   rw [List.getElem?_append_right (by show 6≤_;omega),show (k+1)*6+j-a.cs.length=k*6+j by show _-6=_;omega]
   exact ih (by simpa using h)
theorem AtP.row {w:World} {b o:Nat} {l:List Pc} (hc:∀j u,(pcs l)[j]? =some u→w.cell? ⟨b,o+j,none⟩=some u) {k:Nat} (hk:k<l.length):AtP w b (o+k*6) l[k]:=fun j u hu=>by
 rw [Nat.add_assoc]
 refine hc _ u ?_
 have hj:j<6:=(List.getElem?_eq_some_iff.1 hu).1
 rw [pcs_at hk hj];exact hu
theorem AtP.lt {w:World} {b o:Nat} {p:Pc} (h:AtP w b o p):b<w.heap.size:=by
 have:=h 0 _ rfl
 simp only [World.cell?] at this
 rcases Nat.lt_or_ge b w.heap.size with h1|h1
 ·exact h1
 ·rw [Array.getElem?_eq_none h1] at this;cases this
theorem AtP.keep {w w':World} {b o:Nat} {p:Pc} (h:AtP w b o p) (hf:Fr (fun _=>False) w w'):AtP w' b o p:=fun j u hu=>by
 have h1:=h j u hu
 rw [←h1]
 simp only [World.cell?]
 rw [hf.block b h.lt (fun h=>h)]
theorem ROf (A:Option Addr) (c:Nat) (L:List Sn) (w:World) (hS:Ls w A c L) (hlen:L.length≤900):
  Calls prog 44 #[.slice A L.length c] w fun e w'=>∃A' c',e=.returned (.slice A' (spn L).length c')∧Sl w' 6 A' (spn L).length c' (pcs (plcs (spn L)))∧Below w.heap.size w w':=by
 obtain ⟨i0,hi,hz0,hz1,hz2⟩:=info_parts infoP
 have HSp:=Lib.hid (RefSpans A c L w hS (by omega))
 have hsl:=Nat.le_trans (spn_len L) hlen
 have HSr:=Lib.hid (spn_srs L)
 clear hS
 generalize spn L=M at *
 go_enter func44,ntmps44
 go_wp2_with fail
 refine HSp.out.mono ?_
 rintro e w1 ⟨A1,c1,rfl,hls,-,hb⟩
 have HL:=Lib.hid hls;have HB:=Lib.hid hb
 clear hls hb HSp
 go_wp2_with fail
 go_loopg [4,5] M.length (fun gk v i wr=>∃k:Nat,i=.int .i64 k∧k≤M.length∧gk=M.length-k∧wr.ownsRow w1.heap.size TPl 6 v k (pcs ((plcs M).take k))∧Below w1.heap.size w1 wr)
 case atStart=>exact ⟨0,rfl,Nat.zero_le _,rfl,World.ownsRow_nil _ _ _ _,Below.refl _ _⟩
 case round=>
  obtain ⟨k,rfl,hk,hg,hown,hbel⟩:=hrel
  have HG:=Lib.hid hg;have HO:=Lib.hid hown;have HBe:=Lib.hid hbel
  have hszw:w1.heap.size≤wr.heap.size:=hbel.size
  clear hg hown hbel
  by_cases hlt:k<M.length
  ·obtain ⟨b1,o1,rfl,hb1,c1⟩:=HL.out.s.at hlt (by omega)
   have HA:=Lib.hid ((At.row c1 hlt).fr (Fr.of_below' HBe.out (fun _=>False)) (fun h=>h))
   have HSn:Hid ((plcs M).take (k+1)=(plcs M).take k++ [plc M M[k]]):=by show _=_;rw [List.take_succ_eq_append_getElem (by simpa using hlt)];simp
   have HR:=Lib.hid (rPc_plc HSr.out (List.getElem_mem hlt))
   clear c1 hb1
   generalize M[k]=y at *
   generalize plc M y=p at *
   generalize (plcs M).take k=N at *
   have HAt:=Lib.hid (RAt _ c1 M y wr (HL.out.below HBe.out) (by omega) p HR.out)
   have q1:(0:Int)≤(k:Int):=by omega
   have q2:decide ((k:Int)<(M.length:Int))=true:=by simp;omega
   have HK1:=Lib.hid (ownsRow_blk HO.out)
   obtain ⟨yc0,yc1,yc2,yc3,yc4,yc5,yc6,yc7,yc8⟩:=SetW.at9 HA.out
   go_wp2_with fail
   refine HAt.out.mono ?_
   rintro e w4 ⟨rfl,hb⟩
   have f4:=Fr.of_below' hb (fun _=>False)
   have hown4:=ownsRow_fr HO.out f4 (fun _ _ h=>h)
   have HB4:=Lib.hid (HBe.out.trans (hb.mono hszw))
   have hs4:w1.heap.size≤w4.heap.size:=HB4.out.size
   have hown1':=hown4.alloc (.cells p.arr TPl)
   clear hb f4 HAt HA yc0 yc1 yc2 yc3 yc4 yc5 yc6 yc7 yc8
   go_wp2_with (at_builtin;refine wpList_append_sl _ rfl (.tmp 14) (.tmp 21) TPls rfl w1.heap.size TPl i0 zP 6 48 underlying78 hi hz0 hz1 hz2 rfl (by decide) _ _ _ rfl hown1' _ _ _ _ rfl (Sl.one w4 TPl p.cs 6 rfl) (by simp [Value.oneCell']) ?_ ?_ ?_ ?_)
   ·unfold maxLen;omega
   ·omega
   ·first|omega| (simp;omega)
   intro v1 w5 hown1 hgrow1
   have HO5:=Lib.hid hown1;have HGr:=Lib.hid hgrow1
   clear hown1 hgrow1 hown1' hown4
   go_wp2_with fail
   go_roundg (M.length-(k+1))
   case rel=>exact ⟨k+1,by go_num,by omega,rfl,by rw [HSn.out];simpa using HO5.out,(HB4.out.alloc (by omega) _).grown HGr.out (by simp;omega) (fun k e=>(HK1.out k e).1)⟩
   case measure=>have:=HG.out;omega
  ·obtain rfl:k=M.length:=by omega
   have q2:decide ((M.length:Int)<(M.length:Int))=false:=by simp
   have hO:=HO.out
   rw [List.take_of_length_le (by simp)] at hO
   obtain ⟨A2,c2,hv,h2,-⟩:=Sl.of_own hO
   subst hv
   have H2:=Lib.hid h2
   clear h2 hO
   go_wp2_with fail
   go_ret
   exact ⟨A2,c2,rfl,H2.out,HB.out.trans (HBe.out.mono HB.out.size)⟩
end ClsF
set_option maxRecDepth 100000
set_option maxHeartbeats 1000000
namespace ClsF
open KeyP PackP SetP SetW SetF Cls ClsW ClsS
attribute [local go_sem] Eng.ev Eng.getO_cons Eng.getO_nil
def fdI (P:List Pc) (t i:Int):Int:=match P.findIdx? (fun p=>decide (p.t=t)&&decide (p.i=i)) with
 |some k=>k
 |none=> -1
theorem fd_at {P:List Pc} {t i:Int} {k:Nat} (hk:k<P.length) (hn:∀p∈P.take k,¬ (p.t=t∧p.i=i)) (h1:P[k].t=t) (h2:P[k].i=i):fdI P t i=(k:Int):=by
 have:P.findIdx? (fun p=>decide (p.t=t)&&decide (p.i=i))=some k:=by
  rw [List.findIdx?_eq_some_iff_getElem]
  refine ⟨hk,by simp [h1,h2],fun j hj=>?_⟩
  have:=hn P[j] (List.mem_take_iff_getElem.2 ⟨j,by omega,rfl⟩)
  simpa using this
 unfold fdI;rw [this]
theorem fd_none {P:List Pc} {t i:Int} (hn:∀p∈P,¬ (p.t=t∧p.i=i)):fdI P t i= -1:=by
 have:P.findIdx? (fun p=>decide (p.t=t)&&decide (p.i=i))=none:=by
  rw [List.findIdx?_eq_none_iff]
  intro p hp
  have:=hn p hp
  simpa using this
 unfold fdI;rw [this]
theorem FindP (A:Option Addr) (c:Nat) (P:List Pc) (t i:Int) (w:World) (hS:Sl w 6 A P.length c (pcs P)):
  Calls prog 39 #[.slice A P.length c,.int .i64 t,.int .i64 i] w fun e w'=>e=.returned (.int .i64 (fdI P t i))∧Fr (fun _=>False) w w':=by
 have hlen:P.length≤9223372036854775807:=by have:=hS.2.1;have:=hS.2.2.1;unfold maxLen at this;omega
 have HS:=Lib.hid hS
 clear hS
 go_enter func39,ntmps39
 go_wp2_with fail
 go_loopg [7] P.length (fun gk n wr=>∃k:Nat,n=.int .i64 k∧k≤P.length∧gk=P.length-k∧(∀p∈P.take k,¬ (p.t=t∧p.i=i))∧Fr (fun _=>False) w wr)
 case atStart=>exact ⟨0,rfl,Nat.zero_le _,rfl,by simp,Fr.refl _ _⟩
 case round=>
  obtain ⟨k,rfl,hk,hg,hno,hf⟩:=hrel
  have HG:=Lib.hid hg;have HF:=Lib.hid hf;have HNo:=Lib.hid hno
  clear hg hf hno
  by_cases hlt:k<P.length
  ·obtain ⟨b1,o1,rfl,hb1,c1⟩:=HS.out.at hlt (by omega)
   have HA:=Lib.hid ((AtP.row c1 hlt).keep HF.out)
   have HP:Hid (P[k].t=t→P[k].i=i→fdI P t i=k):=fun h1 h2=>fd_at hlt HNo.out h1 h2
   have HT:Hid (¬ (P[k].t=t∧P[k].i=i)→∀p∈P.take (k+1),¬ (p.t=t∧p.i=i)):=fun h p hp=>by
    rw [List.take_succ_eq_append_getElem hlt,List.mem_append] at hp
    rcases hp with hp|hp
    ·exact HNo.out p hp
    ·simp only [List.mem_singleton] at hp;rw [hp];exact h
   clear c1 hb1
   generalize P[k]=y at *
   have q1:(0:Int)≤(k:Int):=by omega
   have q2:decide ((k:Int)<(P.length:Int))=true:=by simp;omega
   have yc0:wr.cell? ⟨b1,o1+k*6,none⟩=some (.int .i64 y.t):=HA.out 0 _ rfl
   have yc1:wr.cell? ⟨b1,o1+k*6+1,none⟩=some (.int .i64 y.i):=HA.out 1 _ rfl
   have yc2:wr.cell? ⟨b1,o1+k*6+1+1,none⟩=some (.int .i64 y.c):=HA.out 2 _ rfl
   have yc3:wr.cell? ⟨b1,o1+k*6+1+1+1,none⟩=some (.int .i64 y.d):=HA.out 3 _ rfl
   have yc4:wr.cell? ⟨b1,o1+k*6+1+1+1+1,none⟩=some (.int .i64 y.p):=HA.out 4 _ rfl
   have yc5:wr.cell? ⟨b1,o1+k*6+1+1+1+1+1,none⟩=some (.int .i64 y.f):=HA.out 5 _ rfl
   cases ht:(y.t==t) with
   |false=>
    have HE:Hid (∀p∈P.take (k+1),¬ (p.t=t∧p.i=i)):=HT.out (fun h=>by rw [h.1] at ht;simp at ht)
    go_wp2_with fail
    go_roundg (P.length-(k+1))
    case rel=>exact ⟨k+1,by go_num,by omega,rfl,HE.out,HF.out⟩
    case measure=>have:=HG.out;omega
   |true=>
    have ht':y.t=t:=by simpa using ht
    have HTe:=Lib.hid ht'
    clear ht'
    cases hi:(y.i==i) with
    |false=>
     have HE:Hid (∀p∈P.take (k+1),¬ (p.t=t∧p.i=i)):=HT.out (fun h=>by rw [h.2] at hi;simp at hi)
     go_wp2_with fail
     go_roundg (P.length-(k+1))
     case rel=>exact ⟨k+1,by go_num,by omega,rfl,HE.out,HF.out⟩
     case measure=>have:=HG.out;omega
    |true=>
     have HE:=Lib.hid (HP.out HTe.out (by simpa using hi))
     go_wp2_with fail
     go_ret
     exact ⟨by rw [HE.out];rfl,HF.out⟩
  ·obtain rfl:k=P.length:=by omega
   have h:=HNo.out
   rw [List.take_length] at h
   have HE:=Lib.hid (fd_none h)
   clear h
   go_wp2_with fail
   go_ret
   exact ⟨by rw [HE.out];rfl,HF.out⟩
structure PR2 (w0 w:World) (b o b' o':Nat) (p q:Pc):Prop where
 a:AtP w b o p
 b:AtP w b' o' q
 f:Fr (fun _=>False) w0 w
theorem PR2.fr {w0 w w':World} {b o b' o':Nat} {p q:Pc} (H:PR2 w0 w b o b' o' p q) (hf:Fr (fun _=>False) w w'):PR2 w0 w' b o b' o' p q:=⟨H.a.keep hf,H.b.keep hf,H.f.trans hf (fun _ _ h=>h) (fun _ _ h=>h)⟩
theorem sp6 {ops:Array Oper} (hops:Eng.fnOps Tryz.f35 6=ops) (a0:Act) (Q:Exit→Act→World→Prop) (w0 w:World) (b1 o1 len c b2 o2 len2 c2 k:Nat) (y z:Pc) (hst:PR2 w0 w b1 (o1+k*6) b2 (o2+k*6) y z) (hk:k<len) (hk2:k<len2) (_hlen:len≤9223372036854775807) (_hlen2:len2≤9223372036854775807)
  (hn:a0.tmps.size=32) (h_0:a0.tmps.getD 0 undef=.slice (some ⟨b1,o1,none⟩) len c) (h_1:a0.tmps.getD 1 undef=.slice (some ⟨b2,o2,none⟩) len2 c2) (h_5:a0.tmps.getD 5 undef=.int .i64 (k:Int))
  (hpost:∀ (x:Nat→Value) (w':World),x 31=.bool (!eqP y z)→PR2 w0 w' b1 (o1+k*6) b2 (o2+k*6) y z→Q .normal (Eng.setAll a0 [23,24,25,26,27,28,29,30,31] x) w'):
  (Code.region 6 ops true).wp prog Q a0 w:=by
 simp only [Eng.fnOps,Eng.regOps,Tryz.f35,Option.bind_some,Option.getD_some,Nat.reduceEqDiff,↓reduceIte] at hops
 subst hops
 have q1:(0:Int)≤(k:Int):=by omega
 have q2:(k:Int)<(len:Int):=by omega
 have q4:(k:Int)<(len2:Int):=by omega
 have hq:=fun W:World=>neq_pc y.t y.i y.c y.d y.p y.f z.t z.i z.c z.d z.p z.f W
 have HSt:=Lib.hid (hst.fr (Fr.drew _ _))
 refine Eng.regionN [(0,true),(1,true),(2,true),(3,true),(4,true),(5,true),(6,true),(7,true),(8,true)] (fun w'=>w'.cell? ⟨b1,o1+k*6,none⟩=some (.int .i64 y.t)∧w'.cell? ⟨b1,o1+k*6+1,none⟩=some (.int .i64 y.i)∧w'.cell? ⟨b1,o1+k*6+1+1,none⟩=some (.int .i64 y.c)∧w'.cell? ⟨b1,o1+k*6+1+1+1,none⟩=some (.int .i64 y.d)∧w'.cell? ⟨b1,o1+k*6+1+1+1+1,none⟩=some (.int .i64 y.p)∧w'.cell? ⟨b1,o1+k*6+1+1+1+1+1,none⟩=some (.int .i64 y.f)∧w'.cell? ⟨b2,o2+k*6,none⟩=some (.int .i64 z.t)∧w'.cell? ⟨b2,o2+k*6+1,none⟩=some (.int .i64 z.i)∧w'.cell? ⟨b2,o2+k*6+1+1,none⟩=some (.int .i64 z.c)∧w'.cell? ⟨b2,o2+k*6+1+1+1,none⟩=some (.int .i64 z.d)∧w'.cell? ⟨b2,o2+k*6+1+1+1+1,none⟩=some (.int .i64 z.p)∧w'.cell? ⟨b2,o2+k*6+1+1+1+1+1,none⟩=some (.int .i64 z.f)) (by kernel_rfl) 32 hn (by kernel_rfl) rfl (by kernel_rfl) (⟨HSt.out.a 0 _ rfl,HSt.out.a 1 _ rfl,HSt.out.a 2 _ rfl,HSt.out.a 3 _ rfl,HSt.out.a 4 _ rfl,HSt.out.a 5 _ rfl,HSt.out.b 0 _ rfl,HSt.out.b 1 _ rfl,HSt.out.b 2 _ rfl,HSt.out.b 3 _ rfl,HSt.out.b 4 _ rfl,HSt.out.b 5 _ rfl⟩) (fun a b ha hb=>?_)
 subst ha
 have hb0:b 0=.slice (some ⟨b1,o1,none⟩) len c:=(hb 0).symm.trans h_0
 have hb1:b 1=.slice (some ⟨b2,o2,none⟩) len2 c2:=(hb 1).symm.trans h_1
 have hb5:b 5=.int .i64 (k:Int):=(hb 5).symm.trans h_5
 clear hb h_0 h_1 h_5
 have HP:=Lib.hid hpost;have HN:=Lib.hid hn
 clear hpost hn
 iterate 9 (refine Eng.Sch.tk ?_)
 refine Eng.Sch.end_ [23,24,25,26,27,28,29,30,31] HN.out (by kernel_rfl) (by kernel_rfl) ?_
 exact HP.out _ _ rfl HSt.out
theorem SameP (A B:Option Addr) (ca cb:Nat) (P Q:List Pc) (w:World) (n m:Nat) (hn:P.length=n) (hm:Q.length=m) (ha:Sl w 6 A n ca (pcs P)) (hb:Sl w 6 B m cb (pcs Q)):
  Calls prog 35 #[.slice A n ca,.slice B m cb] w fun e w'=>e=.returned (.bool (decide (P=Q)))∧Fr (fun _=>False) w w':=by
 have la:n≤9223372036854775807:=by have:=ha.2.1;have:=ha.2.2.1;unfold maxLen at this;omega
 have lb:m≤9223372036854775807:=by have:=hb.2.1;have:=hb.2.2.1;unfold maxLen at this;omega
 have HA:=Lib.hid ha;have HB:=Lib.hid hb;have HN:=Lib.hid hn;have HM:=Lib.hid hm
 clear ha hb hn hm
 go_enter func35,ntmps35
 by_cases hl:n=m
 ·subst hl
  have q0:((n:Int) != (n:Int))=false:=by simp
  go_wp2_with fail
  go_loopg [5] n (fun gk i wr=>∃k:Nat,i=.int .i64 k∧k≤n∧gk=n-k∧P.take k=Q.take k∧Fr (fun _=>False) w wr)
  case atStart=>exact ⟨0,rfl,Nat.zero_le _,rfl,rfl,Fr.refl _ _⟩
  case round=>
   obtain ⟨k,rfl,hk,hg,heq,hf⟩:=hrel
   have HG:=Lib.hid hg;have HE:=Lib.hid heq;have HF:=Lib.hid hf
   clear hg heq hf
   by_cases hlt:k<n
   ·have hp:k<P.length:=by rw [HN.out];exact hlt
    have hq:k<Q.length:=by rw [HM.out];exact hlt
    obtain ⟨b1,o1,rfl,hb1,c1⟩:=HA.out.at hlt (by omega)
    obtain ⟨b2,o2,rfl,hb2,c2⟩:=HB.out.at hlt (by omega)
    have H1:=Lib.hid ((AtP.row c1 hp).keep HF.out);have H2:=Lib.hid ((AtP.row c2 hq).keep HF.out)
    have HT:Hid (P[k]=Q[k]→P.take (k+1)=Q.take (k+1)):=fun h=>by rw [List.take_succ_eq_append_getElem hp,List.take_succ_eq_append_getElem hq,HE.out,h]
    have HD:Hid (P[k]≠Q[k]→decide (P=Q)=false):=fun h=>decide_eq_false (fun e=>h (by subst e;rfl))
    clear c1 c2 hb1 hb2
    generalize P[k]=y at *
    generalize Q[k]=z at *
    have q2:decide ((k:Int)<(n:Int))=true:=by simp;omega
    go_upto_region 6 with (fail)
    refine sp6 (by kernel_rfl) _ _ wr wr b1 o1 _ ca b2 o2 _ cb k y z ⟨H1.out,H2.out,Fr.refl _ _⟩ hlt hlt la la rfl rfl rfl rfl ?_
    intro x w2 h17 hst
    simp only [Eng.setAll,Act.put,List.setIfInBounds_toArray,List.set_cons_succ,List.set_cons_zero]
    rw [h17]
    have HSt:=Lib.hid hst
    clear h17 hst
    cases he:eqP y z with
    |true=>
     have HE2:=Lib.hid (HT.out (eqP_iff.1 he))
     clear he q2
     go_wp2_with fail
     go_roundg (n-(k+1))
     case rel=>exact ⟨k+1,by go_num,by omega,rfl,HE2.out,HF.out.trans HSt.out.f (fun _ _ h=>h) (fun _ _ h=>h)⟩
     case measure=>have:=HG.out;omega
    |false=>
     have HE2:=Lib.hid (HD.out (fun e=>by rw [eqP_iff.2 e] at he;cases he))
     clear he q2
     go_wp2_with fail
     go_ret
     exact ⟨by rw [HE2.out];rfl,HF.out.trans HSt.out.f (fun _ _ h=>h) (fun _ _ h=>h)⟩
   ·obtain rfl:k=n:=by omega
    have h:=HE.out
    rw [List.take_of_length_le (by rw [HN.out];exact Nat.le_refl _),List.take_of_length_le (by rw [HM.out];exact Nat.le_refl _)] at h
    have HD:Hid (decide (P=Q)=true):=decide_eq_true h
    have q2:decide ((k:Int)<(k:Int))=false:=by simp
    clear h
    go_wp2_with fail
    go_ret
    exact ⟨by rw [HD.out];rfl,HF.out⟩
 ·have q0:((n:Int) != (m:Int))=true:=by simp;omega
  have HD:Hid (decide (P=Q)=false):=decide_eq_false (fun e=>hl (by rw [←HN.out,←HM.out,e]))
  go_wp2_with fail
  go_ret
  exact ⟨by rw [HD.out];rfl,Fr.refl _ _⟩
end ClsF
end Go.Proofs.YtgfjpnpbkkadpaaGreat
