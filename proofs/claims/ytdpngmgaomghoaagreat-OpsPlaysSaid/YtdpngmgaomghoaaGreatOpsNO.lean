/- (*ops.View).Apply. -/
import Derived.Test.YtdpngmgaomghoaaGreatOpsLM
import Derived.Test.YtdpngmgaomghoaaGreatDels
import Derived.Shelf.Slices.Cells
namespace Go.Proofs.YtdpngmgaomghoaaGreat
open Tryz
set_option maxRecDepth 100000
set_option maxHeartbeats 2000000
open Go.RowKit
namespace Ops
open BagP HistP OpsP Hist KeyP PackP SetP SetW SetF Sli Name Pack Delta
attribute [local go_sem] Eng.ev Eng.getO_cons Eng.getO_nil
theorem name_nz {s:ByteArray} (h:nameB s=true):Sep.nz s.toList∧s.size≤24:=by
 refine ⟨fun c hc=>?_,(name_size h).2⟩
 unfold nameB at h
 simp only [Bool.and_eq_true,List.all_eq_true,decide_eq_true_eq] at h
 rw [tl_data] at hc
 have:=(h.1 c hc).1
 exact UInt8.lt_iff_toNat_lt.2 (by show 0<_;omega)
theorem may_nm {x:Sn} (h:mayB x=true):nmN x:=by
 have h':=may_iff.1 h
 have h1:=name_nz h'.s;have h2:=name_nz h'.o
 exact ⟨by omega,h1.1,h2.1,by dsimp only;omega⟩
theorem mays_nm {L:List Sn} (h:mays L=true):∀x∈L,nmN x:=fun x hx=>by
 unfold mays at h
 simp only [Bool.not_eq_true',List.any_eq_false,bne_iff_ne,ne_eq,Decidable.not_not] at h
 have h1:=h x hx
 refine may_nm ?_
 unfold mayN at h1
 cases hb:mayB x with
 |true=>rfl
 |false=>rw [hb] at h1;simp at h1
def applyR (O I:List Sn) (V:Vw):Option Vw:=if mays O&&mays I then applyV (O.map rc) (I.map rc) V else none
def ApplyPost (B:Nat) (M:List Nat) (E:Es) (O I:List Sn) (w:World) (e:Ending) (w':World):Prop:=
 ∃b M' E',e=.returned (.bool b)∧OV w' B M' E'∧Tn (fl B M E) (fl B M' E') w w'∧((b=true∧applyR O I (vL E)=some (vL E'))∨(b=false∧applyR O I (vL E)=none∧vL E'=vL E))
theorem adds_len:∀ (l:List (Nm × Int)) (V:Vw),(l.foldl addV V).length≤V.length+l.length
 | [],V=>by simp
 |r::l,V=>by
  rw [List.foldl_cons,List.length_cons]
  have:=adds_len l (addV V r);have:=insL_lenV V r;omega
theorem foldl_take {l:List (Nm × Int)} {k:Nat} (h:k<l.length) (V:Vw):(l.take (k+1)).foldl addV V=addV ((l.take k).foldl addV V) l[k]:=by
 rw [List.take_succ_eq_append_getElem h,List.foldl_append];rfl
theorem vlen (E:Es):(vL E).length=E.length:=by simp
theorem Apply (B:Nat) (M:List Nat) (E:Es) (d:Dl) (w:World) (H:OV w B M E) (hv:OpsP.Vok (vL E)) (hd:RdD w d) (ha1:∀a,d.A1=some a→d.O≠ []→a.block∉fl B M E) (ha2:∀a,d.A2=some a→d.I≠ []→a.block∉fl B M E) (lE:E.length≤1000000) (lO:d.O.length≤100000) (lI:d.I.length≤100000):
  Calls prog 25 #[.pointer (some ⟨B,0,none⟩),d.v] w (ApplyPost B M E d.O d.I w):=by
 have hf:=Fr.alloc (fun _=>False) w (.cells d.arr TDl)
 have HT:=Lib.hid (H.ot.fr hf)
 have HD:=Lib.hid (hd.keep hf)
 have HBk:=Lib.hid (Bk.new w d.arr TDl)
 have HBd:Hid (¬w.heap.size∈fl B M E):=fun hm=>by have:=H.lt _ hm;omega
 have AP1:=Lib.hid ha1;have AP2:=Lib.hid ha2;have HV:=Lib.hid hv
 obtain ⟨A1,c1,O,A2,c2,I⟩:=d
 dsimp only at lO lI HD AP1 AP2
 clear hf H hd ha1 ha2 hv
 go_enter func25,ntmps25
 go_upto_region 1 with (fail)
 generalize (w.alloc (.cells #[.slice A1 O.length c1,.slice A2 I.length c2] TDl))=w1 at *
 generalize w.heap.size=Bd at *
 have e0:w1.cell? ⟨Bd,0,none⟩=some (.slice A1 O.length c1):=HBk.out.cell 0
 have e1:w1.cell? ⟨Bd,1,none⟩=some (.slice A2 I.length c2):=HBk.out.cell 1
 go_wp2_with fail
 refine (may_ A1 c1 O w1 HD.out.o).mono ?_
 rintro e w2 ⟨rfl,hf⟩
 replace HT:=Lib.hid (HT.out.fr hf);replace HD:=Lib.hid (HD.out.keep hf);replace HBk:=Lib.hid (HBk.out.fr hf (fun _ _ h=>h))
 clear hf e0 e1
 cases hmO:mays O with
 |false=>
  go_wp2_with fail
  go_ret
  exact ⟨false,M,E,rfl,HT.out.v,HT.out.t,.inr ⟨rfl,by unfold applyR;rw [hmO];rfl,rfl⟩⟩
 |true=>
  have e1:w2.cell? ⟨Bd,1,none⟩=some (.slice A2 I.length c2):=HBk.out.cell 1
  go_wp2_with fail
  refine (may_ A2 c2 I w2 HD.out.i).mono ?_
  rintro e w3 ⟨rfl,hf⟩
  replace HT:=Lib.hid (HT.out.fr hf);replace HD:=Lib.hid (HD.out.keep hf);replace HBk:=Lib.hid (HBk.out.fr hf (fun _ _ h=>h))
  clear hf e1
  cases hmI:mays I with
  |false=>
   go_wp2_with fail
   go_ret
   exact ⟨false,M,E,rfl,HT.out.v,HT.out.t,.inr ⟨rfl,by unfold applyR;rw [hmO,hmI];rfl,rfl⟩⟩
  |true=>
   have HR:Hid (applyR O I (vL E)=applyV (O.map rc) (I.map rc) (vL E)):=by show _=_;unfold applyR;rw [hmO,hmI];rfl
   have HnO:=Lib.hid (mays_nm hmO);have HnI:=Lib.hid (mays_nm hmI)
   clear hmO hmI
   have e0:w3.cell? ⟨Bd,0,none⟩=some (.slice A1 O.length c1):=HBk.out.cell 0
   go_wp2_with fail
   refine (leave B M E A1 c1 O w3 HT.out.v HV.out HD.out.o AP1.out HnO.out lE lO).mono ?_
   rintro e w4 ⟨b,M4,E4,rfl,hv4,ht4,hr4⟩
   have HT4:=Lib.hid (⟨hv4,HT.out.t.trans ht4⟩:OT w (fl B M E) w4 B M4 E4)
   have HLv:=Lib.hid hr4
   have HBk4:=Lib.hid (HBk.out.fr ht4.fr (fun b hb=>by simp at hb;subst hb;exact HBd.out))
   have HI4:=Lib.hid (keepV HD.out.i ht4.fr AP2.out)
   have HAp4:Hid (∀a,A2=some a→I≠ []→a.block<w4.heap.size∧a.block∉fl B M4 E4):=fun a ha hne=>by
    have h1:a.block<w3.heap.size:=HD.out.i.s.lt (fun e=>hne (by have:=(HD.out.i.s.nil_iff (by omega)).2 e;exact List.length_eq_zero_iff.1 this)) a ha
    exact ⟨Nat.lt_of_lt_of_le h1 ht4.fr.size,Tn.out ht4 h1 (AP2.out a ha hne)⟩
   clear hv4 ht4 hr4 e0 HT HD HBk
   cases b with
   |false=>
    go_wp2_with fail
    go_ret
    rcases HLv.out with ⟨h,-⟩| ⟨-,h1,h2⟩
    ·cases h
    ·exact ⟨false,M4,E4,rfl,HT4.out.v,HT4.out.t,.inr ⟨rfl,by rw [HR.out];unfold applyV;rw [h1];rfl,h2⟩⟩
   |true=>
    have HLv2:Hid (leaveV (O.map rc) (vL E)=some (vL E4)):=by
     rcases HLv.out with ⟨-,h⟩| ⟨h,-⟩
     ·exact h
     ·cases h
    have HnO2:Hid (∀r∈O.map rc,nzN r.1):=fun r hr=>by obtain ⟨x,hx,rfl⟩:=List.mem_map.1 hr;exact (HnO.out x hx).2
    have HnI2:Hid (∀r∈I.map rc,nzN r.1):=fun r hr=>by obtain ⟨x,hx,rfl⟩:=List.mem_map.1 hr;exact (HnI.out x hx).2
    have HV4:=Lib.hid (HV.out.leave HnO2.out HLv2.out)
    have HE4:Hid (E4.length≤1000000):=by have:=leaveV_len HV.out HnO2.out HLv2.out;rw [vlen,vlen] at this;exact Nat.le_trans this lE
    have e1:w4.cell? ⟨Bd,1,none⟩=some (.slice A2 I.length c2):=HBk4.out.cell 1
    clear HLv
    go_wp2_with fail
    go_loopg [37] I.length (fun gk i wr=>∃ (j:Nat) (M3:List Nat) (E3:Es),i=.int .i64 j∧j≤I.length∧gk=I.length-j∧OT w4 (fl B M4 E4) wr B M3 E3∧vL E3=((I.map rc).take j).foldl addV (vL E4))
    case atStart=>exact ⟨0,M4,E4,rfl,Nat.zero_le _,rfl,HT4.out.v.ot,by simp⟩
    case round=>
     obtain ⟨j,M3,E3,rfl,hj,hg,ht,hve⟩:=hrel
     have HG3:=Lib.hid hg;have HT3:=Lib.hid ht;have HVe:=Lib.hid hve
     have HV3:Hid (OpsP.Vok (vL E3)):=by show OpsP.Vok _;rw [hve];exact HV4.out.adds (fun r hr=>HnI2.out r (List.mem_of_mem_take hr))
     have hl3:E3.length≤1100000:=by
      have h1:=congrArg List.length hve
      have h2:=adds_len ((I.map rc).take j) (vL E4)
      rw [vlen] at h1 h2
      simp only [List.length_take,List.length_map] at h1 h2
      have:=HE4.out;omega
     clear hg ht hve
     by_cases hlt3:j<I.length
     ·have hne:I≠ []:=fun e=>by rw [e] at hlt3;simp at hlt3
      have HS1:=Lib.hid (HI4.out.fr HT3.out.t.fr (fun a ha=>(HAp4.out a ha hne).2))
      obtain ⟨b3,o3,rfl,hb3,c3'⟩:=HS1.out.s.at hlt3 (by omega)
      have HA:=Lib.hid (At.row c3' hlt3)
      have HNz:=Lib.hid (HnI.out _ (List.getElem_mem hlt3))
      have HTk:Hid (((I.map rc).take (j+1)).foldl addV (vL E4)=addV (vL E3) (rc I[j])):=by
       have h2:j<(I.map rc).length:=by simpa using hlt3
       show _=_
       rw [foldl_take h2,HVe.out];simp
      have hcap:=HS1.out.s.2.1
      clear c3' hb3 HS1
      generalize I[j]=z at *
      have q1:(0:Int)≤(j:Int):=by omega
      have q2:decide ((j:Int)<((I.length:Nat):Int))=true:=by simp;omega
      obtain ⟨zc0,zc1,zc2,zc3,zc4,zc5,zc6,zc7,zc8⟩:=SetW.at9 HA.out
      go_upto_region 8 with (fail)
      have hfa:=Fr.alloc (fun _=>False) wr (.cells z.arr TSn)
      have HX:=Lib.hid (Bk.new wr z.arr TSn)
      have HT5:=Lib.hid (HT3.out.fr hfa)
      clear hfa HA HT3 zc0 zc1 zc2 zc3 zc4 zc5 zc6 zc7 zc8
      generalize (wr.alloc (.cells z.arr TSn))=w14 at *
      generalize wr.heap.size=Bz at *
      have zc0:w14.cell? ⟨Bz,0,none⟩=some (.int .i64 z.t):=HX.out.cell 0
      have zc1:w14.cell? ⟨Bz,1,none⟩=some (.int .i64 z.i):=HX.out.cell 1
      have zc2:w14.cell? ⟨Bz,2,none⟩=some (.int .i64 z.p):=HX.out.cell 2
      have zc3:w14.cell? ⟨Bz,3,none⟩=some (.int .i64 z.r):=HX.out.cell 3
      have zc4:w14.cell? ⟨Bz,4,none⟩=some (.string z.s):=HX.out.cell 4
      have zc5:w14.cell? ⟨Bz,5,none⟩=some (.string z.o):=HX.out.cell 5
      have zc6:w14.cell? ⟨Bz,6,none⟩=some (.int .i64 z.b):=HX.out.cell 6
      have zc7:w14.cell? ⟨Bz,7,none⟩=some (.int .i64 z.d):=HX.out.cell 7
      have zc8:w14.cell? ⟨Bz,8,none⟩=some (.bool z.g):=HX.out.cell 8
      go_wp2_with fail
      refine (add B M3 E3 z w14 HT5.out.v HV3.out HNz.out (by omega)).mono ?_
      rintro e w15 ⟨rfl,M5,E5,hv5,hve5,hl5,ht5⟩
      have HT6:=Lib.hid (⟨hv5,HT5.out.t.trans ht5⟩:OT w4 (fl B M4 E4) w15 B M5 E5)
      have HVe5:Hid (vL E5=((I.map rc).take (j+1)).foldl addV (vL E4)):=by show _=_;rw [HTk.out];exact hve5
      clear hv5 hve5 hl5 ht5 HX HT5 HTk zc0 zc1 zc2 zc3 zc4 zc5 zc6 zc7 zc8
      go_wp2_with fail
      go_roundg (I.length-(j+1))
      case rel=>exact ⟨j+1,M5,E5,by go_num,by omega,rfl,HT6.out,HVe5.out⟩
      case measure=>have:=HG3.out;omega
     ·obtain rfl:j=I.length:=by omega
      have q2:decide (((I.length:Nat):Int)<((I.length:Nat):Int))=false:=by simp
      go_wp2_with fail
      go_ret
      refine ⟨true,M3,E3,rfl,HT3.out.v,HT4.out.t.trans HT3.out.t,.inl ⟨rfl,?_⟩⟩
      have h1:=HVe.out
      rw [List.take_of_length_le (by simp)] at h1
      rw [HR.out,applyV,HLv2.out,h1];rfl
end Ops
set_option maxRecDepth 100000
set_option maxHeartbeats 1000000
namespace Ops
open BagP HistP OpsP Hist KeyP PackP SetP SetW SetF Sli Name Pack Delta ClsW
attribute [local go_sem] Eng.ev Eng.getO_cons Eng.getO_nil
abbrev TStrs:TypeId:=60
abbrev strs (l:List ByteArray):List Value:=l.map Value.string
theorem infoStr:(prog.info? TSt).map (fun i=>(i.zero,i.size,i.bytes))=some (some (.string ByteArray.empty),1,16):=by kernel_rfl
theorem Apply_nil (d:Dl) (w:World) (hO:d.O.length≤100000) (hI:d.I.length≤100000) (b:Bool) (hb:(((d.O.length+d.I.length:Nat):Int)==0)=b):Calls prog 25 #[.pointer none,d.v] w fun e w'=>e=.returned (.bool b)∧Fr (fun _=>False) w w':=by
 have HF:=Lib.hid (Fr.alloc (fun _=>False) w (.cells d.arr TDl))
 have HBk:=Lib.hid (Bk.new w d.arr TDl)
 obtain ⟨A1,c1,O,A2,c2,I⟩:=d
 dsimp only at hO hI hb
 rw [Int.natCast_add] at hb
 have e0:(w.alloc (.cells #[.slice A1 O.length c1,.slice A2 I.length c2] TDl)).cell? ⟨w.heap.size,0,none⟩=some (.slice A1 O.length c1):=HBk.out.cell 0
 have e1:(w.alloc (.cells #[.slice A1 O.length c1,.slice A2 I.length c2] TDl)).cell? ⟨w.heap.size,1,none⟩=some (.slice A2 I.length c2):=HBk.out.cell 1
 go_enter func25,ntmps25
 go_wp2_with fail
 go_ret
 exact ⟨rfl,HF.out⟩
theorem All_nil (w:World):Calls prog 28 #[.pointer none] w fun e w'=>e=.returned (.slice none 0 0)∧Fr (fun _=>False) w w':=by
 have HF:=Lib.hid (Fr.alloc (fun _=>False) w (.cells #[.slice none 0 0] TOs))
 go_enter func28,ntmps28
 go_wp2_with fail
 go_ret
 exact ⟨rfl,HF.out⟩
def renC:Go.Shelf.Ren:=⟨fun|194=>97|n=>n,fun|0=>0|3=>3|4=>4|9=>9|31=>60|n=>n,fun n=>n⟩
theorem laidC:Go.Proofs.Lays.n194 prog renC:={
 mixed:=by kernel_rfl,
 f194:=func97.trans (congrArg some (by kernel_rfl)),
 t0:=underlying0,
 a0:=Tryz.isAgg0,
 z0:=Tryz.sizeOf0,
 v0:=Tryz.zeroValue0,
 t3:=underlying3,
 a3:=Tryz.isAgg3,
 z3:=Tryz.sizeOf3,
 v3:=Tryz.zeroValue3,
 t4:=underlying4,
 a4:=Tryz.isAgg4,
 z4:=Tryz.sizeOf4,
 v4:=Tryz.zeroValue4,
 t9:=underlying9,
 a9:=Tryz.isAgg9,
 z9:=Tryz.sizeOf9,
 v9:=Tryz.zeroValue9,
 t31:=underlying60,
 a31:=Tryz.isAgg60,
 z31:=Tryz.sizeOf60,
 v31:=Tryz.zeroValue60 }
theorem Compact_empty (w:World):Calls prog 97 #[.slice none 0 0] w fun e w'=>e=.returned (.slice none 0 0)∧w'=w:=
 Any.slices_Compact_string_empty laidC none 0 w
theorem Compact_own {base:Nat} {v:Value} (V:Vw) (w:World) (ho:w.ownsRow base TSt 1 v V.length (strs (svcs V))):
  Calls prog 97 #[v] w fun e w'=>∃A c,e=.returned (.slice A (svc V).length c)∧Sl w' 1 A (svc V).length c (strs (svc V))∧(∀a,A=some a→base≤a.block∧a.block<w'.heap.size)∧Fr (fun b=>v.ownBlock=some b) w w':=by
 obtain ⟨hlen,h⟩:=ho
 have hn:(svcs V).length=V.length:=by simp [svcs]
 rcases h with ⟨rfl,h0⟩| ⟨g,cap,cur,rfl,hg,hh,hc1,hc2,hc3,hc4⟩
 ·have hV:V= []:=List.length_eq_zero_iff.1 h0
  subst hV
  refine (Compact_empty w).mono ?_
  rintro e w' ⟨rfl,rfl⟩
  exact ⟨none,0,rfl,Sl.empty _ _,fun a ha=>(by cases ha),Fr.refl _ _⟩
 ·have hcell:∀i,i<V.length→w.cell? ⟨g,0+i,none⟩=some (.string ((svcs V).getD i ByteArray.empty)):=fun i hi=>by
   rw [Nat.zero_add,cell_of_block hh]
   have h1:(strs (svcs V))[i]? =some (.string ((svcs V).getD i ByteArray.empty)):=by
    rw [List.getElem?_map,List.getElem?_eq_getElem (by omega)]
    simp [List.getD_eq_getElem?_getD,List.getElem?_eq_getElem (show i<(svcs V).length by omega)]
   rw [←hc4,List.getElem?_take_of_lt (by omega)] at h1
   simpa using h1
  have hst:Lib.strsOf (fun i=>(svcs V).getD i ByteArray.empty) V.length=(svcs V).map (fun s:ByteArray=>s.data.toList):=by
   unfold Lib.strsOf
   apply List.ext_getElem
   ·simp [hn]
   ·intro i h1 h2
    simp only [List.length_map,List.length_range] at h1
    simp [List.getD_eq_getElem?_getD,List.getElem?_eq_getElem (show i<(svcs V).length by omega)]
  have hmx:cap≤9223372036854775807:=by unfold maxLen at hc2;exact hc2
  refine (Any.slices_Compact_string_cells laidC g 0 V.length cap (fun i=>(svcs V).getD i ByteArray.empty) w (by omega) hc1 hcell (fun j _=>free_of_block hh _)).mono ?_
  rintro e w' ⟨rfl,q,rfl⟩
  rw [hst,compact_svc]
  have hsl:(svc V).length≤V.length:=svU_len _ _
  have hvl:(((svc V).map (fun s:ByteArray=>s.data.toList)++List.replicate (V.length-((svc V).map (fun s:ByteArray=>s.data.toList)).length) []).map Go.Proofs.encStr).length=V.length:=by simp;omega
  have hf:Fr (fun b=>(Value.slice (some ⟨g,0,none⟩) V.length cap).ownBlock=some b) w ((w.drewN q).setCells g 0 (((svc V).map (fun s:ByteArray=>s.data.toList)++List.replicate (V.length-((svc V).map (fun s:ByteArray=>s.data.toList)).length) []).map Go.Proofs.encStr)):=by
   have hs:∀ (vs:List Value) (o:Nat) (W:World),Fr (fun b=>(Value.slice (some ⟨g,0,none⟩) V.length cap).ownBlock=some b) W (W.setCells g o vs):=by
    intro vs
    induction vs with
    |nil=>exact fun o W=>Fr.refl _ _
    |cons x vs ih=>exact fun o W=>(Fr.setCell W ⟨g,o,none⟩ x (S:=fun b=>(Value.slice (some ⟨g,0,none⟩) V.length cap).ownBlock=some b) rfl).trans (ih _ _) (fun _ _ h=>h) (fun _ _ h=>h)
   exact (Fr.drewN _ w q).trans (hs _ _ _) (fun _ _ h=>h) (fun _ _ h=>h)
  refine ⟨some ⟨g,0,none⟩,cap,by rw [List.length_map],⟨by simp,by omega,by unfold maxLen;exact hmx,(by simp),fun _=>⟨g,0,rfl,fun i u hu=>?_⟩⟩,fun a ha=>by cases ha;exact ⟨hg,Nat.lt_of_lt_of_le (lt_of_heap hh) hf.size⟩,hf⟩
  have hi:i<(svc V).length:=by
   have:=(List.getElem?_eq_some_iff.1 hu).1
   simpa using this
  rw [World.cell?_setCells_in g _ 0 (w.drewN q) (fun j hj=>by
   rw [hvl] at hj
   show (w.cell? ⟨g,0+j,none⟩).isSome=true
   rw [hcell j hj];rfl) i (by rw [hvl];omega)]
  rw [←hu,List.getElem_map,List.getElem_append_left (by simpa using hi)]
  simp [Go.Proofs.encStr,List.getElem?_eq_getElem hi]
theorem Services (B:Nat) (M:List Nat) (E:Es) (w:World) (H:OV w B M E) (hv:OpsP.Vok (vL E)) (sz:E.length≤1000000):
  Calls prog 31 #[.pointer (some ⟨B,0,none⟩)] w fun e w'=>∃A c,e=.returned (.slice A (svc (vL E)).length c)∧Sl w' 1 A (svc (vL E)).length c (strs (svc (vL E)))∧(∀a,A=some a→w.heap.size≤a.block∧a.block<w'.heap.size)∧Below w.heap.size w w':=by
 obtain ⟨i0,hi,hz0,hz1,hz2⟩:=info_parts infoStr
 have HA:=Lib.hid (All B M E w H hv (fun p hp=>(hv.key (p.1,p.2.v) (List.mem_map.2 ⟨_,hp,rfl⟩)).2.2.2) sz)
 have HLn:Hid ((vL E).length≤1000000):=by rw [vlen];exact sz
 clear H hv
 generalize vL E=V at *
 go_enter func31,ntmps31
 go_wp2_with fail
 refine HA.out.mono ?_
 rintro e w1 ⟨T,A,c,rfl,hT,hO,hb⟩
 have HO:=Lib.hid hO;have HB:=Lib.hid hb;have HT:=Lib.hid hT
 have HTl:Hid (T.length=V.length):=Lib.hid (by have:=congrArg List.length hT;simpa using this)
 clear hO hb hT HA
 go_wp2_with fail
 go_loopg [3,9] T.length (fun gk v i wr=>∃k:Nat,i=.int .i64 k∧k≤T.length∧gk=T.length-k∧wr.ownsRow w1.heap.size TSt 1 v k (strs ((svcs V).take k))∧Below w1.heap.size w1 wr)
 case atStart=>exact ⟨0,rfl,Nat.zero_le _,rfl,World.ownsRow_nil _ _ _ _,Below.refl _ _⟩
 case round=>
  obtain ⟨k,rfl,hk,hg,hown,hbw⟩:=hrel
  have HG:=Lib.hid hg;have HOw:=Lib.hid hown;have HBw:=Lib.hid hbw
  clear hg hown hbw
  by_cases hlt:k<T.length
  ·have HO1:=Lib.hid (HO.out.s.fr (Fr.of_below HBw.out) (fun a ha h=>by have:=(HO.out.a a ha).2;omega))
   obtain ⟨b1,o1,rfl,-,c1'⟩:=HO1.out.at hlt (by omega)
   have HA:Hid (∀j u,(T[k].cs)[j]? =some u→wr.cell? ⟨b1,o1+k*6+j,none⟩=some u):=fun j u hu=>by
    have hj:j<6:=by have:=(List.getElem?_eq_some_iff.1 hu).1;simpa using this
    have h1:=c1' (k*6+j) u (by rw [flat_at Tl.cs_len hlt hj];exact hu)
    rw [←Nat.add_assoc] at h1;exact h1
   have HSv:Hid ((svcs V).take (k+1)=(svcs V).take k++ [T[k].n.1]):=by
    have hks:k<(svcs V).length:=by simp [svcs];have:=HTl.out;omega
    show _=_
    rw [List.take_succ_eq_append_getElem hks]
    congr 2
    have h1:(T.map Tl.v)[k]? =(V.map (·.2))[k]? :=by rw [HT.out]
    rw [List.getElem?_map,List.getElem?_map,List.getElem?_eq_getElem hlt,List.getElem?_eq_getElem (by have:=HTl.out;omega)] at h1
    simp only [Option.map_some,Option.some.injEq] at h1
    simp only [svcs,List.getElem_map]
    rw [←h1]
   have hcap:=HO1.out.2.1
   have hTm:T.length≤1000000:=by have:=HTl.out;have:=HLn.out;omega
   clear c1' HO1
   generalize T[k]=e1 at *
   have q1:(0:Int)≤(k:Int):=by omega
   have q2:decide ((k:Int)<((T.length:Nat):Int))=true:=by simp;omega
   have tc0:wr.cell? ⟨b1,o1+k*6,none⟩=some (.string e1.n.1):=HA.out 0 _ rfl
   have tc1:wr.cell? ⟨b1,o1+k*6+1,none⟩=some (.string e1.n.2):=HA.out 1 _ rfl
   have tc2:wr.cell? ⟨b1,o1+k*6+1+1,none⟩=some (.int .i64 (sumL e1.x.1)):=HA.out 2 _ rfl
   have tc3:wr.cell? ⟨b1,o1+k*6+1+1+1,none⟩=some (.int .i64 e1.x.2.1):=HA.out 3 _ rfl
   have tc4:wr.cell? ⟨b1,o1+k*6+1+1+1+1,none⟩=some (.int .i64 e1.x.2.2):=HA.out 4 _ rfl
   have tc5:wr.cell? ⟨b1,o1+k*6+1+1+1+1+1,none⟩=some (.slice e1.A e1.x.1.length e1.c):=HA.out 5 _ rfl
   go_upto_region 5 with (fail)
   have hfa:=Fr.alloc (fun _=>False) wr (.cells #[.string e1.n.1,.string e1.n.2,.int .i64 (sumL e1.x.1),.int .i64 e1.x.2.1,.int .i64 e1.x.2.2,.slice e1.A e1.x.1.length e1.c] TO)
   have HX:=Lib.hid (Bk.new wr #[.string e1.n.1,.string e1.n.2,.int .i64 (sumL e1.x.1),.int .i64 e1.x.2.1,.int .i64 e1.x.2.2,.slice e1.A e1.x.1.length e1.c] TO)
   have HOw2:=Lib.hid (ownsRow_fr HOw.out hfa (fun _ _ h=>h));have HBw2:=Lib.hid (HBw.out.trans (hfa.below HBw.out.size (fun _ _ h=>h)))
   clear hfa HA HOw HBw tc0 tc1 tc2 tc3 tc4 tc5
   generalize wr.alloc (.cells #[.string e1.n.1,.string e1.n.2,.int .i64 (sumL e1.x.1),.int .i64 e1.x.2.1,.int .i64 e1.x.2.2,.slice e1.A e1.x.1.length e1.c] TO)=w4 at *
   generalize wr.heap.size=Bz at *
   have xc0:w4.cell? ⟨Bz,0,none⟩=some (.string e1.n.1):=HX.out.cell 0
   have hown':=HOw2.out.alloc (.cells #[.string e1.n.1] TSt)
   have hszw:=HBw2.out.size
   go_wp2_with (at_builtin;refine wpList_append_own _ rfl (.tmp 13) (.tmp 16) TStrs rfl w1.heap.size TSt i0 (.string ByteArray.empty) 1 16 underlying60 hi hz0 hz1 hz2 rfl (by decide) _ _ _ rfl hown' ⟨w4.heap.size,0,none⟩ 1 1 [.string e1.n.1] rfl rfl (new_cells w4 TSt [.string e1.n.1]) (by simp [Value.oneCell']) (by unfold maxLen;omega) (by omega) (by simp;omega) ?_)
   intro v1 w5 hown1 hgrow1 _
   have hf5:Below w1.heap.size w4 w5:=by
    have h1:=(Fr.alloc (fun _=>False) w4 (.cells #[.string e1.n.1] TSt)).trans (Fr.grown hgrow1 (S:=fun b=>w1.heap.size≤b) (fun b h=>(ownsRow_blk HOw2.out b h).1)) (T:=fun b=>w1.heap.size≤b) (fun _ _ h=>h.elim) (fun _ _ h=>h)
    exact h1.below hszw (fun i hi h=>by omega)
   have HOw5:Hid (w5.ownsRow w1.heap.size TSt 1 v1 (k+1) (strs ((svcs V).take (k+1)))):=by
    show World.ownsRow _ _ _ _ _ _ _
    rw [HSv.out];simpa [strs] using hown1
   have HBw5:=Lib.hid (HBw2.out.trans hf5)
   clear hown1 hgrow1 hown' hf5 HOw2 HBw2 HX xc0
   go_wp2_with fail
   go_roundg (T.length-(k+1))
   case rel=>exact ⟨k+1,by go_num,by omega,rfl,HOw5.out,HBw5.out⟩
   case measure=>have:=HG.out;omega
  ·obtain rfl:k=T.length:=by omega
   have q2:decide (((T.length:Nat):Int)<((T.length:Nat):Int))=false:=by simp
   have hown:=HOw.out
   rw [List.take_of_length_le (by simp [svcs,HTl.out]),HTl.out] at hown
   have HC:=Lib.hid (Compact_own V wr hown)
   have HOb:=Lib.hid (ownsRow_blk hown)
   clear hown HOw
   go_wp2_with fail
   refine HC.out.mono ?_
   rintro e w2 ⟨A2,c2,rfl,hs,ha,hf⟩
   have HS:=Lib.hid hs;have HA2:=Lib.hid ha
   have HF:=Lib.hid (HBw.out.trans (hf.below HBw.out.size (fun i hi h=>by have:=(HOb.out i h).1;omega)))
   clear hs ha hf HC HOb HBw
   go_wp2_with fail
   go_ret
   exact ⟨A2,c2,rfl,HS.out,fun a ha=>⟨Nat.le_trans HB.out.size (HA2.out a ha).1,(HA2.out a ha).2⟩,HB.out.trans (HF.out.mono HB.out.size)⟩
theorem ok_nm {L:List Sn} (h:PackP.Ok L):∀x∈L,nmN x:=fun x hx=>may_nm (h.may x hx)
theorem spn_okL (L:List Sn):PackP.Ok (spn L):=(setOf_ok L).filter _
theorem rc_nz {L:List Sn} (h:∀x∈L,nmN x):∀r∈L.map rc,nzN r.1:=fun r hr=>by obtain ⟨x,hx,rfl⟩:=List.mem_map.1 hr;exact (h x hx).2
theorem not_small {w:World} {A:Option Addr} {c:Nat} {L:List Sn} (hL:Ls w A c L) {B:Nat} {cs:Array Value} {T:TypeId} (hB:Bk w B cs T) (hs:cs.size<9):∀a,A=some a→L≠ []→a.block≠B:=fun a ha hne e=>by
 have h0:0<L.length:=List.length_pos_iff.2 hne
 obtain ⟨b,o,rfl,-,hc⟩:=hL.s.at h0 (by omega)
 cases ha
 dsimp only at e
 subst e
 have h1:=hc (0*9+8) _ ((flat_at (f:=scs) (fun _=>rfl) h0 (by omega)).trans rfl)
 rw [show World.cell? w ⟨b,o+(0*9+8),none⟩=cs[o+(0*9+8)]? from hB.cell _] at h1
 have:=(Array.getElem?_eq_some_iff.1 h1).1
 omega
theorem Of (A:Option Addr) (c:Nat) (L:List Sn) (w:World) (hS:Ls w A c L) (hlen:L.length≤1000):
  Calls prog 39 #[.slice A L.length c] w (AllPost (ofV ((spn L).map rc)) w):=by
 have f1:=Fr.alloc (fun _=>False) w (.cells #[.pointer none,.int .i64 0] TV)
 have HSet:=Lib.hid (SetF.Set A c L _ (hS.keep f1) (by omega))
 have HV:=Lib.hid (OV.new w)
 have HBk:=Lib.hid (Bk.new w #[.pointer none,.int .i64 0] TV)
 have HB:=Lib.hid (f1.below (Nat.le_refl _) (fun _ _ h=>h))
 have hml:=Nat.le_trans (setOf_len L) hlen
 have hyl:(alive (setOf L)).length≤1000:=Nat.le_trans (alive_len _) hml
 have HNm:=Lib.hid (ok_nm (spn_okL L))
 have hsp:spn L=alive (setOf L):=rfl
 rw [hsp] at HNm ⊢
 obtain ⟨Y,hY⟩:∃Y,alive (setOf L)=Y:=⟨_,rfl⟩
 rw [hY] at hyl HNm ⊢
 generalize setOf L=M at *
 have HY:=Lib.hid hY
 clear hS hY f1 hsp
 go_enter func39,ntmps39
 go_wp2_with fail
 generalize w.alloc (.cells #[.pointer none,.int .i64 0] TV)=w1 at *
 refine HSet.out.mono ?_
 rintro e w2 ⟨A2,c2,rfl,hls,hown,hb⟩
 have fb:=Fr.of_below' hb (fun _=>False)
 have HV2:=Lib.hid (HV.out.fr fb (fun _ _ h=>h));have HBk2:=Lib.hid (HBk.out.fr fb (fun _ _ h=>h))
 have HB2:=Lib.hid (HB.out.trans (hb.mono HB.out.size))
 have HA:=Lib.hid (Alive ⟨none,0,[],A2,c2,M⟩ w2 ⟨Ls.nil w2,hls⟩ (by simp) (by show M.length≤_;omega) [] Y rfl HY.out)
 have kb:∀W:World,(Instr.build TDl #[(1,.slice A2 M.length c2)]).run prog W=.ok (.agg #[.slice none 0 0,.slice A2 M.length c2]) W:=fun W=>by kernel_rfl
 clear hls hown hb HSet HV HB HBk fb
 go_wp2_with fail
 refine HA.out.mono ?_
 rintro e w3 ⟨A3,c3,A4,c4,rfl,h3,h4,hb⟩
 have fb:=Fr.of_below' hb (fun _=>False)
 have H4:=Lib.hid h4;have HB3:=Lib.hid (HB2.out.trans (hb.mono HB2.out.size))
 have HV3:=Lib.hid (HV2.out.fr fb (fun _ _ h=>h));have HBk3:=Lib.hid (HBk2.out.fr fb (fun _ _ h=>h))
 have kf:∀W:World,(Instr.field TDl (.agg #[.slice A3 0 c3,.slice A4 Y.length c4]) 1).run prog W=.ok (.slice A4 Y.length c4) W:=fun W=>by kernel_rfl
 have HAp:Hid (∀a,A4=some a→Y≠ []→a.block∉fl w.heap.size [] []):=fun a ha hne hm=>by
  have:=not_small H4.out HBk3.out (by simp) a ha hne
  simp [fl] at hm;omega
 have HRz:=Lib.hid (rc_nz HNm.out)
 clear h3 h4 hb HA kb HV2 HB2 HBk2 HBk3 fb
 go_wp2_with fail
 go_loopg [12] Y.length (fun gk i wr=>∃ (j:Nat) (M3:List Nat) (E3:Es),i=.int .i64 j∧j≤Y.length∧gk=Y.length-j∧OT w3 (fl w.heap.size [] []) wr w.heap.size M3 E3∧vL E3=((Y.map rc).take j).foldl addV [])
 case atStart=>exact ⟨0,[],[],rfl,Nat.zero_le _,rfl,HV3.out.ot,by simp⟩
 case round=>
  obtain ⟨j,M3,E3,rfl,hj,hg,ht,hve⟩:=hrel
  have HG3:=Lib.hid hg;have HT3:=Lib.hid ht;have HVe:=Lib.hid hve
  have HVk:Hid (OpsP.Vok (vL E3)):=by show OpsP.Vok _;rw [hve];exact OpsP.Vok.nil.adds (fun r hr=>HRz.out r (List.mem_of_mem_take hr))
  have hl3:E3.length≤100000:=by
   have h1:=congrArg List.length hve
   have h2:=adds_len ((Y.map rc).take j) []
   rw [vlen] at h1
   simp only [List.length_take,List.length_map,List.length_nil] at h1 h2
   omega
  clear hg ht hve
  by_cases hlt3:j<Y.length
  ·have hne:Y≠ []:=fun e=>by rw [e] at hlt3;simp at hlt3
   have HS1:=Lib.hid (H4.out.fr HT3.out.t.fr (fun a ha=>HAp.out a ha hne))
   obtain ⟨b3,o3,rfl,hb3,c3'⟩:=HS1.out.s.at hlt3 (by omega)
   have HA:=Lib.hid (At.row c3' hlt3)
   have HNz:=Lib.hid (HNm.out _ (List.getElem_mem hlt3))
   have HTk:Hid (((Y.map rc).take (j+1)).foldl addV []=addV (vL E3) (rc Y[j])):=by
    have h2:j<(Y.map rc).length:=by simpa using hlt3
    show _=_
    rw [foldl_take h2,HVe.out];simp
   have hcap:=HS1.out.s.2.1
   clear c3' hb3 HS1
   generalize Y[j]=z at *
   have q1:(0:Int)≤(j:Int):=by omega
   have q2:decide ((j:Int)<((Y.length:Nat):Int))=true:=by simp;omega
   obtain ⟨zc0,zc1,zc2,zc3,zc4,zc5,zc6,zc7,zc8⟩:=SetW.at9 HA.out
   go_upto_region 5 with (fail)
   have hfa:=Fr.alloc (fun _=>False) wr (.cells z.arr TSn)
   have HX:=Lib.hid (Bk.new wr z.arr TSn)
   have HT5:=Lib.hid (HT3.out.fr hfa)
   clear hfa HA HT3 zc0 zc1 zc2 zc3 zc4 zc5 zc6 zc7 zc8
   generalize (wr.alloc (.cells z.arr TSn))=w14 at *
   generalize wr.heap.size=Bz at *
   have zc0:w14.cell? ⟨Bz,0,none⟩=some (.int .i64 z.t):=HX.out.cell 0
   have zc1:w14.cell? ⟨Bz,1,none⟩=some (.int .i64 z.i):=HX.out.cell 1
   have zc2:w14.cell? ⟨Bz,2,none⟩=some (.int .i64 z.p):=HX.out.cell 2
   have zc3:w14.cell? ⟨Bz,3,none⟩=some (.int .i64 z.r):=HX.out.cell 3
   have zc4:w14.cell? ⟨Bz,4,none⟩=some (.string z.s):=HX.out.cell 4
   have zc5:w14.cell? ⟨Bz,5,none⟩=some (.string z.o):=HX.out.cell 5
   have zc6:w14.cell? ⟨Bz,6,none⟩=some (.int .i64 z.b):=HX.out.cell 6
   have zc7:w14.cell? ⟨Bz,7,none⟩=some (.int .i64 z.d):=HX.out.cell 7
   have zc8:w14.cell? ⟨Bz,8,none⟩=some (.bool z.g):=HX.out.cell 8
   go_wp2_with fail
   refine (add w.heap.size M3 E3 z w14 HT5.out.v HVk.out HNz.out (by omega)).mono ?_
   rintro e w15 ⟨rfl,M5,E5,hv5,hve5,hl5,ht5⟩
   have HT6:=Lib.hid (⟨hv5,HT5.out.t.trans ht5⟩:OT w3 (fl w.heap.size [] []) w15 w.heap.size M5 E5)
   have HVe5:Hid (vL E5=((Y.map rc).take (j+1)).foldl addV []):=by show _=_;rw [HTk.out];exact hve5
   clear hv5 hve5 hl5 ht5 HX HT5 HTk zc0 zc1 zc2 zc3 zc4 zc5 zc6 zc7 zc8
   go_wp2_with fail
   go_roundg (Y.length-(j+1))
   case rel=>exact ⟨j+1,M5,E5,by go_num,by omega,rfl,HT6.out,HVe5.out⟩
   case measure=>have:=HG3.out;omega
  ·obtain rfl:j=Y.length:=by omega
   have q2:decide (((Y.length:Nat):Int)<((Y.length:Nat):Int))=false:=by simp
   have hve:=HVe.out
   rw [List.take_of_length_le (by simp)] at hve
   have HAl:=Lib.hid (All w.heap.size M3 E3 wr HT3.out.v HVk.out (fun p hp=>(HVk.out.key (p.1,p.2.v) (List.mem_map.2 ⟨_,hp,rfl⟩)).2.2.2) (by omega))
   rw [hve] at HAl
   have HBw:=Lib.hid (HB3.out.trans (HT3.out.t.fr.below HB3.out.size (fun i hi h=>by simp [fl] at h;omega)))
   clear HVe HT3 hve
   go_wp2_with fail
   refine HAl.out.mono ?_
   rintro e w6 ⟨T,A6,c6,rfl,hT,hO,hb6⟩
   have HO:=Lib.hid hO;have HB6:=Lib.hid (HBw.out.trans (hb6.mono HBw.out.size));have HT:=Lib.hid hT
   clear hO hb6 hT HAl
   go_wp2_with fail
   go_ret
   exact ⟨T,A6,c6,rfl,HT.out,⟨HO.out.s,HO.out.b,fun a ha=>⟨Nat.le_trans HBw.out.size (HO.out.a a ha).1,(HO.out.a a ha).2⟩,fun e he a ha=>⟨Nat.le_trans HBw.out.size (HO.out.g e he a ha).1,(HO.out.g e he a ha).2⟩⟩,HB6.out⟩
end Ops
end Go.Proofs.YtdpngmgaomghoaaGreat
