/- Layer 26's statements: OpsSums: for every input the answer is true. -/
import Derived.Test.YtdpngmgaomghoaaGreatL26
namespace Go.Proofs.YtdpngmgaomghoaaGreat
open Tryz
set_option maxRecDepth 100000
set_option maxHeartbeats 4000000
open Go.RowKit
namespace Law26
open BagP HistP OpsP KeyP PackP SetP SetW SetF Sli Name Pack Delta ClsW
open Rf26 (bl_eq)
open Ops (OV vL fl Es applyR mays rc nmN Tl AllPost OL strs opc opZ TO TOs TSt TStrs)
attribute [local go_sem] Eng.ev Eng.getO_cons Eng.getO_nil
theorem few_len {L:List Sn} {n:Nat} (h:fewB L n=true):L.length≤n:=by unfold fewB at h;simp at h;exact h.2
def totT (T:List Tl):Int:=(T.map (fun e=>sumL e.x.1)).sum
theorem totT_snoc (T:List Tl) (e:Tl):totT (T++ [e])=totT T+sumL e.x.1:=by simp [totT]
theorem totT_take {T:List Tl} {k:Nat} (h:k<T.length):totT (T.take (k+1))=totT (T.take k)+sumL T[k].x.1:=by
 rw [List.take_succ_eq_append_getElem h,totT_snoc]
theorem totT_nonneg:∀ {T:List Tl},(∀e∈T,0≤sumL e.x.1)→0≤totT T
 | [],_=>by simp [totT]
 |e::T,h=>by
  have:=totT_nonneg (T:=T) (fun x hx=>h x (by simp [hx]));have:=h e (by simp)
  simp only [totT,List.map_cons,List.sum_cons] at *;omega
theorem totT_app (A B:List Tl):totT (A++B)=totT A+totT B:=by simp [totT]
theorem totT_le {T:List Tl} (h:∀e∈T,0≤sumL e.x.1) (k:Nat):0≤totT (T.take k)∧totT (T.take k)≤totT T:=by
 have h1:=totT_nonneg (T:=T.take k) (fun e he=>h e (List.mem_of_mem_take he))
 have h2:=totT_nonneg (T:=T.drop k) (fun e he=>h e (List.mem_of_mem_drop he))
 have h3:totT T=totT (T.take k)+totT (T.drop k):=by rw [←totT_app,List.take_append_drop]
 omega
theorem sum_le {X:List (Int × Int)} (h:Pos X) (k:Nat):0≤sumL (X.take k)∧sumL (X.take k)≤sumL X:=by
 have h1:=((show Pos (X.take k) from fun p hp=>h p (List.mem_of_mem_take hp)).cnt 0).2.2
 have h2:=((show Pos (X.drop k) from fun p hp=>h p (List.mem_of_mem_drop hp)).cnt 0).2.2
 have h3:sumL X=sumL (X.take k)+sumL (X.drop k):=by rw [←sumL_append,List.take_append_drop]
 omega
theorem sum_take {X:List (Int × Int)} {k:Nat} (h:k<X.length):sumL (X.take (k+1))=sumL (X.take k)+X[k].2:=by
 rw [List.take_succ_eq_append_getElem h,sumL_append];simp [sumL]
theorem totT_V {T:List Tl} {V:Vw} (h:T.map Tl.v=V.map (·.2)):totT T=tot V:=by
 have e1:totT T=((T.map Tl.v).map (fun p=>sumL p.2.1)).sum:=by unfold totT;rw [List.map_map];rfl
 rw [e1,h];unfold tot;rw [List.map_map];rfl
structure Told (V:Vw) (T:List Tl):Prop where
 ok:∀e∈T,Ok e.x.1∧1≤sumL e.x.1∧e.x.1.length≤64
 o:∀ (j:Nat) (h:j+1<T.length),ltN T[j].n T[j+1].n=true
theorem told {T:List Tl} {V:Vw} (h:T.map Tl.v=V.map (·.2)) (hv:OpsP.Vok V):Told V T:=by
 have hl:T.length=V.length:=by have:=congrArg List.length h;simpa using this
 have hg:∀ (j:Nat) (h1:j<T.length) (h2:j<V.length),T[j].v=V[j].2:=fun j h1 h2=>by
  have h3:(T.map Tl.v)[j]? =(V.map (·.2))[j]? :=by rw [h]
  rw [List.getElem?_map,List.getElem?_map,List.getElem?_eq_getElem h1,List.getElem?_eq_getElem h2] at h3
  simpa using h3
 refine ⟨fun e he=>?_,fun j hj=>?_⟩
 ·have hm:e.v∈V.map (·.2):=by rw [←h];exact List.mem_map.2 ⟨e,he,rfl⟩
  obtain ⟨p,hp,hpe⟩:=List.mem_map.1 hm
  obtain ⟨w1,w2⟩:=hv.wf p hp
  have hx:e.x=p.2.2:=(congrArg Prod.snd hpe).symm
  rw [hx]
  have:=(w1.ok.pos.cnt 0).2.2
  exact ⟨w1.ok,by omega,w1.len⟩
 ·have a1:=hg j (by omega) (by omega);have a2:=hg (j+1) hj (by omega)
  have hs:=List.pairwise_iff_getElem.1 hv.srt j (j+1) (by omega) (by omega) (by omega)
  have k1:=hv.key V[j] (List.getElem_mem _);have k2:=hv.key V[j+1] (List.getElem_mem _)
  rw [k1.1,k2.1,lt_key k1.2 k2.2,←a1,←a2] at hs
  exact hs
theorem opsSums (A:Option Addr) (c:Nat) (L:List Sn) (w:World) (hS:Ls w A c L):
  Calls prog 5 #[.slice A L.length c] w fun e w'=>e=.returned (.bool true)∧Below w.heap.size w w':=by
 have HFew:=Lib.hid (Few A c 20 L w hS.s)
 have HS:=Lib.hid hS
 clear hS
 go_enter func5,ntmps5
 go_wp2_with fail
 refine HFew.out.mono ?_
 rintro e w1 ⟨rfl,hf⟩
 have HS1:=Lib.hid (HS.out.keep hf);have HB1:=Lib.hid (hf.below (Nat.le_refl _) (fun _ _ h=>h))
 clear hf HS HFew
 cases hfew:fewB L 20 with
 |false=>
  go_wp2_with fail
  refine (awake w1).mono ?_
  rintro e w2 ⟨rfl,hb⟩
  have HB2:=Lib.hid (HB1.out.trans (hb.mono HB1.out.size))
  clear hb
  go_wp2_with fail
  go_ret
  exact ⟨rfl,HB2.out⟩
 |true=>
  have hLl:=few_len hfew
  have HOf:=Lib.hid (Ops.Of A c L w1 HS1.out (by omega))
  have hrz:=Ops.rc_nz (Ops.ok_nm (Ops.spn_okL L))
  have hpl:(spn L).length≤20:=Nat.le_trans (Nat.le_trans (alive_len _) (setOf_len L)) hLl
  have HTt:=Lib.hid (tot_of hrz (by rw [List.length_map];omega))
  have HVk:Hid (OpsP.Vok (ofV ((spn L).map rc))):=Lib.hid (OpsP.Vok.nil.adds hrz)
  rw [List.length_map] at HTt
  clear hfew hrz
  generalize ofV ((spn L).map rc)=V at *
  go_wp2_with fail
  refine HOf.out.mono ?_
  rintro e w2 ⟨T,A2,c2,rfl,hT,hO,hb⟩
  have HS2:=Lib.hid (HS1.out.keep (Fr.of_below' hb (fun _=>False)));have HB2:=Lib.hid (HB1.out.trans (hb.mono HB1.out.size))
  have HO:=Lib.hid hO
  have HTd:=Lib.hid (told hT HVk.out)
  have HTot:Hid (totT T=((spn L).length:Int)):=Lib.hid ((totT_V hT).trans HTt.out)
  have hTl:T.length≤20:=by
   have h1:(T.length:Int)≤totT T:=by
    have:∀ (U:List Tl),(∀e∈U,1≤sumL e.x.1)→(U.length:Int)≤totT U:=by
     intro U
     induction U with
     |nil=>intro _;simp [totT]
     |cons e U ih=>intro h;have:=ih (fun x hx=>h x (by simp [hx]));have:=h e (by simp);simp only [totT,List.map_cons,List.sum_cons,List.length_cons] at *;omega
    exact this T (fun e he=>(HTd.out.ok e he).2.1)
   have:=HTot.out;omega
  have HNn:Hid (∀e∈T,0≤sumL e.x.1):=fun e he=>by have:=(HTd.out.ok e he).2.1;omega
  clear hT hO hb HOf HTt HVk HS1 HB1
  have HRs:=Lib.hid (fun W (h:Fr (fun _=>False) w2 W)=>RefSpans A c L W (HS2.out.keep h) (by omega))
  go_wp2_with fail
  go_loopg [4,5] T.length (fun gk s i wr=>∃k:Nat,i=.int .i64 k∧k≤T.length∧gk=T.length-k∧s=.int .i64 (totT (T.take k))∧Fr (fun _=>False) w2 wr)
  case atStart=>exact ⟨0,rfl,Nat.zero_le _,rfl,rfl,Fr.refl _ _⟩
  case round=>
   obtain ⟨k,rfl,hk,hg,rfl,hf⟩:=hrel
   have HG:=Lib.hid hg;have HF:=Lib.hid hf
   clear hg hf
   obtain ⟨wo,hwo⟩:∃wo,wo=wr:=⟨_,rfl⟩
   subst hwo
   have hsb:=totT_le HNn.out k
   by_cases hlt:k<T.length
   ·obtain ⟨b1,o1,rfl,hb1,hc1⟩:=HO.out.s.at hlt (by omega)
    have HC:Hid (∀ (W:World),Fr (fun _=>False) w2 W→∀ (m:Nat) (hm:m<T.length) (j:Nat) (u:Value),(T[m].cs)[j]? =some u→W.cell? ⟨b1,o1+m*6+j,none⟩=some u):=fun W hW m hm j u hu=>by
     have hj:j<6:=by have:=(List.getElem?_eq_some_iff.1 hu).1;simpa using this
     have h1:=hc1 (m*6+j) u (by rw [flat_at Tl.cs_len hm hj];exact hu)
     rw [←Nat.add_assoc] at h1;exact Rf26.cellK h1 hW
    have HOk:=Lib.hid (HTd.out.ok _ (List.getElem_mem hlt))
    have HBk:=Lib.hid (HO.out.b _ (List.getElem_mem hlt))
    have HTk:=Lib.hid (totT_take hlt)
    have hsb2:=totT_le HNn.out (k+1)
    have hcap:=HO.out.s.2.1
    have q1:(0:Int)≤(k:Int):=by omega
    have q2:decide ((k:Int)<((T.length:Nat):Int))=true:=by simp;omega
    have q3:(k:Int)<((T.length:Nat):Int):=by omega
    have tc2:wo.cell? ⟨b1,o1+k*6+1+1,none⟩=some (.int .i64 (sumL T[k].x.1)):=HC.out wo HF.out k hlt 2 _ rfl
    have tc5:wo.cell? ⟨b1,o1+k*6+1+1+1+1+1,none⟩=some (.slice T[k].A T[k].x.1.length T[k].c):=HC.out wo HF.out k hlt 5 _ rfl
    clear hc1
    have hsm:0≤sumL T[k].x.1:=by have:=HOk.out.2.1;omega
    have HWr:Hid (wrap64 (totT (T.take k)+sumL T[k].x.1)=totT (T.take (k+1))):=by
     show _=_
     have:=HTot.out;have:=HTk.out
     unfold wrap64;omega
    go_upto_region 9 with (fail)
    rw [HWr.out]
    clear HTk
    have hX:=HOk.out
    obtain ⟨hXo,hX1,hX64⟩:=hX
    have HPos:=Lib.hid hXo.pos
    have hXm:sumL T[k].x.1≤4611686018427387904:=hXo.most
    obtain ⟨X,hXe⟩:∃X,T[k].x.1=X:=⟨_,rfl⟩
    have HXe:=Lib.hid hXe
    rw [hXe] at tc2 tc5 HBk HPos hX1 hXm hX64 hsm
    clear hXe hXo HOk
    generalize T[k].A=Ax at *
    generalize T[k].c=cx at *
    go_upto_region 10 with (fail)
    go_wp2_with fail
    go_loopg [6,7] X.length (fun gk s i wr'=>wr'=wo∧∃j:Nat,i=.int .i64 j∧j≤X.length∧gk=X.length-j∧s=.int .i64 (sumL (X.take j)))
    case atStart=>exact ⟨rfl,0,rfl,Nat.zero_le _,rfl,rfl⟩
    case round=>
     obtain ⟨hwr,j,rfl,hj,hg2,rfl⟩:=hrel
     subst hwr
     have HG2:=Lib.hid hg2
     clear hg2
     by_cases hlt2:j<X.length
     ·have HBr:=Lib.hid (HBk.out.fr HF.out (fun _ _ h=>h))
      obtain ⟨b3,o3,rfl,-,c3⟩:=HBr.out.at hlt2 (by omega)
      have d2:wr.cell? ⟨b3,o3+j*2+1,none⟩=some (.int .i64 X[j].2):=c3 (j*2+1) _ (by rw [flat_at Bag.pc_len hlt2 (by omega)];rfl)
      have HSj:=Lib.hid (sum_take hlt2)
      have hs1:=sum_le HPos.out j;have hs2:=sum_le HPos.out (j+1)
      have HWj:Hid (wrap64 (sumL (X.take j)+X[j].2)=sumL (X.take (j+1))):=by
       show _=_
       have:=HSj.out
       unfold wrap64;omega
      have q4:decide ((j:Int)<((X.length:Nat):Int))=true:=by simp;omega
      have q5:(j:Int)<((X.length:Nat):Int):=by omega
      have q6:(0:Int)≤(j:Int):=by omega
      clear c3
      generalize X[j].2=y at *
      go_wp2_with fail
      go_roundg (X.length-(j+1))
      case rel=>exact ⟨rfl,j+1,by go_num,by omega,rfl,by rw [HWj.out]⟩
      case measure=>have:=HG2.out;omega
     ·obtain rfl:j=X.length:=by omega
      rw [List.take_length]
      have q4:decide (((X.length:Nat):Int)<((X.length:Nat):Int))=false:=by simp
      have t1:(sumL X != sumL X)=false:=by simp
      have t2:decide (sumL X<1)=false:=by simp;omega
      have tc0:wr.cell? ⟨b1,o1+k*6,none⟩=some (.string T[k].n.1):=HC.out wr HF.out k hlt 0 _ rfl
      have tc1:wr.cell? ⟨b1,o1+k*6+1,none⟩=some (.string T[k].n.2):=HC.out wr HF.out k hlt 1 _ rfl
      clear HG2
      by_cases h0:k=0
      ·have e0:decide ((k:Int)>0)=false:=by subst h0;rfl
       have e0':decide ((0:Int)<(k:Int))=false:=by subst h0;rfl
       have e0'':decide (0<k)=false:=by subst h0;rfl
       clear h0
       go_upto_region 14 with (fail)
       go_quiet (fail)
       have HF9:=Lib.hid (HF.out.trans (Fr.drewN (fun _=>False) wr nq) (fun _ _ h=>h) (fun _ _ h=>h) (T:=fun _=>False))
       generalize wr.drewN nq=w9 at *
       go_wp2_with fail
       go_roundg (T.length-(k+1))
       case rel=>exact ⟨k+1,by go_num,by omega,rfl,rfl,HF9.out⟩
       case measure=>have:=HG.out;omega
      ·obtain ⟨m,hm⟩:∃m,m+1=k:=⟨k-1,by omega⟩
       have hmT:m<T.length:=by omega
       have jc0:wr.cell? ⟨b1,o1+m*6,none⟩=some (.string T[m].n.1):=HC.out wr HF.out m hmT 0 _ rfl
       have jc1:wr.cell? ⟨b1,o1+m*6+1,none⟩=some (.string T[m].n.2):=HC.out wr HF.out m hmT 1 _ rfl
       have hord:ltN T[m].n T[k].n=true:=by subst hm;exact HTd.out.o m hlt
       have e0:decide ((k:Int)>0)=true:=by simp;omega
       have e0':decide ((0:Int)<(k:Int))=true:=by simp;omega
       have e0'':decide (0<k)=true:=by simp;omega
       have r5:(0:Int)≤(k:Int)-1:=by omega
       have r6:(k:Int)-1<((T.length:Nat):Int):=by omega
       have r7:(k:Int)-1=(m:Int):=by omega
       have s1:=bl_eq T[m].n.1 T[k].n.1
       have s2:=bl_eq T[m].n.2 T[k].n.2
       have HNq:Hid (T[m].n.1=T[k].n.1→T[m].n.1.toList=T[k].n.1.toList):=fun h=>by rw [h]
       clear h0 hm
       generalize T[m].n=pn at *
       generalize T[k].n=cn at *
       clear HC
       obtain ⟨p1,p2⟩:=pn
       obtain ⟨n1,n2⟩:=cn
       dsimp only at jc0 jc1 tc0 tc1 hord s1 s2 HNq
       cases l1:Op.bytesLess p1.toList n1.toList with
       |true=>
        have l1':Op.bytesLess n1.toList p1.toList=false:=Ord.asymm (show Ord.lt p1 n1=true from l1)
        have hne:¬p1=n1:=fun e=>by subst e;rw [Bl.irr] at l1;cases l1
        rw [decide_eq_false hne] at s1
        clear hne hord s2 HNq
        go_upto_region 14 with (fail)
        go_quiet (fail)
        have HF9:=Lib.hid (HF.out.trans (Fr.drewN (fun _=>False) wr nq) (fun _ _ h=>h) (fun _ _ h=>h) (T:=fun _=>False))
        generalize wr.drewN nq=w9 at *
        go_wp2_with fail
        go_roundg (T.length-(k+1))
        case rel=>exact ⟨k+1,by go_num,by omega,rfl,rfl,HF9.out⟩
        case measure=>have:=HG.out;omega
       |false=>
        have hor:p1=n1∧Op.bytesLess p2.toList n2.toList=true:=by
         unfold ltN at hord
         have h1:Ord.lt p1 n1=false:=l1
         rw [h1] at hord
         simp only [Bool.false_or,Bool.and_eq_true,decide_eq_true_eq] at hord
         exact hord
        obtain ⟨hpe,l2⟩:=hor
        have l2':Op.bytesLess n2.toList p2.toList=false:=Ord.asymm (show Ord.lt p2 n2=true from l2)
        have l1':Op.bytesLess n1.toList p1.toList=false:=by rw [hpe];exact Bl.irr _
        have hne:¬p2=n2:=fun e=>by subst e;rw [Bl.irr] at l2;cases l2
        rw [decide_eq_true hpe] at s1
        rw [decide_eq_false hne] at s2
        clear hne hord hpe HNq
        go_upto_region 14 with (fail)
        go_quiet (fail)
        have HF9:=Lib.hid (HF.out.trans (Fr.drewN (fun _=>False) wr nq) (fun _ _ h=>h) (fun _ _ h=>h) (T:=fun _=>False))
        generalize wr.drewN nq=w9 at *
        go_wp2_with fail
        go_roundg (T.length-(k+1))
        case rel=>exact ⟨k+1,by go_num,by omega,rfl,rfl,HF9.out⟩
        case measure=>have:=HG.out;omega
   ·obtain rfl:k=T.length:=by omega
    rw [List.take_length]
    have q2:decide (((T.length:Nat):Int)<((T.length:Nat):Int))=false:=by simp
    have HBr:=Lib.hid (HB2.out.trans (HF.out.below HB2.out.size (fun _ _ h=>h)))
    have HR:=Lib.hid (HRs.out wo HF.out)
    have t9:(totT T==((spn L).length:Int))=true:=by rw [HTot.out];simp
    clear HTot hsb HRs HF
    go_wp2_with fail
    refine HR.out.mono ?_
    rintro e w5 ⟨A5,c5,rfl,-,-,hb⟩
    have HB5:=Lib.hid (HBr.out.trans (hb.mono HBr.out.size))
    clear hb HR
    go_wp2_with fail
    refine (awake w5).mono ?_
    rintro e w6 ⟨rfl,hb⟩
    have HB6:=Lib.hid (HB5.out.trans (hb.mono HB5.out.size))
    clear hb
    go_wp2_with fail
    go_ret
    exact ⟨rfl,HB6.out⟩
end Law26
end Go.Proofs.YtdpngmgaomghoaaGreat
