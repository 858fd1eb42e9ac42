/- Views of entries: may, Apply: the walks. -/
import Derived.Test.YtdpngmgaomghoaaGreatDoorEntW
import Derived.Test.YtdpngmgaomghoaaGreatDoorDeltas
namespace Go.Proofs.YtdpngmgaomghoaaGreatDoor
open Tryz
set_option maxRecDepth 100000
set_option maxHeartbeats 4000000
open Go.RowKit
namespace Ent
open BagP KeyP EntP OpsP PackP SetP SetW SetF Sli Name Pack Delta
attribute [local go_sem] Eng.ev Eng.getO_cons Eng.getO_nil
def mays (L:List Sn):Bool:= !(L.any (fun x=>mayN x != 0))
theorem may1 (x:Sn) (w:World) (hx:x.ok):Calls prog 40 #[x.v] w fun e w'=>e=.returned (.bool (mayN x != 0))∧Fr (fun _=>False) w w':=by
 have hf:=Fr.alloc (fun _=>False) w (.cells x.arr TSn)
 have HX:=Lib.hid (At.box (Bk.new w x.arr TSn))
 have HM:=Lib.hid (May_ x hx (w.alloc (.cells x.arr TSn)))
 generalize mayN x=m at *
 have HF:=Lib.hid hf
 clear hf
 have xc0:(w.alloc (.cells x.arr TSn)).cell? ⟨w.heap.size,0,none⟩=some (.int .i64 x.t):=HX.out 0 _ rfl
 have xc1:(w.alloc (.cells x.arr TSn)).cell? ⟨w.heap.size,1,none⟩=some (.int .i64 x.i):=HX.out 1 _ rfl
 have xc2:(w.alloc (.cells x.arr TSn)).cell? ⟨w.heap.size,2,none⟩=some (.int .i64 x.p):=HX.out 2 _ rfl
 have xc3:(w.alloc (.cells x.arr TSn)).cell? ⟨w.heap.size,3,none⟩=some (.int .i64 x.r):=HX.out 3 _ rfl
 have xc4:(w.alloc (.cells x.arr TSn)).cell? ⟨w.heap.size,4,none⟩=some (.string x.s):=HX.out 4 _ rfl
 have xc5:(w.alloc (.cells x.arr TSn)).cell? ⟨w.heap.size,5,none⟩=some (.string x.o):=HX.out 5 _ rfl
 have xc6:(w.alloc (.cells x.arr TSn)).cell? ⟨w.heap.size,6,none⟩=some (.int .i64 x.b):=HX.out 6 _ rfl
 have xc7:(w.alloc (.cells x.arr TSn)).cell? ⟨w.heap.size,7,none⟩=some (.int .i64 x.d):=HX.out 7 _ rfl
 have xc8:(w.alloc (.cells x.arr TSn)).cell? ⟨w.heap.size,8,none⟩=some (.bool x.g):=HX.out 8 _ rfl
 go_enter func40,ntmps40
 go_wp2_with fail
 refine HM.out.mono ?_
 rintro e w2 ⟨rfl,hf⟩
 have HF2:=Lib.hid (HF.out.trans hf (T:=fun _=>False) (fun _ _ h=>h) (fun _ _ h=>h))
 clear hf HM xc0 xc1 xc2 xc3 xc4 xc5 xc6 xc7 xc8
 go_wp2_with fail
 go_ret
 exact ⟨rfl,HF2.out⟩
theorem may_ (A:Option Addr) (c:Nat) (L:List Sn) (w:World) (hL:Ls w A c L):Calls prog 23 #[.slice A L.length c] w fun e w'=>e=.returned (.bool (mays L))∧Fr (fun _=>False) w w':=by
 have HC:=Lib.hid (ContainsFunc A c 40 #[] (fun x=>mayN x != 0) L w (enters_of func40 (by kernel_rfl) rfl) hL.s (fun W hW x hx=>may1 x W (hL.ok x hx)))
 unfold mays
 clear hL
 generalize L.any (fun x=>mayN x != 0)=b at *
 go_enter func23,ntmps23
 go_wp2_with fail
 refine HC.out.mono ?_
 rintro e w2 ⟨rfl,hf⟩
 have HF:=Lib.hid hf
 clear hf HC
 go_wp2_with fail
 go_ret
 exact ⟨rfl,HF.out⟩
theorem name_nz {s:ByteArray} (h:nameB s=true):Sep.nz s.toList∧s.size≤24:=by
 refine ⟨fun c hc=>?_,(name_size h).2⟩
 unfold nameB at h
 simp only [Bool.and_eq_true,List.all_eq_true,decide_eq_true_eq] at h
 rw [tl_data] at hc
 have:=(h.1 c hc).1
 exact UInt8.lt_iff_toNat_lt.2 (by show 0<_;omega)
theorem keepV {S:Nat→Prop} {w w':World} {A:Option Addr} {c:Nat} {L:List Sn} (h:Ls w A c L) (hf:Fr S w w') (hs:∀a,A=some a→L≠ []→¬S a.block):Ls w' A c L:=by
 by_cases hne:L= []
 ·subst hne
  obtain ⟨⟨h1,h2,h3,h4,h5⟩,h6⟩:=h
  exact ⟨⟨h1,h2,h3,h4,fun h=>absurd rfl h⟩,h6⟩
 ·exact h.fr hf (fun a ha=>hs a ha hne)
theorem may_nz {x:Sn} (h:mayB x=true) (hx:x.ok):nzK (kk x):=by
 have h':=may_iff.1 h
 have h1:=name_nz h'.s;have h2:=name_nz h'.o
 exact ⟨⟨h1.1,h2.1,by show x.s.size+x.o.size≤_;omega⟩,hx.t⟩
theorem mays_nz {L:List Sn} (h:mays L=true) (hok:∀x∈L,x.ok):∀x∈L,nzK (kk x):=fun x hx=>by
 unfold mays at h
 simp only [Bool.not_eq_true',List.any_eq_false,bne_iff_ne,ne_eq,Decidable.not_not] at h
 have h1:=h x hx
 refine may_nz ?_ (hok x hx)
 unfold mayN at h1
 cases hb:mayB x with
 |true=>rfl
 |false=>rw [hb] at h1;simp at h1
def bg (L:List Sn):List Tk:=(L.filter (fun x=>x.p==0)).map kk
theorem bg_app (A B:List Sn):bg (A++B)=bg A++bg B:=by unfold bg;rw [List.filter_append,List.map_append]
theorem bg_one {x:Sn}:bg [x]=if x.p=0 then [kk x] else []:=by
 unfold bg
 by_cases h:x.p=0<;>simp [h]
def upq (y:Sn) (q:List Tk):List Tk:=bg [y]++q
def upL (L:List Sn) (q:List Tk):List Tk:=L.foldl (fun q y=>upq y q) q
theorem upL_perm:∀ (L:List Sn) (q:List Tk),(upL L q).Perm (bg L++q)
 | [],q=>by show q.Perm _;simp [bg]
 |y::L,q=>by
  refine (upL_perm L (upq y q)).trans ?_
  rw [show y::L= [y]++L from rfl,bg_app]
  unfold upq
  rw [←List.append_assoc]
  exact List.perm_append_comm.append_right q
theorem upL_take {L:List Sn} {k:Nat} (h:k<L.length) (q:List Tk):upL (L.take (k+1)) q=upq L[k] (upL (L.take k) q):=by
 unfold upL
 rw [List.take_succ_eq_append_getElem h,List.foldl_append];rfl
theorem upL_len (L:List Sn) (q:List Tk):(upL L q).length≤q.length+L.length:=by
 have:=(upL_perm L q).length_eq
 rw [List.length_append] at this
 have h2:(bg L).length≤L.length:=by unfold bg;rw [List.length_map];exact List.length_filter_le _ _
 omega
def dnq (y:Sn) (q:List Tk):Option (List Tk):=outK (bg [y]) q
theorem dn_take {L:List Sn} {k:Nat} (h:k<L.length) {q r:List Tk} (hr:outK (bg (L.take k)) q=some r):outK (bg (L.take (k+1))) q=dnq L[k] r:=by
 rw [List.take_succ_eq_append_getElem h,bg_app,outK_app,hr];rfl
theorem dn_no {L:List Sn} {k:Nat} (h:k<L.length) {q r:List Tk} (hr:outK (bg (L.take k)) q=some r) (hn:dnq L[k] r=none):outK (bg L) q=none:=by
 have e:bg L=bg (L.take (k+1))++bg (L.drop (k+1)):=by rw [←bg_app,List.take_append_drop]
 rw [e,outK_app,dn_take h hr,hn];rfl
theorem outK_len {A q r:List Tk} (h:outK A q=some r):r.length≤q.length:=by
 have:=(outK_perm h).length_eq
 rw [List.length_append] at this;omega
section
variable {w w':World} {B:Nat} {q:List Tk} {M:List Nat}
theorem EV.up (H:EV w B q M) (y:Sn) (hy:nzK (kk y)) (hl:q.length≤1000000):Calls prog 24 #[.pointer (some ⟨B,0,none⟩),y.v,.int .i64 1] w fun e w'=>e=.returned (.bool true)∧∃M',EV w' B (upq y q) M'∧Tn (B::M) (B::M') w w':=by
 obtain ⟨V,hv,hg⟩:=H
 have hlen:=hg.len
 unfold upq
 rw [bg_one]
 by_cases hp:y.p=0
 ·rw [if_pos hp]
  have hb:=hg.has hy
  refine (change_ B V M y 1 w hv (by simp [hp]) hy.1.2.2 hy.2 (by omega) ⟨hb.2.1,by have:=hb.2.2;omega⟩ (by omega)).mono ?_
  rintro e w' ⟨b,V',M',rfl,h1,h2,h3⟩
  rcases h3 with ⟨h,-⟩| ⟨h,-⟩| ⟨h,rfl,rfl⟩
  ·have:=hb.2.1;omega
  ·have:=hb.2.1;omega
  ·exact ⟨rfl,M',⟨_,h1,hg.put hy rfl⟩,h2⟩
 ·rw [if_neg hp]
  refine (change_skip B V M y 1 w hv (by simp [hp])).mono ?_
  rintro e w' ⟨rfl,hf⟩
  exact ⟨rfl,M,⟨V,hv.fr hf (fun _ _ h=>h),hg⟩,Tn.of_fr hf hv.lt⟩
def DnPost (B:Nat) (q:List Tk) (M:List Nat) (y:Sn) (w:World) (e:Ending) (w':World):Prop:=∃b q' M',e=.returned (.bool b)∧EV w' B q' M'∧Tn (B::M) (B::M') w w'∧((b=true∧dnq y q=some q')∨(b=false∧dnq y q=none∧q'=q))
theorem EV.down (H:EV w B q M) (y:Sn) (hy:nzK (kk y)) (hl:q.length≤1000000):Calls prog 24 #[.pointer (some ⟨B,0,none⟩),y.v,.int .i64 (-1)] w (DnPost B q M y w):=by
 obtain ⟨V,hv,hg⟩:=H
 have hlen:=hg.len
 unfold DnPost dnq
 rw [bg_one]
 by_cases hp:y.p=0
 ·rw [if_pos hp]
  have hb:=hg.has hy
  have ho:outK [kk y] q=if kk y∈q then some (q.erase (kk y)) else none:=by rw [outK];split<;>rfl
  rw [ho]
  refine (change_ B V M y (-1) w hv (by simp [hp]) hy.1.2.2 hy.2 (by omega) ⟨hb.2.1,by have:=hb.2.2;omega⟩ (by omega)).mono ?_
  rintro e w' ⟨b,V',M',rfl,h1,h2,h3⟩
  rcases h3 with ⟨h,rfl,rfl⟩| ⟨h,rfl,rfl⟩| ⟨h,rfl,rfl⟩
  ·have hn:kk y∉q:=fun hm=>by have:=hb.1.2 hm;omega
   exact ⟨false,q,M',rfl,⟨_,h1,hg⟩,h2,.inr ⟨rfl,if_neg hn,rfl⟩⟩
  ·have hm:kk y∈q:=hb.1.1 (by omega)
   exact ⟨true,_,M',rfl,⟨_,h1,hg.del hy (by omega)⟩,h2,.inl ⟨rfl,if_pos hm⟩⟩
  ·have hm:kk y∈q:=hb.1.1 (by omega)
   exact ⟨true,_,M',rfl,⟨_,h1,hg.dec hy (by omega) (by omega)⟩,h2,.inl ⟨rfl,if_pos hm⟩⟩
 ·rw [if_neg hp]
  refine (change_skip B V M y (-1) w hv (by simp [hp])).mono ?_
  rintro e w' ⟨rfl,hf⟩
  exact ⟨true,q,M,rfl,⟨V,hv.fr hf (fun _ _ h=>h),hg⟩,Tn.of_fr hf hv.lt,.inl ⟨rfl,rfl⟩⟩
end
structure ET (w0:World) (M0:List Nat) (w:World) (B:Nat) (q:List Tk) (M:List Nat):Prop where
 v:EV w B q M
 t:Tn (B::M0) (B::M) w0 w
section
variable {w0 w w':World} {M0 M M':List Nat} {B:Nat} {q q':List Tk}
theorem ET.keep (H:ET w0 M0 w B q M) (hf:Fr (fun _=>False) w w'):ET w0 M0 w' B q M:=⟨H.v.keep hf,H.t.trans (Tn.of_fr hf H.v.lt)⟩
theorem ET.turn (H:ET w0 M0 w B q M) (hv:EV w' B q' M') (ht:Tn (B::M) (B::M') w w'):ET w0 M0 w' B q' M':=⟨hv,H.t.trans ht⟩
theorem ET.start (H:EV w B q M):ET w M w B q M:=⟨H,Tn.refl H.lt⟩
end
def apE (O I:List Sn) (q:List Tk):Option (List Tk):=if mays O&&mays I then (outK (bg O) q).map (fun r=>bg I++r) else none
def ApplyPost (B:Nat) (q:List Tk) (M:List Nat) (O I:List Sn) (w:World) (e:Ending) (w':World):Prop:=
 ∃b q' M',e=.returned (.bool b)∧EV w' B q' M'∧Tn (B::M) (B::M') w w'∧((b=true∧∃r,apE O I q=some r∧q'.Perm r)∨(b=false∧apE O I q=none∧q'.Perm q))
theorem Apply (B:Nat) (q:List Tk) (M:List Nat) (d:Dl) (w:World) (H:EV w B q M) (hd:RdD w d) (ha1:∀a,d.A1=some a→d.O≠ []→a.block∉B::M) (ha2:∀a,d.A2=some a→d.I≠ []→a.block∉B::M) (lq:q.length≤100000) (lO:d.O.length≤100000) (lI:d.I.length≤100000):
  Calls prog 9 #[.pointer (some ⟨B,0,none⟩),d.v] w (ApplyPost B q M d.O d.I w):=by
 have hf:=Fr.alloc (fun _=>False) w (.cells d.arr TDl)
 have HT0:=Lib.hid (ET.start (H.keep hf))
 have HB0:Hid (Tn (B::M) (B::M) w (w.alloc (.cells d.arr TDl))):=Tn.of_fr hf H.lt
 have HBd:Hid (w.heap.size∉B::M):=fun hm=>by have:=H.lt _ hm;omega
 have HE:Hid (∀W',Fr (· ∈B::M) (w.alloc (.cells d.arr TDl)) W'→Bk W' w.heap.size d.arr TDl∧RdD W' d):=fun W' hW=>
  ⟨(Bk.new w d.arr TDl).fr hW (fun b hb h=>by simp at hb;subst hb;exact HBd.out h),⟨keepV (hd.o.keep hf) hW ha1,keepV (hd.i.keep hf) hW ha2⟩⟩
 obtain ⟨A1,c1,O,A2,c2,I⟩:=d
 dsimp only at lO lI
 clear hf H hd ha1 ha2 HBd
 go_enter func9,ntmps9
 go_upto_region 1 with (fail)
 generalize (w.alloc (.cells #[.slice A1 O.length c1,.slice A2 I.length c2] TDl))=w1 at *
 generalize w.heap.size=Bd at *
 have HE1:=Lib.hid (HE.out w1 (Fr.refl _ _))
 have e0:w1.cell? ⟨Bd,0,none⟩=some (.slice A1 O.length c1):=HE1.out.1.cell 0
 have e1:w1.cell? ⟨Bd,1,none⟩=some (.slice A2 I.length c2):=HE1.out.1.cell 1
 go_wp2_with fail
 refine (may_ A1 c1 O w1 HE1.out.2.o).mono ?_
 rintro e w2 ⟨rfl,hf⟩
 have HT2:=Lib.hid (HT0.out.keep hf)
 have HE2:=Lib.hid (HE.out w2 HT2.out.t.fr)
 clear hf e0 e1 HE1
 cases hmO:mays O with
 |false=>
  go_wp2_with fail
  go_ret
  exact ⟨false,q,M,rfl,HT2.out.v,HB0.out.trans HT2.out.t,.inr ⟨rfl,by unfold apE;rw [hmO];rfl,List.Perm.refl _⟩⟩
 |true=>
  have e1:w2.cell? ⟨Bd,1,none⟩=some (.slice A2 I.length c2):=HE2.out.1.cell 1
  go_wp2_with fail
  refine (may_ A2 c2 I w2 HE2.out.2.i).mono ?_
  rintro e w3 ⟨rfl,hf⟩
  have HT3:=Lib.hid (HT2.out.keep hf)
  have HE3:=Lib.hid (HE.out w3 HT3.out.t.fr)
  clear hf e1 HT2 HE2
  cases hmI:mays I with
  |false=>
   go_wp2_with fail
   go_ret
   exact ⟨false,q,M,rfl,HT3.out.v,HB0.out.trans HT3.out.t,.inr ⟨rfl,by unfold apE;rw [hmO,hmI];rfl,List.Perm.refl _⟩⟩
  |true=>
   have HR:Hid (apE O I q=(outK (bg O) q).map (fun r=>bg I++r)):=by show _=_;unfold apE;rw [hmO,hmI];rfl
   have HnO:=Lib.hid (mays_nz hmO HE3.out.2.o.ok);have HnI:=Lib.hid (mays_nz hmI HE3.out.2.i.ok)
   clear hmO hmI
   have e0:w3.cell? ⟨Bd,0,none⟩=some (.slice A1 O.length c1):=HE3.out.1.cell 0
   clear HE3
   go_wp2_with fail
   clear e0
   go_loopg [36] O.length (fun gk i wr=>∃ (k:Nat) (q2:List Tk) (M2:List Nat),i=.int .i64 k∧k≤O.length∧gk=O.length-k∧ET w1 M wr B q2 M2∧outK (bg (O.take k)) q=some q2)
   case atStart=>exact ⟨0,q,M,rfl,Nat.zero_le _,rfl,HT3.out,rfl⟩
   case round=>
    obtain ⟨k,q2,M2,rfl,hk,hg,ht,hq2⟩:=hrel
    obtain ⟨wo,hwo⟩:∃wo,wo=wr:=⟨_,rfl⟩
    subst hwo
    have HG:=Lib.hid hg;have HT:=Lib.hid ht;have HQ:=Lib.hid hq2
    have hl2:q2.length≤100000:=Nat.le_trans (outK_len hq2) lq
    clear hg ht hq2 HT3
    have HEo:=Lib.hid (HE.out wo HT.out.t.fr)
    by_cases hlt:k<O.length
    ·obtain ⟨b3,o3,hA1,-,c3'⟩:=HEo.out.2.o.s.at hlt (by omega)
     have HRow:=Lib.hid (At.row c3' hlt)
     have HNz:=Lib.hid (HnO.out _ (List.getElem_mem hlt))
     have HTk:Hid (outK (bg (O.take (k+1))) q=dnq O[k] q2):=dn_take hlt HQ.out
     have HNo:Hid (dnq O[k] q2=none→outK (bg O) q=none):=fun h=>dn_no hlt HQ.out h
     have hcap:=HEo.out.2.o.s.2.1
     dsimp only at hA1
     clear c3'
     generalize O[k]=z at *
     have q1:(0:Int)≤(k:Int):=by omega
     have q2':decide ((k:Int)<((O.length:Nat):Int))=true:=by simp;omega
     subst hA1
     obtain ⟨zc0,zc1,zc2,zc3,zc4,zc5,zc6,zc7,zc8⟩:=SetW.at9 HRow.out
     go_upto_region 8 with (fail)
     have hfa:=Fr.alloc (fun _=>False) wo (.cells z.arr TSn)
     have HX:=Lib.hid (Bk.new wo z.arr TSn)
     replace HT:=Lib.hid (HT.out.keep hfa)
     clear hfa HRow zc0 zc1 zc2 zc3 zc4 zc5 zc6 zc7 zc8
     generalize (wo.alloc (.cells z.arr TSn))=w4 at *
     generalize wo.heap.size=Bz at *
     have zc0:w4.cell? ⟨Bz,0,none⟩=some (.int .i64 z.t):=HX.out.cell 0
     have zc1:w4.cell? ⟨Bz,1,none⟩=some (.int .i64 z.i):=HX.out.cell 1
     have zc2:w4.cell? ⟨Bz,2,none⟩=some (.int .i64 z.p):=HX.out.cell 2
     have zc3:w4.cell? ⟨Bz,3,none⟩=some (.int .i64 z.r):=HX.out.cell 3
     have zc4:w4.cell? ⟨Bz,4,none⟩=some (.string z.s):=HX.out.cell 4
     have zc5:w4.cell? ⟨Bz,5,none⟩=some (.string z.o):=HX.out.cell 5
     have zc6:w4.cell? ⟨Bz,6,none⟩=some (.int .i64 z.b):=HX.out.cell 6
     have zc7:w4.cell? ⟨Bz,7,none⟩=some (.int .i64 z.d):=HX.out.cell 7
     have zc8:w4.cell? ⟨Bz,8,none⟩=some (.bool z.g):=HX.out.cell 8
     go_wp2_with fail
     refine (HT.out.v.down z HNz.out (by omega)).mono ?_
     rintro e w5 ⟨b,q5,M5,rfl,hv5,ht5,hr5⟩
     have HT5:=Lib.hid (HT.out.turn hv5 ht5)
     have HR5:=Lib.hid hr5
     clear hv5 ht5 hr5 HT HX zc0 zc1 zc2 zc3 zc4 zc5 zc6 zc7 zc8
     cases b with
     |true=>
      have HQ5:Hid (outK (bg (O.take (k+1))) q=some q5):=by
       show _=_
       rcases HR5.out with ⟨-,h⟩| ⟨h,-⟩
       ·rw [HTk.out,h]
       ·cases h
      go_wp2_with fail
      go_roundg (O.length-(k+1))
      case rel=>exact ⟨k+1,q5,M5,by go_num,by omega,rfl,HT5.out,HQ5.out⟩
      case measure=>have:=HG.out;omega
     |false=>
      have HF5:Hid (outK (bg O) q=none∧q5=q2):=by
       rcases HR5.out with ⟨h,-⟩| ⟨-,h,h2⟩
       ·cases h
       ·exact ⟨HNo.out h,h2⟩
      clear HR5 HTk HNo HNz
      obtain ⟨hno,rfl⟩:=HF5.out
      have HNo:=Lib.hid hno
      clear hno HF5
      have HE5:=Lib.hid (HE.out w5 HT5.out.t.fr)
      have e0:w5.cell? ⟨Bd,0,none⟩=some (.slice (some ⟨b3,o3,none⟩) O.length c1):=HE5.out.1.cell 0
      clear HE5
      go_wp2_with fail
      clear e0
      go_loopg [49] k (fun gk i wr=>∃ (j:Nat) (M6:List Nat),i=.int .i64 j∧j≤k∧gk=k-j∧ET w1 M wr B (upL (O.take j) q5) M6)
      case atStart=>exact ⟨0,M5,rfl,Nat.zero_le _,rfl,HT5.out⟩
      case round=>
       obtain ⟨j,M6,rfl,hj,hg6,ht6⟩:=hrel
       obtain ⟨wi,hwi⟩:∃wi,wi=wr:=⟨_,rfl⟩
       subst hwi
       have HG6:=Lib.hid hg6;have HT:=Lib.hid ht6
       clear hg6 ht6 HT5
       have HEi:=Lib.hid (HE.out wi HT.out.t.fr)
       by_cases hlt6:j<k
       ·have hltO:j<O.length:=by omega
        obtain ⟨b6,o6,hA6,-,c6'⟩:=HEi.out.2.o.s.at hltO (by omega)
        have HRow:=Lib.hid (At.row c6' hltO)
        have HNz:=Lib.hid (HnO.out _ (List.getElem_mem hltO))
        have HTk:Hid (upL (O.take (j+1)) q5=upq O[j] (upL (O.take j) q5)):=upL_take hltO q5
        have hl6:(upL (O.take j) q5).length≤200000:=by
         have:=upL_len (O.take j) q5
         rw [List.length_take] at this;omega
        dsimp only at hA6
        cases hA6
        clear c6'
        generalize O[j]=z at *
        generalize upL (O.take j) q5=q6 at *
        have q1:(0:Int)≤(j:Int):=by omega
        have q2':decide ((j:Int)<(k:Int))=true:=by simp;omega
        obtain ⟨zc0,zc1,zc2,zc3,zc4,zc5,zc6,zc7,zc8⟩:=SetW.at9 HRow.out
        go_upto_region 12 with (fail)
        have hfa:=Fr.alloc (fun _=>False) wi (.cells z.arr TSn)
        have HX:=Lib.hid (Bk.new wi z.arr TSn)
        replace HT:=Lib.hid (HT.out.keep hfa)
        clear hfa HRow zc0 zc1 zc2 zc3 zc4 zc5 zc6 zc7 zc8
        generalize (wi.alloc (.cells z.arr TSn))=w8 at *
        generalize wi.heap.size=By at *
        have zc0:w8.cell? ⟨By,0,none⟩=some (.int .i64 z.t):=HX.out.cell 0
        have zc1:w8.cell? ⟨By,1,none⟩=some (.int .i64 z.i):=HX.out.cell 1
        have zc2:w8.cell? ⟨By,2,none⟩=some (.int .i64 z.p):=HX.out.cell 2
        have zc3:w8.cell? ⟨By,3,none⟩=some (.int .i64 z.r):=HX.out.cell 3
        have zc4:w8.cell? ⟨By,4,none⟩=some (.string z.s):=HX.out.cell 4
        have zc5:w8.cell? ⟨By,5,none⟩=some (.string z.o):=HX.out.cell 5
        have zc6:w8.cell? ⟨By,6,none⟩=some (.int .i64 z.b):=HX.out.cell 6
        have zc7:w8.cell? ⟨By,7,none⟩=some (.int .i64 z.d):=HX.out.cell 7
        have zc8:w8.cell? ⟨By,8,none⟩=some (.bool z.g):=HX.out.cell 8
        go_wp2_with fail
        refine (HT.out.v.up z HNz.out (by omega)).mono ?_
        rintro e w9 ⟨rfl,M9,hv9,ht9⟩
        have HT9:Hid (ET w1 M w9 B (upL (O.take (j+1)) q5) M9):=by
         show ET _ _ _ _ _ _
         rw [HTk.out];exact HT.out.turn hv9 ht9
        clear hv9 ht9 HT HX HTk zc0 zc1 zc2 zc3 zc4 zc5 zc6 zc7 zc8
        go_wp2_with fail
        go_roundg (k-(j+1))
        case rel=>exact ⟨j+1,M9,by go_num,by omega,rfl,HT9.out⟩
        case measure=>have:=HG6.out;omega
       ·obtain rfl:j=k:=by omega
        have q2':decide ((j:Int)<(j:Int))=false:=by simp
        go_wp2_with fail
        go_ret
        exact ⟨false,_,M6,rfl,HT.out.v,HB0.out.trans HT.out.t,.inr ⟨rfl,by rw [HR.out,HNo.out];rfl,(upL_perm _ _).trans (outK_perm HQ.out)⟩⟩
    ·obtain rfl:k=O.length:=by omega
     have hq:=HQ.out
     rw [List.take_length] at hq
     replace HQ:=Lib.hid hq
     clear hq
     have q2':decide (((O.length:Nat):Int)<((O.length:Nat):Int))=false:=by simp
     have e1:wo.cell? ⟨Bd,1,none⟩=some (.slice A2 I.length c2):=HEo.out.1.cell 1
     clear HEo
     go_wp2_with fail
     clear e1
     go_loopg [61] I.length (fun gk i wr=>∃ (j:Nat) (M6:List Nat),i=.int .i64 j∧j≤I.length∧gk=I.length-j∧ET w1 M wr B (upL (I.take j) q2) M6)
     case atStart=>exact ⟨0,M2,rfl,Nat.zero_le _,rfl,HT.out⟩
     case round=>
      obtain ⟨j,M6,rfl,hj,hg6,ht6⟩:=hrel
      obtain ⟨wi,hwi⟩:∃wi,wi=wr:=⟨_,rfl⟩
      subst hwi
      clear HT
      have HG6:=Lib.hid hg6;have HT:=Lib.hid ht6
      clear hg6 ht6
      have HEi:=Lib.hid (HE.out wi HT.out.t.fr)
      by_cases hlt6:j<I.length
      ·obtain ⟨b6,o6,hA6,-,c6'⟩:=HEi.out.2.i.s.at hlt6 (by omega)
       have HRow:=Lib.hid (At.row c6' hlt6)
       have HNz:=Lib.hid (HnI.out _ (List.getElem_mem hlt6))
       have HTk:Hid (upL (I.take (j+1)) q2=upq I[j] (upL (I.take j) q2)):=upL_take hlt6 q2
       have hl6:(upL (I.take j) q2).length≤200000:=by
        have:=upL_len (I.take j) q2
        rw [List.length_take] at this;omega
       have hcap:=HEi.out.2.i.s.2.1
       dsimp only at hA6
       subst hA6
       clear c6' HEi
       generalize I[j]=z at *
       generalize upL (I.take j) q2=q6 at *
       have q1:(0:Int)≤(j:Int):=by omega
       have q3':decide ((j:Int)<((I.length:Nat):Int))=true:=by simp;omega
       obtain ⟨zc0,zc1,zc2,zc3,zc4,zc5,zc6,zc7,zc8⟩:=SetW.at9 HRow.out
       go_upto_region 19 with (fail)
       have hfa:=Fr.alloc (fun _=>False) wi (.cells z.arr TSn)
       have HX:=Lib.hid (Bk.new wi z.arr TSn)
       replace HT:=Lib.hid (HT.out.keep hfa)
       clear hfa HRow zc0 zc1 zc2 zc3 zc4 zc5 zc6 zc7 zc8
       generalize (wi.alloc (.cells z.arr TSn))=w8 at *
       generalize wi.heap.size=By at *
       have zc0:w8.cell? ⟨By,0,none⟩=some (.int .i64 z.t):=HX.out.cell 0
       have zc1:w8.cell? ⟨By,1,none⟩=some (.int .i64 z.i):=HX.out.cell 1
       have zc2:w8.cell? ⟨By,2,none⟩=some (.int .i64 z.p):=HX.out.cell 2
       have zc3:w8.cell? ⟨By,3,none⟩=some (.int .i64 z.r):=HX.out.cell 3
       have zc4:w8.cell? ⟨By,4,none⟩=some (.string z.s):=HX.out.cell 4
       have zc5:w8.cell? ⟨By,5,none⟩=some (.string z.o):=HX.out.cell 5
       have zc6:w8.cell? ⟨By,6,none⟩=some (.int .i64 z.b):=HX.out.cell 6
       have zc7:w8.cell? ⟨By,7,none⟩=some (.int .i64 z.d):=HX.out.cell 7
       have zc8:w8.cell? ⟨By,8,none⟩=some (.bool z.g):=HX.out.cell 8
       go_wp2_with fail
       refine (HT.out.v.up z HNz.out (by omega)).mono ?_
       rintro e w9 ⟨rfl,M9,hv9,ht9⟩
       have HT9:Hid (ET w1 M w9 B (upL (I.take (j+1)) q2) M9):=by
        show ET _ _ _ _ _ _
        rw [HTk.out];exact HT.out.turn hv9 ht9
       clear hv9 ht9 HT HX HTk zc0 zc1 zc2 zc3 zc4 zc5 zc6 zc7 zc8
       go_wp2_with fail
       go_roundg (I.length-(j+1))
       case rel=>exact ⟨j+1,M9,by go_num,by omega,rfl,HT9.out⟩
       case measure=>have:=HG6.out;omega
      ·obtain rfl:j=I.length:=by omega
       have q3':decide (((I.length:Nat):Int)<((I.length:Nat):Int))=false:=by simp
       go_wp2_with fail
       go_ret
       refine ⟨true,_,M6,rfl,HT.out.v,HB0.out.trans HT.out.t,.inl ⟨rfl,_,by rw [HR.out,HQ.out];rfl,?_⟩⟩
       rw [List.take_length];exact upL_perm _ _
end Ent
end Go.Proofs.YtdpngmgaomghoaaGreatDoor
