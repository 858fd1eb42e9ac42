/- Names; records that may be: the program's and the document's. -/
import Derived.Test.YtdpngmgaomghoaaGreatDoorVari
import Derived.Shelf.RegionOpenPlain
namespace Go.Proofs.YtdpngmgaomghoaaGreatDoor
open Tryz
set_option maxRecDepth 100000
set_option maxHeartbeats 1000000
open Go.RowKit
namespace Name
open KeyP PackP Vari
def okc (c:UInt8):Bool:=decide (33≤c.toNat)&&decide (c.toNat≤126)
theorem nameB_eq (s:ByteArray):nameB s=(s.data.toList.all okc&&(decide (1≤s.size)&&decide (s.size≤24))):=rfl
theorem all_bad {l:List UInt8} {k:Nat} (hk:k<l.length) (h:okc l[k]=false):l.all okc=false:=by
 rw [List.all_eq_false];exact ⟨l[k],List.getElem_mem hk,by simp [h]⟩
theorem all_snoc {l:List UInt8} {k:Nat} (hk:k<l.length):(l.take (k+1)).all okc=((l.take k).all okc&&okc l[k]):=by
 rw [List.take_succ_eq_append_getElem hk,List.all_append];simp only [List.all_cons,List.all_nil,Bool.and_true]
theorem named (s:ByteArray) (hs:s.size≤maxLen) (w:World):Calls prog 64 #[.string s] w fun e w'=>e=.returned (.bool (nameB s))∧Below w.heap.size w w':=by
 have kc:=run_bytes_of_string (P:=prog) w 9 131 5 s underlying9 underlying131 underlying5
 have HA:=Lib.hid (fun j hj=>bytesRow_at s (grownCap w s.size 0 5) j hj)
 generalize hC:bytesRow s (grownCap w s.size 0 5)=C at *
 generalize grownCap w s.size 0 5=cap at *
 clear hC
 have HB:=Lib.hid (((Below.refl w.heap.size w).drew).alloc (Nat.le_refl _) (.cells C 5 (C.size,C.size+1)))
 have HC:Hid (∀j (hj:j<s.data.toList.length),(w.drew.alloc (.cells C 5 (C.size,C.size+1))).cell? ⟨w.heap.size,j,none⟩=some (.int .u8 (s.data.toList[j].toNat:Nat))):=fun j hj=>by
  have h1:=World.cell?_alloc_mark w.drew C 5 (C.size,C.size+1) j
  have h2:=HA.out j (by simpa using hj)
  rw [h2] at h1
  simpa using h1
 have HE:=Lib.hid (nameB_eq s)
 have hl:s.data.toList.length=s.size:=by simp
 have hs:s.size≤9223372036854775807:=by unfold maxLen at hs;omega
 have HI:Hid (s.toList.isEmpty=decide (s.size=0)):=by
  show _=_
  rw [tl_data,←hl]
  cases s.data.toList<;>rfl
 generalize w.drew.alloc (.cells C 5 (C.size,C.size+1))=w1 at *
 generalize hL:s.data.toList=l at *
 generalize hN:s.size=N at *
 have HL:=Lib.hid hl
 have HN:=Lib.hid hN
 clear hL HA hl HN
 go_enter func64,ntmps64
 go_wp2_with fail
 go_loopg [4,8] N (fun gk _ i wr=>∃k:Nat,i=.int .i64 k∧k≤N∧gk=N-k∧(l.take k).all okc=true∧w1=wr)
 case atStart=>exact ⟨0,rfl,Nat.zero_le _,rfl,by simp,rfl⟩
 case round=>
  obtain ⟨k,rfl,hk,hg,hall,rfl⟩:=hrel
  have HG:=Lib.hid hg;have HAll:=Lib.hid hall
  clear hg hall
  by_cases hlt:k<N
  ·have hkl:k<l.length:=by rw [HL.out];exact hlt
   have d0:w1.cell? ⟨w.heap.size,k,none⟩=some (.int .u8 ((l[k].toNat:Nat):Int)):=HC.out k hkl
   have HT:Hid ((l.take (k+1)).all okc=((l.take k).all okc&&okc l[k])):=all_snoc hkl
   have HBad:=Lib.hid (all_bad (l:=l) (k:=k) hkl)
   have hok:okc l[k]=(decide (33≤l[k].toNat)&&decide (l[k].toNat≤126)):=rfl
   have hc:=l[k].toNat_lt
   generalize l[k].toNat=c at *
   generalize okc l[k]=ob at *
   have q1:(0:Int)≤(c:Int):=by omega
   have q2:(c:Int)<256:=by omega
   have HK:=Lib.hid hok
   clear hc hok
   by_cases h1:c≤32
   ·have t1:decide ((c:Int)≤32)=true:=by simp;omega
    have HR:=Lib.hid (HBad.out (by rw [HK.out];simp;omega))
    go_wp2_with fail
    go_ret
    exact ⟨by rw [HE.out,HR.out];rfl,HB.out⟩
   ·have t1:decide ((c:Int)≤32)=false:=by simp;omega
    by_cases h2:126<c
    ·have t2:decide ((126:Int)<(c:Int))=true:=by simp;omega
     have HR:=Lib.hid (HBad.out (by rw [HK.out];simp;omega))
     go_wp2_with fail
     go_ret
     exact ⟨by rw [HE.out,HR.out];rfl,HB.out⟩
    ·have t2:decide ((126:Int)<(c:Int))=false:=by simp;omega
     have HR:Hid (ob=true):=by show _=_;rw [HK.out];simp;omega
     go_wp2_with fail
     go_roundg (N-(k+1))
     case rel=>exact ⟨k+1,by go_num,by omega,rfl,by rw [HT.out,HAll.out,HR.out];rfl,rfl⟩
     case measure=>have:=HG.out;omega
  ·obtain rfl:k=N:=by omega
   have HT:Hid (l.all okc=true):=by show _=_;have:=HAll.out;rwa [List.take_of_length_le (by rw [HL.out];omega)] at this
   by_cases h0:k=0
   ·subst h0
    have t1:s.toList.isEmpty=true:=by rw [HI.out];rfl
    go_wp2_with fail
    go_ret
    exact ⟨by rw [HE.out,HT.out];rfl,HB.out⟩
   ·have t1:s.toList.isEmpty=false:=by rw [HI.out];simpa using h0
    have HF:Hid (decide ((k:Int)≤24)=nameB s):=by
     have e2:decide (1≤k)=true:=by simp;omega
     have e3:decide ((k:Int)≤24)=decide (k≤24):=by rw [decide_eq_decide];omega
     show _=_
     rw [HE.out,HT.out,e2,e3];rfl
    clear h0
    go_wp2_with fail
    go_ret
    exact ⟨by rw [←HF.out];rfl,HB.out⟩
theorem RefName (s:ByteArray) (hs:s.size≤maxLen) (w:World):Calls prog 69 #[.string s] w fun e w'=>e=.returned (.bool (nameB s))∧w=w':=by
 have HE:=nameB_eq s
 have hl:s.data.toList.length=s.size:=by simp
 have hs:s.size≤9223372036854775807:=by unfold maxLen at hs;omega
 obtain ⟨l,hL⟩:∃l,l=s.data.toList:=⟨_,rfl⟩
 obtain ⟨N,hN⟩:∃N,s.size=N:=⟨_,rfl⟩
 have HGt:Hid (∀k,∀ (h:k<s.size) (h':k<l.length),s[k]=l[k]):=fun k h h'=>by subst hL;rfl
 rw [←hL,hN] at HE
 rw [←hL,hN] at hl
 rw [hN] at hs
 have HE:=Lib.hid HE
 clear hL
 have HL:=Lib.hid hl
 go_enter func69,ntmps69
 go_wp2_with fail
 go_loopg [3] N (fun gk i wr=>∃k:Nat,i=.int .i64 k∧k≤N∧gk=N-k∧(l.take k).all okc=true∧w=wr)
 case atStart=>exact ⟨0,rfl,Nat.zero_le _,rfl,by simp,rfl⟩
 case round=>
  obtain ⟨k,rfl,hk,hg,hall,rfl⟩:=hrel
  have HG:=Lib.hid hg;have HAll:=Lib.hid hall
  clear hg hall
  by_cases hlt:k<N
  ·have hkl:k<l.length:=by rw [HL.out];exact hlt
   have hkN:k<s.size:=by rw [hN];exact hlt
   have HX:=Lib.hid (HGt.out k hkN hkl)
   have HBad:=Lib.hid (all_bad (l:=l) (k:=k) hkl)
   have HT:=Lib.hid (all_snoc hkl)
   have hok:okc l[k]=(decide (33≤l[k].toNat)&&decide (l[k].toNat≤126)):=rfl
   rw [←HX.out] at hok
   have HK:=Lib.hid hok
   clear hok
   by_cases h1:s[k].toNat<33
   ·have t1:decide ((s[k].toNat:Int)<33)=true:=by simp;omega
    have HR:=Lib.hid (HBad.out (by rw [←HX.out,HK.out];simp;omega))
    clear h1
    go_wp2_with fail
    go_ret
    exact ⟨by rw [HE.out,HR.out];rfl,rfl⟩
   ·have t1:decide ((s[k].toNat:Int)<33)=false:=by simp;omega
    by_cases h2:126<s[k].toNat
    ·have t2:decide ((126:Int)<(s[k].toNat:Int))=true:=by simp;omega
     have HR:=Lib.hid (HBad.out (by rw [←HX.out,HK.out];simp;omega))
     clear h1 h2
     go_wp2_with fail
     go_ret
     exact ⟨by rw [HE.out,HR.out];rfl,rfl⟩
    ·have t2:decide ((126:Int)<(s[k].toNat:Int))=false:=by simp;omega
     have HR:Hid (okc l[k]=true):=by show _=_;rw [←HX.out,HK.out];simp;omega
     clear h1 h2
     go_wp2_with fail
     go_roundg (N-(k+1))
     case rel=>exact ⟨k+1,by go_num,by omega,rfl,by rw [HT.out,HAll.out,HR.out];rfl,rfl⟩
     case measure=>have:=HG.out;omega
  ·obtain rfl:k=N:=by omega
   have HT:Hid (l.all okc=true):=by show _=_;have:=HAll.out;rwa [List.take_of_length_le (by rw [HL.out];omega)] at this
   by_cases h0:k=0
   ·subst h0
    go_wp2_with fail
    go_ret
    exact ⟨by rw [HE.out,HT.out];rfl,rfl⟩
   ·have t1:decide ((1:Int)≤(k:Int))=true:=by simp;omega
    have HF:Hid (decide ((k:Int)≤24)=nameB s):=by
     have e2:decide (1≤k)=true:=by simp;omega
     have e3:decide ((k:Int)≤24)=decide (k≤24):=by rw [decide_eq_decide];omega
     show _=_
     rw [HE.out,HT.out,e2,e3];rfl
    clear h0
    go_wp2_with fail
    go_ret
    exact ⟨by rw [←HF.out];rfl,rfl⟩
end Name
set_option maxRecDepth 100000
set_option maxHeartbeats 1000000
namespace Name
open KeyP PackP Vari SetW
def mayN (x:Sn):Int:=if mayB x then 0 else 1
theorem mayN_ok {x:Sn} (h:May x):mayN x=0:=by unfold mayN;rw [may_iff.2 h];rfl
theorem mayN_no {x:Sn} (h:¬May x):mayN x=1:=by
 unfold mayN
 have:mayB x=false:=by
  cases hb:mayB x with
  |false=>rfl
  |true=>exact absurd (may_iff.1 hb) h
 rw [this];rfl
theorem May_ (x:Sn) (hx:x.ok) (w:World):Calls prog 41 #[x.v] w fun e w'=>e=.returned (.int .i64 (mayN x))∧Fr (fun _=>False) w w':=by
 obtain ⟨t,i,p,r,s,o,b,d,g⟩:=x
 have H1:=Lib.hid (fun W:World=>named s hx.s W)
 have H2:=Lib.hid (fun W:World=>named o hx.o W)
 have HA:=Lib.hid (At.box (Bk.new w (Sn.arr ⟨t,i,p,r,s,o,b,d,g⟩) TSn))
 have HF:=Lib.hid (Fr.alloc (fun _=>False) w (.cells (Sn.arr ⟨t,i,p,r,s,o,b,d,g⟩) TSn))
 clear hx
 have hm:True:=trivial
 by_cases k0:0<t
 case neg=>
  have t0:decide (0<t)=false:=by simp;omega
  have HE:=Lib.hid (mayN_no (x:=⟨t,i,p,r,s,o,b,d,g⟩) (fun h=>k0 h.t))
  clear hm
  go_enter func41,ntmps41
  go_wp2_with fail
  go_ret
  exact ⟨by rw [HE.out];rfl,HF.out⟩
 have t0:decide (0<t)=true:=by simp;omega
 by_cases k1:0<i
 case neg=>
  have t1:decide (0<i)=false:=by simp;omega
  have HE:=Lib.hid (mayN_no (x:=⟨t,i,p,r,s,o,b,d,g⟩) (fun h=>k1 h.i))
  clear hm
  go_enter func41,ntmps41
  go_wp2_with fail
  go_ret
  exact ⟨by rw [HE.out];rfl,HF.out⟩
 have t1:decide (0<i)=true:=by simp;omega
 by_cases k2:0≤p
 case neg=>
  have t2:decide (0≤p)=false:=by simp;omega
  have HE:=Lib.hid (mayN_no (x:=⟨t,i,p,r,s,o,b,d,g⟩) (fun h=>k2 h.p))
  clear hm
  go_enter func41,ntmps41
  go_wp2_with fail
  go_ret
  exact ⟨by rw [HE.out];rfl,HF.out⟩
 have t2:decide (0≤p)=true:=by simp;omega
 by_cases k3:0≤r
 case neg=>
  have t3:decide (0≤r)=false:=by simp;omega
  have HE:=Lib.hid (mayN_no (x:=⟨t,i,p,r,s,o,b,d,g⟩) (fun h=>k3 h.r))
  clear hm
  go_enter func41,ntmps41
  go_wp2_with fail
  go_ret
  exact ⟨by rw [HE.out];rfl,HF.out⟩
 have t3:decide (0≤r)=true:=by simp;omega
 by_cases n0:nameB s=true
 case neg=>
  have n0':nameB s=false:=by simpa using n0
  have HE:=Lib.hid (mayN_no (x:=⟨t,i,p,r,s,o,b,d,g⟩) (fun h=>n0 h.s))
  clear hm
  go_enter func41,ntmps41
  go_wp2_with fail
  refine (H1.out _).mono ?_
  rintro e w1 ⟨rfl,hb⟩
  have HA1:=Lib.hid (HA.out.fr (Fr.of_below' hb (fun _=>False)) (fun h=>h))
  have HF1:=Lib.hid (HF.out.trans (Fr.of_below' hb (fun _=>False)) (T:=fun _=>False) (fun _ _ h=>h) (fun _ _ h=>h))
  clear hb
  have c1_5:w1.cell? ⟨w.heap.size,5,none⟩=some (.string o):=HA1.out 5 _ rfl
  have c1_6:w1.cell? ⟨w.heap.size,6,none⟩=some (.int .i64 b):=HA1.out 6 _ rfl
  go_wp2_with fail
  go_ret
  exact ⟨by rw [HE.out];rfl,HF1.out⟩
 by_cases n1:nameB o=true
 case neg=>
  have n1':nameB o=false:=by simpa using n1
  have HE:=Lib.hid (mayN_no (x:=⟨t,i,p,r,s,o,b,d,g⟩) (fun h=>n1 h.o))
  clear hm
  go_enter func41,ntmps41
  go_wp2_with fail
  refine (H1.out _).mono ?_
  rintro e w1 ⟨rfl,hb⟩
  have HA1:=Lib.hid (HA.out.fr (Fr.of_below' hb (fun _=>False)) (fun h=>h))
  have HF1:=Lib.hid (HF.out.trans (Fr.of_below' hb (fun _=>False)) (T:=fun _=>False) (fun _ _ h=>h) (fun _ _ h=>h))
  clear hb
  have c1_5:w1.cell? ⟨w.heap.size,5,none⟩=some (.string o):=HA1.out 5 _ rfl
  have c1_6:w1.cell? ⟨w.heap.size,6,none⟩=some (.int .i64 b):=HA1.out 6 _ rfl
  go_wp2_with fail
  refine (H2.out _).mono ?_
  rintro e w2 ⟨rfl,hb⟩
  have HA2:=Lib.hid (HA1.out.fr (Fr.of_below' hb (fun _=>False)) (fun h=>h))
  have HF2:=Lib.hid (HF1.out.trans (Fr.of_below' hb (fun _=>False)) (T:=fun _=>False) (fun _ _ h=>h) (fun _ _ h=>h))
  clear hb
  have c2_6:w2.cell? ⟨w.heap.size,6,none⟩=some (.int .i64 b):=HA2.out 6 _ rfl
  go_wp2_with fail
  go_ret
  exact ⟨by rw [HE.out];rfl,HF2.out⟩
 by_cases k4: -4611686018427387904≤b
 case neg=>
  have t4:decide (b< -4611686018427387904)=true:=by simp;omega
  have HE:=Lib.hid (mayN_no (x:=⟨t,i,p,r,s,o,b,d,g⟩) (fun h=>k4 h.b1))
  clear hm
  go_enter func41,ntmps41
  go_wp2_with fail
  refine (H1.out _).mono ?_
  rintro e w1 ⟨rfl,hb⟩
  have HA1:=Lib.hid (HA.out.fr (Fr.of_below' hb (fun _=>False)) (fun h=>h))
  have HF1:=Lib.hid (HF.out.trans (Fr.of_below' hb (fun _=>False)) (T:=fun _=>False) (fun _ _ h=>h) (fun _ _ h=>h))
  clear hb
  have c1_5:w1.cell? ⟨w.heap.size,5,none⟩=some (.string o):=HA1.out 5 _ rfl
  have c1_6:w1.cell? ⟨w.heap.size,6,none⟩=some (.int .i64 b):=HA1.out 6 _ rfl
  go_wp2_with fail
  refine (H2.out _).mono ?_
  rintro e w2 ⟨rfl,hb⟩
  have HA2:=Lib.hid (HA1.out.fr (Fr.of_below' hb (fun _=>False)) (fun h=>h))
  have HF2:=Lib.hid (HF1.out.trans (Fr.of_below' hb (fun _=>False)) (T:=fun _=>False) (fun _ _ h=>h) (fun _ _ h=>h))
  clear hb
  have c2_6:w2.cell? ⟨w.heap.size,6,none⟩=some (.int .i64 b):=HA2.out 6 _ rfl
  go_wp2_with fail
  go_ret
  exact ⟨by rw [HE.out];rfl,HF2.out⟩
 have t4:decide (b< -4611686018427387904)=false:=by simp;omega
 by_cases k5:b<4611686018427387904
 case neg=>
  have t5:decide (4611686018427387903<b)=true:=by simp;omega
  have HE:=Lib.hid (mayN_no (x:=⟨t,i,p,r,s,o,b,d,g⟩) (fun h=>k5 h.b2))
  clear hm
  go_enter func41,ntmps41
  go_wp2_with fail
  refine (H1.out _).mono ?_
  rintro e w1 ⟨rfl,hb⟩
  have HA1:=Lib.hid (HA.out.fr (Fr.of_below' hb (fun _=>False)) (fun h=>h))
  have HF1:=Lib.hid (HF.out.trans (Fr.of_below' hb (fun _=>False)) (T:=fun _=>False) (fun _ _ h=>h) (fun _ _ h=>h))
  clear hb
  have c1_5:w1.cell? ⟨w.heap.size,5,none⟩=some (.string o):=HA1.out 5 _ rfl
  have c1_6:w1.cell? ⟨w.heap.size,6,none⟩=some (.int .i64 b):=HA1.out 6 _ rfl
  go_wp2_with fail
  refine (H2.out _).mono ?_
  rintro e w2 ⟨rfl,hb⟩
  have HA2:=Lib.hid (HA1.out.fr (Fr.of_below' hb (fun _=>False)) (fun h=>h))
  have HF2:=Lib.hid (HF1.out.trans (Fr.of_below' hb (fun _=>False)) (T:=fun _=>False) (fun _ _ h=>h) (fun _ _ h=>h))
  clear hb
  have c2_6:w2.cell? ⟨w.heap.size,6,none⟩=some (.int .i64 b):=HA2.out 6 _ rfl
  go_wp2_with fail
  go_ret
  exact ⟨by rw [HE.out];rfl,HF2.out⟩
 have t5:decide (4611686018427387903<b)=false:=by simp;omega
 have hmay:May ⟨t,i,p,r,s,o,b,d,g⟩:=⟨k0,k1,k2,k3,n0,n1,k4,k5⟩
 have HE:=Lib.hid (mayN_ok hmay)
 clear hm
 go_enter func41,ntmps41
 go_wp2_with fail
 refine (H1.out _).mono ?_
 rintro e w1 ⟨rfl,hb⟩
 have HA1:=Lib.hid (HA.out.fr (Fr.of_below' hb (fun _=>False)) (fun h=>h))
 have HF1:=Lib.hid (HF.out.trans (Fr.of_below' hb (fun _=>False)) (T:=fun _=>False) (fun _ _ h=>h) (fun _ _ h=>h))
 clear hb
 have c1_5:w1.cell? ⟨w.heap.size,5,none⟩=some (.string o):=HA1.out 5 _ rfl
 have c1_6:w1.cell? ⟨w.heap.size,6,none⟩=some (.int .i64 b):=HA1.out 6 _ rfl
 go_wp2_with fail
 refine (H2.out _).mono ?_
 rintro e w2 ⟨rfl,hb⟩
 have HA2:=Lib.hid (HA1.out.fr (Fr.of_below' hb (fun _=>False)) (fun h=>h))
 have HF2:=Lib.hid (HF1.out.trans (Fr.of_below' hb (fun _=>False)) (T:=fun _=>False) (fun _ _ h=>h) (fun _ _ h=>h))
 clear hb
 have c2_6:w2.cell? ⟨w.heap.size,6,none⟩=some (.int .i64 b):=HA2.out 6 _ rfl
 go_wp2_with fail
 go_ret
 exact ⟨by rw [HE.out];rfl,HF2.out⟩
theorem RefMay (x:Sn) (hx:x.ok) (w:World):Calls prog 46 #[x.v] w fun e w'=>e=.returned (.int .i64 (mayN x))∧Fr (fun _=>False) w w':=by
 obtain ⟨t,i,p,r,s,o,b,d,g⟩:=x
 have H1:=Lib.hid (fun W:World=>RefName s hx.s W)
 have H2:=Lib.hid (fun W:World=>RefName o hx.o W)
 have HA:=Lib.hid (At.box (Bk.new w (Sn.arr ⟨t,i,p,r,s,o,b,d,g⟩) TSn))
 have HF:=Lib.hid (Fr.alloc (fun _=>False) w (.cells (Sn.arr ⟨t,i,p,r,s,o,b,d,g⟩) TSn))
 clear hx
 have hm:True:=trivial
 by_cases k0:0<t
 case neg=>
  have t0:decide (t<1)=true:=by simp;omega
  have HE:=Lib.hid (mayN_no (x:=⟨t,i,p,r,s,o,b,d,g⟩) (fun h=>k0 h.t))
  clear hm
  go_enter func46,ntmps46
  go_wp2_with fail
  go_ret
  exact ⟨by rw [HE.out];rfl,HF.out⟩
 have t0:decide (t<1)=false:=by simp;omega
 by_cases k1:0<i
 case neg=>
  have t1:decide (i<1)=true:=by simp;omega
  have HE:=Lib.hid (mayN_no (x:=⟨t,i,p,r,s,o,b,d,g⟩) (fun h=>k1 h.i))
  clear hm
  go_enter func46,ntmps46
  go_wp2_with fail
  go_ret
  exact ⟨by rw [HE.out];rfl,HF.out⟩
 have t1:decide (i<1)=false:=by simp;omega
 by_cases k2:0≤p
 case neg=>
  have t2:decide (p<0)=true:=by simp;omega
  have HE:=Lib.hid (mayN_no (x:=⟨t,i,p,r,s,o,b,d,g⟩) (fun h=>k2 h.p))
  clear hm
  go_enter func46,ntmps46
  go_wp2_with fail
  go_ret
  exact ⟨by rw [HE.out];rfl,HF.out⟩
 have t2:decide (p<0)=false:=by simp;omega
 by_cases k3:0≤r
 case neg=>
  have t3:decide (r<0)=true:=by simp;omega
  have HE:=Lib.hid (mayN_no (x:=⟨t,i,p,r,s,o,b,d,g⟩) (fun h=>k3 h.r))
  clear hm
  go_enter func46,ntmps46
  go_wp2_with fail
  go_ret
  exact ⟨by rw [HE.out];rfl,HF.out⟩
 have t3:decide (r<0)=false:=by simp;omega
 by_cases n0:nameB s=true
 case neg=>
  have n0':nameB s=false:=by simpa using n0
  have HE:=Lib.hid (mayN_no (x:=⟨t,i,p,r,s,o,b,d,g⟩) (fun h=>n0 h.s))
  clear hm
  go_enter func46,ntmps46
  go_wp2_with fail
  refine (H1.out _).mono ?_
  rintro e w1 ⟨rfl,rfl⟩
  go_wp2_with fail
  go_ret
  exact ⟨by rw [HE.out];rfl,HF.out⟩
 by_cases n1:nameB o=true
 case neg=>
  have n1':nameB o=false:=by simpa using n1
  have HE:=Lib.hid (mayN_no (x:=⟨t,i,p,r,s,o,b,d,g⟩) (fun h=>n1 h.o))
  clear hm
  go_enter func46,ntmps46
  go_wp2_with fail
  refine (H1.out _).mono ?_
  rintro e w1 ⟨rfl,rfl⟩
  go_wp2_with fail
  refine (H2.out _).mono ?_
  rintro e w2 ⟨rfl,rfl⟩
  go_wp2_with fail
  go_ret
  exact ⟨by rw [HE.out];rfl,HF.out⟩
 by_cases k4: -4611686018427387904≤b
 case neg=>
  have t4:decide (b< -4611686018427387904)=true:=by simp;omega
  have HE:=Lib.hid (mayN_no (x:=⟨t,i,p,r,s,o,b,d,g⟩) (fun h=>k4 h.b1))
  clear hm
  go_enter func46,ntmps46
  go_wp2_with fail
  refine (H1.out _).mono ?_
  rintro e w1 ⟨rfl,rfl⟩
  go_wp2_with fail
  refine (H2.out _).mono ?_
  rintro e w2 ⟨rfl,rfl⟩
  go_wp2_with fail
  go_ret
  exact ⟨by rw [HE.out];rfl,HF.out⟩
 have t4:decide (b< -4611686018427387904)=false:=by simp;omega
 by_cases k5:b<4611686018427387904
 case neg=>
  have t5:decide (4611686018427387904≤b)=true:=by simp;omega
  have HE:=Lib.hid (mayN_no (x:=⟨t,i,p,r,s,o,b,d,g⟩) (fun h=>k5 h.b2))
  clear hm
  go_enter func46,ntmps46
  go_wp2_with fail
  refine (H1.out _).mono ?_
  rintro e w1 ⟨rfl,rfl⟩
  go_wp2_with fail
  refine (H2.out _).mono ?_
  rintro e w2 ⟨rfl,rfl⟩
  go_wp2_with fail
  go_ret
  exact ⟨by rw [HE.out];rfl,HF.out⟩
 have t5:decide (4611686018427387904≤b)=false:=by simp;omega
 have hmay:May ⟨t,i,p,r,s,o,b,d,g⟩:=⟨k0,k1,k2,k3,n0,n1,k4,k5⟩
 have HE:=Lib.hid (mayN_ok hmay)
 clear hm
 go_enter func46,ntmps46
 go_wp2_with fail
 refine (H1.out _).mono ?_
 rintro e w1 ⟨rfl,rfl⟩
 go_wp2_with fail
 refine (H2.out _).mono ?_
 rintro e w2 ⟨rfl,rfl⟩
 go_wp2_with fail
 go_ret
 exact ⟨by rw [HE.out];rfl,HF.out⟩
end Name
set_option maxRecDepth 100000
set_option maxHeartbeats 2000000
namespace Pack
open KeyP PackP Vari
abbrev TW:TypeId:=153
abbrev TSB:TypeId:=151
theorem sizeSB:(prog.info? TSB).map (·.size)=some 2:=by kernel_rfl
theorem liesSB:liesAt prog prog.depth TW (2 / prog.cellsOf TW) 0 TSB 1=true:=by kernel_rfl
theorem bk_shape {w:World} {b:Nat} {p v:Value} (h:Bk w b #[p,v] TW):w.shape? b=some (TW,2):=by
 unfold Bk at h
 simp [World.shape?,h]
theorem used (b:Nat) (v:Value) (w:World) (h:Bk w b #[.pointer (some ⟨b,0,none⟩),v] TW):Calls prog 142 #[.pointer (some ⟨b,0,none⟩)] w fun e w'=>e=.returned (.tuple #[])∧w=w':=by
 obtain ⟨j,hj,_⟩:=Option.map_eq_some_iff.1 sizeSB
 have h0:=h.cell 0
 have hn:=Lib.run_neq_ptr_same (P:=prog) w ⟨b,0,none⟩ underlying149 hj
 go_enter func142,ntmps142
 go_wp2_with fail
 go_end0
 exact ⟨rfl,rfl⟩
theorem fresh (b:Nat) (v:Value) (w:World) (h:Bk w b #[.pointer none,v] TW):Calls prog 142 #[.pointer (some ⟨b,0,none⟩)] w fun e w'=>e=.returned (.tuple #[])∧w.setCell ⟨b,0,none⟩ (.pointer (some ⟨b,0,none⟩))=w':=by
 obtain ⟨j,hj,hjs⟩:=Option.map_eq_some_iff.1 sizeSB
 have h0:=h.cell 0
 have hfz:=h.free 0
 have hsh:=bk_shape h
 have k1:=Lib.run_to_unsafe (P:=prog) w ⟨b,0,none⟩ underlying149 underlying176 hj (by rw [hjs];decide) hsh (by show 0<2;decide)
 have k2:=Lib.run_from_unsafe (P:=prog) w ⟨b,0,none⟩ underlying176 underlying149 hj hsh liesSB
 go_enter func142,ntmps142
 go_wp2_with fail
 rw [run_callFunc_extern func143 (by kernel_rfl) (by kernel_rfl) (by kernel_rfl) (e:=Extern.AbiNoEscape.same) (by kernel_rfl)]
 rw [Lib.run_noEscape]
 simp only [Result.andThen]
 rw [Oper.upon_value]
 go_wp2_with fail
 go_end0
 exact ⟨rfl,rfl⟩
def KS (w w':World):Prop:=∀B a,Bk w B a SetW.TSn→Bk w' B a SetW.TSn
theorem KS.trans {w w' w'':World} (h:KS w w') (h':KS w' w''):KS w w'':=fun B a hb=>h' B a (h B a hb)
theorem KS.fr {w w':World} (h:Fr (fun _=>False) w w'):KS w w':=fun _ _ hb=>hb.fr h (fun _ _ h=>h)
theorem bk_ty {w:World} {b b':Nat} {c c':Array Value} {t t':TypeId} (h:Bk w b c t) (h':Bk w b' c' t') (ht:t≠t'):b≠b':=fun e=>by
 subst e
 unfold Bk at h h'
 rw [h] at h'
 simp at h'
 exact ht h'.2
def WS (w:World) (b:Nat) (l:List UInt8):Prop:=∃p v,(p=Value.pointer none∨p=.pointer (some ⟨b,0,none⟩))∧Bk w b #[p,v] TW∧w.ownsRow (b+1) TB 1 v l.length (l.map bc)
theorem WS.fr {S:Nat→Prop} {w w':World} {b:Nat} {l:List UInt8} (h:WS w b l) (hf:Fr S w w') (hs:∀k,b≤k→¬S k):WS w' b l:=by
 obtain ⟨p,v,hp,hb,ho⟩:=h
 exact ⟨p,v,hp,hb.fr hf (fun k hk=>by simp at hk;subst hk;exact hs k (Nat.le_refl _)),ownsRow_fr ho hf (fun k hk=>hs k (by have:=(ownsRow_blk ho k hk).1;omega))⟩
theorem WS.lt {w:World} {b:Nat} {l:List UInt8} (h:WS w b l):b<w.heap.size:=by
 obtain ⟨p,v,hp,hb,ho⟩:=h
 exact lt_of_heap hb
theorem WS.new (w:World):WS (w.alloc (.cells #[.pointer none,.slice none 0 0] TW)) w.heap.size []:=⟨_,_,.inl rfl,Bk.new _ _ _,World.ownsRow_nil _ _ _ _⟩
theorem check {w:World} {b:Nat} {p v:Value} (hp:p=Value.pointer none∨p=.pointer (some ⟨b,0,none⟩)) (h:Bk w b #[p,v] TW):Calls prog 142 #[.pointer (some ⟨b,0,none⟩)] w fun e w'=>e=.returned (.tuple #[])∧Bk w' b #[.pointer (some ⟨b,0,none⟩),v] TW∧Fr (fun k=>k=b) w w':=by
 rcases hp with rfl|rfl
 ·refine (fresh b v w h).mono ?_
  rintro e w' ⟨rfl,rfl⟩
  exact ⟨rfl,h.set 0 _,Fr.setCell w ⟨b,0,none⟩ _ rfl⟩
 ·refine (used b v w h).mono ?_
  rintro e w' ⟨rfl,rfl⟩
  exact ⟨rfl,h,Fr.refl _ _⟩
theorem WS.put {w w1 w2:World} {b:Nat} {v v2:Value} {l:List UInt8} {s:ByteArray} (hb:Bk w1 b #[.pointer (some ⟨b,0,none⟩),v] TW) (ho:w1.ownsRow (b+1) TB 1 v l.length (l.map bc)) (hf:Below b w w1) (hsz:w.heap.size≤w1.heap.size) (hbl:b<w.heap.size)
  (ho2:w2.ownsRow (b+1) TB 1 v2 (l.length+s.size) (l.map bc++Lib.strCells s)) (hg:w1.grownBy w2 v.ownBlock):WS (w2.setCell ⟨b,1,none⟩ v2) b (l++s.data.toList)∧Below b w (w2.setCell ⟨b,1,none⟩ v2)∧KS w1 (w2.setCell ⟨b,1,none⟩ v2):=by
 have f1:Fr (fun k=>v.ownBlock=some k) w1 w2:=Fr.grown hg (fun k h=>h)
 have hb2:Bk w2 b #[.pointer (some ⟨b,0,none⟩),v] TW:=hb.fr f1 (fun k hk e=>by simp at hk;subst hk;have:=(ownsRow_blk ho k e).1;omega)
 have f2:Fr (fun k=>k=b) w2 (w2.setCell ⟨b,1,none⟩ v2):=Fr.setCell w2 ⟨b,1,none⟩ _ rfl
 have hl:(l++s.data.toList).length=l.length+s.size:=by rw [List.length_append];simp
 refine ⟨⟨_,v2,.inr rfl,hb2.set 1 v2,?_⟩,?_,fun B a hB=>?_⟩
 ·rw [hl,List.map_append]
  exact ownsRow_fr ho2 f2 (fun k hk e=>by have:=(ownsRow_blk ho2 k hk).1;omega)
 ·refine hf.trans ((f1.below (B:=b) (by omega) (fun k hk e=>by have:=(ownsRow_blk ho k e).1;omega)).trans (f2.below (B:=b) (by have:=f1.size;omega) (fun k hk e=>by omega)))
 ·have h1:Bk w2 B a SetW.TSn:=hB.fr f1 (fun k hk e=>by
   simp at hk;subst hk
   obtain ⟨-,-,c,hc⟩:=ownsRow_blk ho k e
   exact bk_ty (t:=SetW.TSn) (t':=TB) hB hc (by decide) rfl)
  exact h1.fr f2 (fun k hk e=>by simp at hk;subst hk;exact bk_ty (t:=SetW.TSn) (t':=TW) h1 hb2 (by decide) e)
theorem WriteString (b:Nat) (l:List UInt8) (s:ByteArray) (w:World) (h:WS w b l) (hlen:l.length+s.size≤1000000):
  Calls prog 140 #[.pointer (some ⟨b,0,none⟩),.string s] w fun e w'=>(∃r,e=.returned r)∧WS w' b (l++s.data.toList)∧Below b w w'∧KS w w':=by
 obtain ⟨i0,hi,hz0,hz1,hz2⟩:=info_partsB infoB
 obtain ⟨p,v,hp,hb,ho⟩:=h
 have HC:=Lib.hid (check hp hb)
 have HO:=Lib.hid ho
 have HBl:=Lib.hid (lt_of_heap hb)
 have HW:=Lib.hid hb
 clear hp hb ho
 go_enter func140,ntmps140
 go_wp2_with fail
 refine HC.out.mono ?_
 rintro e w1 ⟨rfl,hb1,hf1⟩
 have HB:=Lib.hid hb1
 have c1:w1.cell? ⟨b,1,none⟩=some v:=hb1.cell 1
 have ho1:=ownsRow_fr HO.out hf1 (fun k hk e=>by have:=(ownsRow_blk HO.out k hk).1;omega)
 have HO1:=Lib.hid ho1
 have HF:=Lib.hid (hf1.below (B:=b) (Nat.le_of_lt HBl.out) (fun k hk e=>by omega))
 have hsz:=hf1.size
 have hbl:=HBl.out
 have HK:Hid (KS w w1):=fun B a hB=>hB.fr hf1 (fun k hk e=>by simp at hk;subst hk;exact bk_ty (t:=SetW.TSn) (t':=TW) hB HW.out (by decide) e)
 clear hb1 hf1
 go_wp2_with (at_builtin;refine Lib.wpList_append_own_string w1 rfl (.tmp 12) (.tmp 13) TBs 9 rfl (b+1) TB i0 underlying131 underlying9 hi hz0 hz1 hz2 _ _ _ rfl ho1 _ rfl ?_ ?_ ?_ ?_)
 ·unfold maxLen;omega
 ·omega
 ·omega
 intro v2 w2 ho2 hg2 _
 have HN:=Lib.hid (WS.put HB.out HO1.out HF.out hsz hbl ho2 hg2)
 have hb2:Bk w2 b #[.pointer (some ⟨b,0,none⟩),v] TW:=HB.out.fr (Fr.grown hg2 (S:=fun k=>v.ownBlock=some k) (fun k h=>h)) (fun k hk e=>by simp at hk;subst hk;have:=(ownsRow_blk HO1.out k e).1;omega)
 have c1':w2.cell? ⟨b,1,none⟩=some v:=hb2.cell 1
 have f1':=hb2.free 1
 obtain ⟨A2,c2,rfl,-,-⟩:=Sl.of_own ho2
 clear ho2 hg2 ho1 hb2 c1 hsz hbl
 go_wp2_with fail
 go_ret2
 exact ⟨⟨_,rfl⟩,HN.out.1,HN.out.2.1,HK.out.trans HN.out.2.2⟩
abbrev PostW (w:World) (b:Nat) (l:List UInt8) (e:Ending) (w':World):Prop:=e=.returned (.tuple #[])∧WS w' b l∧Below b w w'∧KS w w'
theorem put (b:Nat) (l:List UInt8) (s:ByteArray) (w:World) (h:WS w b l) (hlen:l.length+s.size≤1000000):
  Calls prog 135 #[.pointer (some ⟨b,0,none⟩),.string s] w (PostW w b (l++s.data.toList)):=by
 have HC:=Lib.hid (WriteString b l s w h hlen)
 clear h
 go_enter func135,ntmps135
 go_wp2_with fail
 refine HC.out.mono ?_
 rintro e w1 ⟨⟨r,rfl⟩,h1,h2,h3⟩
 have H1:=Lib.hid h1;have H2:=Lib.hid h2;have H3:=Lib.hid h3
 clear h1 h2 h3
 go_wp2_with fail
 go_end0
 exact ⟨rfl,H1.out,H2.out,H3.out⟩
theorem ks_cat (l m:List UInt8):l++(ks m).data.toList=l++m:=by rw [ks_data]
theorem Num (b:Nat) (l:List UInt8) {n:Int} (hn:in64 n) (w:World) (h:WS w b l) (hlen:l.length≤1000):
  Calls prog 126 #[.pointer (some ⟨b,0,none⟩),.int .i64 n] w (PostW w b (l++nb n)):=by
 have H1:=Lib.hid (Vari.Put hn w)
 have HS:=Lib.hid h
 have HL:=nb_len hn
 have hs:=ks_size (nb n)
 have HP:=Lib.hid (fun (w1:World) (h1:WS w1 b l)=>put b l (ks (nb n)) w1 h1 (by rw [ks_size];omega))
 rw [ks_cat] at HP
 generalize nb n=V at *
 clear h hlen HL hs
 go_enter func126,ntmps126
 go_wp2_with fail
 refine H1.out.mono ?_
 rintro e w1 ⟨rfl,hb⟩
 have HF:=Lib.hid (Fr.of_below' hb (fun _=>False))
 clear hb
 go_wp2_with fail
 refine (HP.out _ (HS.out.fr HF.out (fun _ _ h=>h))).mono ?_
 rintro e w2 ⟨rfl,h1,h2,h3⟩
 have H1:=Lib.hid h1;have H2:=Lib.hid ((HF.out.below (B:=b) (Nat.le_of_lt HS.out.lt) (fun _ _ h=>h)).trans h2);have H3:=Lib.hid ((KS.fr HF.out).trans h3)
 clear h1 h2 h3
 go_wp2_with fail
 go_end0
 exact ⟨rfl,H1.out,H2.out,H3.out⟩
theorem Signed (b:Nat) (l:List UInt8) {n:Int} (hn:in64 n) (w:World) (h:WS w b l) (hlen:l.length≤1000):
  Calls prog 128 #[.pointer (some ⟨b,0,none⟩),.int .i64 n] w (PostW w b (l++vb (zz n))):=by
 have H1:=Lib.hid (Vari.PutSigned hn w)
 have HS:=Lib.hid h
 have HL:=vb_len10 (zz_lt hn)
 have hs:=ks_size (vb (zz n))
 have HP:=Lib.hid (fun (w1:World) (h1:WS w1 b l)=>put b l (ks (vb (zz n))) w1 h1 (by rw [ks_size];omega))
 rw [ks_cat] at HP
 generalize vb (zz n)=V at *
 clear h hlen HL hs
 go_enter func128,ntmps128
 go_wp2_with fail
 refine H1.out.mono ?_
 rintro e w1 ⟨rfl,hb⟩
 have HF:=Lib.hid (Fr.of_below' hb (fun _=>False))
 clear hb
 go_wp2_with fail
 refine (HP.out _ (HS.out.fr HF.out (fun _ _ h=>h))).mono ?_
 rintro e w2 ⟨rfl,h1,h2,h3⟩
 have H1:=Lib.hid h1;have H2:=Lib.hid ((HF.out.below (B:=b) (Nat.le_of_lt HS.out.lt) (fun _ _ h=>h)).trans h2);have H3:=Lib.hid ((KS.fr HF.out).trans h3)
 clear h1 h2 h3
 go_wp2_with fail
 go_end0
 exact ⟨rfl,H1.out,H2.out,H3.out⟩
theorem Text (b:Nat) (l:List UInt8) (s:ByteArray) (hs:s.size≤1000) (w:World) (h:WS w b l) (hlen:l.length≤1000):
  Calls prog 127 #[.pointer (some ⟨b,0,none⟩),.string s] w (PostW w b (l++tb s)):=by
 have hin:in64 (s.size:Int):=by unfold in64;omega
 have H1:=Lib.hid (Vari.Put hin w)
 have HS:=Lib.hid h
 have HL:=nb_len hin
 have hks:=ks_size (nb (s.size:Int))
 have HE:Hid (l++(ks (nb (s.size:Int))++s).data.toList=l++tb s):=by
  show _=_
  unfold tb
  rw [nb_ge (by omega),ByteArray.data_append,Array.toList_append];rfl
 have HP:=Lib.hid (fun (w1:World) (h1:WS w1 b l)=>put b l (ks (nb (s.size:Int))++s) w1 h1 (by rw [ByteArray.size_append,ks_size];omega))
 rw [HE.out] at HP
 generalize ks (nb (s.size:Int))=V at *
 clear h hlen HE hin
 go_enter func127,ntmps127
 go_wp2_with fail
 refine H1.out.mono ?_
 rintro e w1 ⟨rfl,hb⟩
 have HF:=Lib.hid (Fr.of_below' hb (fun _=>False))
 clear hb
 go_wp2_with fail
 refine (HP.out _ (HS.out.fr HF.out (fun _ _ h=>h))).mono ?_
 rintro e w2 ⟨rfl,h1,h2,h3⟩
 have H1:=Lib.hid h1;have H2:=Lib.hid ((HF.out.below (B:=b) (Nat.le_of_lt HS.out.lt) (fun _ _ h=>h)).trans h2);have H3:=Lib.hid ((KS.fr HF.out).trans h3)
 clear h1 h2 h3
 go_wp2_with fail
 go_end0
 exact ⟨rfl,H1.out,H2.out,H3.out⟩
theorem Flag (b:Nat) (l:List UInt8) (g:Bool) (w:World) (h:WS w b l) (hlen:l.length≤1000):
  Calls prog 129 #[.pointer (some ⟨b,0,none⟩),.bool g] w (PostW w b (l++gb g)):=by
 have hz:∀c:UInt8,(⟨#[c]⟩:ByteArray).size=1:=fun _=>rfl
 have HP:=Lib.hid (fun c:UInt8=>put b l ⟨#[c]⟩ w h (by rw [hz];omega))
 clear h
 cases g
 all_goals
  go_enter func129,ntmps129
  go_wp2_with fail
  refine (HP.out _).mono ?_
  rintro e w2 ⟨rfl,h1,h2,h3⟩
  have H1:=Lib.hid h1;have H2:=Lib.hid h2;have H3:=Lib.hid h3
  clear h1 h2 h3
  go_wp2_with fail
  go_end0
  exact ⟨rfl,H1.out,H2.out,H3.out⟩
theorem String (b:Nat) (l:List UInt8) (w:World) (h:WS w b l) (hne:l≠ []) (hlen:l.length≤1000000):
  Calls prog 130 #[.pointer (some ⟨b,0,none⟩)] w fun e w'=>e=.returned (.string (ks l))∧Below b w w':=by
 obtain ⟨p,v,hp,hb,ho⟩:=h
 obtain ⟨g,cap,cur,rfl,hbg,hg,hnc,hcm,hcs,htake⟩:∃g cap cur,v=.slice (some ⟨g,0,none⟩) l.length cap∧b+1≤g∧w.heap[g]? =some (.cells cur TB (0,0))∧l.length≤cap∧cap≤maxLen∧cur.size=cap*1∧cur.toList.take (l.length*1)=l.map bc:=by
  rcases ho.2 with ⟨_,hz⟩| ⟨g,cap,cur,hv,r⟩
  ·exact absurd (List.eq_nil_of_length_eq_zero hz) hne
  ·exact ⟨g,cap,cur,hv,r⟩
 have c1:w.drew.cell? ⟨b,1,none⟩=some (.slice (some ⟨g,0,none⟩) l.length cap):=hb.cell 1
 have hl0:l.length≠0:=by simpa using hne
 have hSD:(Builtin.unsafeSliceData_ #[TBs] 169 #[.slice (some ⟨g,0,none⟩) l.length cap]).run prog w.drew=.ok (.pointer (some ⟨g,0,none⟩)) w.drew:=Lib.run_unsafeSliceData_row _ _ _ _ _ _ (by omega)
 have hUS:(Builtin.unsafeString_ #[169,3] 9 #[.pointer (some ⟨g,0,none⟩),.int .i64 l.length]).run prog w.drew=.ok (.string ⟨l.toArray⟩) (w.drew.freeze ⟨g,0,none⟩ l.length):=by
  refine Lib.run_unsafeString_row w.drew 169 3 9 TB underlying169 (by kernel_rfl) g cur.size (by have hg':w.drew.heap[g]? =some (.cells cur TB (0,0)):=hg;simp [World.shape?,hg']) l hne (by omega) (by omega) ?_
  intro j x hx
  exact World.ownsRow.cells ho (g:=g) rfl j (.int .u8 x.toNat) (by simp [hx])
 rw [show (⟨l.toArray⟩:ByteArray)=ks l from rfl] at hUS
 generalize ks l=K at *
 generalize l.length=n at *
 have mixed:prog.follows Departure.mixedOrders=true:=by kernel_rfl
 go_enter func130,ntmps130
 go_wp2_with fail
 go_region_o
 all_goals (go_wp2;go_ret;exact ⟨rfl,Lib.below_freeze (Below.drew (Below.refl b w)) (p:=⟨g,0,none⟩) (by show b≤g;omega) _⟩)
theorem Bytes (b:Nat) (l:List UInt8) (w:World) (h:WS w b l) (hne:l≠ []) (hlen:l.length≤1000000):
  Calls prog 116 #[.pointer (some ⟨b,0,none⟩)] w fun e w'=>e=.returned (.string (ks l))∧Below b w w':=by
 have HC:=Lib.hid (String b l w h hne hlen)
 clear h hne hlen
 go_enter func116,ntmps116
 go_wp2_with fail
 refine HC.out.mono ?_
 rintro e w1 ⟨rfl,h1⟩
 have H1:=Lib.hid h1
 clear h1
 go_wp2_with fail
 go_ret
 exact ⟨rfl,H1.out⟩
end Pack
set_option maxRecDepth 100000
set_option maxHeartbeats 2000000
namespace Code_
open KeyP PackP Vari SetW Pack Name
theorem idx0 (t i p r:Int) (W:World):(Instr.index 165 (.agg #[.int .i64 t,.int .i64 i,.int .i64 p,.int .i64 r]) (.int .i64 0)).run prog W=.ok (.int .i64 t) W:=by kernel_rfl
theorem idx1 (t i p r:Int) (W:World):(Instr.index 165 (.agg #[.int .i64 t,.int .i64 i,.int .i64 p,.int .i64 r]) (.int .i64 1)).run prog W=.ok (.int .i64 i) W:=by kernel_rfl
theorem idx2 (t i p r:Int) (W:World):(Instr.index 165 (.agg #[.int .i64 t,.int .i64 i,.int .i64 p,.int .i64 r]) (.int .i64 2)).run prog W=.ok (.int .i64 p) W:=by kernel_rfl
theorem idx3 (t i p r:Int) (W:World):(Instr.index 165 (.agg #[.int .i64 t,.int .i64 i,.int .i64 p,.int .i64 r]) (.int .i64 3)).run prog W=.ok (.int .i64 r) W:=by kernel_rfl
theorem Write (x:Sn) (hx:x.ok) (hs:x.s.size≤24) (ho:x.o.size≤24) (bw:Nat) (w:World) (h:WS w bw []):Calls prog 115 #[.pointer (some ⟨bw,0,none⟩),x.v] w (PostW w bw (enc x)):=by
 obtain ⟨t,i,p,r,s,o,b,d,g⟩:=x
 have hs:s.size≤24:=hs
 have ho:o.size≤24:=ho
 have l0:(nb t).length≤10:=nb_len hx.t
 have l1:(nb i).length≤10:=nb_len hx.i
 have l2:(nb p).length≤10:=nb_len hx.p
 have l3:(nb r).length≤10:=nb_len hx.r
 have l4:=tb_len hs
 have l5:=tb_len ho
 have l6:(vb (zz b)).length≤10:=vb_len10 (zz_lt hx.b)
 have l7:(vb (zz d)).length≤10:=vb_len10 (zz_lt hx.d)
 have P0:=Lib.hid (fun (W:World) (hW:WS W bw ([]:List UInt8))=>Num bw ([]:List UInt8) (show in64 t from hx.t) W hW (by simp only [List.length_nil];omega))
 have P1:=Lib.hid (fun (W:World) (hW:WS W bw (([]:List UInt8)++nb t))=>Num bw (([]:List UInt8)++nb t) (show in64 i from hx.i) W hW (by simp only [List.length_append,List.length_nil];omega))
 have P2:=Lib.hid (fun (W:World) (hW:WS W bw ((([]:List UInt8)++nb t)++nb i))=>Num bw ((([]:List UInt8)++nb t)++nb i) (show in64 p from hx.p) W hW (by simp only [List.length_append,List.length_nil];omega))
 have P3:=Lib.hid (fun (W:World) (hW:WS W bw (((([]:List UInt8)++nb t)++nb i)++nb p))=>Num bw (((([]:List UInt8)++nb t)++nb i)++nb p) (show in64 r from hx.r) W hW (by simp only [List.length_append,List.length_nil];omega))
 have P4:=Lib.hid (fun (W:World) (hW:WS W bw ((((([]:List UInt8)++nb t)++nb i)++nb p)++nb r))=>Text bw ((((([]:List UInt8)++nb t)++nb i)++nb p)++nb r) s (by omega) W hW (by simp only [List.length_append,List.length_nil];omega))
 have P5:=Lib.hid (fun (W:World) (hW:WS W bw (((((([]:List UInt8)++nb t)++nb i)++nb p)++nb r)++tb s))=>Text bw (((((([]:List UInt8)++nb t)++nb i)++nb p)++nb r)++tb s) o (by omega) W hW (by simp only [List.length_append,List.length_nil];omega))
 have P6:=Lib.hid (fun (W:World) (hW:WS W bw ((((((([]:List UInt8)++nb t)++nb i)++nb p)++nb r)++tb s)++tb o))=>Signed bw ((((((([]:List UInt8)++nb t)++nb i)++nb p)++nb r)++tb s)++tb o) (show in64 b from hx.b) W hW (by simp only [List.length_append,List.length_nil];omega))
 have P7:=Lib.hid (fun (W:World) (hW:WS W bw (((((((([]:List UInt8)++nb t)++nb i)++nb p)++nb r)++tb s)++tb o)++vb (zz b)))=>Signed bw (((((((([]:List UInt8)++nb t)++nb i)++nb p)++nb r)++tb s)++tb o)++vb (zz b)) (show in64 d from hx.d) W hW (by simp only [List.length_append,List.length_nil];omega))
 have P8:=Lib.hid (fun (W:World) (hW:WS W bw ((((((((([]:List UInt8)++nb t)++nb i)++nb p)++nb r)++tb s)++tb o)++vb (zz b))++vb (zz d)))=>Flag bw ((((((((([]:List UInt8)++nb t)++nb i)++nb p)++nb r)++tb s)++tb o)++vb (zz b))++vb (zz d)) g W hW (by simp only [List.length_append,List.length_nil];omega))
 have HE:Hid ((((((((((([]:List UInt8)++nb t)++nb i)++nb p)++nb r)++tb s)++tb o)++vb (zz b))++vb (zz d))++gb g)=enc ⟨t,i,p,r,s,o,b,d,g⟩):=by show _=_;unfold enc;simp only [List.nil_append,List.append_assoc]
 generalize nb t=V0 at *
 generalize nb i=V1 at *
 generalize nb p=V2 at *
 generalize nb r=V3 at *
 generalize tb s=V4 at *
 generalize tb o=V5 at *
 generalize vb (zz b)=V6 at *
 generalize vb (zz d)=V7 at *
 generalize gb g=V8 at *
 clear l0 l1 l2 l3 l4 l5 l6 l7 hs ho hx
 have HB:=Lib.hid (Bk.new w (Sn.arr ⟨t,i,p,r,s,o,b,d,g⟩) TSn)
 have HW:=Lib.hid (h.fr (Fr.alloc (fun _=>False) w (.cells (Sn.arr ⟨t,i,p,r,s,o,b,d,g⟩) TSn)) (fun _ _ h=>h))
 have HF:=Lib.hid ((Fr.alloc (fun _=>False) w (.cells (Sn.arr ⟨t,i,p,r,s,o,b,d,g⟩) TSn)).below (B:=bw) (Nat.le_of_lt h.lt) (fun _ _ h=>h))
 have HK:=Lib.hid (KS.fr (Fr.alloc (fun _=>False) w (.cells (Sn.arr ⟨t,i,p,r,s,o,b,d,g⟩) TSn)))
 clear h
 have x0:=fun W:World=>idx0 t i p r W
 have x1:=fun W:World=>idx1 t i p r W
 have x2:=fun W:World=>idx2 t i p r W
 have x3:=fun W:World=>idx3 t i p r W
 go_enter func115,ntmps115
 go_wp2_with fail
 refine wp_loop_rounds 5 ?_
 rw [rounds_succ];go_wp2_with fail
 refine (P0.out _ HW.out).mono ?_
 rintro e w0 ⟨rfl,a1,a2,a3⟩
 have HW0:=Lib.hid a1;have HB0:=Lib.hid (a3 _ _ HB.out);have HF0:=Lib.hid (HF.out.trans a2);have HK0:=Lib.hid (HK.out.trans a3)
 clear a1 a2 a3
 go_wp2_with fail
 rw [rounds_succ];go_wp2_with fail
 refine (P1.out _ HW0.out).mono ?_
 rintro e w1 ⟨rfl,a1,a2,a3⟩
 have HW1:=Lib.hid a1;have HB1:=Lib.hid (a3 _ _ HB0.out);have HF1:=Lib.hid (HF0.out.trans a2);have HK1:=Lib.hid (HK0.out.trans a3)
 clear a1 a2 a3
 go_wp2_with fail
 rw [rounds_succ];go_wp2_with fail
 refine (P2.out _ HW1.out).mono ?_
 rintro e w2 ⟨rfl,a1,a2,a3⟩
 have HW2:=Lib.hid a1;have HB2:=Lib.hid (a3 _ _ HB1.out);have HF2:=Lib.hid (HF1.out.trans a2);have HK2:=Lib.hid (HK1.out.trans a3)
 clear a1 a2 a3
 go_wp2_with fail
 rw [rounds_succ];go_wp2_with fail
 refine (P3.out _ HW2.out).mono ?_
 rintro e w3 ⟨rfl,a1,a2,a3⟩
 have HW3:=Lib.hid a1;have HB3:=Lib.hid (a3 _ _ HB2.out);have HF3:=Lib.hid (HF2.out.trans a2);have HK3:=Lib.hid (HK2.out.trans a3)
 clear a1 a2 a3
 have c3:w3.cell? ⟨w.heap.size,4,none⟩=some (.string s):=HB3.out.cell 4
 go_wp2_with fail
 rw [rounds_succ];go_wp2_with fail
 refine (P4.out _ HW3.out).mono ?_
 rintro e w4 ⟨rfl,a1,a2,a3⟩
 have HW4:=Lib.hid a1;have HB4:=Lib.hid (a3 _ _ HB3.out);have HF4:=Lib.hid (HF3.out.trans a2);have HK4:=Lib.hid (HK3.out.trans a3)
 clear a1 a2 a3
 have c4:w4.cell? ⟨w.heap.size,5,none⟩=some (.string o):=HB4.out.cell 5
 go_wp2_with fail
 refine (P5.out _ HW4.out).mono ?_
 rintro e w5 ⟨rfl,a1,a2,a3⟩
 have HW5:=Lib.hid a1;have HB5:=Lib.hid (a3 _ _ HB4.out);have HF5:=Lib.hid (HF4.out.trans a2);have HK5:=Lib.hid (HK4.out.trans a3)
 clear a1 a2 a3
 have c5:w5.cell? ⟨w.heap.size,6,none⟩=some (.int .i64 b):=HB5.out.cell 6
 go_wp2_with fail
 refine (P6.out _ HW5.out).mono ?_
 rintro e w6 ⟨rfl,a1,a2,a3⟩
 have HW6:=Lib.hid a1;have HB6:=Lib.hid (a3 _ _ HB5.out);have HF6:=Lib.hid (HF5.out.trans a2);have HK6:=Lib.hid (HK5.out.trans a3)
 clear a1 a2 a3
 have c6:w6.cell? ⟨w.heap.size,7,none⟩=some (.int .i64 d):=HB6.out.cell 7
 go_wp2_with fail
 refine (P7.out _ HW6.out).mono ?_
 rintro e w7 ⟨rfl,a1,a2,a3⟩
 have HW7:=Lib.hid a1;have HB7:=Lib.hid (a3 _ _ HB6.out);have HF7:=Lib.hid (HF6.out.trans a2);have HK7:=Lib.hid (HK6.out.trans a3)
 clear a1 a2 a3
 have c7:w7.cell? ⟨w.heap.size,8,none⟩=some (.bool g):=HB7.out.cell 8
 go_wp2_with fail
 refine (P8.out _ HW7.out).mono ?_
 rintro e w8 ⟨rfl,a1,a2,a3⟩
 have HW8:=Lib.hid a1;have HB8:=Lib.hid (a3 _ _ HB7.out);have HF8:=Lib.hid (HF7.out.trans a2);have HK8:=Lib.hid (HK7.out.trans a3)
 clear a1 a2 a3
 go_wp2_with fail
 go_end0
 exact ⟨rfl,by rw [←HE.out];exact HW8.out,HF8.out,HK8.out⟩
def encM (x:Sn):List UInt8:=if mayB x then enc x else []
def putV (x:Sn):Value:=.tuple #[.string (ks (encM x)),.int .i64 (mayN x)]
theorem putV_no {x:Sn} (h:mayB x=false):putV x=.tuple #[.string ByteArray.empty,.int .i64 1]:=by
 unfold putV encM mayN;rw [h];rfl
theorem putV_ok {x:Sn} (h:mayB x=true):putV x=.tuple #[.string (ks (enc x)),.int .i64 0]:=by
 unfold putV encM mayN;rw [h];rfl
theorem enc_ne (x:Sn):enc x≠ []:=by
 unfold enc gb
 simp
theorem Put (x:Sn) (hx:x.ok) (w:World):Calls prog 100 #[x.v] w fun e w'=>e=.returned (putV x)∧Fr (fun _=>False) w w':=by
 have HM:=Lib.hid (fun W:World=>May_ x hx W)
 have HB:=Lib.hid (At.box (Bk.new w x.arr TSn))
 have HF:=Lib.hid (Fr.alloc (fun _=>False) w (.cells x.arr TSn))
 cases hm:mayB x with
 |false=>
  have HE:=Lib.hid (putV_no hm)
  have e0:mayN x=1:=by unfold mayN;rw [hm];rfl
  rw [e0] at HM
  clear hm hx e0
  obtain ⟨t,i,p,r,s,o,b,d,g⟩:=x
  go_enter func100,ntmps100
  go_wp2_with fail
  refine (HM.out _).mono ?_
  rintro e w1 ⟨rfl,hf⟩
  have HF1:=Lib.hid (HF.out.trans hf (T:=fun _=>False) (fun _ _ h=>h) (fun _ _ h=>h))
  clear hf
  go_wp2_with fail
  go_ret2
  exact ⟨by rw [HE.out];rfl,HF1.out⟩
 |true=>
  have HE:=Lib.hid (putV_ok hm)
  have e0:mayN x=0:=by unfold mayN;rw [hm];rfl
  rw [e0] at HM
  have hmay:=may_iff.1 hm
  have HW:=Lib.hid (fun (W:World) (bw:Nat) (hW:WS W bw [])=>Write x hx (name_size hmay.s).2 (name_size hmay.o).2 bw W hW)
  have HS:=Lib.hid (fun (W:World) (bw:Nat) (hW:WS W bw (enc x))=>Bytes bw (enc x) W hW (enc_ne x) (by have:=enc_len hmay hx;omega))
  generalize enc x=V at *
  clear hm hx e0 hmay
  obtain ⟨t,i,p,r,s,o,b,d,g⟩:=x
  go_enter func100,ntmps100
  go_wp2_with fail
  refine (HM.out _).mono ?_
  rintro e w1 ⟨rfl,hf⟩
  have HB1:=HB.out.fr hf (fun h=>h)
  have HF1:=Lib.hid (HF.out.trans hf (T:=fun _=>False) (fun _ _ h=>h) (fun _ _ h=>h))
  have HA1:=Lib.hid (Fr.alloc (fun _=>False) w1 (.cells #[.pointer none,.slice none 0 0] TW))
  have HB2:=Lib.hid (HB1.fr HA1.out (fun h=>h))
  have HN:=Lib.hid (WS.new w1)
  clear hf HB1
  go_upto_region 5 with (fail)
  generalize w1.alloc (.cells #[.pointer none,.slice none 0 0] TW)=w2 at *
  have HF2:=Lib.hid (HF1.out.trans HA1.out (T:=fun _=>False) (fun _ _ h=>h) (fun _ _ h=>h))
  have HZ:=Lib.hid HF1.out.size
  generalize w1.heap.size=bw at *
  have c0:w2.cell? ⟨w.heap.size,0,none⟩=some (.int .i64 t):=HB2.out 0 _ rfl
  have c1:w2.cell? ⟨w.heap.size,1,none⟩=some (.int .i64 i):=HB2.out 1 _ rfl
  have c2:w2.cell? ⟨w.heap.size,2,none⟩=some (.int .i64 p):=HB2.out 2 _ rfl
  have c3:w2.cell? ⟨w.heap.size,3,none⟩=some (.int .i64 r):=HB2.out 3 _ rfl
  have c4:w2.cell? ⟨w.heap.size,4,none⟩=some (.string s):=HB2.out 4 _ rfl
  have c5:w2.cell? ⟨w.heap.size,5,none⟩=some (.string o):=HB2.out 5 _ rfl
  have c6:w2.cell? ⟨w.heap.size,6,none⟩=some (.int .i64 b):=HB2.out 6 _ rfl
  have c7:w2.cell? ⟨w.heap.size,7,none⟩=some (.int .i64 d):=HB2.out 7 _ rfl
  have c8:w2.cell? ⟨w.heap.size,8,none⟩=some (.bool g):=HB2.out 8 _ rfl
  go_wp2_with fail
  refine (HW.out _ _ HN.out).mono ?_
  rintro e w3 ⟨rfl,a1,a2,-⟩
  have HN3:=Lib.hid a1
  have HB3:=Lib.hid (a2.mono HZ.out)
  clear a1 a2
  go_wp2_with fail
  refine (HS.out _ _ HN3.out).mono ?_
  rintro e w4 ⟨rfl,a2⟩
  have HB4:=Lib.hid (HB3.out.trans (a2.mono HZ.out))
  clear a2
  go_wp2_with fail
  go_ret2
  exact ⟨by rw [HE.out];rfl,Fr.of_below' ((HF2.out.below (B:=w.heap.size) (Nat.le_refl _) (fun _ _ h=>h)).trans HB4.out) _⟩
end Code_
end Go.Proofs.YtdpngmgaomghoaaGreatDoor
