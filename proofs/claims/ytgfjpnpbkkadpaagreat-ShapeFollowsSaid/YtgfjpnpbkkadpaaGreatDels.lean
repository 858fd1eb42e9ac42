/- The spans of records: those of a set that are not gone: the program's, and the document's. -/
import Derived.Test.YtgfjpnpbkkadpaaGreatDeltas
namespace Go.Proofs.YtgfjpnpbkkadpaaGreat
open Tryz
set_option maxRecDepth 100000
set_option maxHeartbeats 1000000
open Go.RowKit
namespace ClsW
open KeyP PackP SetP SetW SetF Sli Delta
attribute [local go_sem] Eng.ev Eng.getO_cons Eng.getO_nil
abbrev alive (L:List Sn):List Sn:=L.filter (fun x=> !x.g)
theorem alive_len (L:List Sn):(alive L).length≤L.length:=List.length_filter_le _ _
abbrev spn (L:List Sn):List Sn:=alive (setOf L)
theorem alive_snoc {L:List Sn} {k:Nat} (h:k<L.length):alive (L.take (k+1))=alive (L.take k)++if L[k].g then [] else [L[k]]:=by
 unfold alive
 rw [List.take_succ_eq_append_getElem h,List.filter_append,List.filter_cons]
 cases L[k].g<;>simp
theorem RefLive (A:Option Addr) (c:Nat) (L:List Sn) (w:World) (hS:Ls w A c L) (hlen:L.length≤1000000):Calls prog 66 #[.slice A L.length c] w (LsPost (alive L) w):=by
 obtain ⟨i0,hi,hz0,hz1,hz2⟩:=info_parts infoS
 have HS:=Lib.hid hS
 clear hS
 go_enter func66,ntmps66
 go_wp2_with fail
 go_loopg [3,4] L.length (fun gk v i wr=>∃k:Nat,i=.int .i64 k∧k≤L.length∧gk=L.length-k∧wr.ownsRow w.heap.size TSn 9 v (alive (L.take k)).length ((alive (L.take k)).flatMap scs)∧Below w.heap.size w wr)
 case atStart=>exact ⟨0,rfl,Nat.zero_le _,rfl,World.ownsRow_nil _ _ _ _,Below.refl _ _⟩
 case round=>
  obtain ⟨k,rfl,hk,hg,hown,hbel⟩:=hrel
  have HG:=Lib.hid hg;have HO:=Lib.hid hown;have HBe:=Lib.hid hbel
  have hszw:w.heap.size≤wr.heap.size:=hbel.size
  clear hg hown hbel
  by_cases hlt:k<L.length
  ·obtain ⟨b1,o1,rfl,hb1,c1⟩:=HS.out.s.at hlt (by omega)
   have HA:=Lib.hid ((At.row c1 hlt).fr (Fr.of_below' HBe.out (fun _=>False)) (fun h=>h))
   have hfl:(alive (L.take k)).length≤k:=Nat.le_trans (List.length_filter_le _ _) (by rw [List.length_take];omega)
   have HSn:=Lib.hid (alive_snoc hlt)
   clear c1 hb1
   generalize L[k]=y at *
   generalize alive (L.take k)=N at *
   have q1:(0:Int)≤(k:Int):=by omega
   have q2:decide ((k:Int)<(L.length:Int))=true:=by simp;omega
   have HK1:=Lib.hid (ownsRow_blk HO.out)
   obtain ⟨yc0,yc1,yc2,yc3,yc4,yc5,yc6,yc7,yc8⟩:=SetW.at9 HA.out
   cases h1:y.g with
   |false=>
    rw [h1] at HSn yc8
    have hown1':=HO.out.alloc (.cells y.arr TSn)
    have HYg:=Lib.hid h1
    have yc8':wr.cell? ⟨b1,o1+k*9+8,none⟩=some (.bool false):=yc8
    clear h1
    go_upto_region 6 with (fail)
    rw [←HYg.out] at yc8
    go_wp2_with (at_builtin;refine wpList_append_sl _ rfl (.tmp 17) (.tmp 22) TSs rfl w.heap.size TSn i0 (.agg #[.int .i64 0,.int .i64 0,.int .i64 0,.int .i64 0,.string ByteArray.empty,.string ByteArray.empty,.int .i64 0,.int .i64 0,.bool false]) 9 88 underlying27 hi hz0 hz1 hz2 rfl (by decide) _ _ _ rfl hown1' _ _ _ _ rfl (Sl.one wr TSn (scs y) 9 rfl) (by simp [Value.oneCell']) ?_ ?_ ?_ ?_)
    ·unfold maxLen;omega
    ·omega
    ·first|omega| (simp;omega)
    intro v1 w1 hown1 hgrow1
    have HO1:=Lib.hid hown1;have HGr:=Lib.hid hgrow1
    clear hown1 hgrow1 hown1' yc8' yc0 yc1 yc2 yc3 yc4 yc5 yc6 yc7 yc8
    go_wp2_with fail
    go_roundg (L.length-(k+1))
    case rel=>exact ⟨k+1,by go_num,by omega,rfl,by rw [HSn.out];simpa using HO1.out,(HBe.out.alloc hszw _).grown HGr.out (by simp;omega) (fun k e=>(HK1.out k e).1)⟩
    case measure=>have:=HG.out;omega
   |true=>
    rw [h1] at HSn yc8
    have yc8':wr.cell? ⟨b1,o1+k*9+8,none⟩=some (.bool true):=yc8
    clear h1
    go_wp2_with fail
    go_roundg (L.length-(k+1))
    case rel=>exact ⟨k+1,by go_num,by omega,rfl,by rw [HSn.out];simpa using HO.out,HBe.out⟩
    case measure=>have:=HG.out;omega
  ·obtain rfl:k=L.length:=by omega
   have q2:decide ((L.length:Int)<(L.length:Int))=false:=by simp
   rw [List.take_length] at HO
   obtain ⟨A2,c2,hv,h2,-⟩:=Sl.of_own HO.out
   subst hv
   have H2:=Lib.hid h2
   clear h2
   go_wp2_with fail
   go_ret
   exact ⟨A2,c2,rfl,⟨H2.out,fun x hx=>HS.out.ok x (List.mem_filter.1 hx).1⟩,HO.out,HBe.out⟩
theorem RefSpans (A:Option Addr) (c:Nat) (L:List Sn) (w:World) (hS:Ls w A c L) (hlen:L.length≤1000000):Calls prog 24 #[.slice A L.length c] w (LsPost (spn L) w):=by
 have HSet:=Lib.hid (RefSet A c L w hS hlen)
 have hml:=Nat.le_trans (setOf_len L) hlen
 show Calls _ _ _ _ (LsPost (alive (setOf L)) w)
 generalize setOf L=M at *
 clear hS
 go_enter func24,ntmps24
 go_wp2_with fail
 refine HSet.out.mono ?_
 rintro e w1 ⟨A2,c2,rfl,hls,hown,hb⟩
 have HL:=Lib.hid (RefLive A2 c2 M w1 hls hml)
 have HB:=Lib.hid hb
 clear hls hown hb HSet
 go_wp2_with fail
 refine HL.out.mono ?_
 rintro e w2 ⟨A3,c3,rfl,h3,h4,hb⟩
 have H3:=Lib.hid h3;have H4:=Lib.hid h4;have HB2:=Lib.hid (HB.out.trans (hb.mono HB.out.size));have HZ:=Lib.hid HB.out.size
 clear h3 h4 hb HL
 go_wp2_with fail
 go_ret
 exact ⟨A3,c3,rfl,H3.out,ownsRow_base H4.out HZ.out,HB2.out⟩
end ClsW
end Go.Proofs.YtgfjpnpbkkadpaaGreat
