/- Views of entries that are nil; entries of any records. -/
import Derived.Test.YtdpngmgaomghoaaGreatDoorEntB
import Derived.Test.YtdpngmgaomghoaaGreatDoorDels
namespace Go.Proofs.YtdpngmgaomghoaaGreatDoor
open Tryz
set_option maxRecDepth 100000
set_option maxHeartbeats 1000000
open Go.RowKit Go.Shelf
namespace Ent
open BagP KeyP EntP OpsP PackP SetP SetW SetF Sli Name Pack Delta ClsW
attribute [local go_sem] Eng.ev Eng.getO_cons Eng.getO_nil
theorem ok_mays {L:List Sn} (h:PackP.Ok L):mays L=true:=by
 unfold mays
 rw [Bool.not_eq_true',List.any_eq_false]
 intro x hx
 unfold mayN
 rw [h.may x hx];simp
theorem spn_okL (L:List Sn):PackP.Ok (spn L):=(setOf_ok L).filter _
theorem not_small {w:World} {A:Option Addr} {c:Nat} {L:List Sn} (hL:Ls w A c L) {B:Nat} {cs:Array Value} {T:TypeId} (hB:Bk w B cs T) (hs:cs.size<9):∀a,A=some a→L≠ []→a.block≠B:=fun a ha hne e=>by
 have h0:0<L.length:=List.length_pos_iff.2 hne
 obtain ⟨b,o,rfl,-,hc⟩:=hL.s.at h0 (by omega)
 cases ha
 dsimp only at e
 subst e
 have h1:=hc (0*9+8) _ ((flat_at (f:=scs) (fun _=>rfl) h0 (by omega)).trans rfl)
 rw [show World.cell? w ⟨b,o+(0*9+8),none⟩=cs[o+(0*9+8)]? from hB.cell _] at h1
 have:=(Array.getElem?_eq_some_iff.1 h1).1
 omega
theorem Of (A:Option Addr) (c:Nat) (L:List Sn) (w:World) (hS:Ls w A c L) (hlen:L.length≤1000):
  Calls prog 15 #[.slice A L.length c] w (AllPost (bg (spn L)) w):=by
 have f1:=Fr.alloc (fun _=>False) w (.cells #[.pointer none,.int .i64 0] TV)
 have HSet:=Lib.hid (SetF.Set A c L _ (hS.keep f1) (by omega))
 have HV:=Lib.hid (EV.new w)
 have HBk:=Lib.hid (Bk.new w #[.pointer none,.int .i64 0] TV)
 have HB:=Lib.hid (f1.below (Nat.le_refl _) (fun _ _ h=>h))
 have hml:=Nat.le_trans (setOf_len L) hlen
 have hyl:(alive (setOf L)).length≤1000:=Nat.le_trans (alive_len _) hml
 have HNm:=Lib.hid (ok_mays (spn_okL L))
 have hsp:spn L=alive (setOf L):=rfl
 rw [hsp] at HNm ⊢
 obtain ⟨Y,hY⟩:∃Y,alive (setOf L)=Y:=⟨_,rfl⟩
 rw [hY] at hyl HNm ⊢
 generalize setOf L=M at *
 have HY:=Lib.hid hY
 clear hS hY f1 hsp
 go_enter func15,ntmps15
 go_wp2_with fail
 generalize w.alloc (.cells #[.pointer none,.int .i64 0] TV)=w1 at *
 refine HSet.out.mono ?_
 rintro e w2 ⟨A2,c2,rfl,hls,hown,hb⟩
 have fb:=Fr.of_below' hb (fun _=>False)
 have HV2:=Lib.hid (HV.out.keep fb);have HBk2:=Lib.hid (HBk.out.fr fb (fun _ _ h=>h))
 have HB2:=Lib.hid (HB.out.trans (hb.mono HB.out.size))
 have HA:=Lib.hid (Alive ⟨none,0,[],A2,c2,M⟩ w2 ⟨Ls.nil w2,hls⟩ (by simp) (by show M.length≤_;omega) [] Y rfl HY.out)
 have kb:∀W:World,(Instr.build TDl #[(1,.slice A2 M.length c2)]).run prog W=.ok (.agg #[.slice none 0 0,.slice A2 M.length c2]) W:=fun W=>by kernel_rfl
 clear hls hown hb HSet HV HB HBk fb
 go_wp2_with fail
 refine HA.out.mono ?_
 rintro e w3 ⟨A3,c3,A4,c4,rfl,h3,h4,hb⟩
 have fb:=Fr.of_below' hb (fun _=>False)
 have HB3:=Lib.hid (HB2.out.trans (hb.mono HB2.out.size))
 have hv3:=HV2.out.keep fb
 have hb3:=HBk2.out.fr fb (fun _ _ h=>h)
 have HAp:=Lib.hid (Apply w.heap.size [] [] ⟨A3,c3,[],A4,c4,Y⟩ w3 hv3 ⟨h3,h4⟩ (fun a ha hne=>absurd rfl hne) (fun a ha hne hm=>by
  have:=not_small h4 hb3 (by simp) a ha hne
  simp at hm;omega) (by simp) (by simp) (by show Y.length≤_;omega))
 clear h3 h4 hb HA kb HV2 HB2 HBk2 fb hv3 hb3
 go_wp2_with fail
 refine HAp.out.mono ?_
 rintro e w4 ⟨b,q',M',rfl,hv,ht,ho⟩
 have he:apE [] Y []=some (bg Y++ []):=by unfold apE;rw [HNm.out];rfl
 have hp:q'.Perm (bg Y):=by
  rcases ho with ⟨-,r,h1,h2⟩| ⟨-,h1,-⟩
  ·rw [he] at h1
   rw [List.append_nil] at h1
   rw [←Option.some.inj h1] at h2;exact h2
  ·rw [he] at h1;cases h1
 have hq:q'.length≤1000000:=by
  have:=hp.length_eq
  have h2:(bg Y).length≤Y.length:=by unfold bg;rw [List.length_map];exact List.length_filter_le _ _
  omega
 have HAl:=Lib.hid (All w.heap.size q' M' w4 hv hq)
 have HB4:=Lib.hid (HB3.out.trans (ht.fr.below HB3.out.size (fun i hi h=>by simp at h;omega)))
 have HPm:=Lib.hid hp
 clear HAp hv ht ho he hp hq
 go_wp2_with fail
 refine HAl.out.mono ?_
 rintro e w5 ⟨T,A5,c5,rfl,hT,hE,hb⟩
 have HT:Hid (IsAll (fun n t=>(n,t)∈bg Y) (T.map En.v)):=⟨hT.srt,hT.tr,fun n t=>by rw [←HPm.out.mem_iff];exact hT.iff n t⟩
 have HE:=Lib.hid hE;have HB5:=Lib.hid (HB4.out.trans (hb.mono HB4.out.size))
 clear hT hE hb HAl
 go_wp2_with fail
 go_ret
 exact ⟨T,A5,c5,rfl,HT.out,HE.out,HB5.out⟩
attribute [local go_sem] Oper.semAt_some
end Ent
end Go.Proofs.YtdpngmgaomghoaaGreatDoor
