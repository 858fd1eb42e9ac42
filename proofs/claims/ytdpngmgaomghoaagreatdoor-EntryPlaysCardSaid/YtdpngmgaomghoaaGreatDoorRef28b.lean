/- The document's entries: Apply. -/
import Derived.Test.YtdpngmgaomghoaaGreatDoorRef28
namespace Go.Proofs.YtdpngmgaomghoaaGreatDoor
open Tryz
set_option maxRecDepth 100000
set_option maxHeartbeats 4000000
open Go.RowKit
namespace Rf28
open BagP KeyP EntP OpsP PackP SetP SetW SetF Sli Name Pack Delta
open Ent (bg bg_app bg_one mays apE)
attribute [local go_sem] Eng.ev Eng.getO_cons Eng.getO_nil
def pk (t:Tk) (y:Sn):Bool:=decide (Ent.kk y=t)
theorem er_snoc (p:Sn→Bool) (l:List Sn) (y:Sn):(l++ [y]).eraseP p=if l.any p then l.eraseP p++ [y] else if p y then l.eraseP p else l.eraseP p++ [y]:=by
 rw [List.eraseP_append]
 split
 ·rfl
 ·rename_i h
  have h0:∀a∈l,¬p a=true:=fun a ha hp=>h (List.any_eq_true.2 ⟨a,ha,hp⟩)
  rw [List.eraseP_of_forall_not h0,List.eraseP_cons]
  cases p y<;>simp
theorem er_map (t:Tk):∀l:List Sn,(l.eraseP (pk t)).map Ent.kk=(l.map Ent.kk).erase t
 | []=>rfl
 |y::l=>by
  rw [List.eraseP_cons,List.map_cons,List.erase_cons]
  unfold pk
  by_cases h:Ent.kk y=t
  ·simp [h]
  ·have h':(Ent.kk y==t)=false:=by simpa using h
   rw [h',decide_eq_false h]
   have:=er_map t l
   unfold pk at this
   simp [this]
theorem any_mem (t:Tk) (l:List Sn):l.any (pk t)=decide (t∈l.map Ent.kk):=by
 induction l with
 |nil=>simp
 |cons y l ih=>
  rw [List.any_cons,ih]
  unfold pk
  simp only [List.map_cons,List.mem_cons]
  by_cases h:Ent.kk y=t
  ·simp [h]
  ·have:t≠Ent.kk y:=fun e=>h e.symm
   simp [h,this]
theorem er_len (p:Sn→Bool) (l:List Sn):(l.eraseP p).length≤l.length:=List.length_eraseP_le
theorem dn0 {y:Sn} (hp:y.p=0) (q:List Tk):Ent.dnq y q=if Ent.kk y∈q then some (q.erase (Ent.kk y)) else none:=by
 unfold Ent.dnq
 rw [bg_one,if_pos hp,outK]
 split<;>rfl
theorem dn1 {y:Sn} (hp:y.p≠0) (q:List Tk):Ent.dnq y q=some q:=by
 unfold Ent.dnq
 rw [bg_one,if_neg hp];rfl
structure S13 (w0 w:World) (b2 p2 b1 p1 Bd:Nat) (y x:Sn) (v:Value):Prop where
 a:At w b2 p2 y
 b:At w b1 p1 x
 d:w.cell? ⟨Bd,0,none⟩=some v
 f:Fr (fun _=>False) w0 w
theorem S13.keep {w0 w w':World} {b2 p2 b1 p1 Bd:Nat} {y x:Sn} {v:Value} (H:S13 w0 w b2 p2 b1 p1 Bd y x v) (hf:Fr (fun _=>False) w w'):S13 w0 w' b2 p2 b1 p1 Bd y x v:=⟨H.a.keep hf,H.b.keep hf,cellK H.d hf,H.f.trans hf (fun _ _ h=>h) (fun _ _ h=>h)⟩
theorem ap13 {ops:Array Oper} (hops:Eng.fnOps Tryz.f10 13=ops) (a0:Act) (Q:Exit→Act→World→Prop) (w0 w:World) (b2 o2 len c k b1 o1 len1 c1 i Bd:Nat) (y x_:Sn) (hk:k<len) (hi:i<len1) (_hlen:len≤9223372036854775807) (_hlen1:len1≤9223372036854775807) (hst:S13 w0 w b2 (o2+k*9) b1 (o1+i*9) Bd y x_ (.slice (some ⟨b1,o1,none⟩) len1 c1))
  (hn:a0.tmps.size=99) (h_3:a0.tmps.getD 3 undef=.pointer (some ⟨Bd,0,none⟩)) (h_5:a0.tmps.getD 5 undef=.slice (some ⟨b2,o2,none⟩) len c) (h_6:a0.tmps.getD 6 undef=.int .i64 (i:Int)) (h_8:a0.tmps.getD 8 undef=.bool false) (h_9:a0.tmps.getD 9 undef=.int .i64 (k:Int))
  (hpost:∀ (x:Nat→Value) (w':World),x 59=.bool (pk (Ent.kk x_) y)→Fr (fun _=>False) w0 w'→Q .normal (Eng.setAll a0 [46,47,48,49,50,51,52,53,54,55,56,57,58,59] x) w'):
  (Code.region 13 ops true).wp prog Q a0 w:=by
 simp only [Eng.fnOps,Eng.regOps,Tryz.f10,Option.bind_some,Option.getD_some,Nat.reduceEqDiff,↓reduceIte] at hops
 subst hops
 have q1:(0:Int)≤(k:Int):=by omega
 have q2:(k:Int)<(len:Int):=by omega
 have q3:(0:Int)≤(i:Int):=by omega
 have q4:(i:Int)<(len1:Int):=by omega
 have HSt:=Lib.hid (hst.keep (Fr.drew _ _))
 refine Eng.regionN [(0,true),(1,true),(2,true),(3,true),(4,true),(5,true),(6,true),(7,true),(8,true),(9,true),(10,true),(11,true),(12,false),(13,true)] (fun w'=>w'.cell? ⟨b2,o2+k*9,none⟩=some (.int .i64 y.t)∧w'.cell? ⟨b2,o2+k*9+1,none⟩=some (.int .i64 y.i)∧w'.cell? ⟨b2,o2+k*9+1+1,none⟩=some (.int .i64 y.p)∧w'.cell? ⟨b2,o2+k*9+1+1+1,none⟩=some (.int .i64 y.r)∧w'.cell? ⟨b2,o2+k*9+1+1+1+1,none⟩=some (.string y.s)∧w'.cell? ⟨b2,o2+k*9+1+1+1+1+1,none⟩=some (.string y.o)∧w'.cell? ⟨b2,o2+k*9+1+1+1+1+1+1,none⟩=some (.int .i64 y.b)∧w'.cell? ⟨b2,o2+k*9+1+1+1+1+1+1+1,none⟩=some (.int .i64 y.d)∧w'.cell? ⟨b2,o2+k*9+1+1+1+1+1+1+1+1,none⟩=some (.bool y.g)∧w'.cell? ⟨b1,o1+i*9,none⟩=some (.int .i64 x_.t)∧w'.cell? ⟨b1,o1+i*9+1,none⟩=some (.int .i64 x_.i)∧w'.cell? ⟨b1,o1+i*9+1+1,none⟩=some (.int .i64 x_.p)∧w'.cell? ⟨b1,o1+i*9+1+1+1,none⟩=some (.int .i64 x_.r)∧w'.cell? ⟨b1,o1+i*9+1+1+1+1,none⟩=some (.string x_.s)∧w'.cell? ⟨b1,o1+i*9+1+1+1+1+1,none⟩=some (.string x_.o)∧w'.cell? ⟨b1,o1+i*9+1+1+1+1+1+1,none⟩=some (.int .i64 x_.b)∧w'.cell? ⟨b1,o1+i*9+1+1+1+1+1+1+1,none⟩=some (.int .i64 x_.d)∧w'.cell? ⟨b1,o1+i*9+1+1+1+1+1+1+1+1,none⟩=some (.bool x_.g)∧w'.cell? ⟨Bd,0,none⟩=some (.slice (some ⟨b1,o1,none⟩) len1 c1)) (by kernel_rfl) 99 hn (by kernel_rfl) rfl (by kernel_rfl) (⟨HSt.out.a 0 _ rfl,HSt.out.a 1 _ rfl,HSt.out.a 2 _ rfl,HSt.out.a 3 _ rfl,HSt.out.a 4 _ rfl,HSt.out.a 5 _ rfl,HSt.out.a 6 _ rfl,HSt.out.a 7 _ rfl,HSt.out.a 8 _ rfl,HSt.out.b 0 _ rfl,HSt.out.b 1 _ rfl,HSt.out.b 2 _ rfl,HSt.out.b 3 _ rfl,HSt.out.b 4 _ rfl,HSt.out.b 5 _ rfl,HSt.out.b 6 _ rfl,HSt.out.b 7 _ rfl,HSt.out.b 8 _ rfl,HSt.out.d⟩) (fun a b ha hb=>?_)
 subst ha
 have hb3:b 3=.pointer (some ⟨Bd,0,none⟩):=(hb 3).symm.trans h_3
 have hb5:b 5=.slice (some ⟨b2,o2,none⟩) len c:=(hb 5).symm.trans h_5
 have hb6:b 6=.int .i64 (i:Int):=(hb 6).symm.trans h_6
 have hb8:b 8=.bool false:=(hb 8).symm.trans h_8
 have hb9:b 9=.int .i64 (k:Int):=(hb 9).symm.trans h_9
 clear hb h_3 h_5 h_6 h_8 h_9
 have HP:=Lib.hid hpost;have HN:=Lib.hid hn
 clear hpost hn
 iterate 12 (refine Eng.Sch.tk ?_)
 refine Eng.Sch.call rfl rfl (by decide) (by kernel_rfl) ?_ (one_ y x_ _) ?_
 ·go_simp
 rintro e w2 ⟨rfl,hf⟩
 have HSt1:=Lib.hid (HSt.out.keep hf)
 clear hf
 refine ⟨_,rfl,⟨HSt1.out.a 0 _ rfl,HSt1.out.a 1 _ rfl,HSt1.out.a 2 _ rfl,HSt1.out.a 3 _ rfl,HSt1.out.a 4 _ rfl,HSt1.out.a 5 _ rfl,HSt1.out.a 6 _ rfl,HSt1.out.a 7 _ rfl,HSt1.out.a 8 _ rfl,HSt1.out.b 0 _ rfl,HSt1.out.b 1 _ rfl,HSt1.out.b 2 _ rfl,HSt1.out.b 3 _ rfl,HSt1.out.b 4 _ rfl,HSt1.out.b 5 _ rfl,HSt1.out.b 6 _ rfl,HSt1.out.b 7 _ rfl,HSt1.out.b 8 _ rfl,HSt1.out.d⟩,?_⟩
 refine Eng.Sch.tk ?_
 refine Eng.Sch.end_ [46,47,48,49,50,51,52,53,54,55,56,57,58,59] HN.out (by kernel_rfl) (by kernel_rfl) ?_
 exact HP.out _ _ rfl HSt1.out.f
theorem ap13g {ops:Array Oper} (hops:Eng.fnOps Tryz.f10 13=ops) (a0:Act) (Q:Exit→Act→World→Prop) (w0 w:World) (hst:Fr (fun _=>False) w0 w)
  (hn:a0.tmps.size=99) (h_8:a0.tmps.getD 8 undef=.bool true)
  (hpost:∀ (x:Nat→Value) (w':World),x 59=.bool false→Fr (fun _=>False) w0 w'→Q .normal (Eng.setAll a0 [46,47,48,49,50,51,52,53,54,55,56,57,58,59] x) w'):
  (Code.region 13 ops true).wp prog Q a0 w:=by
 simp only [Eng.fnOps,Eng.regOps,Tryz.f10,Option.bind_some,Option.getD_some,Nat.reduceEqDiff,↓reduceIte] at hops
 subst hops
 have HSt:=Lib.hid (hst.trans (Fr.drew _ _) (fun _ _ h=>h) (fun _ _ h=>h))
 refine Eng.regionN [(0,true),(1,true),(2,true),(3,true),(4,true),(5,true),(6,true),(7,true),(8,true),(9,true),(10,true),(11,true),(12,true),(13,true)] (fun w'=>True) (by kernel_rfl) 99 hn (by kernel_rfl) rfl (by kernel_rfl) (trivial) (fun a b ha hb=>?_)
 subst ha
 have hb8:b 8=.bool true:=(hb 8).symm.trans h_8
 clear hb h_8
 have HP:=Lib.hid hpost;have HN:=Lib.hid hn
 clear hpost hn
 iterate 3 (refine Eng.Sch.tk ?_)
 iterate 10 (refine Eng.Sch.skip rfl rfl (by decide) (by kernel_rfl) ?_)
 refine Eng.Sch.tk ?_
 refine Eng.Sch.end_ [46,47,48,49,50,51,52,53,54,55,56,57,58,59] HN.out (by kernel_rfl) (by kernel_rfl) ?_
 exact HP.out _ _ rfl HSt.out
def ApPost (h:Nat) (L:List Sn) (R:List Nat) (O I:List Sn) (w:World) (e:Ending) (w':World):Prop:=
 ∃b L' R',e=.returned (.bool b)∧DR w' h L' R'∧Fr (· =h) w w'∧(∀x∈R',x∈R∨w.heap.size≤x)∧L'.length≤L.length+I.length∧((b=true∧∃r,apE O I (L.map Ent.kk)=some r∧(L'.map Ent.kk).Perm r)∨(b=false∧apE O I (L.map Ent.kk)=none∧L'=L))
theorem fil_snoc (l:List Sn) (y:Sn):(l++ [y]).filter (fun x=>x.p==0)=if y.p=0 then l.filter (fun x=>x.p==0)++ [y] else l.filter (fun x=>x.p==0):=by
 rw [List.filter_append]
 by_cases h:y.p=0<;>simp [h]
theorem Apply (h:Nat) (L:List Sn) (R:List Nat) (d:Dl) (w:World) (H:DR w h L R) (hd:RdD w d) (lL:L.length≤100000) (lO:d.O.length≤100000) (lI:d.I.length≤100000):
  Calls prog 10 #[.pointer (some ⟨h,0,none⟩),d.v] w (ApPost h L R d.O d.I w):=by
 obtain ⟨i0,hi,hz0,hz1,hz2⟩:=info_parts infoS
 have hf:=Fr.alloc (fun _=>False) w (.cells d.arr TDl)
 have HV:=Lib.hid (H.keep hf)
 have HF0:=Lib.hid hf
 have HE:Hid (∀W',Below (w.alloc (.cells d.arr TDl)).heap.size (w.alloc (.cells d.arr TDl)) W'→Bk W' w.heap.size d.arr TDl∧RdD W' d∧DR W' h L R):=fun W' hW=>
  ⟨(Bk.new w d.arr TDl).fr (Fr.of_below' hW (fun _=>False)) (fun _ _ h=>h),(hd.keep hf).below hW,(H.keep hf).below hW⟩
 have hR0:=H.r
 have hlt0:w.heap.size<(w.alloc (.cells d.arr TDl)).heap.size:=by simp
 obtain ⟨A1,c1,O,A2,c2,I⟩:=d
 dsimp only at lO lI
 clear hf H hd
 go_enter func10,ntmps10
 go_upto_region 1 with (fail)
 generalize (w.alloc (.cells #[.slice A1 O.length c1,.slice A2 I.length c2] TDl))=w1 at *
 generalize hBd:w.heap.size=Bd at *
 have HBq:=Lib.hid hBd
 clear hBd
 have HE1:=Lib.hid (HE.out w1 (Below.refl _ _))
 have e0:w1.cell? ⟨Bd,0,none⟩=some (.slice A1 O.length c1):=HE1.out.1.cell 0
 go_wp2_with fail
 refine (may_ A1 c1 O w1 HE1.out.2.1.o).mono ?_
 rintro e w2 ⟨rfl,hf⟩
 have HB2:=Lib.hid (hf.below (Nat.le_refl w1.heap.size) (fun _ _ h=>h))
 have HE2:=Lib.hid (HE.out w2 HB2.out)
 clear hf e0 HE1
 cases hmO:mays O with
 |false=>
  go_wp2_with fail
  go_ret
  refine ⟨false,L,R,rfl,HE2.out.2.2,?_,fun x hx=>.inl hx,by omega,.inr ⟨rfl,by unfold apE;rw [hmO];rfl,rfl⟩⟩
  exact (HF0.out.trans (Fr.of_below' HB2.out (fun _=>False)) (fun _ _ h=>h) (fun _ _ h=>h)).mono (fun _ _ h=>h.elim)
 |true=>
  have e1:w2.cell? ⟨Bd,1,none⟩=some (.slice A2 I.length c2):=HE2.out.1.cell 1
  go_wp2_with fail
  refine (may_ A2 c2 I w2 HE2.out.2.1.i).mono ?_
  rintro e w3 ⟨rfl,hf⟩
  have HB3:=Lib.hid (HB2.out.trans (hf.below HB2.out.size (fun _ _ h=>h)))
  have HE3:=Lib.hid (HE.out w3 HB3.out)
  clear hf e1 HE2
  cases hmI:mays I with
  |false=>
   go_wp2_with fail
   go_ret
   refine ⟨false,L,R,rfl,HE3.out.2.2,?_,fun x hx=>.inl hx,by omega,.inr ⟨rfl,by unfold apE;rw [hmO,hmI];rfl,rfl⟩⟩
   exact (HF0.out.trans (Fr.of_below' HB3.out (fun _=>False)) (fun _ _ h=>h) (fun _ _ h=>h)).mono (fun _ _ h=>h.elim)
  |true=>
   have HR:Hid (∀q,apE O I q=(outK (bg O) q).map (fun r=>bg I++r)):=fun q=>by unfold apE;rw [hmO,hmI];rfl
   clear hmO hmI
   obtain ⟨Av,cv,hbv,hLv,-⟩:=HE3.out.2.2.s
   have cV:w3.cell? ⟨h,0,none⟩=some (.slice Av L.length cv):=hbv.cell 0
   have HLv:=Lib.hid hLv
   clear hbv hLv HE3
   go_wp2_with fail
   clear cV
   go_loopg [5,6] O.length (fun gk lv i wr=>∃ (j:Nat) (l:List Sn) (Al:Option Addr) (cl:Nat),lv=.slice Al l.length cl∧i=.int .i64 j∧j≤O.length∧gk=O.length-j∧Below w1.heap.size w1 wr∧Ls wr Al cl l∧outK (bg (O.take j)) (L.map Ent.kk)=some (l.map Ent.kk)∧l.length≤L.length)
   case atStart=>exact ⟨0,L,Av,cv,rfl,rfl,Nat.zero_le _,rfl,HB3.out,HLv.out,rfl,Nat.le_refl _⟩
   case round=>
    clear HB3 HLv
    obtain ⟨j,l,Al,cl,rfl,rfl,hj,hg,hb,hls,hq,hll⟩:=hrel
    obtain ⟨wo,hwo⟩:∃wo,wo=wr:=⟨_,rfl⟩
    subst hwo
    have HG:=Lib.hid hg;have HB:=Lib.hid hb;have HL:=Lib.hid hls;have HQ:=Lib.hid hq
    have hszo:=hb.size
    clear hg hb hls hq
    have HEo:=Lib.hid (HE.out wo HB.out)
    by_cases hlt:j<O.length
    ·obtain ⟨b1,o1,hA1,-,c1'⟩:=HEo.out.2.1.o.s.at hlt (by omega)
     have HRow:=Lib.hid (At.row c1' hlt)
     have hcap1:=HEo.out.2.1.o.s.2.1
     have HTk:Hid (outK (bg (O.take (j+1))) (L.map Ent.kk)=Ent.dnq O[j] (l.map Ent.kk)):=Ent.dn_take hlt HQ.out
     have HNo:Hid (Ent.dnq O[j] (l.map Ent.kk)=none→outK (bg O) (L.map Ent.kk)=none):=fun h=>Ent.dn_no hlt HQ.out h
     dsimp only at hA1
     subst hA1
     clear c1'
     have e0:wo.cell? ⟨Bd,0,none⟩=some (.slice (some ⟨b1,o1,none⟩) O.length c1):=HEo.out.1.cell 0
     generalize O[j]=x at *
     have q1:(0:Int)≤(j:Int):=by omega
     have q2:decide ((j:Int)<((O.length:Nat):Int))=true:=by simp;omega
     have q3:(j:Int)<((O.length:Nat):Int):=by omega
     have zc2:wo.cell? ⟨b1,o1+j*9+1+1,none⟩=some (.int .i64 x.p):=HRow.out 2 _ rfl
     have zc2':wo.cell? ⟨b1,o1+j*9+2,none⟩=some (.int .i64 x.p):=zc2
     by_cases hp:x.p=0
     ·have qp:(x.p != 0)=false:=by simp [hp]
      have HTk0:Hid (outK (bg (O.take (j+1))) (L.map Ent.kk)=if Ent.kk x∈l.map Ent.kk then some ((l.map Ent.kk).erase (Ent.kk x)) else none):=by
       show _=_
       rw [HTk.out,dn0 hp]
      have HNo0:Hid (Ent.kk x∉l.map Ent.kk→outK (bg O) (L.map Ent.kk)=none):=fun hn=>HNo.out (by rw [dn0 hp,if_neg hn])
      clear hp HTk HNo
      go_wp2_with fail
      clear e0 zc2 zc2'
      go_loopg [7,8,9] l.length (fun gk nx gn i wr=>∃k:Nat,gn=.bool ((l.take k).any (pk (Ent.kk x)))∧i=.int .i64 k∧k≤l.length∧gk=l.length-k∧Below wo.heap.size wo wr∧wr.ownsRow wo.heap.size TSn 9 nx ((l.take k).eraseP (pk (Ent.kk x))).length (((l.take k).eraseP (pk (Ent.kk x))).flatMap scs))
      case atStart=>exact ⟨0,rfl,rfl,Nat.zero_le _,rfl,Below.refl _ _,World.ownsRow_nil _ _ _ _⟩
      case round=>
       obtain ⟨k,rfl,rfl,hk,hg2,hb2,hown⟩:=hrel
       obtain ⟨wi,hwi⟩:∃wi,wi=wr:=⟨_,rfl⟩
       subst hwi
       have HG2:=Lib.hid hg2;have HBi:=Lib.hid hb2;have HOw:=Lib.hid hown
       have hszi:=hb2.size
       clear hg2 hb2 hown
       have HLi:=Lib.hid (HL.out.below HBi.out)
       have HEi:=Lib.hid (HE.out wi (HB.out.trans (HBi.out.mono hszo)))
       by_cases hlk:k<l.length
       ·obtain ⟨b2,o2,hA2,-,c2'⟩:=HLi.out.s.at hlk (by omega)
        have HRy:=Lib.hid (At.row c2' hlk)
        have hcap2:=HLi.out.s.2.1
        have HSn:Hid ((l.take (k+1)).eraseP (pk (Ent.kk x))=if (l.take k).any (pk (Ent.kk x)) then (l.take k).eraseP (pk (Ent.kk x))++ [l[k]] else if pk (Ent.kk x) l[k] then (l.take k).eraseP (pk (Ent.kk x)) else (l.take k).eraseP (pk (Ent.kk x))++ [l[k]]):=by
         show _=_
         rw [List.take_succ_eq_append_getElem hlk,er_snoc]
        have HAn:Hid ((l.take (k+1)).any (pk (Ent.kk x))=((l.take k).any (pk (Ent.kk x))||pk (Ent.kk x) l[k])):=by
         show _=_
         rw [List.take_succ_eq_append_getElem hlk,List.any_append];simp
        have hnl:((l.take k).eraseP (pk (Ent.kk x))).length≤100000:=Nat.le_trans (er_len _ _) (by rw [List.length_take];omega)
        subst hA2
        clear c2'
        have HR13:Hid (S13 wi wi b2 (o2+k*9) b1 (o1+j*9) Bd l[k] x (.slice (some ⟨b1,o1,none⟩) O.length c1)):=⟨HRy.out,fun j' u hu=>((HBi.out).cell (p:=⟨b1,_,none⟩) (World.block_lt_of_cell? wo ⟨b1,_,none⟩ (HRow.out j' u hu))).trans (HRow.out j' u hu),HEi.out.1.cell 0,Fr.refl _ _⟩
        generalize l[k]=y at *
        generalize (l.take k).eraseP (pk (Ent.kk x))=N at *
        generalize hn1:(l.take (k+1)).eraseP (pk (Ent.kk x))=N1 at *
        generalize hg1:(l.take (k+1)).any (pk (Ent.kk x))=g1 at *
        have HNq:=Lib.hid hn1;have HGq:=Lib.hid hg1
        clear hn1 hg1
        generalize (l.take k).any (pk (Ent.kk x))=g0 at *
        have q4:(0:Int)≤(k:Int):=by omega
        have q5:decide ((k:Int)<((l.length:Nat):Int))=true:=by simp;omega
        have q6:(k:Int)<((l.length:Nat):Int):=by omega
        cases g0 with
        |true=>
         have HN1:Hid (N1=N++ [y]):=by show _=_;rw [HSn.out];rfl
         have HG1:Hid (g1=true):=by show _=_;rw [HAn.out];rfl
         clear HSn HAn
         go_upto_region 13 with (fail)
         refine ap13g (by kernel_rfl) _ _ wi wi (Fr.refl _ _) rfl rfl ?_
         intro xx wc hx hf13
         simp only [Eng.setAll,Act.put,List.setIfInBounds_toArray,List.set_cons_succ,List.set_cons_zero]
         rw [hx]
         have HF13:=Lib.hid hf13
         clear hx hf13
         have HBc:=Lib.hid (HBi.out.trans (HF13.out.below hszi (fun _ _ h=>h)));have HOc:=Lib.hid (ownsRow_fr HOw.out HF13.out (fun _ _ h=>h));have HRc:=Lib.hid (HRy.out.keep HF13.out)
         have hszc:=HF13.out.size
         clear HBi HOw HRy HF13 HR13 HEi HLi
         obtain ⟨zc0,zc1,zc2,zc3,zc4,zc5,zc6,zc7,zc8⟩:=SetW.at9 HRc.out
         have hown':=HOc.out.alloc (.cells (scs y).toArray TSn)
         go_wp2_with (at_builtin;refine wpList_append_sl _ rfl (.tmp 60) (.tmp 65) TSs rfl wo.heap.size TSn i0 (.agg #[.int .i64 0,.int .i64 0,.int .i64 0,.int .i64 0,.string ByteArray.empty,.string ByteArray.empty,.int .i64 0,.int .i64 0,.bool false]) 9 88 underlying31 hi hz0 hz1 hz2 rfl (by decide) _ _ _ rfl hown' _ _ _ _ rfl (Sl.one wc TSn (scs y) 9 rfl) (by simp [Value.oneCell']) ?_ ?_ ?_ ?_)
         ·unfold maxLen;omega
         ·omega
         ·simp;omega
         intro v' w9 hown9 hgrow9
         have hb9:Below wo.heap.size wo w9:=(HBc.out.alloc (by omega) _).grown hgrow9 (by simp;omega) (fun k e=>(ownsRow_blk HOc.out k e).1)
         have HB9:=Lib.hid hb9
         have HO9:Hid (w9.ownsRow wo.heap.size TSn 9 v' N1.length (N1.flatMap scs)):=by
          show World.ownsRow _ _ _ _ _ _ _
          rw [HN1.out,List.length_append,List.length_singleton,List.flatMap_append]
          simpa using hown9
         clear hb9 hown9 hgrow9 hown' HOc HBc HRc zc0 zc1 zc2 zc3 zc4 zc5 zc6 zc7 zc8
         go_wp2_with fail
         go_roundg (l.length-(k+1))
         case rel=>exact ⟨k+1,by rw [HGq.out,HG1.out],by go_num,by omega,rfl,HB9.out,by rw [HNq.out];exact HO9.out⟩
         case measure=>have:=HG2.out;omega
        |false=>
         go_upto_region 13 with (fail)
         refine ap13 (by kernel_rfl) _ _ wi wi b2 o2 l.length cl k b1 o1 O.length c1 j Bd y x hlk hlt (by omega) (by omega) HR13.out rfl rfl rfl rfl rfl rfl ?_
         intro xx wc hx hf13
         simp only [Eng.setAll,Act.put,List.setIfInBounds_toArray,List.set_cons_succ,List.set_cons_zero]
         rw [hx]
         have HF13:=Lib.hid hf13
         clear hx hf13
         cases hpy:pk (Ent.kk x) y with
         |true=>
          have HN1:Hid (N1=N):=by show _=_;rw [HSn.out,hpy];rfl
          have HG1:Hid (g1=true):=by show _=_;rw [HAn.out,hpy];rfl
          have HBc:=Lib.hid (HBi.out.trans (HF13.out.below hszi (fun _ _ h=>h)))
          have HOc:Hid (wc.ownsRow wo.heap.size TSn 9 u7 N1.length (N1.flatMap scs)):=by
           show World.ownsRow _ _ _ _ _ _ _
           rw [HN1.out];exact ownsRow_fr HOw.out HF13.out (fun _ _ h=>h)
          clear HSn HAn hpy
          go_wp2_with fail
          go_roundg (l.length-(k+1))
          case rel=>exact ⟨k+1,by rw [HGq.out,HG1.out],by go_num,by omega,rfl,HBc.out,by rw [HNq.out];exact HOc.out⟩
          case measure=>have:=HG2.out;omega
         |false=>
          have HN1:Hid (N1=N++ [y]):=by show _=_;rw [HSn.out,hpy];rfl
          have HG1:Hid (g1=false):=by show _=_;rw [HAn.out,hpy];rfl
          clear HSn HAn hpy
          have HBc:=Lib.hid (HBi.out.trans (HF13.out.below hszi (fun _ _ h=>h)));have HOc:=Lib.hid (ownsRow_fr HOw.out HF13.out (fun _ _ h=>h));have HRc:=Lib.hid (HRy.out.keep HF13.out)
          have hszc:=HF13.out.size
          clear HBi HOw HRy HF13 HR13 HEi HLi
          obtain ⟨zc0,zc1,zc2,zc3,zc4,zc5,zc6,zc7,zc8⟩:=SetW.at9 HRc.out
          have hown':=HOc.out.alloc (.cells (scs y).toArray TSn)
          go_wp2_with (at_builtin;refine wpList_append_sl _ rfl (.tmp 60) (.tmp 65) TSs rfl wo.heap.size TSn i0 (.agg #[.int .i64 0,.int .i64 0,.int .i64 0,.int .i64 0,.string ByteArray.empty,.string ByteArray.empty,.int .i64 0,.int .i64 0,.bool false]) 9 88 underlying31 hi hz0 hz1 hz2 rfl (by decide) _ _ _ rfl hown' _ _ _ _ rfl (Sl.one wc TSn (scs y) 9 rfl) (by simp [Value.oneCell']) ?_ ?_ ?_ ?_)
          ·unfold maxLen;omega
          ·omega
          ·simp;omega
          intro v' w9 hown9 hgrow9
          have hb9:Below wo.heap.size wo w9:=(HBc.out.alloc (by omega) _).grown hgrow9 (by simp;omega) (fun k e=>(ownsRow_blk HOc.out k e).1)
          have HB9:=Lib.hid hb9
          have HO9:Hid (w9.ownsRow wo.heap.size TSn 9 v' N1.length (N1.flatMap scs)):=by
           show World.ownsRow _ _ _ _ _ _ _
           rw [HN1.out,List.length_append,List.length_singleton,List.flatMap_append]
           simpa using hown9
          clear hb9 hown9 hgrow9 hown' HOc HBc HRc zc0 zc1 zc2 zc3 zc4 zc5 zc6 zc7 zc8
          go_wp2_with fail
          go_roundg (l.length-(k+1))
          case rel=>exact ⟨k+1,by rw [HGq.out,HG1.out],by go_num,by omega,rfl,HB9.out,by rw [HNq.out];exact HO9.out⟩
          case measure=>have:=HG2.out;omega
       ·obtain rfl:k=l.length:=by omega
        have q5:decide (((l.length:Nat):Int)<((l.length:Nat):Int))=false:=by simp
        rw [List.take_length] at HOw ⊢
        rw [any_mem]
        obtain ⟨An,cn,hnx,hSn,-⟩:=Sl.of_own HOw.out
        have HN2:Hid (Ls wi An cn (l.eraseP (pk (Ent.kk x)))):=⟨hSn,fun z hz=>HL.out.ok z (List.mem_of_mem_eraseP hz)⟩
        subst hnx
        clear hSn HOw
        by_cases hm:Ent.kk x∈l.map Ent.kk
        ·have HT2:Hid (outK (bg (O.take (j+1))) (L.map Ent.kk)=some ((l.eraseP (pk (Ent.kk x))).map Ent.kk)):=by
          show _=_
          rw [HTk0.out,if_pos hm,er_map]
         have hl2:(l.eraseP (pk (Ent.kk x))).length≤L.length:=Nat.le_trans (er_len _ _) hll
         rw [decide_eq_true hm]
         clear hm
         go_wp2_with fail
         go_roundg (O.length-(j+1))
         case rel=>exact ⟨j+1,_,An,cn,rfl,by go_num,by omega,rfl,HB.out.trans (HBi.out.mono hszo),HN2.out,HT2.out,hl2⟩
         case measure=>have:=HG.out;omega
        ·have HX:=Lib.hid (HNo0.out hm)
         have HEz:=Lib.hid (HE.out wi (HB.out.trans (HBi.out.mono hszo)))
         rw [decide_eq_false hm]
         clear hm
         go_wp2_with fail
         go_ret
         refine ⟨false,L,R,rfl,HEz.out.2.2,?_,fun x hx=>.inl hx,by omega,.inr ⟨rfl,by rw [HR.out,HX.out];rfl,rfl⟩⟩
         exact (HF0.out.trans (Fr.of_below' (HB.out.trans (HBi.out.mono hszo)) (fun _=>False)) (fun _ _ h=>h) (fun _ _ h=>h)).mono (fun _ _ h=>h.elim)
     ·have qp:(x.p != 0)=true:=by simp [hp]
      have HT2:Hid (outK (bg (O.take (j+1))) (L.map Ent.kk)=some (l.map Ent.kk)):=by show _=_;rw [HTk.out,dn1 hp]
      clear hp HTk HNo
      go_wp2_with fail
      go_roundg (O.length-(j+1))
      case rel=>exact ⟨j+1,l,Al,cl,rfl,by go_num,by omega,rfl,HB.out,HL.out,HT2.out,hll⟩
      case measure=>have:=HG.out;omega
    ·obtain rfl:j=O.length:=by omega
     have hq:=HQ.out
     rw [List.take_length] at hq
     replace HQ:=Lib.hid hq
     clear hq
     have q2:decide (((O.length:Nat):Int)<((O.length:Nat):Int))=false:=by simp
     have e0:wo.cell? ⟨Bd,0,none⟩=some (.slice A1 O.length c1):=HEo.out.1.cell 0
     have HF:Hid (outK (bg O) (L.map Ent.kk)=some (l.map Ent.kk)):=HQ.out
     clear HEo HQ
     go_wp2_with (at_builtin;refine wpList_append_sl _ rfl (.tmp 70) (.tmp 71) TSs rfl wo.heap.size TSn i0 (.agg #[.int .i64 0,.int .i64 0,.int .i64 0,.int .i64 0,.string ByteArray.empty,.string ByteArray.empty,.int .i64 0,.int .i64 0,.bool false]) 9 88 underlying31 hi hz0 hz1 hz2 rfl (by decide) _ _ _ rfl (World.ownsRow_nil _ _ _ _) _ _ _ _ rfl HL.out.s (cells_one _) ?_ ?_ (Nat.le_refl _) ?_)
     ·unfold maxLen;omega
     ·omega
     intro va wa howna hgrowa
     have hba:Below wo.heap.size wo wa:=(Below.refl _ _).grown hgrowa (Nat.le_refl _) (fun k e=>by simp [Value.ownBlock] at e)
     have HBa:=Lib.hid hba;have HOa:Hid (wa.ownsRow wo.heap.size TSn 9 va (l++ []).length ((l++ []).flatMap scs)):=by
      show World.ownsRow _ _ _ _ _ _ _
      rw [List.append_nil];simpa using howna
     have HLok:=Lib.hid HL.out.ok
     clear hba howna hgrowa HL e0
     go_wp2_with fail
     go_loopg [10,11] I.length (fun gk v i wr=>∃j:Nat,i=.int .i64 j∧j≤I.length∧gk=I.length-j∧Below wo.heap.size wo wr∧wr.ownsRow wo.heap.size TSn 9 v (l++(I.take j).filter (fun x=>x.p==0)).length ((l++(I.take j).filter (fun x=>x.p==0)).flatMap scs))
     case atStart=>exact ⟨0,rfl,Nat.zero_le _,rfl,HBa.out,HOa.out⟩
     case round=>
      clear HBa HOa
      obtain ⟨k,rfl,hk,hg2,hb2,hown⟩:=hrel
      obtain ⟨wi,hwi⟩:∃wi,wi=wr:=⟨_,rfl⟩
      subst hwi
      have HG2:=Lib.hid hg2;have HBi:=Lib.hid hb2;have HOw:=Lib.hid hown
      have hszi:=hb2.size
      clear hg2 hb2 hown
      have HEi:=Lib.hid (HE.out wi (HB.out.trans (HBi.out.mono hszo)))
      have e1:wi.cell? ⟨Bd,1,none⟩=some (.slice A2 I.length c2):=HEi.out.1.cell 1
      by_cases hlk:k<I.length
      ·obtain ⟨b2,o2,hA2,-,c2'⟩:=HEi.out.2.1.i.s.at hlk (by omega)
       have HRy:=Lib.hid (At.row c2' hlk)
       have hcap2:=HEi.out.2.1.i.s.2.1
       have HTk:Hid ((I.take (k+1)).filter (fun x=>x.p==0)=if I[k].p=0 then (I.take k).filter (fun x=>x.p==0)++ [I[k]] else (I.take k).filter (fun x=>x.p==0)):=by
        show _=_
        rw [List.take_succ_eq_append_getElem hlk,fil_snoc]
       have hnl:(l++(I.take k).filter (fun x=>x.p==0)).length≤300000:=by
        have:=List.length_filter_le (fun x:Sn=>x.p==0) (I.take k)
        rw [List.length_append]
        rw [List.length_take] at this;omega
       dsimp only at hA2
       subst hA2
       clear c2' HEi
       generalize I[k]=y at *
       generalize hN1:(I.take (k+1)).filter (fun x=>x.p==0)=N1 at *
       generalize (I.take k).filter (fun x=>x.p==0)=N at *
       have HNq:=Lib.hid hN1
       have hnl2:l.length+N.length≤300000:=by rw [←List.length_append];exact hnl
       clear hN1
       have q4:(0:Int)≤(k:Int):=by omega
       have q5:decide ((k:Int)<((I.length:Nat):Int))=true:=by simp;omega
       have q6:(k:Int)<((I.length:Nat):Int):=by omega
       obtain ⟨zc0,zc1,zc2,zc3,zc4,zc5,zc6,zc7,zc8⟩:=SetW.at9 HRy.out
       have zc2':wi.cell? ⟨b2,o2+k*9+2,none⟩=some (.int .i64 y.p):=zc2
       by_cases hp:y.p=0
       ·have qp:(y.p==0)=true:=by simp [hp]
        have HN1:Hid (N1=N++ [y]):=by show _=_;rw [HTk.out,if_pos hp]
        have hown':=HOw.out.alloc (.cells (scs y).toArray TSn)
        clear hp HTk
        go_wp2_with (at_builtin;refine wpList_append_sl _ rfl (.tmp 87) (.tmp 93) TSs rfl wo.heap.size TSn i0 (.agg #[.int .i64 0,.int .i64 0,.int .i64 0,.int .i64 0,.string ByteArray.empty,.string ByteArray.empty,.int .i64 0,.int .i64 0,.bool false]) 9 88 underlying31 hi hz0 hz1 hz2 rfl (by decide) _ _ _ rfl hown' _ _ _ _ rfl (Sl.one wi TSn (scs y) 9 rfl) (by simp [Value.oneCell']) ?_ ?_ ?_ ?_)
        ·unfold maxLen;omega
        ·omega
        ·(try simp);omega
        intro v' w9 hown9 hgrow9
        have hb9:Below wo.heap.size wo w9:=(HBi.out.alloc (by omega) _).grown hgrow9 (by simp;omega) (fun k e=>(ownsRow_blk HOw.out k e).1)
        have HB9:=Lib.hid hb9
        have HO9:Hid (w9.ownsRow wo.heap.size TSn 9 v' (l++N1).length ((l++N1).flatMap scs)):=by
         show World.ownsRow _ _ _ _ _ _ _
         rw [HN1.out,←List.append_assoc,List.length_append,List.length_singleton,List.flatMap_append (ys:= [y])]
         simpa using hown9
        clear hb9 hown9 hgrow9 hown' HOw HBi HRy zc2' zc0 zc1 zc2 zc3 zc4 zc5 zc6 zc7 zc8
        go_wp2_with fail
        go_roundg (I.length-(k+1))
        case rel=>exact ⟨k+1,by go_num,by omega,rfl,HB9.out,by rw [HNq.out];exact HO9.out⟩
        case measure=>have:=HG2.out;omega
       ·have qp:(y.p==0)=false:=by simp [hp]
        have HN1:Hid (N1=N):=by show _=_;rw [HTk.out,if_neg hp]
        clear hp HTk
        go_wp2_with fail
        go_roundg (I.length-(k+1))
        case rel=>exact ⟨k+1,by go_num,by omega,rfl,HBi.out,by rw [HNq.out,HN1.out];exact HOw.out⟩
        case measure=>have:=HG2.out;omega
      ·obtain rfl:k=I.length:=by omega
       rw [List.take_length] at HOw
       have q5:decide (((I.length:Nat):Int)<((I.length:Nat):Int))=false:=by simp
       obtain ⟨An,cn,hnx,hSn,hAn⟩:=Sl.of_own HOw.out
       have HSn:=Lib.hid hSn;have HAn:=Lib.hid hAn
       obtain ⟨Av,cv,hbv,-,-⟩:=HEi.out.2.2.s
       have HBv:=Lib.hid hbv
       have cV:wi.cell? ⟨h,0,none⟩=some (.slice Av L.length cv):=hbv.cell 0
       have fV:wi.frozen? ⟨h,0,none⟩=false:=hbv.free 0
       subst hnx
       have HFi:Hid (Fr (fun _=>False) w wi):=Lib.hid ((HF0.out.trans (Fr.of_below' (HB.out.trans (HBi.out.mono hszo)) (fun _=>False)) (fun _ _ h=>h) (fun _ _ h=>h)))
       have HIok:=Lib.hid HEi.out.2.1.i.ok
       clear hSn hAn HOw hbv HEi
       go_wp2_with fail
       go_ret
       have hhl:=hR0.2 h hR0.1
       have hfl:=List.length_filter_le (fun x:Sn=>x.p==0) I
       have f2:=Fr.setCell wi ⟨h,0,none⟩ (.slice An (l.length+(I.filter (fun x=>x.p==0)).length) cn) (S:=(· =h)) rfl
       have hwi:=HFi.out.size
       have hw1:=HF0.out.size
       have hwq:=HBq.out
       have hgt:∀a,An=some a→w1.heap.size≤a.block∧a.block≠h:=fun a ha=>by
        have:=(HAn.out a ha).1
        exact ⟨by omega,by omega⟩
       refine ⟨true,l++I.filter (fun x=>x.p==0),h::ablk An,rfl,⟨⟨An,cn,by rw [List.length_append];exact HBv.out.set 0 _,⟨HSn.out.fr f2 (fun a ha e=>(hgt a ha).2 e),fun z hz=>?_⟩,fun a ha=>⟨List.mem_cons_of_mem _ (mem_ablk.2 ⟨a,ha,rfl⟩),(hgt a ha).2⟩⟩,by simp,fun b hb=>?_⟩,HFi.out.trans f2 (fun _ _ h=>h.elim) (fun _ _ h=>h),fun b hb=>?_,by rw [List.length_append];omega,.inl ⟨rfl,_,by rw [HR.out,HF.out];rfl,?_⟩⟩
       ·rcases List.mem_append.1 hz with hz|hz
        ·exact HLok.out z hz
        ·exact HIok.out z (List.mem_filter.1 hz).1
       ·have:=f2.size
        rcases List.mem_cons.1 hb with rfl|hb
        ·omega
        ·obtain ⟨a,ha,rfl⟩:=mem_ablk.1 hb
         have:=(HAn.out a ha).2.2;omega
       ·rcases List.mem_cons.1 hb with rfl|hb
        ·exact .inl hR0.1
        ·obtain ⟨a,ha,rfl⟩:=mem_ablk.1 hb
         have:=(hgt a ha).1;exact .inr (by omega)
       ·rw [List.map_append]
        exact List.perm_append_comm
end Rf28
end Go.Proofs.YtdpngmgaomghoaaGreatDoor
