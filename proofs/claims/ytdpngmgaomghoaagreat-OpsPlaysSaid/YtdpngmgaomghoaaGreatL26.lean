/- Layer 26's statements: what all use. -/
import Derived.Test.YtdpngmgaomghoaaGreatRef26t
import Derived.Test.YtdpngmgaomghoaaGreatSmT
namespace Go.Proofs.YtdpngmgaomghoaaGreat
open Tryz
open Go.RowKit
namespace Law26
open BagP HistP OpsP KeyP PackP SetP SetW SetF Sli Name Pack Delta ClsW
open Ops (OV vL fl Es applyR mays rc nmN Tl AllPost OL strs opc opZ)
attribute [local go_sem] Eng.ev Eng.getO_cons Eng.getO_nil
structure VS (w0 w:World) (B:Nat) (V:Vw) (F:List Nat):Prop where
 v:∃M E,OV w B M E∧vL E=V∧F=fl B M E
 g:∀x∈F,w0.heap.size≤x
 b:Below w0.heap.size w0 w
 k:OpsP.Vok V
section
variable {w0 w w':World} {B:Nat} {V:Vw} {F:List Nat}
theorem VS.lt (H:VS w0 w B V F):∀x∈F,x<w.heap.size:=by
 obtain ⟨M,E,h,-,rfl⟩:=H.v;exact h.lt
theorem VS.fr {S:Nat→Prop} (H:VS w0 w B V F) (hf:Fr S w w') (h0:∀i,i<w0.heap.size→¬S i) (hs:∀x∈F,¬S x):VS w0 w' B V F:=by
 obtain ⟨M,E,h,h2,rfl⟩:=H.v
 exact ⟨⟨M,E,h.fr hf hs,h2,rfl⟩,H.g,H.b.trans (hf.below H.b.size h0),H.k⟩
theorem VS.keep (H:VS w0 w B V F) (hf:Fr (fun _=>False) w w'):VS w0 w' B V F:=H.fr hf (fun _ _ h=>h) (fun _ _ h=>h)
theorem VS.new (hb:Below w0.heap.size w0 w):VS w0 (w.alloc (.cells #[.pointer none,.int .i64 0] Ops.TV)) w.heap.size [] (fl w.heap.size [] []):=
 ⟨⟨[],[],OV.new w,rfl,rfl⟩,fun x hx=>by simp [fl] at hx;have:=hb.size;omega,hb.alloc hb.size _,OpsP.Vok.nil⟩
theorem Apply (H:VS w0 w B V F) (d:Dl) (hd:RdD w d) (ha1:∀a,d.A1=some a→d.O≠ []→a.block∉F) (ha2:∀a,d.A2=some a→d.I≠ []→a.block∉F) (lV:V.length≤1000000) (lO:d.O.length≤100000) (lI:d.I.length≤100000):
  Calls prog 25 #[.pointer (some ⟨B,0,none⟩),d.v] w fun e w'=>∃b V' F',e=.returned (.bool b)∧VS w0 w' B V' F'∧Fr (· ∈F) w w'∧((b=true∧applyR d.O d.I V=some V')∨(b=false∧applyR d.O d.I V=none∧V'=V)):=by
 obtain ⟨M,E,h,rfl,rfl⟩:=H.v
 refine (Ops.Apply B M E d w h H.k hd ha1 ha2 (by rwa [Ops.vlen] at lV) lO lI).mono ?_
 rintro e w' ⟨b,M',E',rfl,h1,h2,h3⟩
 refine ⟨b,vL E',fl B M' E',rfl,⟨⟨M',E',h1,rfl,rfl⟩,fun x hx=>?_,H.b.trans (h2.fr.below H.b.size (fun i hi hm=>by have:=H.g i hm;omega)),?_⟩,h2.fr,h3⟩
 ·rcases (h2.sub x hx).1 with h|h
  ·exact H.g x h
  ·exact Nat.le_trans H.b.size h
 ·rcases h3 with ⟨-,h3⟩| ⟨-,-,h3⟩
  ·unfold applyR at h3
   split at h3
   ·rename_i hm
    simp only [Bool.and_eq_true] at hm
    exact H.k.apply (Ops.rc_nz (Ops.mays_nm hm.1)) (Ops.rc_nz (Ops.mays_nm hm.2)) h3
   ·cases h3
  ·rw [h3];exact H.k
theorem All (H:VS w0 w B V F) (lV:V.length≤1000000):Calls prog 28 #[.pointer (some ⟨B,0,none⟩)] w (AllPost V w):=by
 obtain ⟨M,E,h,rfl,rfl⟩:=H.v
 exact Ops.All B M E w h H.k (fun p hp=>(H.k.key (p.1,p.2.v) (List.mem_map.2 ⟨_,hp,rfl⟩)).2.2.2) (by rwa [Ops.vlen] at lV)
theorem Services (H:VS w0 w B V F) (lV:V.length≤1000000):Calls prog 31 #[.pointer (some ⟨B,0,none⟩)] w fun e w'=>∃A c,e=.returned (.slice A (svc V).length c)∧Sl w' 1 A (svc V).length c (strs (svc V))∧(∀a,A=some a→w.heap.size≤a.block∧a.block<w'.heap.size)∧Below w.heap.size w w':=by
 obtain ⟨M,E,h,rfl,rfl⟩:=H.v
 exact Ops.Services B M E w h H.k (by rwa [Ops.vlen] at lV)
theorem Quantile (H:VS w0 w B V F) (s o:ByteArray) (p:Int) (hl:s.size+o.size≤1000000):Calls prog 35 #[.pointer (some ⟨B,0,none⟩),.string s,.string o,.int .i64 p] w fun e w'=>e=.returned (Bucket.bv (quant (hget (s,o) V) p))∧Fr (fun _=>False) w w':=by
 obtain ⟨M,E,h,rfl,rfl⟩:=H.v
 exact Ops.Quantile s o p w h hl
theorem Get_none (H:VS w0 w B V F) (s o:ByteArray) (hl:s.size+o.size≤1000000) (hg:getL (key (s,o)) V=none):Calls prog 33 #[.pointer (some ⟨B,0,none⟩),.string s,.string o] w fun e w'=>e=.returned (.tuple #[.agg opZ,.bool false])∧Fr (fun _=>False) w w':=by
 obtain ⟨M,E,h,rfl,rfl⟩:=H.v
 refine Ops.Get_none s o w h hl ?_
 rw [Ops.vL_get] at hg
 simpa using hg
theorem Get_some (H:VS w0 w B V F) (s o:ByteArray) (hl:s.size+o.size≤1000000) {q:Nm × HS} (hg:getL (key (s,o)) V=some q):Calls prog 33 #[.pointer (some ⟨B,0,none⟩),.string s,.string o] w fun e w'=>∃A c,e=.returned (.tuple #[.agg (opc (s,o) q.2 A c).toArray,.bool true])∧Sl w' 2 A q.2.1.length c (q.2.1.flatMap Bag.pc)∧(∀a,A=some a→w.heap.size≤a.block∧a.block<w'.heap.size)∧Fr (fun _=>False) w w':=by
 obtain ⟨M,E,h,rfl,rfl⟩:=H.v
 rw [Ops.vL_get] at hg
 cases hb:getL (key (s,o)) E with
 |none=>rw [hb] at hg;cases hg
 |some b=>
  rw [hb] at hg
  obtain rfl:=Option.some.inj hg
  exact Ops.Get_some s o w h H.k hl hb
end
abbrev sW:ByteArray:=⟨#[119,101,98]⟩
abbrev sG:ByteArray:=⟨#[103,101,116]⟩
abbrev sD:ByteArray:=⟨#[100,98]⟩
abbrev sP:ByteArray:=⟨#[112,117,116]⟩
abbrev of (i d:Int) (s o:ByteArray):Sn:=⟨1,i,0,0,s,o,0,d,false⟩
abbrev r1:Sn:=of 1 5 sW sG
abbrev r2:Sn:=of 2 6 sW sG
abbrev r3:Sn:=of 3 1 sD sP
instance (n:Int):Decidable (in64 n):=by unfold in64;infer_instance
theorem of_ok (i d:Int) (s o:ByteArray) (h:in64 i) (h2:in64 d) (hs:s.size≤1000) (ho:o.size≤1000):(of i d s o).ok:=⟨by show in64 1;decide,h,by show in64 0;decide,by show in64 0;decide,by show in64 0;decide,h2,by show s.size≤maxLen;unfold maxLen;omega,by show o.size≤maxLen;unfold maxLen;omega⟩
theorem of_ (i d:Int) (s o:ByteArray) (w:World):Calls prog 87 #[.int .i64 i,.int .i64 d,.string s,.string o] w fun e w'=>e=.returned (of i d s o).v∧Fr (fun _=>False) w w':=by
 have kb:∀W:World,(Instr.build 29 #[(0,.int .i64 1),(1,.int .i64 i),(4,.string s),(5,.string o),(7,.int .i64 d)]).run prog W=.ok (.agg #[.int .i64 1,.int .i64 i,.int .i64 0,.int .i64 0,.string s,.string o,.int .i64 0,.int .i64 d,.bool false]) W:=fun W=>by kernel_rfl
 go_enter func87,ntmps87
 go_wp2_with fail
 have hh:=heap_new w (.cells (of i d s o).arr 29)
 exact bodyPost_ret (results_cell_row rfl _ _ w.heap.size 29 _ (0,0) _ rfl hh underlying29 rfl (by kernel_rfl)) rfl ⟨rfl,Fr.alloc _ _ _⟩
theorem m3:mays [r1,r2,r3]=true:=by decide+kernel
theorem s3:spn [r1,r2,r3]= [r1,r2,r3]:=by decide+kernel
abbrev nW:Nm:=(sW,sG)
abbrev nD:Nm:=(sD,sP)
theorem nzW:nzN nW:=(Ops.mays_nm m3 r1 (by simp)).2
theorem nzD:nzN nD:=(Ops.mays_nm m3 r3 (by simp)).2
theorem ltDW:Ord.lt (key nD) (key nW)=true:=by
 rw [lt_key nzD nzW]
 unfold ltN
 have:Ord.lt sD sW=true:=by
  show Op.bytesLess sD.toList sW.toList=true
  rw [tl_data,tl_data];decide
 rw [this];rfl
theorem bk_small:bk 1=1∧bk 5=3∧bk 6=3:=by
 refine ⟨?_,?_,?_⟩
 ·exact congrArg Int.ofNat (HistP.bits_eq (n:=1) (k:=1) (by decide) (.inr (by decide)))
 ·exact congrArg Int.ofNat (HistP.bits_eq (n:=5) (k:=3) (by decide) (.inr (by decide)))
 ·exact congrArg Int.ofNat (HistP.bits_eq (n:=6) (k:=3) (by decide) (.inr (by decide)))
abbrev xW:HS:=([(3,2)],(0,11))
abbrev xD:HS:=([(1,1)],(0,1))
theorem hW:addH 6 (addH 5 ([],(0,0)))=xW:=by
 obtain ⟨-,h2,h3⟩:=bk_small
 simp only [addH,h2,h3]
 decide
theorem hD:addH 1 ([],(0,0))=xD:=by
 obtain ⟨h1,-,-⟩:=bk_small
 simp only [addH,h1]
 decide
abbrev V1:Vw:= [(key nD,(nD,xD)),(key nW,(nW,xW))]
abbrev V2:Vw:= [(key nW,(nW,xW))]
theorem getW (x:HS):hget nW [(key nW,(nW,x))]=x:=by rw [hget_some (q:=(nW,x))];rw [getL_cons,if_pos (sameK_refl _)]
theorem getD0 (x:HS):getL (key nD) [(key nW,(nW,x))]=none:=by
 rw [getL_cons,if_neg (by rw [sameK_lt ltDW];exact Bool.false_ne_true),getL_nil]
theorem e1:ofV ([r1,r2,r3].map rc)=V1:=by
 show addV (addV (addV [] (nW,5)) (nW,6)) (nD,1)=V1
 have a1:addV [] (nW,5)= [(key nW,(nW,addH 5 ([],(0,0))))]:=rfl
 have a2:addV [(key nW,(nW,addH 5 ([],(0,0))))] (nW,6)= [(key nW,(nW,xW))]:=by
  unfold addV
  dsimp only
  rw [getW,hW,insL,Ord.irr];rfl
 rw [a1,a2]
 unfold addV
 dsimp only
 rw [hget_none (getD0 _),hD,insL,if_pos ltDW]
theorem a_in:applyR [] [r1,r2,r3] []=some V1:=by
 unfold applyR
 rw [m3,show mays []=true from rfl,←e1];rfl
theorem okD1:okD 1 xD=true∧dropH 1 xD=([],(0,0)):=by
 obtain ⟨h1,-,-⟩:=bk_small
 have:okD 1 xD=true:=by simp only [okD,h1];decide
 refine ⟨this,?_⟩
 simp only [dropH,this,h1]
 decide
theorem gD1:hget nD V1=xD:=by rw [hget_some (q:=(nD,xD))];rw [getL_cons,if_pos (sameK_refl _)]
theorem m1:mays [r3]=true:=by decide+kernel
theorem a_out:applyR [r3] [] V1=some V2:=by
 unfold applyR
 rw [m1,show mays []=true from rfl]
 show applyV [(nD,1)] [] V1=_
 unfold applyV leaveV
 dsimp only
 rw [gD1,okD1.1]
 show some (dropV V1 (nD,1))=_
 unfold dropV
 dsimp only
 rw [gD1,okD1.2]
 unfold setV
 rw [if_pos (show sumL ([]:List (Int × Int))=0 from rfl),delL_cons,if_pos (sameK_refl _),delL_cons,if_neg (by rw [sameK_lt ltDW];exact Bool.false_ne_true)];rfl
theorem a_no:applyR [r3] [] V2=none:=by
 unfold applyR
 rw [m1,show mays []=true from rfl]
 show applyV [(nD,1)] [] V2=_
 unfold applyV leaveV
 dsimp only
 rw [hget_none (getD0 _),okD_nil];rfl
theorem q2:quant (hget nW V2) 500=(4,7,true):=by rw [getW];decide
theorem sv2:svc V2= [sW]:=by
 unfold svc
 show svU [sW] 1=_
 rw [svU,if_pos (.inl rfl)];rfl
end Law26
set_option maxRecDepth 100000
set_option maxHeartbeats 4000000
namespace Law26
open BagP HistP OpsP KeyP PackP SetP SetW SetF Sli Name Pack Delta ClsW
open Ops (OV vL fl Es applyR mays rc nmN Tl AllPost OL strs opc opZ TO TOs TSt TStrs)
attribute [local go_sem] Eng.ev Eng.getO_cons Eng.getO_nil
abbrev RL:List Sn:= [r1,r2,r3]
structure AW (w0 w:World) (B:Nat) (V:Vw) (F:List Nat) (B0:Nat):Prop where
 v:VS w0 w B V F
 l:Ls w (some ⟨B0,0,none⟩) 3 RL
 h:B0<w0.heap.size
 n:V.length≤1000
section
variable {w0 w w':World} {B:Nat} {V:Vw} {F:List Nat} {B0:Nat}
theorem AW.keep (H:AW w0 w B V F B0) (hf:Fr (fun _=>False) w w'):AW w0 w' B V F B0:=⟨H.v.keep hf,H.l.keep hf,H.h,H.n⟩
theorem AW.apply (H:AW w0 w B V F B0) (d:Dl) (hd:RdD w d) (h1:∀a,d.A1=some a→a.block=B0) (h2:∀a,d.A2=some a→a.block=B0) (lO:d.O.length≤1000) (lI:d.I.length≤1000) (b:Bool) (V2:Vw) (hr:if b then applyR d.O d.I V=some V2 else (applyR d.O d.I V=none∧V2=V)) (l2:V2.length≤1000):
  Calls prog 25 #[.pointer (some ⟨B,0,none⟩),d.v] w fun e w'=>e=.returned (.bool b)∧∃F',AW w0 w' B V2 F' B0:=by
 refine (Law26.Apply H.v d hd (fun a ha _ hm=>by have:=H.v.g _ hm;have:=h1 a ha;have:=H.h;omega) (fun a ha _ hm=>by have:=H.v.g _ hm;have:=h2 a ha;have:=H.h;omega) (by have:=H.n;omega) (by omega) (by omega)).mono ?_
 rintro e w' ⟨b',V',F',rfl,hv,hf,h⟩
 have hk:Ls w' (some ⟨B0,0,none⟩) 3 RL:=H.l.fr hf (fun a ha hm=>by cases ha;have:=H.v.g _ hm;have:=H.h;dsimp only at *;omega)
 cases b with
 |true=>
  rw [if_pos rfl] at hr
  rcases h with ⟨rfl,h⟩| ⟨-,h,-⟩
  ·rw [hr] at h;cases h;exact ⟨rfl,F',hv,hk,H.h,l2⟩
  ·rw [hr] at h;cases h
 |false=>
  rw [if_neg Bool.false_ne_true] at hr
  obtain ⟨hr,rfl⟩:=hr
  rcases h with ⟨-,h⟩| ⟨rfl,-,rfl⟩
  ·rw [hr] at h;cases h
  ·exact ⟨rfl,F',hv,hk,H.h,l2⟩
theorem AW.suf (H:AW w0 w B V F B0):Ls w (some ⟨B0,18,none⟩) 1 [r3]:=⟨by have:=H.l.s.drop (k:=2) (by simp);simpa [Addr.add] using this,fun x hx=>H.l.ok x (by simp at hx;subst hx;simp)⟩
theorem AW.t1 (H:AW w0 w B [] F B0):Calls prog 25 #[.pointer (some ⟨B,0,none⟩),(Dl.mk none 0 [] (some ⟨B0,0,none⟩) 3 RL).v] w fun e w'=>e=.returned (.bool true)∧∃F',AW w0 w' B V1 F' B0:=H.apply ⟨none,0,[],some ⟨B0,0,none⟩,3,RL⟩ ⟨Ls.nil _,H.l⟩ (by simp) (fun a ha=>by cases ha;rfl) (by simp) (by simp) true V1 a_in (by simp)
theorem AW.t2 (H:AW w0 w B V1 F B0):Calls prog 25 #[.pointer (some ⟨B,0,none⟩),(Dl.mk (some ⟨B0,18,none⟩) 1 [r3] none 0 []).v] w fun e w'=>e=.returned (.bool true)∧∃F',AW w0 w' B V2 F' B0:=H.apply ⟨some ⟨B0,18,none⟩,1,[r3],none,0,[]⟩ ⟨H.suf,Ls.nil _⟩ (fun a ha=>by cases ha;rfl) (by simp) (by simp) (by simp) true V2 a_out (by simp)
theorem AW.t3 (H:AW w0 w B V2 F B0):Calls prog 25 #[.pointer (some ⟨B,0,none⟩),(Dl.mk (some ⟨B0,18,none⟩) 1 [r3] none 0 []).v] w fun e w'=>e=.returned (.bool false)∧∃F',AW w0 w' B V2 F' B0:=H.apply ⟨some ⟨B0,18,none⟩,1,[r3],none,0,[]⟩ ⟨H.suf,Ls.nil _⟩ (fun a ha=>by cases ha;rfl) (by simp) (by simp) (by simp) false V2 ⟨a_no,rfl⟩ (by simp)
end
theorem many (w:World) (t:TypeId) (cs:List Value) (sz n:Nat) (hn:n≤1000000) (hs:cs.length=n*sz):Sl (w.alloc (.cells cs.toArray t)) sz (some ⟨w.heap.size,0,none⟩) n n cs:=by
 refine ⟨by omega,Nat.le_refl _,by unfold maxLen;omega,(by simp),fun _=>⟨_,0,rfl,fun i u hu=>?_⟩⟩
 rw [Nat.zero_add,cell_of_block (heap_new w _)]
 simpa using hu
theorem Ls.lit (w:World) (L:List Sn) (arr:Array Value) (harr:arr=(L.flatMap scs).toArray) (n:Nat) (hn:n=L.length) (hl:L.length≤1000000) (hok:∀x∈L,x.ok):Ls (w.alloc (.cells arr TSn)) (some ⟨w.heap.size,0,none⟩) n L:=by
 subst harr;subst hn
 exact ⟨many w TSn _ 9 _ hl (flat_length scs_len L),hok⟩
theorem rl_ok:∀x∈RL,x.ok:=by
 intro x hx
 simp only [List.mem_cons,List.not_mem_nil,or_false] at hx
 rcases hx with rfl|rfl|rfl
 ·exact of_ok 1 5 sW sG (by decide) (by decide) (by decide) (by decide)
 ·exact of_ok 2 6 sW sG (by decide) (by decide) (by decide) (by decide)
 ·exact of_ok 3 1 sD sP (by decide) (by decide) (by decide) (by decide)
theorem kb1 (B0:Nat) (W:World):(Instr.build TDl #[(1,.slice (some ⟨B0,0,none⟩) 3 3)]).run prog W=.ok (.agg #[.slice none 0 0,.slice (some ⟨B0,0,none⟩) 3 3]) W:=by kernel_rfl
theorem kb2 (B0:Nat) (W:World):(Instr.build TDl #[(0,.slice (some ⟨B0,18,none⟩) 1 1)]).run prog W=.ok (.agg #[.slice (some ⟨B0,18,none⟩) 1 1,.slice none 0 0]) W:=by kernel_rfl
theorem aw4 {ops:Array Oper} (hops:Eng.fnOps Tryz.f23 4=ops) (a0:Act) (Q:Exit→Act→World→Prop) (w0 w:World) (B:Nat) (F:List Nat) (B0:Nat) (hst:AW w0 w B [] F B0)
  (hn:a0.tmps.size=98) (h_1:a0.tmps.getD 1 undef=.slice (some ⟨B0,0,none⟩) 3 3) (h_3:a0.tmps.getD 3 undef=.pointer (some ⟨B,0,none⟩))
  (hpost:∀ (x:Nat→Value) (w':World) (F':List Nat),x 4=.bool true→x 5=.bool true→AW w0 w' B V2 F' B0→Q .normal (Eng.setAll a0 [4,5,19,20,21,22,23,24,25] x) w'):
  (Code.region 4 ops true).wp prog Q a0 w:=by
 simp only [Eng.fnOps,Eng.regOps,Tryz.f23,Option.bind_some,Option.getD_some,Nat.reduceEqDiff,↓reduceIte] at hops
 subst hops
 have k1:=kb1 B0;have k2:=kb2 B0
 have HSt:=Lib.hid (hst.keep (Fr.drew _ _))
 refine Eng.regionN [(0,true),(1,true),(3,true),(4,true),(5,true),(2,false),(6,false),(7,true),(8,true)] (fun w'=>True) (by kernel_rfl) 98 hn (by kernel_rfl) rfl (by kernel_rfl) (trivial) (fun a b ha hb=>?_)
 subst ha
 have hb1:b 1=.slice (some ⟨B0,0,none⟩) 3 3:=(hb 1).symm.trans h_1
 have hb3:b 3=.pointer (some ⟨B,0,none⟩):=(hb 3).symm.trans h_3
 clear hb h_1 h_3
 have HP:=Lib.hid hpost;have HN:=Lib.hid hn
 clear hpost hn
 iterate 5 (refine Eng.Sch.tk ?_)
 refine Eng.Sch.call rfl rfl (by decide) (by kernel_rfl) ?_ (AW.t1 HSt.out) ?_
 ·go_simp
 rintro e w2 ⟨rfl,F1,hv⟩
 have HSt1:=Lib.hid (hv)
 refine ⟨_,rfl,trivial,?_⟩
 refine Eng.Sch.call rfl rfl (by decide) (by kernel_rfl) ?_ (AW.t2 HSt1.out) ?_
 ·go_simp
 rintro e w3 ⟨rfl,F2,hv2⟩
 have HSt2:=Lib.hid (hv2)
 refine ⟨_,rfl,trivial,?_⟩
 refine Eng.Sch.tk ?_
 refine Eng.Sch.tk ?_
 refine Eng.Sch.end_ [4,5,19,20,21,22,23,24,25] HN.out (by kernel_rfl) (by kernel_rfl) ?_
 exact HP.out _ _ _ rfl rfl HSt2.out
theorem awake (w:World):Calls prog 23 #[] w fun e w'=>e=.returned (.bool true)∧Below w.heap.size w w':=by
 have F1:=Lib.hid (of_ 1 5 sW sG);have F2:=Lib.hid (of_ 2 6 sW sG);have F3:=Lib.hid (of_ 3 1 sD sP)
 have HB:=Lib.hid (Below.refl w.heap.size w)
 go_enter func23,ntmps23
 go_wp2_with fail
 refine (F1.out w).mono ?_
 rintro e w1 ⟨rfl,hf⟩
 replace HB:=Lib.hid (HB.out.trans (hf.below HB.out.size (fun _ _ h=>h)))
 clear hf
 go_wp2_with fail
 refine (F2.out w1).mono ?_
 rintro e w2 ⟨rfl,hf⟩
 replace HB:=Lib.hid (HB.out.trans (hf.below HB.out.size (fun _ _ h=>h)))
 clear hf
 go_wp2_with fail
 refine (F3.out w2).mono ?_
 rintro e w3 ⟨rfl,hf⟩
 replace HB:=Lib.hid (HB.out.trans (hf.below HB.out.size (fun _ _ h=>h)))
 clear hf F1 F2 F3
 go_upto_region 2 with (fail)
 have HLs:Hid (Ls (w3.alloc (.cells (RL.flatMap scs).toArray TSn)) (some ⟨w3.heap.size,0,none⟩) 3 RL):=Lib.hid (Ls.lit w3 RL _ rfl 3 rfl (by simp) rl_ok)
 replace HB:=Lib.hid (HB.out.alloc HB.out.size (.cells (RL.flatMap scs).toArray TSn))
 have hsz:w3.heap.size<(w3.alloc (.cells (RL.flatMap scs).toArray TSn)).heap.size:=by simp
 generalize hw4:w3.alloc (.cells (RL.flatMap scs).toArray TSn)=w4 at HLs HB hsz
 have hw4':w3.alloc (.cells #[.int .i64 1,.int .i64 1,.int .i64 0,.int .i64 0,.string sW,.string sG,.int .i64 0,.int .i64 5,.bool false,.int .i64 1,.int .i64 2,.int .i64 0,.int .i64 0,.string sW,.string sG,.int .i64 0,.int .i64 6,.bool false,.int .i64 1,.int .i64 3,.int .i64 0,.int .i64 0,.string sD,.string sP,.int .i64 0,.int .i64 1,.bool false] TSn)=w4:=hw4
 rw [hw4']
 clear hw4 hw4'
 generalize w3.heap.size=B0 at *
 have HOf:=Lib.hid (Ops.Of (some ⟨B0,0,none⟩) 3 RL w4 HLs.out (by simp))
 rw [s3,e1] at HOf
 go_wp2_with fail
 refine HOf.out.mono ?_
 rintro e w5 ⟨T,A,c,rfl,hT,hO,hb⟩
 replace HLs:=Lib.hid (HLs.out.keep (Fr.of_below' hb (fun _=>False)))
 replace HB:=Lib.hid (HB.out.trans (hb.mono HB.out.size))
 have HT:=Lib.hid hT;have HO:=Lib.hid hO
 have hB0:B0<w5.heap.size:=Nat.lt_of_lt_of_le hsz hb.size
 clear hT hO hb hsz HOf
 go_upto_region 4 with (fail)
 have hTl:T.length=2:=by have:=congrArg List.length HT.out;simpa using this
 have HV:Hid (AW w5 (w5.alloc (.cells #[.pointer none,.int .i64 0] Ops.TV)) w5.heap.size [] (fl w5.heap.size [] []) B0):=Lib.hid ⟨VS.new (Below.refl _ _),HLs.out.keep (Fr.alloc _ _ _),hB0,by simp⟩
 have HBa:=Lib.hid (HB.out.alloc HB.out.size (.cells #[.pointer none,.int .i64 0] Ops.TV))
 generalize w5.alloc (.cells #[.pointer none,.int .i64 0] Ops.TV)=w6 at *
 generalize hBv:w5.heap.size=Bv at *
 refine aw4 (by kernel_rfl) _ _ w5 w6 Bv _ B0 HV.out rfl rfl rfl ?_
 intro x w7 F' h4 h5 hv
 simp only [Eng.setAll,Act.put,List.setIfInBounds_toArray,List.set_cons_succ,List.set_cons_zero]
 rw [h4,h5]
 have HV7:=Lib.hid hv
 clear hv HV h4 h5 HLs
 rw [hTl]
 obtain ⟨A0,c0,A1,c1,rfl⟩:∃A0 c0 A1 c1,T= [⟨nD,xD,A0,c0⟩,⟨nW,xW,A1,c1⟩]:=by
  have h:=HT.out
  match T,hTl with
  | [⟨n0,x0,A0,c0⟩,⟨n1,x1,A1,c1⟩],_=>
   simp only [List.map_cons,List.map_nil,List.cons.injEq,Prod.mk.injEq,and_true] at h
   obtain ⟨⟨rfl,rfl⟩,rfl,rfl⟩:=h
   exact ⟨A0,c0,A1,c1,rfl⟩
 obtain ⟨b1,o1,rfl,hb1,hc1⟩:=HO.out.s.at (i:=0) (by simp) (by omega)
 have HC0:Hid (∀W,Below w5.heap.size w5 W→W.cell? ⟨b1,o1,none⟩=some (.string sD)∧W.cell? ⟨b1,o1+6+1+1,none⟩=some (.int .i64 2)):=fun W hW=>⟨(hW.cell hb1).trans (hc1 0 _ rfl),(hW.cell hb1).trans (hc1 8 _ rfl)⟩
 have hHB:=HV7.out.v.b
 have HBs:Hid (∀W,Below w5.heap.size w5 W→Below w.heap.size w W):=fun W hW=>HB.out.trans (hW.mono HB.out.size)
 clear hHB HBa HB hc1 HO HT hTl
 have HG:=Lib.hid (Get_some HV7.out.v sW sG (by decide) (q:=(nW,xW)) (by rw [getL_cons,if_pos (sameK_refl _)]))
 go_wp2_with fail
 refine HG.out.mono ?_
 rintro e w8 ⟨A8,c8,rfl,-,-,hf⟩
 have HV8:=Lib.hid (HV7.out.keep hf)
 clear hf HV7 HG
 go_upto_region 6 with (fail)
 have HV9:=Lib.hid (HV8.out.keep (Fr.alloc (fun _=>False) w8 (.cells (opc nW xW A8 c8).toArray TO)))
 have HX9:=Lib.hid (Bk.new w8 (opc nW xW A8 c8).toArray TO)
 clear HV8
 generalize w8.alloc (.cells (opc nW xW A8 c8).toArray TO)=w9 at *
 generalize w8.heap.size=Bx at *
 have HQ:=Lib.hid (Law26.Quantile HV9.out.v sW sG 500 (by decide))
 rw [q2] at HQ
 go_wp2_with fail
 refine HQ.out.mono ?_
 rintro e w10 ⟨rfl,hf⟩
 have HV10:=Lib.hid (HV9.out.keep hf);have HX10:=Lib.hid (HX9.out.fr hf (fun _ _ h=>h))
 clear hf HV9 HX9 HQ
 have HN:=Lib.hid (Law26.Get_none HV10.out.v sD sP (by decide) (getD0 _))
 go_wp2_with fail
 refine HN.out.mono ?_
 rintro e w11 ⟨rfl,hf⟩
 have HV11:=Lib.hid (HV10.out.keep hf);have HX11:=Lib.hid (HX10.out.fr hf (fun _ _ h=>h))
 clear hf HV10 HX10 HN
 go_upto_region 8 with (fail)
 have HV12:=Lib.hid (HV11.out.keep (Fr.alloc (fun _=>False) w11 (.cells opZ TO)))
 have HX12:=Lib.hid (HX11.out.fr (Fr.alloc (fun _=>False) w11 (.cells opZ TO)) (fun _ _ h=>h))
 clear HV11 HX11
 generalize w11.alloc (.cells opZ TO)=w12 at *
 obtain ⟨d0,d8⟩:=HC0.out w12 HV12.out.v.b
 have x3:w12.cell? ⟨Bx,3,none⟩=some (.int .i64 0):=HX12.out.cell 3
 have x4:w12.cell? ⟨Bx,4,none⟩=some (.int .i64 11):=HX12.out.cell 4
 have ks:∀W:World,(Instr.build 63 #[(1,.int .i64 11)]).run prog W=.ok (.agg #[.int .i64 0,.int .i64 11]) W:=fun W=>by kernel_rfl
 have t1:(sD.toList==sD.toList)=true:=by simp
 have HS:=Lib.hid (Law26.Services HV12.out.v (by simp))
 rw [sv2] at HS
 go_wp2_with fail
 refine HS.out.mono ?_
 rintro e w13 ⟨A13,c13,rfl,hs,ha,hb⟩
 have HV13:=Lib.hid (HV12.out.keep (Fr.of_below' hb _))
 have HS13:=Lib.hid hs
 clear hs ha hb HV12 HX12 HS d0 d8 x3 x4
 have HTx:=Lib.hid (SmT.SameTexts' A13 (some ⟨w13.heap.size,0,none⟩) c13 1 [sW] [sW] (w13.alloc (.cells #[.string sW] TSt)) 1 1 rfl rfl (HS13.out.fr (Fr.alloc (fun _=>False) _ _) (fun _ _ h=>h)) (many w13 TSt [.string sW] 1 1 (by omega) rfl))
 rw [show decide ([sW]= [sW])=true from by simp] at HTx
 have HV14:=Lib.hid (HV13.out.keep (Fr.alloc (fun _=>False) w13 (.cells #[.string sW] TSt)))
 clear HV13 HS13
 go_wp2_with fail
 refine HTx.out.mono ?_
 rintro e w15 ⟨rfl,hf⟩
 have HV15:=Lib.hid (HV14.out.keep hf)
 have k2:=kb2 B0
 have HA:=Lib.hid HV15.out.t3
 clear hf HV14 HTx
 go_wp2_with fail
 refine HA.out.mono ?_
 rintro e w16 ⟨rfl,F16,hv⟩
 have HV16:=Lib.hid hv
 clear hv HA
 go_wp2_with fail
 go_ret
 exact ⟨rfl,HBs.out _ HV16.out.v.b⟩
end Law26
end Go.Proofs.YtdpngmgaomghoaaGreat
