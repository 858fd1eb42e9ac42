/- Layer 22's statements: what must come, whatever the arguments are. -/
import Derived.Test.YtgfjpnpbkkadpaaGreatDrd5
import Derived.Test.YtgfjpnpbkkadpaaGreatDels
namespace Go.Proofs.YtgfjpnpbkkadpaaGreat
open Tryz
set_option maxRecDepth 100000
set_option maxHeartbeats 8000000
open Go.RowKit
namespace Law22
open KeyP PackP SetP SetW SetF Sli Delta KidsP Cls KdO Fst Drd Wrk
attribute [local go_sem] Eng.ev Eng.getO_cons Eng.getO_nil
theorem Ls.lit (w:World) (L:List Sn) (arr:Array Value) (harr:arr=(L.flatMap scs).toArray) (n:Nat) (hn:n=L.length) (hl:L.length≤1000000) (hok:∀x∈L,x.ok):Ls (w.alloc (.cells arr TSn)) (some ⟨w.heap.size,0,none⟩) n L:=by
 subst harr;subst hn
 exact ⟨Ref09.Sl.many w TSn _ 9 _ hl (flat_length scs_len L),hok⟩
abbrev ss:ByteArray:=⟨#[115]⟩
abbrev so:ByteArray:=⟨#[111]⟩
abbrev of (i p:Int):Sn:=⟨1,i,p,0,ss,so,0,0,false⟩
instance (n:Int):Decidable (in64 n):=by unfold in64;infer_instance
theorem of_ok (i p:Int) (h:in64 i) (h2:in64 p):(of i p).ok:=⟨by show in64 1;decide,h,h2,by show in64 0;decide,by show in64 0;decide,by show in64 0;decide,by show 1≤maxLen;unfold maxLen;omega,by show 1≤maxLen;unfold maxLen;omega⟩
theorem of_ (i p:Int) (w:World):Calls prog 73 #[.int .i64 i,.int .i64 p] w fun e w'=>e=.returned (of i p).v∧Fr (fun _=>False) w w':=by
 have kb:∀W:World,(Instr.build 38 #[(0,.int .i64 1),(1,.int .i64 i),(2,.int .i64 p),(4,.string ss),(5,.string so)]).run prog W=.ok (.agg #[.int .i64 1,.int .i64 i,.int .i64 p,.int .i64 0,.string ss,.string so,.int .i64 0,.int .i64 0,.bool false]) W:=fun W=>by kernel_rfl
 go_enter func73,ntmps73
 go_wp2_with fail
 have hh:=heap_new w (.cells (of i p).arr 38)
 exact bodyPost_ret (results_cell_row rfl _ _ w.heap.size 38 _ (0,0) _ rfl hh underlying38 rfl (by kernel_rfl)) rfl ⟨rfl,Fr.alloc _ _ _⟩
structure Fv (w A:World) (B:Nat) (L:List Sn) (F:List Nat) (bs:List (Nat × Array Value × TypeId)):Prop where
 f:FB A B L (pm L) F
 b:Below w.heap.size w A
 lo:∀b∈F,w.heap.size≤b
 bx:∀x∈bs,Bk A x.1 x.2.1 x.2.2∧x.1∉F
section
variable {w A C:World} {B:Nat} {L L':List Sn} {F F':List Nat} {bs:List (Nat × Array Value × TypeId)}
theorem Fv.keep (h:Fv w A B L F bs) (hf:Fr (fun _=>False) A C):Fv w C B L F bs:=⟨h.f.fr hf (fun _ _ h=>h),h.b.trans (hf.below h.b.size (fun _ _ h=>h)),h.lo,fun x hx=>⟨(h.bx x hx).1.fr hf (fun _ _ h=>h),(h.bx x hx).2⟩⟩
theorem Fv.below (h:Fv w A B L F bs) (hb:Below A.heap.size A C):Fv w C B L F bs:=h.keep (Fr.of_below' hb _)
theorem Fv.turn (h:Fv w A B L F bs) (hF:FB C B L' (pm L') F') (ht:Tn F F' A C):Fv w C B L' F' bs:=
 ⟨hF,h.b.trans (ht.fr.below h.b.size (fun k hk e=>by have:=h.lo k e;omega)),fun b hb=>(ht.sub b hb).1.elim (h.lo b) (fun e=>Nat.le_trans h.b.size e),
  fun x hx=>⟨(h.bx x hx).1.fr ht.fr (fun b hb e=>by simp at hb;subst hb;exact (h.bx x hx).2 e),not_new ht (h.bx x hx).2 (lt_of_heap (h.bx x hx).1)⟩⟩
theorem Fv.box (h:Fv w A B L F bs) (arr:Array Value) (T:TypeId):Fv w (A.alloc (.cells arr T)) B L F ((A.heap.size,arr,T)::bs):=by
 have h2:=h.keep (Fr.alloc (fun _=>False) A (.cells arr T))
 refine ⟨h2.f,h2.b,h2.lo,fun x hx=>?_⟩
 rcases List.mem_cons.1 hx with rfl|hx
 ·exact ⟨Bk.new A arr T,fun e=>by have:=h.f.lt _ e;dsimp only at this;omega⟩
 ·exact h2.bx x hx
theorem Fv.new (w:World):Fv w (w.alloc (.cells #[.pointer none,.int .i64 0,.pointer none,.int .i64 0,.pointer none,.int .i64 0] KdO.TX)) w.heap.size [] [w.heap.size] []:=by
 refine ⟨⟨none,[w.heap.size],[],IB.new w (.pointer none,.int .i64 0),AvlSP.MapIn.nil _,by simp,rfl⟩,(Below.refl _ w).alloc (Nat.le_refl _) _,by simp,by simp⟩
structure Pl_ (w:World) (base:Nat) (A:Option Addr) (c n:Nat) (P:List Pq):Prop where
 o:w.ownsRow base TPl 6 (.slice A n c) n (pcs P)
 n:P.length=n
theorem ApplyE {A1 A2:Option Addr} {k1 k2:Nat} {O I:List Sn} (h:Fv w A B L F bs) (hd:RdD A ⟨A1,k1,O,A2,k2,I⟩) (ha:ApD ⟨A1,k1,O,A2,k2,I⟩ F) (sl:L.length≤20000) (nO nI:Nat) (hO:O.length=nO) (hI:I.length=nI) (so:nO≤10000) (si:nI≤10000) (h0:dmay L O I=0) (L1:List Sn) (h1:next L O I=L1) (P Q:List Pq) (hP:mvd L L1=P) (hQ:mvd L1 L=Q) (nP nQ:Nat) (hp:P.length=nP) (hq:Q.length=nQ) (N:Nat) (hN:4*(siz L (O++I)+siz L1 (O++I))=N):
  Calls prog 31 #[.pointer (some ⟨B,0,none⟩),.agg #[.slice A1 nO k1,.slice A2 nI k2]] A fun e w'=>∃A3 c3 A4 c4 n F',e=.returned (.tuple #[.agg #[.slice A3 nP c3,.slice A4 nQ c4],.int .i64 n,.int .i64 0])∧
   Fv w w' B L1 F' bs∧Tn F F' A w'∧Pl_ w' A.heap.size A3 c3 nP P∧Pl_ w' A.heap.size A4 c4 nQ Q∧(∀b,(Value.slice A3 nP c3).ownBlock=some b→b∉F')∧(∀b,(Value.slice A4 nQ c4).ownBlock=some b→b∉F')∧0≤n∧n≤(N:Int):=by
 subst hO;subst hI;subst h1;subst hP;subst hQ;subst hp;subst hq;subst hN
 refine (Apply A h.f hd ha sl so si).mono ?_
 rintro e w' ⟨hx,-⟩
 obtain ⟨A3,c3,A4,c4,n,F',rfl,g1,g2,g3,g4,g5,g6,g7,g8⟩:=hx h0
 exact ⟨A3,c3,A4,c4,n,F',rfl,h.turn g3 g4,g4,⟨g1,rfl⟩,⟨g2,rfl⟩,g5,g6,g7,g8⟩
theorem ApplyX {A1 A2:Option Addr} {k1 k2:Nat} {O I:List Sn} (h:Fv w A B L F bs) (hd:RdD A ⟨A1,k1,O,A2,k2,I⟩) (ha:ApD ⟨A1,k1,O,A2,k2,I⟩ F) (sl:L.length≤20000) (nO nI:Nat) (hO:O.length=nO) (hI:I.length=nI) (so:nO≤10000) (si:nI≤10000) (m:Int) (h0:dmay L O I=m) (hm:m≠0):
  Calls prog 31 #[.pointer (some ⟨B,0,none⟩),.agg #[.slice A1 nO k1,.slice A2 nI k2]] A fun e w'=>e=.returned (.tuple #[.agg #[.slice none 0 0,.slice none 0 0],.int .i64 0,.int .i64 m])∧Fv w w' B L F bs:=by
 subst hO;subst hI;subst h0
 refine (Apply A h.f hd ha sl so si).mono ?_
 rintro e w' ⟨-,hx⟩
 obtain ⟨rfl,hb⟩:=hx hm
 exact ⟨rfl,h.below hb⟩
theorem PlaceE (h:Fv w A B L F bs) {t i:Int} (ht:wf64 t) (hi:wf64 i) (p:Pq) (hp:getL (key2 t i) (pm L)=some p):Calls prog 38 #[.pointer (some ⟨B,0,none⟩),.int .i64 t,.int .i64 i] A fun e w'=>e=.returned (.tuple #[p.v,.bool true])∧Fv w w' B L F bs:=by
 refine (Wrk.Place t i A h.f ht hi).mono ?_
 rintro e w' ⟨rfl,hf⟩
 rw [hp]
 exact ⟨rfl,h.keep hf⟩
theorem LenE (h:Fv w A B L F bs) (n:Nat) (hn:L.length=n):Calls prog 37 #[.pointer (some ⟨B,0,none⟩)] A fun e w'=>e=.returned (.int .i64 n)∧A=w':=by
 have:=Len A h.f
 rwa [show (pm L).length=n by unfold pm mp;rw [List.length_map,hn]] at this
theorem PlacesE (h:Fv w A B L F bs) (sl:L.length≤20000) (P:List Pq) (hP:L.map (plq L)=P) (n:Nat) (hn:P.length=n):Calls prog 36 #[.pointer (some ⟨B,0,none⟩)] A fun e w'=>∃A1 c1,e=.returned (.slice A1 n c1)∧Pl_ w' A.heap.size A1 c1 n P∧Below A.heap.size A w':=by
 have hv:vals (pm L)=P:=by unfold vals pm mp;rw [List.map_map,←hP];rfl
 refine (Places A h.f (by unfold pm mp;rw [List.length_map];omega)).mono ?_
 rintro e w' ⟨A1,c1,rfl,h1,h2⟩
 rw [hv] at h1 ⊢
 rw [hn] at h1 ⊢
 exact ⟨A1,c1,rfl,⟨h1,hn⟩,h2⟩
end
theorem apD_new {A1 A2:Option Addr} {k1 k2:Nat} {O I:List Sn} {F:List Nat} {lo:Nat} (hF:∀b∈F,b<lo) (h1:O≠ []→∀a,A1=some a→lo≤a.block) (h2:I≠ []→∀a,A2=some a→lo≤a.block):ApD ⟨A1,k1,O,A2,k2,I⟩ F:=
 ⟨fun h a e hb=>by have:=hF _ hb;have:=h1 h a e;omega,fun h a e hb=>by have:=hF _ hb;have:=h2 h a e;omega⟩
theorem bd0 (A:Option Addr) (n c:Nat):∀W:World,(Instr.build TDl #[(0,.slice A n c)]).run prog W=.ok (.agg #[.slice A n c,.slice none 0 0]) W:=fun W=>by kernel_rfl
theorem bd1 (A:Option Addr) (n c:Nat):∀W:World,(Instr.build TDl #[(1,.slice A n c)]).run prog W=.ok (.agg #[.slice none 0 0,.slice A n c]) W:=fun W=>by kernel_rfl
abbrev X3:List Sn:= [of 1 0,of 2 1,of 3 2]
abbrev X1:List Sn:= [of 1 0]
abbrev Y1:List Sn:=next [] [] X3
abbrev Y2:List Sn:=next Y1 X1 []
theorem d1:dmay [] [] X3=0:=by decide+kernel
theorem d2:dmay Y1 X1 []=0:=by decide+kernel
theorem d3:dmay Y2 X1 []=7:=by decide+kernel
theorem m1:(mvd [] Y1).length=0:=by decide+kernel
theorem m2:(mvd Y1 []).length=3:=by decide+kernel
theorem m3:(mvd Y1 Y2).length=3:=by decide+kernel
theorem m4:(mvd Y2 Y1).length=2:=by decide+kernel
theorem n1:4*(siz [] ([]++X3)+siz Y1 ([]++X3))=12:=by decide+kernel
theorem p2:getL (key2 1 3) (pm Y2)=some ⟨1,3,2,2,2,0⟩:=by decide+kernel
theorem l1:Y1.length=3:=by decide+kernel
theorem l2:Y2.length=2:=by decide+kernel
theorem awake (w:World):Calls prog 30 #[] w fun e w'=>e=.returned (.bool true)∧Below w.heap.size w w':=by
 have HV:=Lib.hid (Fv.new w)
 have F1:=Lib.hid (of_ 1 0);have F2:=Lib.hid (of_ 2 1);have F3:=Lib.hid (of_ 3 2)
 have K1:=of_ok 1 0 (by decide) (by decide);have K2:=of_ok 2 1 (by decide) (by decide);have K3:=of_ok 3 2 (by decide) (by decide)
 have D1:=d1;have D2:=d2;have D3:=d3;have M1:=m1;have M2:=m2;have M3:=m3;have M4:=m4;have N1:=n1;have P2:=p2;have L1:=l1;have L2:=l2
 obtain ⟨y2,hy2⟩:∃y,Y2=y:=⟨_,rfl⟩
 rw [hy2] at D3 M3 M4 P2 L2
 obtain ⟨y1,hy1⟩:∃y,Y1=y:=⟨_,rfl⟩
 rw [show Y2=next Y1 X1 [] from rfl] at hy2
 rw [hy1] at D2 M1 M2 M3 M4 N1 L1 hy2
 rw [show Y1=next [] [] X3 from rfl] at hy1
 rw [show X3= [of 1 0,of 2 1,of 3 2] from rfl] at D1 hy1 N1
 rw [show X1= [of 1 0] from rfl] at D2 D3 hy2
 generalize of 1 0=x1 at *
 generalize of 2 1=x2 at *
 generalize of 3 2=x3 at *
 have HO3:Hid (∀x∈ [x1,x2,x3],x.ok):=by
  intro x hx
  simp only [List.mem_cons,List.not_mem_nil,or_false] at hx
  rcases hx with rfl|rfl|rfl<;>assumption
 have HO1:Hid (∀x∈ [x1],x.ok):=by
  intro x hx
  simp only [List.mem_cons,List.not_mem_nil,or_false] at hx
  rcases hx with rfl;assumption
 have D1:=Lib.hid D1;have D2:=Lib.hid D2;have D3:=Lib.hid D3;have M1:=Lib.hid M1;have M2:=Lib.hid M2;have M3:=Lib.hid M3;have M4:=Lib.hid M4;have N1:=Lib.hid N1;have P2:=Lib.hid P2;have L1:=Lib.hid L1;have L2:=Lib.hid L2;have HY1:=Lib.hid hy1;have HY2:=Lib.hid hy2
 clear K1 K2 K3 hy1 hy2
 go_enter func30,ntmps30
 go_upto_region 2 with (fail)
 generalize w.alloc (.cells #[.pointer none,.int .i64 0,.pointer none,.int .i64 0,.pointer none,.int .i64 0] KdO.TX)=w1 at *
 go_wp2_with fail
 refine (F1.out _).mono ?_
 rintro e w2 ⟨rfl,hf⟩
 replace HV:=Lib.hid (HV.out.keep hf)
 clear hf
 go_wp2_with fail
 refine (F2.out _).mono ?_
 rintro e w3 ⟨rfl,hf⟩
 replace HV:=Lib.hid (HV.out.keep hf)
 clear hf
 go_wp2_with fail
 refine (F3.out _).mono ?_
 rintro e w4 ⟨rfl,hf⟩
 replace HV:=Lib.hid (HV.out.keep hf)
 clear hf
 have hls:=Ls.lit w4 [x1,x2,x3] #[.int .i64 x1.t,.int .i64 x1.i,.int .i64 x1.p,.int .i64 x1.r,.string x1.s,.string x1.o,.int .i64 x1.b,.int .i64 x1.d,.bool x1.g,.int .i64 x2.t,.int .i64 x2.i,.int .i64 x2.p,.int .i64 x2.r,.string x2.s,.string x2.o,.int .i64 x2.b,.int .i64 x2.d,.bool x2.g,.int .i64 x3.t,.int .i64 x3.i,.int .i64 x3.p,.int .i64 x3.r,.string x3.s,.string x3.o,.int .i64 x3.b,.int .i64 x3.d,.bool x3.g] rfl 3 rfl (by simp) HO3.out
 have hfa:=Fr.alloc (fun _=>False) w4 (.cells #[.int .i64 x1.t,.int .i64 x1.i,.int .i64 x1.p,.int .i64 x1.r,.string x1.s,.string x1.o,.int .i64 x1.b,.int .i64 x1.d,.bool x1.g,.int .i64 x2.t,.int .i64 x2.i,.int .i64 x2.p,.int .i64 x2.r,.string x2.s,.string x2.o,.int .i64 x2.b,.int .i64 x2.d,.bool x2.g,.int .i64 x3.t,.int .i64 x3.i,.int .i64 x3.p,.int .i64 x3.r,.string x3.s,.string x3.o,.int .i64 x3.b,.int .i64 x3.d,.bool x3.g] TSn)
 have hap:=fun b hb=>HV.out.f.lt b hb
 have hbd:=bd1 (some ⟨w4.heap.size,0,none⟩) 3 3
 have HLs:=Lib.hid hls;have HAp:=Lib.hid hap
 replace HV:=Lib.hid (HV.out.keep hfa)
 clear hls hap hfa
 go_wp2_with fail
 refine (ApplyE (O:= []) (I:= [x1,x2,x3]) HV.out ⟨Ls.nil _,HLs.out⟩ (apD_new (lo:=w4.heap.size) HAp.out (fun h=>absurd rfl h) (fun _ a e=>by cases e;exact Nat.le_refl _)) (by simp) 0 3 rfl rfl (by omega) (by omega) D1.out y1 HY1.out _ _ rfl rfl 0 3 M1.out M2.out 12 N1.out).mono ?_
 rintro e w5 ⟨P1,c1,P2_,c2,n,F1_,rfl,hv,-,-,-,-,-,hn1,hn2⟩
 clear hbd HLs HAp
 have HV:=Lib.hid hv
 have HN:=Lib.hid hn2
 clear hv hn1 hn2
 go_upto_region 3 with (fail)
 replace HV:=Lib.hid (HV.out.box #[.slice P1 0 c1,.slice P2_ 3 c2] TSh)
 generalize (w5.alloc (.cells #[.slice P1 0 c1,.slice P2_ 3 c2] TSh))=w6 at *
 go_wp2_with fail
 refine (F1.out _).mono ?_
 rintro e w7 ⟨rfl,hf⟩
 replace HV:=Lib.hid (HV.out.keep hf)
 clear hf
 have hls:=Ls.lit w7 [x1] #[.int .i64 x1.t,.int .i64 x1.i,.int .i64 x1.p,.int .i64 x1.r,.string x1.s,.string x1.o,.int .i64 x1.b,.int .i64 x1.d,.bool x1.g] rfl 1 rfl (by simp) HO1.out
 have hfa:=Fr.alloc (fun _=>False) w7 (.cells #[.int .i64 x1.t,.int .i64 x1.i,.int .i64 x1.p,.int .i64 x1.r,.string x1.s,.string x1.o,.int .i64 x1.b,.int .i64 x1.d,.bool x1.g] TSn)
 have hap:=fun b hb=>HV.out.f.lt b hb
 have hbd:=bd0 (some ⟨w7.heap.size,0,none⟩) 1 1
 have HLs:=Lib.hid hls;have HAp:=Lib.hid hap
 replace HV:=Lib.hid (HV.out.keep hfa)
 clear hls hap hfa
 go_wp2_with fail
 refine (ApplyE (O:= [x1]) (I:= []) HV.out ⟨HLs.out,Ls.nil _⟩ (apD_new (lo:=w7.heap.size) HAp.out (fun _ a e=>by cases e;exact Nat.le_refl _) (fun h=>absurd rfl h)) (by have:=L1.out;omega) 1 0 rfl rfl (by omega) (by omega) D2.out y2 HY2.out _ _ rfl rfl 3 2 M3.out M4.out _ rfl).mono ?_
 rintro e w8 ⟨P3,c3,P4,c4,n',F2_,rfl,hv,-,-,-,-,-,-,-⟩
 clear hbd HLs HAp
 have HV:=Lib.hid hv
 clear hv
 go_upto_region 4 with (fail)
 replace HV:=Lib.hid (HV.out.box #[.slice P3 3 c3,.slice P4 2 c4] TSh)
 generalize (w8.alloc (.cells #[.slice P3 3 c3,.slice P4 2 c4] TSh))=w9 at *
 go_wp2_with fail
 refine (PlaceE HV.out (by unfold wf64;decide) (by unfold wf64;decide) ⟨1,3,2,2,2,0⟩ P2.out).mono ?_
 rintro e w10 ⟨rfl,hv⟩
 have HV:=Lib.hid hv
 clear hv
 go_upto_region 5 with (fail)
 replace HV:=Lib.hid (HV.out.box #[.int .i64 1,.int .i64 3,.int .i64 2,.int .i64 2,.int .i64 2,.int .i64 0] TPl)
 generalize (w10.alloc (.cells #[.int .i64 1,.int .i64 3,.int .i64 2,.int .i64 2,.int .i64 2,.int .i64 0] TPl))=w11 at *
 go_wp2_with fail
 refine (F1.out _).mono ?_
 rintro e w12 ⟨rfl,hf⟩
 replace HV:=Lib.hid (HV.out.keep hf)
 clear hf
 have hls:=Ls.lit w12 [x1] #[.int .i64 x1.t,.int .i64 x1.i,.int .i64 x1.p,.int .i64 x1.r,.string x1.s,.string x1.o,.int .i64 x1.b,.int .i64 x1.d,.bool x1.g] rfl 1 rfl (by simp) HO1.out
 have hfa:=Fr.alloc (fun _=>False) w12 (.cells #[.int .i64 x1.t,.int .i64 x1.i,.int .i64 x1.p,.int .i64 x1.r,.string x1.s,.string x1.o,.int .i64 x1.b,.int .i64 x1.d,.bool x1.g] TSn)
 have hap:=fun b hb=>HV.out.f.lt b hb
 have hbd:=bd0 (some ⟨w12.heap.size,0,none⟩) 1 1
 have HLs:=Lib.hid hls;have HAp:=Lib.hid hap
 replace HV:=Lib.hid (HV.out.keep hfa)
 clear hls hap hfa
 go_wp2_with fail
 refine (ApplyX (O:= [x1]) (I:= []) HV.out ⟨HLs.out,Ls.nil _⟩ (apD_new (lo:=w12.heap.size) HAp.out (fun _ a e=>by cases e;exact Nat.le_refl _) (fun h=>absurd rfl h)) (by have:=L2.out;omega) 1 0 rfl rfl (by omega) (by omega) 7 D3.out (by decide)).mono ?_
 rintro e w13 ⟨rfl,hv⟩
 clear hbd HLs HAp
 have HV:=Lib.hid hv
 clear hv
 go_upto_region 6 with (fail)
 replace HV:=Lib.hid (HV.out.box #[.slice none 0 0,.slice none 0 0] TSh)
 generalize (w13.alloc (.cells #[.slice none 0 0,.slice none 0 0] TSh))=w14 at *
 have a0:w14.cell? ⟨w5.heap.size,0,none⟩=some (.slice P1 0 c1):=(HV.out.bx _ (List.mem_cons_of_mem _ (List.mem_cons_of_mem _ (List.mem_cons_of_mem _ (List.mem_cons_self ..))))).1.cell 0
 have a1:w14.cell? ⟨w5.heap.size,1,none⟩=some (.slice P2_ 3 c2):=(HV.out.bx _ (List.mem_cons_of_mem _ (List.mem_cons_of_mem _ (List.mem_cons_of_mem _ (List.mem_cons_self ..))))).1.cell 1
 have b0:w14.cell? ⟨w8.heap.size,0,none⟩=some (.slice P3 3 c3):=(HV.out.bx _ (List.mem_cons_of_mem _ (List.mem_cons_of_mem _ (List.mem_cons_self ..)))).1.cell 0
 have b1:w14.cell? ⟨w8.heap.size,1,none⟩=some (.slice P4 2 c4):=(HV.out.bx _ (List.mem_cons_of_mem _ (List.mem_cons_of_mem _ (List.mem_cons_self ..)))).1.cell 1
 have d0:w14.cell? ⟨w10.heap.size,0,none⟩=some (.int .i64 1):=(HV.out.bx _ (List.mem_cons_of_mem _ (List.mem_cons_self ..))).1.cell 0
 have d1:w14.cell? ⟨w10.heap.size,1,none⟩=some (.int .i64 3):=(HV.out.bx _ (List.mem_cons_of_mem _ (List.mem_cons_self ..))).1.cell 1
 have d2:w14.cell? ⟨w10.heap.size,2,none⟩=some (.int .i64 2):=(HV.out.bx _ (List.mem_cons_of_mem _ (List.mem_cons_self ..))).1.cell 2
 have d3:w14.cell? ⟨w10.heap.size,3,none⟩=some (.int .i64 2):=(HV.out.bx _ (List.mem_cons_of_mem _ (List.mem_cons_self ..))).1.cell 3
 have d4:w14.cell? ⟨w10.heap.size,4,none⟩=some (.int .i64 2):=(HV.out.bx _ (List.mem_cons_of_mem _ (List.mem_cons_self ..))).1.cell 4
 have d5:w14.cell? ⟨w10.heap.size,5,none⟩=some (.int .i64 0):=(HV.out.bx _ (List.mem_cons_of_mem _ (List.mem_cons_self ..))).1.cell 5
 have qn:decide (n≤12)=true:=by have:=HN.out;simp;omega
 have kp:∀W:World,(Instr.build TPl #[(0,.int .i64 1),(1,.int .i64 3),(2,.int .i64 2),(3,.int .i64 2),(4,.int .i64 2)]).run prog W=.ok (.agg #[.int .i64 1,.int .i64 3,.int .i64 2,.int .i64 2,.int .i64 2,.int .i64 0]) W:=fun W=>by kernel_rfl
 have ke:∀W:World,(binOp .eql TPl (.agg #[.int .i64 1,.int .i64 3,.int .i64 2,.int .i64 2,.int .i64 2,.int .i64 0]) (.agg #[.int .i64 1,.int .i64 3,.int .i64 2,.int .i64 2,.int .i64 2,.int .i64 0])).run prog W=.ok (.bool true) W:=fun W=>(eql_pc 1 3 2 2 2 0 1 3 2 2 2 0 W).trans rfl
 go_wp2_with fail
 refine (LenE HV.out 2 L2.out).mono ?_
 rintro e wq ⟨rfl,rfl⟩
 go_wp2_with fail
 refine (PlacesE HV.out (by have:=L2.out;omega) _ rfl 2 (by rw [List.length_map];exact L2.out)).mono ?_
 rintro e wr ⟨P5,c5,rfl,-,hb⟩
 have HB:=Lib.hid (HV.out.b.trans (hb.mono HV.out.b.size))
 clear hb
 go_wp2_with fail
 go_ret
 exact ⟨rfl,HB.out⟩
end Law22
namespace Law22
open KeyP PackP SetP SetW SetF Sli Delta KidsP Cls KdO Fst Drd Wrk
attribute [local go_sem] Eng.ev Eng.getO_cons Eng.getO_nil
open ClsW (spn RefSpans)
theorem few_len {L:List Sn} {n:Nat} (h:fewB L n=true):L.length≤n:=by unfold fewB at h;simp at h;exact h.2
end Law22
namespace Law22
open KeyP PackP SetP SetW SetF Sli Delta KidsP Cls KdO Fst Drd Wrk
attribute [local go_sem] Eng.ev Eng.getO_cons Eng.getO_nil
open ClsW (spn)
structure As (L:List Sn):Prop where
 ok:Ok L
 al:∀x∈L,x.g=false
theorem As.nil:As []:=⟨⟨List.Pairwise.nil,by simp,by simp⟩,by simp⟩
theorem As.fix {L:List Sn} (h:As L):ClsW.spn L=L:=by
 show ClsW.alive (setOf L)=L
 rw [h.ok.set]
 exact List.filter_eq_self.2 (fun x hx=>by rw [h.al x hx];rfl)
structure FoS (w1 A:World) (B:Nat) (L:List Sn) (F:List Nat):Prop where
 f:FB A B L (pm L) F
 r:Fr (fun b=>b=B) w1 A
 lo:∀b∈F,b=B∨w1.heap.size≤b
section
variable {w1 A C:World} {B:Nat} {L L':List Sn} {F F':List Nat}
theorem FoS.keep (h:FoS w1 A B L F) (hf:Fr (fun _=>False) A C):FoS w1 C B L F:=⟨h.f.fr hf (fun _ _ h=>h),h.r.trans hf (fun _ _ h=>h) (fun _ _ h=>h.elim),h.lo⟩
theorem FoS.turn (h:FoS w1 A B L F) (hF:FB C B L' (pm L') F') (ht:Tn F F' A C):FoS w1 C B L' F':=
 ⟨hF,⟨ht.fr.os.trans h.r.os,ht.fr.tape.trans h.r.tape,ht.fr.output.trans h.r.output,Nat.le_trans h.r.size ht.fr.size,fun i hi hn=>(ht.fr.block i (Nat.lt_of_lt_of_le hi h.r.size) (fun e=>by
  rcases h.lo i e with q|q
  ·exact hn q
  ·omega)).trans (h.r.block i hi hn)⟩,fun b hb=>(ht.sub b hb).1.elim (h.lo b) (fun e=>.inr (Nat.le_trans h.r.size e))⟩
end
theorem PlacesF {X:World} {B:Nat} {L:List Sn} {F:List Nat} (h:FB X B (L.map br) (pm (L.map br)) F) (sl:L.length≤5000) (P:List Pq) (hP:L.map (plq L)=P) (n:Nat) (hn:P.length=n):Calls prog 36 #[.pointer (some ⟨B,0,none⟩)] X fun e w'=>∃A1 c1,e=.returned (.slice A1 n c1)∧Sl w' 6 A1 n c1 (pcs P)∧Fr (fun _=>False) X w':=by
 have hv:vals (pm (L.map br))=P:=by rw [pm_br];unfold vals mp;rw [List.map_map,←hP];rfl
 refine (Places X h (by unfold pm mp;rw [List.length_map,List.length_map];omega)).mono ?_
 rintro e w' ⟨A1,c1,rfl,h1,h2⟩
 rw [hv] at h1 ⊢
 obtain ⟨A',c',he,h3,-⟩:=Sl.of_own h1
 cases he
 rw [hn] at h3 ⊢
 exact ⟨A1,c1,rfl,h3,Fr.of_below' h2 _⟩
theorem Ls.gd {w:World} {A:Option Addr} {c:Nat} {L:List Sn} (h:Ls w A c L):∀x∈L,gd x:=fun x hx=>⟨(h.ok x hx).t,(h.ok x hx).i,(h.ok x hx).p⟩
end Law22
end Go.Proofs.YtgfjpnpbkkadpaaGreat
