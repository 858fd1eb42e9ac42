/- What becomes of sets of records: the program's: is it a set, may it be, what is between. -/
import Derived.Test.YtgfjpnpbkkadpaaGreatSli
namespace Go.Proofs.YtgfjpnpbkkadpaaGreat
open Tryz
set_option maxRecDepth 100000
set_option maxHeartbeats 400000
open Go.RowKit Go.Shelf
namespace Delta
open KeyP PackP SetP SetW SetF Sli
attribute [local go_sem] Eng.ev Eng.getO_cons Eng.getO_nil
abbrev TDl:TypeId:=36
def isB (L:List Sn):Bool:=decide (setOf L=L)
theorem set_ (A:Option Addr) (c:Nat) (L:List Sn) (w:World) (hS:Ls w A c L) (hlen:L.length≤1000000):
  Calls prog 182 #[.slice A L.length c] w fun e w'=>e=.returned (.bool (isB L))∧Below w.heap.size w w':=by
 have HS:=Lib.hid (SetF.Set A c L w hS hlen)
 have HL:=Lib.hid hS
 clear hS
 go_enter func182,ntmps182
 go_wp2_with fail
 refine HS.out.mono ?_
 rintro e w2 ⟨A2,c2,rfl,h1,-,hb⟩
 have HE:=Lib.hid (Equal A2 A c2 c (setOf L) L w2 h1.s (HL.out.below hb).s)
 have HB:=Lib.hid hb
 clear h1 hb HS
 go_wp2_with fail
 refine HE.out.mono ?_
 rintro e w3 ⟨rfl,hf⟩
 have HB3:=Lib.hid (HB.out.trans (hf.below HB.out.size (fun _ _ h=>h)))
 clear hf HE
 go_wp2_with fail
 go_ret
 exact ⟨rfl,HB3.out⟩
structure Dl where
 A1:Option Addr
 c1:Nat
 O:List Sn
 A2:Option Addr
 c2:Nat
 I:List Sn
abbrev Dl.cs (d:Dl):List Value:= [.slice d.A1 d.O.length d.c1,.slice d.A2 d.I.length d.c2]
abbrev Dl.arr (d:Dl):Array Value:= #[.slice d.A1 d.O.length d.c1,.slice d.A2 d.I.length d.c2]
abbrev Dl.v (d:Dl):Value:=.agg d.arr
structure RdD (w:World) (d:Dl):Prop where
 o:Ls w d.A1 d.c1 d.O
 i:Ls w d.A2 d.c2 d.I
theorem RdD.keep {w w':World} {d:Dl} (h:RdD w d) (hf:Fr (fun _=>False) w w'):RdD w' d:=⟨h.o.keep hf,h.i.keep hf⟩
theorem RdD.below {w w':World} {d:Dl} (h:RdD w d) (hb:Below w.heap.size w w'):RdD w' d:=h.keep (Fr.of_below' hb _)
def rightB (O I:List Sn):Bool:=isB O&&(isB I&& !O.any (fun x=>decide (x∈I)))
theorem Right1 (d:Dl) (Bd:Nat) (x:Sn) (w:World) (hb:Bk w Bd d.arr TDl) (hd:RdD w d):
  Calls prog 183 #[x.v,.pointer (some ⟨Bd,0,none⟩)] w fun e w'=>e=.returned (.bool (decide (x∈d.I)))∧Fr (fun _=>False) w w':=by
 have hf:=Fr.alloc (fun _=>False) w (.cells x.arr TSn)
 have HX:=Lib.hid (At.box (Bk.new w x.arr TSn))
 have HC:=Lib.hid (Contains d.A2 d.c2 d.I x _ (hd.keep hf).i.s)
 have e1:(w.alloc (.cells x.arr TSn)).cell? ⟨Bd,1,none⟩=some (.slice d.A2 d.I.length d.c2):=(hb.fr hf (fun _ _ h=>h)).cell 1
 have HF:=Lib.hid hf
 clear hb hd hf
 have xc0:(w.alloc (.cells x.arr TSn)).cell? ⟨w.heap.size,0,none⟩=some (.int .i64 x.t):=HX.out 0 _ rfl
 have xc1:(w.alloc (.cells x.arr TSn)).cell? ⟨w.heap.size,1,none⟩=some (.int .i64 x.i):=HX.out 1 _ rfl
 have xc2:(w.alloc (.cells x.arr TSn)).cell? ⟨w.heap.size,2,none⟩=some (.int .i64 x.p):=HX.out 2 _ rfl
 have xc3:(w.alloc (.cells x.arr TSn)).cell? ⟨w.heap.size,3,none⟩=some (.int .i64 x.r):=HX.out 3 _ rfl
 have xc4:(w.alloc (.cells x.arr TSn)).cell? ⟨w.heap.size,4,none⟩=some (.string x.s):=HX.out 4 _ rfl
 have xc5:(w.alloc (.cells x.arr TSn)).cell? ⟨w.heap.size,5,none⟩=some (.string x.o):=HX.out 5 _ rfl
 have xc6:(w.alloc (.cells x.arr TSn)).cell? ⟨w.heap.size,6,none⟩=some (.int .i64 x.b):=HX.out 6 _ rfl
 have xc7:(w.alloc (.cells x.arr TSn)).cell? ⟨w.heap.size,7,none⟩=some (.int .i64 x.d):=HX.out 7 _ rfl
 have xc8:(w.alloc (.cells x.arr TSn)).cell? ⟨w.heap.size,8,none⟩=some (.bool x.g):=HX.out 8 _ rfl
 go_enter func183,ntmps183
 go_wp2_with fail
 refine HC.out.mono ?_
 rintro e w2 ⟨rfl,hf⟩
 have HF2:=Lib.hid (HF.out.trans hf (T:=fun _=>False) (fun _ _ h=>h) (fun _ _ h=>h))
 clear hf HC e1 xc0 xc1 xc2 xc3 xc4 xc5 xc6 xc7 xc8
 go_wp2_with fail
 go_ret
 exact ⟨rfl,HF2.out⟩
theorem Right (d:Dl) (w:World) (hd:RdD w d) (h1:d.O.length≤1000000) (h2:d.I.length≤1000000):
  Calls prog 127 #[d.v] w fun e w'=>e=.returned (.bool (rightB d.O d.I))∧Below w.heap.size w w':=by
 unfold rightB
 have hf:=Fr.alloc (fun _=>False) w (.cells d.arr TDl)
 have HD:=Lib.hid (hd.keep hf)
 have hbk:=Bk.new w d.arr TDl
 have HBk:=Lib.hid hbk
 have HB:=Lib.hid ((Below.refl w.heap.size w).alloc (Nat.le_refl _) (.cells d.arr TDl))
 have e0:(w.alloc (.cells d.arr TDl)).cell? ⟨w.heap.size,0,none⟩=some (.slice d.A1 d.O.length d.c1):=hbk.cell 0
 have HSt:=Lib.hid (set_ d.A1 d.c1 d.O _ HD.out.o h1)
 clear hd hf hbk
 go_enter func127,ntmps127
 go_wp2_with fail
 generalize (w.alloc (.cells d.arr TDl))=w1 at *
 have HS0:=Lib.hid HB.out.size
 generalize hBd:w.heap.size=Bd at *
 have HBd:=Lib.hid hBd
 clear hBd
 refine HSt.out.mono ?_
 rintro e w2 ⟨rfl,hb⟩
 have HB2:=Lib.hid (HB.out.trans (hb.mono HS0.out))
 have HS2:=Lib.hid (Nat.le_trans HS0.out hb.size)
 have HD2:=Lib.hid (HD.out.below hb)
 have HBk2:=Lib.hid (HBk.out.fr (Fr.of_below' hb (fun _=>False)) (fun _ _ h=>h))
 clear hb HSt e0 HD HBk HB
 cases h3:isB d.O with
 |false=>
  go_wp2_with fail
  go_ret
  exact ⟨by rw [h3];rfl,by rw [HBd.out];exact HB2.out⟩
 |true=>
  have e1:w2.cell? ⟨Bd,1,none⟩=some (.slice d.A2 d.I.length d.c2):=HBk2.out.cell 1
  have HSt:=Lib.hid (set_ d.A2 d.c2 d.I _ HD2.out.i h2)
  go_wp2_with fail
  refine HSt.out.mono ?_
  rintro e w3 ⟨rfl,hb⟩
  have HB3:=Lib.hid (HB2.out.trans (hb.mono HS2.out))
  have HS3:=Lib.hid (Nat.le_trans HS2.out hb.size)
  have HD3:=Lib.hid (HD2.out.below hb)
  have HBk3:=Lib.hid (HBk2.out.fr (Fr.of_below' hb (fun _=>False)) (fun _ _ h=>h))
  clear hb HSt e1 HD2 HBk2 HB2
  cases h4:isB d.I with
  |false=>
   go_wp2_with fail
   go_ret
   exact ⟨by rw [h3,h4];rfl,by rw [HBd.out];exact HB3.out⟩
  |true=>
   have e0:w3.cell? ⟨Bd,0,none⟩=some (.slice d.A1 d.O.length d.c1):=HBk3.out.cell 0
   have HC:=Lib.hid (ContainsFunc d.A1 d.c1 183 #[.pointer (some ⟨Bd,0,none⟩)] (fun x=>decide (x∈d.I)) d.O w3 (enters_of func183 (by kernel_rfl) rfl) HD3.out.o.s (fun W hW x _=>Right1 d Bd x W (HBk3.out.fr hW (fun _ _ h=>h)) (HD3.out.keep hW)))
   go_wp2_with fail
   refine HC.out.mono ?_
   rintro e w4 ⟨rfl,hf⟩
   have HB4:=Lib.hid (HB3.out.trans (hf.below HS3.out (fun _ _ h=>h)))
   clear hf HC e0
   obtain ⟨q,HQ⟩:∃q,Hid (d.O.any (fun x=>decide (x∈d.I))=q):=⟨_,Lib.hid rfl⟩
   rw [HQ.out]
   go_wp2_with fail
   go_ret
   exact ⟨by rw [h3,h4,HQ.out];cases q<;>rfl,by rw [HBd.out];exact HB4.out⟩
end Delta
end Go.Proofs.YtgfjpnpbkkadpaaGreat
