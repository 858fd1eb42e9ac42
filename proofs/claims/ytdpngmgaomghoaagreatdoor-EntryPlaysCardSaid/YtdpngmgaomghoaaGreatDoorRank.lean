/- Which record goes ahead: the program's and the document's. -/
import Derived.Test.YtdpngmgaomghoaaGreatDoorCodes
import Derived.Test.YtdpngmgaomghoaaGreatDoorSats
import Derived.Lib.Bytealg
namespace Go.Proofs.YtdpngmgaomghoaaGreatDoor
open Tryz
set_option maxRecDepth 100000
set_option maxHeartbeats 2000000
open Go.RowKit
namespace Rank
open KeyP PackP Vari SetW Name Code_
theorem cmp_less:∀l m:List UInt8,decide (0<Lib.compareBytes l m)=Op.bytesLess m l
 | [],[]=>by simp [Lib.compareBytes,Op.bytesLess]
 | [],_::_=>by simp [Lib.compareBytes,Op.bytesLess]
 |_::_,[]=>by simp [Lib.compareBytes,Op.bytesLess]
 |a::x,b::y=>by
  unfold Lib.compareBytes Op.bytesLess
  by_cases h1:a<b
  ·have h2:¬b<a:=fun h=>absurd (UInt8.lt_trans h1 h) (UInt8.lt_irrefl _)
   have h3:¬b=a:=fun e=>by subst e;exact UInt8.lt_irrefl _ h1
   rw [if_pos h1];simp [h2,h3]
  ·rw [if_neg h1]
   by_cases h2:b<a
   ·rw [if_pos h2];simp [h2]
   ·have h3:b=a:=UInt8.le_antisymm (UInt8.not_lt.1 h1) (UInt8.not_lt.1 h2)
    subst h3
    rw [if_neg h1,cmp_less x y];simp
theorem CompareString (a b:ByteArray) (w:World):Calls prog 117 #[.string a,.string b] w fun e w'=>e=.returned (.int .i64 (Lib.compareBytes a.data.toList b.data.toList))∧w=w':=by
 go_enter func117,ntmps117
 go_wp2_with fail
 rw [run_callFunc_extern func131 (by kernel_rfl) (by kernel_rfl) (by kernel_rfl) (e:=Extern.BytealgCompare.compare) (by kernel_rfl),Lib.run_compareString]
 simp only [Result.andThen]
 rw [Oper.upon_value]
 go_wp2_with fail
 go_ret
 exact ⟨rfl,rfl⟩
theorem Compare (a b:ByteArray) (w:World):Calls prog 101 #[.string a,.string b] w fun e w'=>e=.returned (.int .i64 (Lib.compareBytes a.data.toList b.data.toList))∧w=w':=by
 have H:=Lib.hid (CompareString a b w)
 go_enter func101,ntmps101
 go_wp2_with fail
 refine H.out.mono ?_
 rintro e w1 ⟨rfl,rfl⟩
 go_wp2_with fail
 go_ret
 exact ⟨rfl,rfl⟩
theorem nan (a:Int) (w:World):Calls prog 114 #[.int .i64 a] w fun e w'=>e=.returned (.bool false)∧w=w':=by
 go_enter func114,ntmps114
 go_wp2_with fail
 go_ret
 exact ⟨rfl,rfl⟩
def cmpI (a b:Int):Int:=if a<b then -1 else if b<a then 1 else 0
theorem CompareInt (a b:Int) (w:World):Calls prog 99 #[.int .i64 a,.int .i64 b] w fun e w'=>e=.returned (.int .i64 (cmpI a b))∧w=w':=by
 have H:=Lib.hid (fun n:Int=>nan n w)
 by_cases h1:a<b
 ·have HE:Hid (cmpI a b= -1):=by show _=_;unfold cmpI;rw [if_pos h1]
  have t1:decide (a<b)=true:=by simpa using h1
  clear h1
  go_enter func99,ntmps99
  go_wp2_with fail
  refine (H.out _).mono ?_
  rintro e w1 ⟨rfl,rfl⟩
  go_wp2_with fail
  refine (H.out _).mono ?_
  rintro e w1 ⟨rfl,rfl⟩
  go_wp2_with fail
  go_ret
  exact ⟨by rw [HE.out];rfl,rfl⟩
 ·have t1:decide (a<b)=false:=by simpa using h1
  by_cases h2:b<a
  ·have HE:Hid (cmpI a b=1):=by show _=_;unfold cmpI;rw [if_neg h1,if_pos h2]
   have t2:decide (b<a)=true:=by simpa using h2
   clear h1 h2
   go_enter func99,ntmps99
   go_wp2_with fail
   refine (H.out _).mono ?_
   rintro e w1 ⟨rfl,rfl⟩
   go_wp2_with fail
   refine (H.out _).mono ?_
   rintro e w1 ⟨rfl,rfl⟩
   go_wp2_with fail
   go_ret
   exact ⟨by rw [HE.out];rfl,rfl⟩
  ·have HE:Hid (cmpI a b=0):=by show _=_;unfold cmpI;rw [if_neg h1,if_neg h2]
   have t2:decide (b<a)=false:=by simpa using h2
   clear h1 h2
   go_enter func99,ntmps99
   go_wp2_with fail
   refine (H.out _).mono ?_
   rintro e w1 ⟨rfl,rfl⟩
   go_wp2_with fail
   refine (H.out _).mono ?_
   rintro e w1 ⟨rfl,rfl⟩
   go_wp2_with fail
   go_ret
   exact ⟨by rw [HE.out];rfl,rfl⟩
def ordI (a b:Sn):Int:=if cmpI a.r b.r=0 then Lib.compareBytes (bts a) (bts b) else cmpI a.r b.r
theorem ord_nwr (a b:Sn):decide (0<ordI a b)=nwr a b:=by
 unfold ordI nwr
 rw [←cmp_less]
 unfold cmpI
 by_cases h1:a.r<b.r
 ·have h2:¬b.r<a.r:=by omega
  have h3:¬a.r=b.r:=by omega
  rw [if_pos h1];simp [h2,h3]
 ·by_cases h2:b.r<a.r
  ·rw [if_neg h1,if_pos h2];simp [h2]
  ·have h3:a.r=b.r:=by omega
   rw [if_neg h1,if_neg h2];simp [h3]
theorem kept_ok {x:Sn} (h:x.ok):(Sat2.keptS x).ok:=kp_ok h
theorem PutK (x:Sn) (hx:x.ok) (w:World):Calls prog 100 #[(Sat2.keptS x).v] w fun e w'=>e=.returned (.tuple #[.string (ks (bts x)),.int .i64 (mayN (Sat2.keptS x))])∧Fr (fun _=>False) w w':=Code_.Put (Sat2.keptS x) (kept_ok hx) w
theorem order (a b:Sn) (ha:a.ok) (hb:b.ok) (w:World):Calls prog 87 #[a.v,b.v] w fun e w'=>e=.returned (.int .i64 (ordI a b))∧Fr (fun _=>False) w w':=by
 have HC:=Lib.hid (fun W:World=>CompareInt a.r b.r W)
 have HKa:=Lib.hid (fun W:World=>Sat2.Kept a W)
 have HKb:=Lib.hid (fun W:World=>Sat2.Kept b W)
 have HPa:=Lib.hid (fun W:World=>PutK a ha W)
 have HPb:=Lib.hid (fun W:World=>PutK b hb W)
 have HS:=Lib.hid (fun W:World=>Compare (ks (bts a)) (ks (bts b)) W)
 have HF0:=Lib.hid ((Fr.alloc (fun _=>False) w (.cells a.arr TSn)).trans (Fr.alloc (fun _=>False) (w.alloc (.cells a.arr TSn)) (.cells b.arr TSn)) (T:=fun _=>False) (fun _ _ h=>h) (fun _ _ h=>h))
 have HA:=Lib.hid ((At.box (Bk.new w a.arr TSn)).keep (Fr.alloc (fun _=>False) (w.alloc (.cells a.arr TSn)) (.cells b.arr TSn)))
 have HB:Hid (At ((w.alloc (.cells a.arr TSn)).alloc (.cells b.arr TSn)) (w.heap.size+1) 0 b):=by
  have:=At.box (Bk.new (w.alloc (.cells a.arr TSn)) b.arr TSn)
  rwa [World.size_alloc] at this
 by_cases hc:cmpI a.r b.r=0
 ·have HE:Hid (ordI a b=Lib.compareBytes (bts a) (bts b)):=by show _=_;unfold ordI;rw [if_pos hc]
  rw [hc] at HC
  rw [ks_data,ks_data] at HS
  clear hc ha hb
  generalize ks (bts a)=Va at *
  generalize ks (bts b)=Vb at *
  obtain ⟨t,i,p,r,s,o,u,d,g⟩:=a
  obtain ⟨t',i',p',r',s',o',u',d',g'⟩:=b
  go_enter func87,ntmps87
  go_wp2_with fail
  refine (HC.out _).mono ?_
  rintro e w1 ⟨rfl,rfl⟩
  go_upto_region 4 with (fail)
  generalize (w.alloc (.cells (Sn.arr ⟨t,i,p,r,s,o,u,d,g⟩) TSn)).alloc (.cells (Sn.arr ⟨t',i',p',r',s',o',u',d',g'⟩) TSn)=w1 at *
  have c0:w1.cell? ⟨w.heap.size,0,none⟩=some (.int .i64 t):=HA.out 0 _ rfl
  have c1:w1.cell? ⟨w.heap.size,1,none⟩=some (.int .i64 i):=HA.out 1 _ rfl
  have c2:w1.cell? ⟨w.heap.size,2,none⟩=some (.int .i64 p):=HA.out 2 _ rfl
  have c3:w1.cell? ⟨w.heap.size,3,none⟩=some (.int .i64 r):=HA.out 3 _ rfl
  have c4:w1.cell? ⟨w.heap.size,4,none⟩=some (.string s):=HA.out 4 _ rfl
  have c5:w1.cell? ⟨w.heap.size,5,none⟩=some (.string o):=HA.out 5 _ rfl
  have c6:w1.cell? ⟨w.heap.size,6,none⟩=some (.int .i64 u):=HA.out 6 _ rfl
  have c7:w1.cell? ⟨w.heap.size,7,none⟩=some (.int .i64 d):=HA.out 7 _ rfl
  have c8:w1.cell? ⟨w.heap.size,8,none⟩=some (.bool g):=HA.out 8 _ rfl
  go_wp2_with fail
  refine (HKa.out _).mono ?_
  rintro e w2 ⟨rfl,hf⟩
  have HB2:=Lib.hid (HB.out.keep hf)
  have HF2:=Lib.hid (HF0.out.trans hf (T:=fun _=>False) (fun _ _ h=>h) (fun _ _ h=>h))
  clear hf c0 c1 c2 c3 c4 c5 c6 c7 c8
  go_wp2_with fail
  refine (HPa.out _).mono ?_
  rintro e w3 ⟨rfl,hf⟩
  have HB3:=Lib.hid (HB2.out.keep hf)
  have HF3:=Lib.hid (HF2.out.trans hf (T:=fun _=>False) (fun _ _ h=>h) (fun _ _ h=>h))
  clear hf
  have c0:w3.cell? ⟨w.heap.size+1,0,none⟩=some (.int .i64 t'):=HB3.out 0 _ rfl
  have c1:w3.cell? ⟨w.heap.size+1,1,none⟩=some (.int .i64 i'):=HB3.out 1 _ rfl
  have c2:w3.cell? ⟨w.heap.size+1,2,none⟩=some (.int .i64 p'):=HB3.out 2 _ rfl
  have c3:w3.cell? ⟨w.heap.size+1,3,none⟩=some (.int .i64 r'):=HB3.out 3 _ rfl
  have c4:w3.cell? ⟨w.heap.size+1,4,none⟩=some (.string s'):=HB3.out 4 _ rfl
  have c5:w3.cell? ⟨w.heap.size+1,5,none⟩=some (.string o'):=HB3.out 5 _ rfl
  have c6:w3.cell? ⟨w.heap.size+1,6,none⟩=some (.int .i64 u'):=HB3.out 6 _ rfl
  have c7:w3.cell? ⟨w.heap.size+1,7,none⟩=some (.int .i64 d'):=HB3.out 7 _ rfl
  have c8:w3.cell? ⟨w.heap.size+1,8,none⟩=some (.bool g'):=HB3.out 8 _ rfl
  go_wp2_with fail
  refine (HKb.out _).mono ?_
  rintro e w4 ⟨rfl,hf⟩
  have HF4:=Lib.hid (HF3.out.trans hf (T:=fun _=>False) (fun _ _ h=>h) (fun _ _ h=>h))
  clear hf c0 c1 c2 c3 c4 c5 c6 c7 c8
  go_wp2_with fail
  refine (HPb.out _).mono ?_
  rintro e w5 ⟨rfl,hf⟩
  have HF5:=Lib.hid (HF4.out.trans hf (T:=fun _=>False) (fun _ _ h=>h) (fun _ _ h=>h))
  clear hf
  go_wp2_with fail
  refine (HS.out _).mono ?_
  rintro e w6 ⟨rfl,rfl⟩
  go_wp2_with fail
  go_ret
  exact ⟨by rw [HE.out];rfl,HF5.out⟩
 ·have HE:Hid (ordI a b=cmpI a.r b.r):=by show _=_;unfold ordI;rw [if_neg hc]
  have hq:(cmpI a.r b.r==0)=false:=by simpa using hc
  generalize cmpI a.r b.r=n at *
  have HX:=Lib.hid HE
  clear hc ha hb
  obtain ⟨t,i,p,r,s,o,u,d,g⟩:=a
  obtain ⟨t',i',p',r',s',o',u',d',g'⟩:=b
  go_enter func87,ntmps87
  go_wp2_with fail
  refine (HC.out _).mono ?_
  rintro e w1 ⟨rfl,rfl⟩
  go_wp2_with fail
  go_ret
  exact ⟨by rw [HE.out];rfl,HF0.out⟩
theorem Newer (a b:Sn) (ha:a.ok) (hb:b.ok) (w:World):Calls prog 60 #[a.v,b.v] w fun e w'=>e=.returned (.bool (nwr a b))∧Fr (fun _=>False) w w':=by
 have HO:=Lib.hid (fun W:World=>order a b ha hb W)
 have HF0:=Lib.hid ((Fr.alloc (fun _=>False) w (.cells a.arr TSn)).trans (Fr.alloc (fun _=>False) (w.alloc (.cells a.arr TSn)) (.cells b.arr TSn)) (T:=fun _=>False) (fun _ _ h=>h) (fun _ _ h=>h))
 have HE:=Lib.hid (ord_nwr a b)
 generalize ordI a b=n at *
 clear ha hb
 obtain ⟨t,i,p,r,s,o,u,d,g⟩:=a
 obtain ⟨t',i',p',r',s',o',u',d',g'⟩:=b
 go_enter func60,ntmps60
 go_wp2_with fail
 refine (HO.out _).mono ?_
 rintro e w1 ⟨rfl,hf⟩
 have HF:=Lib.hid (HF0.out.trans hf (T:=fun _=>False) (fun _ _ h=>h) (fun _ _ h=>h))
 clear hf
 go_wp2_with fail
 go_ret
 exact ⟨by rw [←HE.out];rfl,HF.out⟩
end Rank
end Go.Proofs.YtdpngmgaomghoaaGreatDoor
