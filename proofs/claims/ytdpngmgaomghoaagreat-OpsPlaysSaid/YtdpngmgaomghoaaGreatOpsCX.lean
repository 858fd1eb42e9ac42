/- Texts cut at a zero byte: strings.Cut at keys of operations; ops.split. -/
import Derived.Test.YtdpngmgaomghoaaGreatOpsVW
import Derived.Lib.Bytealg
import Derived.Lib.Walk
namespace Go.Proofs.YtdpngmgaomghoaaGreat
open Tryz
set_option maxRecDepth 100000
open Go.RowKit
namespace Ops
open BagP HistP OpsP Hist KeyP SetP SetW
attribute [local go_sem] Eng.ev Eng.getO_cons Eng.getO_nil
theorem ixb_at:∀ {a:List UInt8} (b:List UInt8),Sep.nz a→Lib.indexByte (a++0::b) 0=a.length
 | [],b,_=>by simp [Lib.indexByte]
 |x::a,b,h=>by
  have h1:=(Sep.nz_cons h).1
  have hx:(x==0)=false:=by
   rw [beq_eq_false_iff_ne];intro e;rw [e] at h1;exact absurd h1 (UInt8.lt_irrefl _)
  have ih:=ixb_at b (Sep.nz_cons h).2
  rw [List.cons_append,Lib.indexByte,hx,ih]
  simp only [Bool.false_eq_true,if_false,List.length_cons]
  rw [if_neg (by simp only [beq_iff_eq];omega)]
  omega
theorem IndexB (s:ByteArray) (w:World):Calls prog 331 #[.string s,.int .u8 0] w fun e w'=>e=.returned (.int .i64 (Lib.indexByte s.data.toList 0))∧w'=w:=by
 have hx:∀W:World,(callFunc 343 #[.string s,.int .u8 0]).run prog W=.ok (.value (.int .i64 (Lib.indexByte s.data.toList 0))) W:=fun W=>by
  rw [run_callFunc_extern func343 (by kernel_rfl) (by kernel_rfl) (by kernel_rfl) (e:=Extern.BytealgIndexByte.indexByte) (by kernel_rfl),Lib.run_indexByteString]
  rfl
 go_enter func331,ntmps331
 go_wp2
 go_ret
 exact ⟨rfl,rfl⟩
theorem Index0 (s:ByteArray) (w:World):Calls prog 303 #[.string s,.string ⟨#[0]⟩] w fun e w'=>e=.returned (.int .i64 (Lib.indexByte s.data.toList 0))∧w'=w:=by
 have HB:=Lib.hid (fun W=>IndexB s W)
 go_enter func303,ntmps303
 go_wp2_with (first| (go_at_call 331;refine (HB.out _).mono ?_;rintro e w1 ⟨rfl,rfl⟩)|fail)
 ·have h:([0]==s.toList)=true:=by assumption
  go_ret
  refine ⟨?_,rfl⟩
  have e:s.data.toList= [0]:=by rw [←Lib.toList_data];exact (beq_iff_eq.1 h).symm
  rw [e]
  simp [Lib.indexByte]
 ·go_ret
  exact ⟨rfl,rfl⟩
theorem key_at (k:Nm) (h:Sep.nz k.1.toList):Lib.indexByte (key k).data.toList 0=k.1.size:=by
 rw [←tl_data,key_list,ixb_at _ h,tl_data];rfl
theorem key_ext1 (k:Nm):(key k).extract 0 k.1.size=k.1:=by
 apply str_ext
 rw [tl_data,tl_data]
 simp [key]
theorem key_ext2 (k:Nm):(key k).extract (k.1.size+1) (key k).size=k.2:=by
 apply str_ext
 have e:(key k).size=(key k).data.toList.length:=rfl
 rw [tl_data,tl_data]
 have h1:((key k).extract (k.1.size+1) (key k).size).data.toList=(key k).data.toList.drop (k.1.size+1):=by
  rw [ByteArray.data_extract,Array.toList_extract,e,List.extract_eq_take_drop]
  exact List.take_of_length_le (by simp)
 rw [h1,←tl_data,key_list,tl_data,tl_data]
 rw [show k.1.size+1=k.1.data.toList.length+1 from rfl,List.drop_append,List.drop_of_length_le (by omega)]
 simp
theorem Cut0 (k:Nm) (h:Sep.nz k.1.toList) (hl:k.1.size+k.2.size≤1000000) (w:World):Calls prog 270 #[.string (key k),.string ⟨#[0]⟩] w fun e w'=>e=.returned (.tuple #[.string k.1,.string k.2,.bool true])∧∃n,w'=w.drewN n:=by
 have HI:=Lib.hid (fun W=>Index0 (key k) W)
 have HA:=Lib.hid (key_at k h)
 have h1:=key_ext1 k;have h2:=key_ext2 k
 have hs:=key_size k
 generalize key k=s at *
 generalize k.1.size=n1 at *
 rw [HA.out] at HI
 go_enter func270,ntmps270
 go_wp2_with (first| (go_at_call 303;refine (HI.out _).mono ?_;rintro e w1 ⟨rfl,rfl⟩)|fail)
 have c1:(0:Int)≤(n1:Int):=by omega
 have c2:(n1:Int)≤(s.size:Int):=by omega
 have c3:(0:Int)≤(n1:Int)+1:=by omega
 have c4:(n1:Int)+1≤(s.size:Int):=by omega
 clear HI HA
 rw [hs] at h2
 go_quiet (fail)
 go_wp2_with fail
 go_ret3
 exact ⟨rfl,nq,rfl⟩
theorem Cut_ (k:Nm) (h:Sep.nz k.1.toList) (hl:k.1.size+k.2.size≤1000000) (w:World):Calls prog 224 #[.string (key k),.string ⟨#[0]⟩] w fun e w'=>e=.returned (.tuple #[.string k.1,.string k.2,.bool true])∧∃n,w'=w.drewN n:=by
 have HC:=Lib.hid (fun W=>Cut0 k h hl W)
 go_enter func224,ntmps224
 go_wp2_with (first| (go_at_call 270;refine (HC.out _).mono ?_;rintro e w1 ⟨rfl,n,rfl⟩)|fail)
 go_ret3
 exact ⟨rfl,n,rfl⟩
theorem split (k:Nm) (h:Sep.nz k.1.toList) (hl:k.1.size+k.2.size≤1000000) (w:World):Calls prog 168 #[.string (key k)] w fun e w'=>e=.returned (.tuple #[.string k.1,.string k.2])∧∃n,w'=w.drewN n:=by
 have HC:=Lib.hid (fun W=>Cut_ k h hl W)
 go_enter func168,ntmps168
 go_wp2_with (first| (go_at_call 224;refine (HC.out _).mono ?_;rintro e w1 ⟨rfl,n,rfl⟩)|fail)
 go_ret2
 exact ⟨rfl,n,rfl⟩
end Ops
set_option maxRecDepth 100000
namespace Ops
open BagP HistP OpsP Hist KeyP SetP SetW
attribute [local go_sem] Eng.ev Eng.getO_cons Eng.getO_nil
abbrev TO:TypeId:=66
abbrev opc (n:Nm) (x:HS) (A:Option Addr) (c:Nat):List Value:= [.string n.1,.string n.2,.int .i64 (sumL x.1),.int .i64 x.2.1,.int .i64 x.2.2,.slice A x.1.length c]
abbrev opZ:Array Value:= #[.string ⟨#[]⟩,.string ⟨#[]⟩,.int .i64 0,.int .i64 0,.int .i64 0,.slice none 0 0]
def OperPost (n:Nm) (x:HS) (w:World) (e:Ending) (w':World):Prop:=
 ∃A c,e=.returned (.agg (opc n x A c).toArray)∧Sl w' 2 A x.1.length c (x.1.flatMap Bag.pc)∧(∀a,A=some a→w.heap.size≤a.block∧a.block<w'.heap.size)∧Fr (fun _=>False) w w'
abbrev set6 (w:World) (b:Nat) (v0 v1 v2 v3 v4 v5:Value):World:=((((((w.setCell ⟨b,0,none⟩ v0).setCell ⟨b,1,none⟩ v1).setCell ⟨b,2,none⟩ v2).setCell ⟨b,3,none⟩ v3).setCell ⟨b,4,none⟩ v4).setCell ⟨b,5,none⟩ v5)
theorem set6_bk {w:World} {b:Nat} {u0 u1 u2 u3 u4 u5:Value} {T:TypeId} (h:Bk w b #[u0,u1,u2,u3,u4,u5] T) (v0 v1 v2 v3 v4 v5:Value):Bk (set6 w b v0 v1 v2 v3 v4 v5) b #[v0,v1,v2,v3,v4,v5] T:=by
 have:=(((((h.set 0 v0).set 1 v1).set 2 v2).set 3 v3).set 4 v4).set 5 v5
 simpa using this
theorem set6_fr (w:World) (b:Nat) (v0 v1 v2 v3 v4 v5:Value):Fr (· =b) w (set6 w b v0 v1 v2 v3 v4 v5):=by
 have s:∀ (W:World) (o:Nat) (v:Value),Fr (· =b) w W→Fr (· =b) w (W.setCell ⟨b,o,none⟩ v):=fun W o v h=>h.trans (Fr.setCell W ⟨b,o,none⟩ v (S:=(· =b)) rfl) (fun _ _ h=>h) (fun _ _ h=>h)
 exact s _ 5 _ (s _ 4 _ (s _ 3 _ (s _ 2 _ (s _ 1 _ (s _ 0 _ (Fr.refl _ _))))))
theorem Fr.new {S:Nat→Prop} {w w1 w2:World} {b:Nat} (h:Fr S w w1) (k:Fr (· =b) w1 w2) (hb:w.heap.size≤b):Fr S w w2:=h.trans k (fun _ _ h=>h) (fun i hi e=>by omega)
theorem oper (k:Nm) (h:Sep.nz k.1.toList) (hl:k.1.size+k.2.size≤1000000) (b:Nat) (x:HS) (F:List Nat) (w:World) (hb:HB w b x F) (hx:Wf x):Calls prog 95 #[.string (key k),.pointer (some ⟨b,0,none⟩)] w (OperPost k x w):=by
 have HS:=Lib.hid (fun W=>split k h hl W)
 have f1:=Fr.alloc (fun _=>False) w (.cells opZ TO)
 have HZ:=Lib.hid (Bk.new w opZ TO)
 have HB1:=Lib.hid (hb.fr f1 (fun _ _ h=>h));have HF:=Lib.hid f1
 have hlen:=hx.len
 clear f1 hb hx
 go_enter func95,ntmps95
 go_upto_region 1 with (fail)
 generalize w.alloc (.cells opZ TO)=w1 at *
 go_wp2_with fail
 refine (HS.out _).mono ?_
 rintro e w2 ⟨rfl,n,rfl⟩
 have HB2:=Lib.hid (HB1.out.fr (Fr.drewN (fun _=>False) w1 n) (fun _ _ h=>h));have HZ2:=Lib.hid (HZ.out.fr (Fr.drewN (fun _=>False) w1 n) (fun _ _ h=>h));have HF2:=Lib.hid (HF.out.trans (Fr.drewN (fun _=>False) w1 n) (fun _ _ h=>h) (fun _ _ h=>h))
 clear HB1 HZ HF HS
 generalize w1.drewN n=w2 at *
 go_wp2_with fail
 refine (Hist.Len b x F w2 HB2.out).mono ?_
 rintro e w3 ⟨rfl,rfl⟩
 go_wp2_with fail
 refine (Hist.Sum b x F w2 HB2.out).mono ?_
 rintro e w3 ⟨rfl,hf3⟩
 have HB3:=Lib.hid (HB2.out.fr hf3 (fun _ _ h=>h));have HZ3:=Lib.hid (HZ2.out.fr hf3 (fun _ _ h=>h));have HF3:=Lib.hid (HF2.out.trans hf3 (fun _ _ h=>h) (fun _ _ h=>h))
 clear HB2 HZ2 HF2 hf3
 go_wp2_with fail
 refine (Hist.Buckets b x F w3 HB3.out (by omega)).mono ?_
 rintro e w4 ⟨A,c,rfl,hs,ha,hf4⟩
 have HS4:=Lib.hid hs;have HZ4:=Lib.hid (HZ3.out.fr hf4 (fun _ _ h=>h));have HF4:=Lib.hid (HF3.out.trans hf4 (fun _ _ h=>h) (fun _ _ h=>h));have HA:=Lib.hid ha
 have hle:w.heap.size≤w3.heap.size:=HF3.out.size
 have c0:=HZ4.out.cell 0;have c1:=HZ4.out.cell 1;have c2:=HZ4.out.cell 2;have c3:=HZ4.out.cell 3;have c4:=HZ4.out.cell 4;have c5:=HZ4.out.cell 5
 have g0:=HZ4.out.free 0;have g1:=HZ4.out.free 1;have g2:=HZ4.out.free 2;have g3:=HZ4.out.free 3;have g4:=HZ4.out.free 4;have g5:=HZ4.out.free 5
 simp only [List.getElem?_toArray,List.getElem?_cons_zero,List.getElem?_cons_succ] at c0 c1 c2 c3 c4 c5
 have hlt:=lt_of_heap HZ3.out
 clear hs ha hf4 HB3 HZ3 HF3
 go_wp2_with fail
 exact bodyPost_ret (results_cell_row rfl _ _ w.heap.size TO _ (0,0) _ rfl (set6_bk HZ4.out _ _ _ _ _ _) underlying66 rfl (by kernel_rfl)) rfl ⟨A,c,rfl,HS4.out.fr (set6_fr _ _ _ _ _ _ _ _) (fun a ha e=>by have:=(HA.out a ha).1;omega),fun a ha=>⟨Nat.le_trans hle (HA.out a ha).1,Nat.lt_of_lt_of_le (HA.out a ha).2 (set6_fr _ _ _ _ _ _ _ _).size⟩,Fr.new HF4.out (set6_fr _ _ _ _ _ _ _ _) (Nat.le_refl _)⟩
end Ops
end Go.Proofs.YtdpngmgaomghoaaGreat
