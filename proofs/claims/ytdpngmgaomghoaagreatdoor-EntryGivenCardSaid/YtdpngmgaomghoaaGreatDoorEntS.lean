/- Texts cut at zero bytes: strings.Split at the beginnings of keys. -/
import Derived.Test.YtdpngmgaomghoaaGreatDoorEntV
import Derived.Test.YtdpngmgaomghoaaGreatDoorSetWs
import Derived.Lib.Bytealg
import Derived.Lib.Walk
namespace Go.Proofs.YtdpngmgaomghoaaGreatDoor
open Tryz
set_option maxRecDepth 100000
set_option maxHeartbeats 1000000
open Go.RowKit
namespace Ent
open KeyP EntP OpsP SetW
attribute [local go_sem] Eng.ev Eng.getO_cons Eng.getO_nil
abbrev TSt:TypeId:=9
abbrev TSts:TypeId:=69
theorem ixb_at:∀ {a:List UInt8} (b:List UInt8),Sep.nz a→Lib.indexByte (a++0::b) 0=a.length
 | [],b,_=>by simp [Lib.indexByte]
 |x::a,b,h=>by
  have h1:=(Sep.nz_cons h).1
  have hx:(x==0)=false:=by
   rw [beq_eq_false_iff_ne];intro e;rw [e] at h1;exact absurd h1 (UInt8.lt_irrefl _)
  have ih:=ixb_at b (Sep.nz_cons h).2
  rw [List.cons_append,Lib.indexByte,hx,ih]
  simp only [Bool.false_eq_true,if_false,List.length_cons]
  rw [if_neg (by simp only [beq_iff_eq];omega)]
  omega
theorem IndexB (s:ByteArray) (w:World):Calls prog 108 #[.string s,.int .u8 0] w fun e w'=>e=.returned (.int .i64 (Lib.indexByte s.data.toList 0))∧w'=w:=by
 have hx:∀W:World,(callFunc 123 #[.string s,.int .u8 0]).run prog W=.ok (.value (.int .i64 (Lib.indexByte s.data.toList 0))) W:=fun W=>by
  rw [run_callFunc_extern func123 (by kernel_rfl) (by kernel_rfl) (by kernel_rfl) (e:=Extern.BytealgIndexByte.indexByte) (by kernel_rfl),Lib.run_indexByteString]
  rfl
 go_enter func108,ntmps108
 go_wp2
 go_ret
 exact ⟨rfl,rfl⟩
theorem Index0 (s:ByteArray) (w:World):Calls prog 97 #[.string s,.string ⟨#[0]⟩] w fun e w'=>e=.returned (.int .i64 (Lib.indexByte s.data.toList 0))∧w'=w:=by
 have HB:=Lib.hid (fun W=>IndexB s W)
 go_enter func97,ntmps97
 go_wp2_with (first| (go_at_call 108;refine (HB.out _).mono ?_;rintro e w1 ⟨rfl,rfl⟩)|fail)
 ·have h:([0]==s.toList)=true:=by assumption
  go_ret
  refine ⟨?_,rfl⟩
  have e:s.data.toList= [0]:=by rw [←Lib.toList_data];exact (beq_iff_eq.1 h).symm
  rw [e]
  simp [Lib.indexByte]
 ·go_ret
  exact ⟨rfl,rfl⟩
theorem cnt_nz {a:List UInt8} (b:List UInt8) (h:Sep.nz a):Lib.countByte (a++b) 0=Lib.countByte b 0:=by
 unfold Lib.countByte
 rw [List.count_append,List.count_eq_zero.2 (fun h0=>absurd (h 0 h0) (UInt8.lt_irrefl _)),Nat.zero_add]
theorem Count0 (s:ByteArray) (w:World):Calls prog 75 #[.string s,.string ⟨#[0]⟩] w fun e w'=>e=.returned (.int .i64 (Lib.countByte s.data.toList 0))∧w'=w:=by
 have hx:∀W:World,(callFunc 96 #[.string s,.int .u8 0]).run prog W=.ok (.value (.int .i64 (Lib.countByte s.data.toList 0))) W:=fun W=>by
  rw [run_callFunc_extern func96 (by kernel_rfl) (by kernel_rfl) (by kernel_rfl) (e:=Extern.BytealgCount.count) (by kernel_rfl),Lib.run_countString]
  rfl
 go_enter func75,ntmps75
 go_wp2
 have h0:∀h,((((⟨#[0]⟩:ByteArray)[0]'h).toNat:Nat):Int)=0:=fun _=>rfl
 rw [h0,hx,Oper.upon_value]
 go_wp2
 go_ret
 exact ⟨rfl,rfl⟩
theorem IndexS (s:ByteArray) (w:World):Calls prog 76 #[.string s,.string ⟨#[0]⟩] w fun e w'=>e=.returned (.int .i64 (Lib.indexByte s.data.toList 0))∧w'=w:=by
 have HB:=Lib.hid (fun W=>Index0 s W)
 go_enter func76,ntmps76
 go_wp2_with fail
 refine (HB.out _).mono ?_
 rintro e w1 ⟨rfl,rfl⟩
 go_wp2_with fail
 go_ret
 exact ⟨rfl,rfl⟩
theorem cut_at {a:ByteArray} (b:ByteArray) (h:Sep.nz a.toList):Lib.indexByte (a++z1++b).data.toList 0=a.size∧(a++z1++b).extract 0 a.size=a∧(a++z1++b).extract (a.size+1) (a++z1++b).size=b∧(a++z1++b).size=a.size+1+b.size:=by
 have e0:(a++z1++b).data.toList=a.data.toList++0::b.data.toList:=by simp [z1]
 have es:(a++z1++b).size=a.size+1+b.size:=by
  have h1:z1.size=1:=rfl
  simp only [ByteArray.size_append,h1]
 refine ⟨?_,?_,?_,es⟩
 ·rw [e0,ixb_at _ (by rwa [tl_data] at h)];rfl
 ·apply str_ext
  rw [tl_data,tl_data,ByteArray.data_extract,Array.toList_extract,e0,List.extract_eq_take_drop]
  simp
 ·apply str_ext
  rw [tl_data,tl_data,ByteArray.data_extract,Array.toList_extract,e0,List.extract_eq_take_drop]
  have e1:a.data.toList.length=a.size:=Array.length_toList
  rw [es,←e1,List.drop_append,List.drop_of_length_le (by omega)]
  simp
  have e2:b.data.toList.length=b.size:=Array.length_toList
  rw [List.take_of_length_le (by omega)]
theorem fst_cut (n:Nm):fst n=n.1++z1++(n.2++z1):=by unfold fst;rw [ByteArray.append_assoc]
theorem fst_cnt {n:Nm} (h1:Sep.nz n.1.toList) (h2:Sep.nz n.2.toList):Lib.countByte (fst n).data.toList 0=2:=by
 rw [←tl_data,fst_list,cnt_nz _ h1,show (0:UInt8)::(n.2.toList++ [0])= [0]++(n.2.toList++ [0]) from rfl]
 unfold Lib.countByte
 rw [List.count_append,←Lib.countByte,←Lib.countByte,cnt_nz _ h2];rfl
def Split3 (n:Nm) (w:World) (e:Ending) (w':World):Prop:=e=.returned (.slice (some ⟨w.heap.size,0,none⟩) 3 3)∧Bk w' w.heap.size #[.string n.1,.string n.2,.string ByteArray.empty] TSt∧Fr (fun _=>False) w w'
theorem Fr.new {S:Nat→Prop} {w w1 w2:World} {b:Nat} (h:Fr S w w1) (k:Fr (· =b) w1 w2) (hb:w.heap.size≤b):Fr S w w2:=h.trans k (fun _ _ h=>h) (fun i hi e=>by omega)
theorem genSplit_ (n:Nm) (h:nzN n) (w:World):Calls prog 50 #[.string (fst n),.string ⟨#[0]⟩,.int .i64 0,.int .i64 (-1)] w (Split3 n w):=by
 have HC:=Lib.hid (fun W=>Count0 (fst n) W)
 have HI:=Lib.hid (fun s W=>IndexS s W)
 rw [fst_cnt h.1 h.2.1] at HC
 obtain ⟨i1,x1,y1,s1⟩:=cut_at (a:=n.1) (n.2++z1) h.1
 obtain ⟨i2,x2,y2,s2⟩:=cut_at (a:=n.2) ByteArray.empty h.2.1
 rw [←fst_cut] at i1 x1 y1 s1
 have e2:n.2++z1++ByteArray.empty=n.2++z1:=by rw [ByteArray.append_empty]
 rw [e2] at i2 x2 y2 s2
 have I1:Hid (∀W,Calls prog 76 #[.string (fst n),.string ⟨#[0]⟩] W fun e w'=>e=.returned (.int .i64 (n.1.size:Int))∧w'=W):=fun W=>by
  have:=HI.out (fst n) W;rwa [i1] at this
 have I2:Hid (∀W,Calls prog 76 #[.string (n.2++z1),.string ⟨#[0]⟩] W fun e w'=>e=.returned (.int .i64 (n.2.size:Int))∧w'=W):=fun W=>by
  have:=HI.out (n.2++z1) W;rwa [i2] at this
 have hl:=h.2.2
 have HB:=Lib.hid (Bk.new w #[.string ByteArray.empty,.string ByteArray.empty,.string ByteArray.empty] TSt)
 have HF:=Lib.hid (Fr.alloc (fun _=>False) w (.cells #[.string ByteArray.empty,.string ByteArray.empty,.string ByteArray.empty] TSt))
 obtain ⟨a,b⟩:=n
 dsimp only at *
 have s0:ByteArray.empty.size=0:=rfl
 rw [s0] at s2
 generalize fst (a,b)=S1 at *
 generalize b++z1=S2 at *
 have s2':S2.size=b.size+1:=by omega
 have s1':S1.size=a.size+1+(b.size+1):=by omega
 rw [s1'] at y1
 rw [s2'] at y2
 clear s1 s2
 clear h i1 i2 e2 HI
 have q1:(0:Int)≤(a.size:Int):=by omega
 have q2:(0:Int)≤(b.size:Int):=by omega
 have qm:min (3:Int) ((a.size:Int)+1+((b.size:Int)+1)+1)=3:=by omega
 have hmk:∀W:World,(Instr.makeSlice TSts (.int .i64 3) (.int .i64 3)).run prog W=.ok (.slice (some ⟨W.heap.size,0,none⟩) 3 3) (W.alloc (.cells #[.string ByteArray.empty,.string ByteArray.empty,.string ByteArray.empty] TSt)):=fun W=>by kernel_rfl
 go_enter func50,ntmps50
 go_wp2_with fail
 refine (HC.out _).mono ?_
 rintro e w1 ⟨rfl,rfl⟩
 clear HC
 go_upto_region 10 with (fail)
 unfold Split3
 generalize (w1.alloc (.cells #[.string ByteArray.empty,.string ByteArray.empty,.string ByteArray.empty] TSt))=W0 at *
 obtain ⟨N,hN⟩:∃N,w1.heap.size=N:=⟨_,rfl⟩
 have HN:=Lib.hid hN
 rw [hN] at HB ⊢
 clear hN hmk
 have c0:W0.cell? ⟨N,0,none⟩=some (.string ByteArray.empty):=HB.out.cell 0
 have f0:=HB.out.free 0
 go_wp2_with fail
 refine wp_loop_rounds 3 ?_
 rw [rounds_succ]
 go_wp2_with fail
 refine (I1.out _).mono ?_
 rintro e wA ⟨rfl,rfl⟩
 go_upto_region 15 with (fail)
 have h1:=HB.out.set 0 (.string a)
 simp only [List.setIfInBounds_toArray,List.set_cons_zero] at h1
 have HB1:=Lib.hid h1
 have HF1:=Lib.hid (Fr.new HF.out (Fr.setCell wA ⟨N,0,none⟩ (.string a) (S:=(· =N)) rfl) (by have:=HN.out;omega))
 clear h1 c0 f0 HB HF
 generalize wA.setCell ⟨N,0,none⟩ (.string a)=W1 at *
 have c1:W1.cell? ⟨N,1,none⟩=some (.string ByteArray.empty):=HB1.out.cell 1
 have f1:=HB1.out.free 1
 go_wp2_with fail
 rw [rounds_succ]
 go_wp2_with fail
 refine (I2.out _).mono ?_
 rintro e wB ⟨rfl,rfl⟩
 go_upto_region 15 with (fail)
 have h2:=HB1.out.set 1 (.string b)
 simp only [List.setIfInBounds_toArray,List.set_cons_zero,List.set_cons_succ] at h2
 have HB2:=Lib.hid h2
 have HF2:=Lib.hid (Fr.new HF1.out (Fr.setCell wB ⟨N,1,none⟩ (.string b) (S:=(· =N)) rfl) (by have:=HN.out;omega))
 clear h2 c1 f1 HB1 HF1
 generalize wB.setCell ⟨N,1,none⟩ (.string b)=W2 at *
 have c2:W2.cell? ⟨N,2,none⟩=some (.string ByteArray.empty):=HB2.out.cell 2
 have f2:=HB2.out.free 2
 go_wp2_with fail
 rw [rounds_succ]
 go_upto_region 18 with (fail)
 have h3:=HB2.out.set 2 (.string ByteArray.empty)
 simp only [List.setIfInBounds_toArray,List.set_cons_zero,List.set_cons_succ] at h3
 have HB3:=Lib.hid h3
 have HF3:=Lib.hid (Fr.new HF2.out (Fr.setCell W2 ⟨N,2,none⟩ (.string ByteArray.empty) (S:=(· =N)) rfl) (by have:=HN.out;omega))
 clear h3 c2 f2 HB2 HF2
 generalize W2.setCell ⟨N,2,none⟩ (.string ByteArray.empty)=W3 at *
 go_wp2_with fail
 go_ret
 refine ⟨?_,?_,HF3.out⟩
 ·rw [HN.out];rfl
 ·rw [HN.out];exact HB3.out
theorem Split_ (n:Nm) (h:nzN n) (w:World):Calls prog 29 #[.string (fst n),.string ⟨#[0]⟩] w (Split3 n w):=by
 have HG:=Lib.hid (genSplit_ n h w)
 clear h
 go_enter func29,ntmps29
 go_wp2_with fail
 refine HG.out.mono ?_
 rintro e w1 ⟨rfl,hb,hf⟩
 have HB:=Lib.hid hb;have HF:=Lib.hid hf
 clear hb hf HG
 go_wp2_with fail
 go_ret
 exact ⟨rfl,HB.out,HF.out⟩
end Ent
end Go.Proofs.YtdpngmgaomghoaaGreatDoor
