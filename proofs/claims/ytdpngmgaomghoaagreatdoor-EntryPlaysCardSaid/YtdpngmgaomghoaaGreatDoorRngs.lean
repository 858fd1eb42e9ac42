/- Loops over functions that give a known list: the iterator's contract (SeqP) and the law of the loop (range_P). No program is named. -/
import Derived.Test.YtdpngmgaomghoaaGreatDoorBase
import Derived.RangeFuncNested
import Derived.RangeFuncBound
import Derived.Maps.AppendAt
namespace Go.Proofs.YtdpngmgaomghoaaGreatDoor
open Go.RowKit
def Rg (lo hi:Nat) (k:Nat):Prop:=lo≤k∧k<hi
def KeptR (lo hi:Nat) (W W':World):Prop:=∀k,Rg lo hi k→W'.heap[k]? =W.heap[k]?
def KeptL (S:List Nat) (W W':World):Prop:=∀b∈S,W'.heap[b]? =W.heap[b]?
def Abide {α:Type} (lo hi:Nat) (J:α→World→Prop):Prop:=∀s A B,J s A→Fr (Rg lo hi) A B→J s B
theorem KeptR.refl (lo hi:Nat) (W:World):KeptR lo hi W W:=fun _ _=>rfl
theorem KeptL.refl (S:List Nat) (W:World):KeptL S W W:=fun _ _=>rfl
theorem KeptL.of_fr {S:List Nat} {T:Nat→Prop} {A B:World} (h:Fr T A B) (hs:∀b∈S,b<A.heap.size∧¬T b):KeptL S A B:=fun b hb=>h.block b (hs b hb).1 (hs b hb).2
theorem KeptR.of_fr {lo hi:Nat} {T:Nat→Prop} {A B:World} (h:Fr T A B) (hh:hi≤A.heap.size) (hs:∀b,Rg lo hi b→¬T b):KeptR lo hi A B:=fun b hb=>h.block b (by have:=hb.2;omega) (hs b hb)
theorem Fr.putObj (W:World) (l:Nat) (o:Obj) {S:Nat→Prop} (h:S l):Fr S W (W.putObj l o):=
 ⟨rfl,rfl,rfl,by simp,fun k _ hn=>World.putObj_heap_other (fun e=>hn (e▸h))⟩
def SeqP {α:Type} (P:Program) (g:Nat) (lb:Array Value) (encs:α→Array Value) (FP:List Nat) (c:Nat) (LL:List α) (w:World):Prop:=
 ∀ (n l:Nat) (J Jx:List α→World→Prop) (W:World),Below w.heap.size w W→Abide W.heap.size (W.heap.size+c) J→Abide W.heap.size (W.heap.size+c) Jx→
  (∀m pre x W1,J pre W1→W.heap.size+c≤W1.heap.size→pre++ [x]<+:LL→YieldAt Fence.wide m P l (encs x) W1 fun e W'=>
   (e=.returned (.bool true)∧J (pre++ [x]) W'∧KeptL FP W1 W'∧KeptR W.heap.size (W.heap.size+c) W1 W'∧W1.heap.size≤W'.heap.size)∨
   (e=.returned (.bool false)∧Jx (pre++ [x]) W'∧KeptR W.heap.size (W.heap.size+c) W1 W'∧W1.heap.size≤W'.heap.size))→
  J [] W→
  CallsIn Fence.wide n P g (#[.func (.yield l) #[] #[]]++lb) W fun e W'=>(∃v,e=.returned v)∧W.heap.size≤W'.heap.size∧(J LL W'∨(∃pre,pre<+:LL∧Jx pre W'))
def postP {α:Type} (lo hi:Nat) (FP:List Nat) (I:List α→World→Prop) (Ix:Code→List α→World→Prop) (xs:List α) (W:World):Exit→Act→World→Prop
 | .normal,_,W'=>KeptR lo hi W W'∧W.heap.size≤W'.heap.size∧KeptL FP W W'∧I xs W'
 | .ret,_,W'=>KeptR lo hi W W'∧W.heap.size≤W'.heap.size∧Ix .ret xs W'
 | .exit id,_,W'=>KeptR lo hi W W'∧W.heap.size≤W'.heap.size∧Ix (.exit id) xs W'
 | .goto t,_,W'=>KeptR lo hi W W'∧W.heap.size≤W'.heap.size∧Ix (.goto t) xs W'
 | .panic _,_,_=>False
 | .outgrown,_,_=>False
theorem range_P {P:Program} {α:Type} {g:Operand} {ps:Array Tmp} {assign body:Code} {Q:Exit→Act→World→Prop} {a:Act} {w:World} {n:Nat}
  {gf:Nat} {lb:Array Value} (hg:a.eval g=.func (.func gf) #[] lb) (eg:∀args w,(callFunc gf args).run P w=.ok (.enter gf args) w)
  {encs:α→Array Value} {FP:List Nat} {c:Nat} {LL:List α} (hseq:SeqP P gf lb encs FP c LL w) (hFP:∀b∈FP,b<w.heap.size) (hps:∀x,(encs x).size=ps.size)
  (I:List α→World→Prop) (Ix:Code→List α→World→Prop) (hI:Abide w.heap.size (w.heap.size+2+c) I) (hIx:∀k,Abide w.heap.size (w.heap.size+2+c) (Ix k)) (h0:I [] w)
  (Ax:α→Act→World→Prop) (hAx:∀a',Abide w.heap.size (w.heap.size+2+c) (fun x W=>Ax x a' W))
  (hassign:∀ (l m:Nat) (pre:List α) (x:α) (W:World) (K:Act→World→Prop),I pre W→w.heap.size+2+c≤W.heap.size→pre++ [x]<+:LL→
   (∀a' W',KeptR w.heap.size (w.heap.size+2+c) W W'→W.heap.size≤W'.heap.size→KeptL FP W W'→I pre W'→Ax x a' W'→K a' W')→
   assign.wpIn (Fence.wide.inRound l) m P (Exit.then K (fun _ _ _=>False)) { tmps:=(ps.zip (encs x)).foldl (fun t (p,v)=>t.setIfInBounds p v) a.tmps,defers:= [] } W)
  (hbody:∀ (l m:Nat) (pre:List α) (x:α) (a':Act) (W:World),I pre W→Ax x a' W→w.heap.size+2+c≤W.heap.size→pre++ [x]<+:LL→l=w.heap.size+1→(∃r,W.heap[l]? =some (.loop r))→W.heap[w.heap.size]? =some (.deferred (some []))→
   body.wpIn (Fence.wide.inRound l) m P (postP w.heap.size (w.heap.size+2+c) FP I Ix (pre++ [x]) W) a' W)
  (hdone:∀ (W:World),w.heap.size+2≤W.heap.size→I LL W→W.heap[w.heap.size]? =some (.deferred (some []))→Q .normal { a with defers:={ target:=.collected w.heap.size,args:= #[] }::a.defers } W)
  (hstop:∀ (k:Code) (pre:List α) (W:World),w.heap.size+2≤W.heap.size→pre<+:LL→Ix k pre W→W.heap[w.heap.size]? =some (.deferred (some []))→k.wpIn Fence.wide n P Q { a with defers:={ target:=.collected w.heap.size,args:= #[] }::a.defers } W):
  (Code.rangeFunc g ps assign body).wpIn Fence.wide n P Q a w:=by
 refine wpIn_rangeFunc ?_
 intro fn hfn
 -- the record, by its state and its pending jump
 let rec0:LoopState→Option Code→Loop:=fun st pe=>{ state:=st,pending:=pe,fn,tmps:=a.tmps,params:=ps,assign,body,defers:=w.heap.size }
 obtain ⟨W1,hW1⟩:∃W1,(w.alloc (.deferred (some []))).alloc (.loop (rec0 .ready none))=W1:=⟨_,rfl⟩
 have sz1:W1.heap.size=w.heap.size+2:=by rw [←hW1];simp
 have f1:Fr (fun _=>False) w W1:=by rw [←hW1];exact (Fr.alloc _ _ _).trans (Fr.alloc (fun _=>False) _ _) (fun _ _ h=>h) (fun _ _ h=>h)
 have l1:W1.heap[w.heap.size+1]? =some (.loop (rec0 .ready none)):=by
  rw [←hW1];have:=heap_new (w.alloc (.deferred (some []))) (.loop (rec0 .ready none));rwa [World.size_alloc] at this
 have d1:W1.heap[w.heap.size]? =some (.deferred (some [])):=by
  rw [←hW1];exact (Below.heap_alloc _ _ _ (by simp)).trans (heap_new w _)
 have b1:Below w.heap.size w W1:=f1.below (Nat.le_refl _) (fun _ _ h=>h)
 -- a turn of the record is within what I, Ix and Ax abide
 have turn:∀ (W:World) (o:Obj),Fr (Rg w.heap.size (w.heap.size+2+c)) W (W.putObj (w.heap.size+1) o):=fun W o=>Fr.putObj W _ o ⟨by omega,by omega⟩
 have wide:∀ {A B:World},Fr (Rg W1.heap.size (W1.heap.size+c)) A B→Fr (Rg w.heap.size (w.heap.size+2+c)) A B:=fun h=>h.mono (fun i _ hi=>⟨by have:=hi.1;omega,by have:=hi.2;omega⟩)
 refine ⟨w.heap.size+1,[{ target:=.collected w.heap.size,args:= #[] }],W1,{ target:=.fn (.func gf) lb,args:= #[.func (.yield (w.heap.size+1)) #[] #[]] },W1,gf,
  #[.func (.yield (w.heap.size+1)) #[] #[]]++lb,W1,?_,?_,fun _ _=>trivial,?_,fun h=>(by cases h),?_⟩
 ·rw [←hW1];exact run_enterLoop_outer _ _ _ _ _
 ·simp only [resolve,hg];simp [go_sem]
 ·simp [invoke,go_sem,eg]
 ·have hn:∀ (st:LoopState) (pe:Option Code) (W W':World),Fr (Rg W1.heap.size (W1.heap.size+c)) W W'→W.heap[w.heap.size+1]? =some (.loop (rec0 st pe))∧W.heap[w.heap.size]? =some (.deferred (some []))→
    W'.heap[w.heap.size+1]? =some (.loop (rec0 st pe))∧W'.heap[w.heap.size]? =some (.deferred (some [])):=fun st pe W W' hf ⟨h1,h2⟩=>
   ⟨(hf.block _ (lt_of_heap h1) (fun h=>by have:=h.1;omega)).trans h1,(hf.block _ (lt_of_heap h2) (fun h=>by have:=h.1;omega)).trans h2⟩
  refine (hseq (n-1) (w.heap.size+1)
   (fun pre W=>I pre W∧W.heap[w.heap.size+1]? =some (.loop (rec0 .ready none))∧W.heap[w.heap.size]? =some (.deferred (some [])))
   (fun pre W=>∃k,Ix k pre W∧W.heap[w.heap.size+1]? =some (.loop (rec0 .done (some k)))∧W.heap[w.heap.size]? =some (.deferred (some [])))
   W1 b1
   (fun s A B hs hf=>⟨hI s A B hs.1 (wide hf),hn _ _ A B hf hs.2⟩)
   (fun s A B hs hf=>by obtain ⟨k,hk,hs⟩:=hs;exact ⟨k,hIx k s A B hk (wide hf),hn _ _ A B hf hs⟩)
   ?_ ⟨hI _ _ _ h0 (f1.mono (fun _ _ h=>h.elim)),l1,d1⟩).mono ?_
  ·rintro m pre x W ⟨hi,hl,hd⟩ hsz hpre
   have hsz':w.heap.size+2+c≤W.heap.size:=by omega
   have hy:=run_yield (P:=P) (args:=encs x) hl (hps x)
   refine ⟨fn,_,assign,body,hy,roundIn_of_wpIn hfn (hassign _ m pre x W _ hi hsz' hpre ?_)⟩
   intro a' Wa kr ks kl hia hax
   have hla:=(kr _ ⟨by omega,by omega⟩).trans hl
   have hda:=(kr _ ⟨by omega,by omega⟩).trans hd
   refine ⟨_,run_beginRound hla rfl,?_⟩
   have lt:w.heap.size+1<Wa.heap.size:=lt_of_heap hla
   obtain ⟨Wb,hWb⟩:∃Wb,Wa.putObj (w.heap.size+1) (.loop { rec0 .ready none with state:=.busy })=Wb:=⟨_,rfl⟩
   have hlb:Wb.heap[w.heap.size+1]? =some (.loop (rec0 .busy none)):=by rw [←hWb];exact World.putObj_heap_same lt
   have hdb:Wb.heap[w.heap.size]? =some (.deferred (some [])):=by rw [←hWb];exact (World.putObj_heap_other (by omega)).trans hda
   have fb:Fr (Rg w.heap.size (w.heap.size+2+c)) Wa Wb:=by rw [←hWb];exact turn _ _
   have ab:∀k,k≠w.heap.size+1→Wb.heap[k]? =Wa.heap[k]? :=fun k hk=>by rw [←hWb];exact World.putObj_heap_other hk
   have sb:Wb.heap.size=Wa.heap.size:=by rw [←hWb];simp
   rw [show Wa.putObj (w.heap.size+1) (.loop { rec0 .ready none with state:=.busy })=Wb from hWb]
   refine wpIn_mono (hbody _ m pre x a' Wb (hI _ _ _ hia fb) (hAx a' x _ _ hax fb) (by omega) hpre rfl ⟨_,hlb⟩ hdb) ?_
   -- the end of a round, by its jump
   have fin:∀ (jump:Option Code) (W3:World),KeptR w.heap.size (w.heap.size+2+c) Wb W3→Wb.heap.size≤W3.heap.size→
     ∃W4,(Instr.endRound (w.heap.size+1) jump).run P W3=.ok (.bool jump.isNone) W4∧Fr (Rg w.heap.size (w.heap.size+2+c)) W3 W4∧(∀k,k≠w.heap.size+1→W4.heap[k]? =W3.heap[k]?)∧W4.heap.size=W3.heap.size∧
      W4.heap[w.heap.size+1]? =some (.loop (rec0 (if jump.isNone then .ready else .done) jump))∧W4.heap[w.heap.size]? =some (.deferred (some [])):=fun jump W3 hk hs=>by
    have hl3:=(hk _ ⟨by omega,by omega⟩).trans hlb
    refine ⟨_,run_endRound (P:=P) jump hl3,turn _ _,fun k hk'=>World.putObj_heap_other hk',by simp,World.putObj_heap_same (lt_of_heap hl3),(World.putObj_heap_other (by omega)).trans ((hk _ ⟨by omega,by omega⟩).trans hdb)⟩
   have priv:∀ (W3 W4:World),KeptR w.heap.size (w.heap.size+2+c) Wb W3→(∀k,k≠w.heap.size+1→W4.heap[k]? =W3.heap[k]?)→KeptR W1.heap.size (W1.heap.size+c) W W4:=fun W3 W4 hk h4 k hr=>by
    have h1:=hr.1
    have h2:=hr.2
    rw [h4 k (by omega),hk k ⟨by omega,by omega⟩,ab k (by omega),kr k ⟨by omega,by omega⟩]
   rintro e a3 W3 hp
   cases e with
   |normal=>
    obtain ⟨k3,s3,kl3,hi3⟩:=hp
    obtain ⟨W4,hr,f4,o4,s4,hl4,hd4⟩:=fin none W3 k3 s3
    refine ⟨_,_,hr,.inl ⟨rfl,⟨hI _ _ _ hi3 f4,hl4,hd4⟩,fun b hb=>?_,priv _ _ k3 o4,by omega⟩⟩
    have:=hFP b hb
    rw [o4 b (by omega),kl3 b hb,ab b (by omega),kl b hb]
   |ret=>
    obtain ⟨k3,s3,hi3⟩:=hp
    obtain ⟨W4,hr,f4,o4,s4,hl4,hd4⟩:=fin (some .ret) W3 k3 s3
    exact ⟨_,_,hr,.inr ⟨rfl,⟨_,hIx _ _ _ _ hi3 f4,hl4,hd4⟩,priv _ _ k3 o4,by omega⟩⟩
   |exit id=>
    obtain ⟨k3,s3,hi3⟩:=hp
    obtain ⟨W4,hr,f4,o4,s4,hl4,hd4⟩:=fin (some (.exit id)) W3 k3 s3
    exact ⟨_,_,hr,.inr ⟨rfl,⟨_,hIx _ _ _ _ hi3 f4,hl4,hd4⟩,priv _ _ k3 o4,by omega⟩⟩
   |goto t=>
    obtain ⟨k3,s3,hi3⟩:=hp
    obtain ⟨W4,hr,f4,o4,s4,hl4,hd4⟩:=fin (some (.goto t)) W3 k3 s3
    exact ⟨_,_,hr,.inr ⟨rfl,⟨_,hIx _ _ _ _ hi3 f4,hl4,hd4⟩,priv _ _ k3 o4,by omega⟩⟩
   |panic ch=>exact hp.elim
   |outgrown=>exact hp.elim
  ·rintro e W2 ⟨⟨v,rfl⟩,hsz,(⟨hi,hl,hd⟩| ⟨pre,hpre,k,hi,hl,hd⟩)⟩
   ·exact ⟨none,_,run_endLoop (P:=P) hl (by simp [rec0]),hdone _ (by simp;omega) (hI _ _ _ hi (turn _ _)) ((World.putObj_heap_other (by omega)).trans hd)⟩
   ·exact ⟨some k,_,run_endLoop (P:=P) hl (by simp [rec0]),hstop k pre _ (by simp;omega) hpre (hIx k _ _ _ hi (turn _ _)) ((World.putObj_heap_other (by omega)).trans hd)⟩
theorem range_P' {P:Program} {α:Type} {g:Operand} {ps:Array Tmp} {assign body:Code} {Q:Exit→Act→World→Prop} {a:Act} {w:World} {n:Nat}
  {gf:Nat} {lb:Array Value} (hg:a.eval g=.func (.func gf) #[] lb) (eg:∀args w,(callFunc gf args).run P w=.ok (.enter gf args) w)
  {encs:α→Array Value} {FP:List Nat} {c:Nat} {LL:List α} (hseq:SeqP P gf lb encs FP c LL w) (hFP:∀b∈FP,b<w.heap.size) (hps:∀x,(encs x).size=ps.size)
  (I:List α→World→Prop) (Ix:Code→List α→World→Prop) (hI:Abide w.heap.size (w.heap.size+2+c) I) (hIx:∀k,Abide w.heap.size (w.heap.size+2+c) (Ix k)) (h0:I [] w) (a₁:α→Act)
  (hassign:∀ (l m:Nat) (x:α) (W:World) (K:Act→World→Prop),K (a₁ x) W→
   assign.wpIn (Fence.wide.inRound l) m P (Exit.then K (fun _ _ _=>False)) { tmps:=(ps.zip (encs x)).foldl (fun t (p,v)=>t.setIfInBounds p v) a.tmps,defers:= [] } W)
  (hbody:∀ (l m:Nat) (pre:List α) (x:α) (W:World),I pre W→w.heap.size+2+c≤W.heap.size→pre++ [x]<+:LL→l=w.heap.size+1→(∃r,W.heap[l]? =some (.loop r))→W.heap[w.heap.size]? =some (.deferred (some []))→
   body.wpIn (Fence.wide.inRound l) m P (postP w.heap.size (w.heap.size+2+c) FP I Ix (pre++ [x]) W) (a₁ x) W)
  (hdone:∀ (W:World),w.heap.size+2≤W.heap.size→I LL W→W.heap[w.heap.size]? =some (.deferred (some []))→Q .normal { a with defers:={ target:=.collected w.heap.size,args:= #[] }::a.defers } W)
  (hstop:∀ (k:Code) (pre:List α) (W:World),w.heap.size+2≤W.heap.size→pre<+:LL→Ix k pre W→W.heap[w.heap.size]? =some (.deferred (some []))→k.wpIn Fence.wide n P Q { a with defers:={ target:=.collected w.heap.size,args:= #[] }::a.defers } W):
  (Code.rangeFunc g ps assign body).wpIn Fence.wide n P Q a w:=by
 refine range_P hg eg hseq hFP hps I Ix hI hIx h0 (fun x a' _=>a'=a₁ x) (fun _ _ _ _ h _=>h) ?_ ?_ hdone hstop
 ·intro l m pre x W K hi _ _ hK
  exact hassign l m x W K (hK _ _ (KeptR.refl _ _ _) (Nat.le_refl _) (KeptL.refl _ _) hi rfl)
 ·rintro l m pre x a' W hi rfl hsz hpre hl hr hd
  exact hbody l m pre x W hi hsz hpre hl hr hd
structure Tn (F F':List Nat) (w w':World):Prop where
 fr:Fr (· ∈F) w w'
 sub:∀x∈F',(x∈F∨w.heap.size≤x)∧x<w'.heap.size
theorem Tn.refl {F:List Nat} {w:World} (h:∀x∈F,x<w.heap.size):Tn F F w w:=⟨Fr.refl _ _,fun x hx=>⟨.inl hx,h x hx⟩⟩
theorem Tn.trans {F G H:List Nat} {a b c:World} (h:Tn F G a b) (k:Tn G H b c):Tn F H a c:=
 ⟨⟨k.fr.os.trans h.fr.os,k.fr.tape.trans h.fr.tape,k.fr.output.trans h.fr.output,Nat.le_trans h.fr.size k.fr.size,fun i hi hn=>
  (k.fr.block i (Nat.lt_of_lt_of_le hi h.fr.size) (fun hg=>by rcases (h.sub i hg).1 with e|e;exact hn e;omega)).trans (h.fr.block i hi hn)⟩,
  fun x hx=>⟨by
   rcases (k.sub x hx).1 with e|e
   ·exact (h.sub x e).1
   ·have:=h.fr.size;exact .inr (by omega),(k.sub x hx).2⟩⟩
theorem Tn.of_fr {F:List Nat} {w w':World} (hf:Fr (fun _=>False) w w') (h:∀x∈F,x<w.heap.size):Tn F F w w':=
 ⟨hf.mono (fun _ _ h=>h.elim),fun x hx=>⟨.inl hx,Nat.lt_of_lt_of_le (h x hx) hf.size⟩⟩
theorem Fr.of_below' {w w':World} (h:Below w.heap.size w w') (S:Nat→Prop):Fr S w w':=(Fr.of_below h).mono (fun i hi h=>by omega)
section
variable {n0:Nat} {w0 w w':World} {Fs:List (List Nat)}
end
def Bk (w:World) (B:Nat) (c:Array Value) (t:TypeId):Prop:=w.heap[B]? =some (.cells c t (0,0))
theorem Bk.fr {S:Nat→Prop} {w w':World} {B:Nat} {c:Array Value} {t:TypeId} (h:Bk w B c t) (hf:Fr S w w') (hs:∀b∈ [B],¬S b):Bk w' B c t:=(hf.block B (lt_of_heap h) (hs B (by simp))).trans h
theorem Bk.cell {w:World} {B:Nat} {c:Array Value} {t:TypeId} (h:Bk w B c t) (o:Nat):w.cell? ⟨B,o,none⟩=c[o]? :=cell_of_block h o
theorem Bk.free {w:World} {B:Nat} {c:Array Value} {t:TypeId} (h:Bk w B c t) (o:Nat):w.frozen? ⟨B,o,none⟩=false:=free_of_block h o
theorem Bk.new (w:World) (c:Array Value) (t:TypeId):Bk (w.alloc (.cells c t)) w.heap.size c t:=heap_new _ _
theorem Bk.set {w:World} {B:Nat} {c:Array Value} {t:TypeId} (h:Bk w B c t) (o:Nat) (u:Value):Bk (w.setCell ⟨B,o,none⟩ u) B (c.setIfInBounds o u) t:=heap_setCell_same h u
def ablk (A:Option Addr):List Nat:=(A.map (·.block)).toList
theorem mem_ablk {A:Option Addr} {x:Nat}:x∈ablk A↔ ∃a,A=some a∧a.block=x:=by cases A<;>simp [ablk,eq_comm]
def Coll (n0 lo hi Bo:Nat) (TS E:TypeId) (sz:Nat) (w0 W:World) (k:Nat) (cs:List Value):Prop:=
 ∃v,Bk W Bo #[v] TS∧W.ownsRow n0 E sz v k cs∧Below n0 w0 W∧∀b,v.ownBlock=some b→¬Rg lo hi b
theorem Coll.abide {n0 lo hi Bo:Nat} {TS E:TypeId} {sz:Nat} {w0 A B:World} {k:Nat} {cs:List Value} (h:Coll n0 lo hi Bo TS E sz w0 A k cs) (hf:Fr (Rg lo hi) A B) (hn:n0≤lo) (hb:¬Rg lo hi Bo) (hs:n0≤A.heap.size):Coll n0 lo hi Bo TS E sz w0 B k cs:=by
 obtain ⟨v,h1,h2,h3,h4⟩:=h
 exact ⟨v,h1.fr hf (fun b hb'=>by simp at hb';subst hb';exact hb),ownsRow_fr h2 hf h4,h3.trans (hf.below hs (fun k hk h=>by have:=h.1;omega)),h4⟩
theorem Coll.start {n0 lo hi Bo:Nat} {TS E:TypeId} {sz:Nat} {w0 W:World} (h1:Bk W Bo #[.slice none 0 0] TS) (h3:Below n0 w0 W):Coll n0 lo hi Bo TS E sz w0 W 0 []:=
 ⟨_,h1,World.ownsRow_nil _ _ _ _,h3,fun b hb=>by simp [Value.ownBlock] at hb⟩
theorem Coll.step {n0 lo Bo:Nat} {TS E:TypeId} {sz:Nat} {w0 W w1:World} {k k':Nat} {cs cs':List Value} {v v':Value} {o:Obj} {r:Loop}
  (h1:Bk W Bo #[v] TS) (h2:W.ownsRow n0 E sz v k cs) (h3:Below n0 w0 W) (h4:∀b,v.ownBlock=some b→¬Rg lo (lo+2+0) b) (hT:TS≠E) (hn:n0≤W.heap.size) (hBo:n0≤Bo) (hBr:¬Rg lo (lo+2+0) Bo)
  (hl:W.heap[lo+1]? =some (.loop r)) (hd:W.heap[lo]? =some (.deferred (some [])))
  (hown:w1.ownsRow n0 E sz v' k' cs') (hg:(W.alloc o).grownBy w1 v.ownBlock):
  Bk w1 Bo #[v] TS∧Coll n0 lo (lo+2+0) Bo TS E sz w0 (w1.setCell ⟨Bo,0,none⟩ v') k' cs'∧Fr (fun b=>b=Bo∨v.ownBlock=some b) W (w1.setCell ⟨Bo,0,none⟩ v'):=by
 have hne:∀b,v.ownBlock=some b→b≠Bo:=fun b hb e=>by
  obtain ⟨_,_,c,hc⟩:=ownsRow_blk h2 b hb
  rw [e,show W.heap[Bo]? =_ from h1] at hc
  cases hc;exact hT rfl
 have f1:Fr (fun b=>v.ownBlock=some b) W w1:=(Fr.alloc (fun _=>False) W o).trans (Fr.grown hg (S:=fun b=>v.ownBlock=some b) (fun k h=>h)) (fun _ _ h=>h.elim) (fun _ _ h=>h)
 have hb1:Bk w1 Bo #[v] TS:=h1.fr f1 (fun b hb h=>by simp at hb;exact hne b h hb)
 have hne':∀b,v'.ownBlock=some b→b≠Bo:=fun b hb e=>by
  obtain ⟨_,_,c,hc⟩:=ownsRow_blk hown b hb
  rw [e,show w1.heap[Bo]? =_ from hb1] at hc
  cases hc;exact hT rfl
 have f2:=Fr.setCell w1 ⟨Bo,0,none⟩ v' (S:=(· =Bo)) rfl
 have f3:Fr (fun b=>b=Bo∨v.ownBlock=some b) W (w1.setCell ⟨Bo,0,none⟩ v'):=f1.trans f2 (fun _ _ h=>.inr h) (fun _ _ h=>.inl h)
 refine ⟨hb1,⟨v',hb1.set 0 v',ownsRow_fr hown f2 hne',h3.trans (f3.below hn ?_),fun b hb hr=>?_⟩,f3⟩
 ·rintro i hi (e|e)
  ·omega
  ·have:=(ownsRow_blk h2 i e).1;omega
 ·obtain ⟨_,_,c,hc⟩:=ownsRow_blk hown b hb
  have hr1:=hr.1
  have hr2:=hr.2
  have key:w1.heap[b]? =W.heap[b]? :=f1.block b (by have:=lt_of_heap hl;omega) (fun h=>h4 b h hr)
  rw [key] at hc
  rcases Nat.lt_or_ge lo b with h|h
  ·obtain rfl:b=lo+1:=by omega
   rw [hl] at hc;cases hc
  ·obtain rfl:b=lo:=by omega
   rw [hd] at hc;cases hc
theorem new_cells (w:World) (t:TypeId) (cs:List Value):∀j u,cs[j]? =some u→(w.alloc (.cells cs.toArray t)).cell? ((⟨w.heap.size,0,none⟩:Addr).add j)=some u:=by
 intro j u hu
 have h:=cell_of_block (heap_new w (.cells cs.toArray t)) j
 simp only [Addr.add]
 split
 ·rename_i e;subst e;rw [h];simpa using hu
 ·show (w.alloc (.cells cs.toArray t)).cell? ⟨w.heap.size,0+j,none⟩=some u
  rw [Nat.zero_add,h];simpa using hu
theorem range_B {P:Program} {α:Type} {g:Operand} {ps:Array Tmp} {assign body:Code} {Q:Exit→Act→World→Prop} {a:Act} {w:World} {n:Nat}
  {gf:Nat} {lb:Array Value} (hg:a.eval g=.func (.func gf) #[] lb) (eg:∀args w,(callFunc gf args).run P w=.ok (.enter gf args) w)
  {encs:α→Array Value} {FP:List Nat} {c:Nat} {LL:List α} (hseq:SeqP P gf lb encs FP c LL w) (hFP:∀b∈FP,b<w.heap.size) (hps:∀x,(encs x).size=ps.size)
  (I:List α→World→Prop) (Ix:Code→List α→World→Prop) (hI:Abide w.heap.size (w.heap.size+2+c) I) (hIx:∀k,Abide w.heap.size (w.heap.size+2+c) (Ix k)) (h0:I [] w)
  (cs:α→Array Value) (T:TypeId) (hIa:∀pre W o,I pre W→w.heap.size+2+c≤W.heap.size→I pre (W.alloc o)) (a₁:α→Nat→Act)
  (hassign:∀ (l m:Nat) (x:α) (W:World) (b:Nat) (K:Act→World→Prop),W.heap.size=b→K (a₁ x b) (W.alloc (.cells (cs x) T))→
   assign.wpIn (Fence.wide.inRound l) m P (Exit.then K (fun _ _ _=>False)) { tmps:=(ps.zip (encs x)).foldl (fun t (p,v)=>t.setIfInBounds p v) a.tmps,defers:= [] } W)
  (hbody:∀ (l m:Nat) (pre:List α) (x:α) (b:Nat) (W:World),I pre W→Bk W b (cs x) T→w.heap.size+2+c≤b→w.heap.size+2+c≤W.heap.size→pre++ [x]<+:LL→l=w.heap.size+1→(∃r,W.heap[l]? =some (.loop r))→W.heap[w.heap.size]? =some (.deferred (some []))→
   body.wpIn (Fence.wide.inRound l) m P (postP w.heap.size (w.heap.size+2+c) FP I Ix (pre++ [x]) W) (a₁ x b) W)
  (hdone:∀ (W:World),w.heap.size+2≤W.heap.size→I LL W→W.heap[w.heap.size]? =some (.deferred (some []))→Q .normal { a with defers:={ target:=.collected w.heap.size,args:= #[] }::a.defers } W)
  (hstop:∀ (k:Code) (pre:List α) (W:World),w.heap.size+2≤W.heap.size→pre<+:LL→Ix k pre W→W.heap[w.heap.size]? =some (.deferred (some []))→k.wpIn Fence.wide n P Q { a with defers:={ target:=.collected w.heap.size,args:= #[] }::a.defers } W):
  (Code.rangeFunc g ps assign body).wpIn Fence.wide n P Q a w:=by
 refine range_P hg eg hseq hFP hps I Ix hI hIx h0 (fun x a' W=>∃b,a'=a₁ x b∧Bk W b (cs x) T∧w.heap.size+2+c≤b)
  (fun a' x A B ⟨b,h1,h2,h3⟩ hf=>⟨b,h1,h2.fr hf (fun k hk h=>by simp at hk;subst hk;have:=h.2;omega),h3⟩) ?_ ?_ hdone hstop
 ·intro l m pre x W K hi hsz _ hK
  have hf:=Fr.alloc (fun _=>False) W (.cells (cs x) T)
  exact hassign l m x W _ K rfl (hK _ _ (KeptR.of_fr hf hsz (fun _ _ h=>h)) (by simp) (KeptL.of_fr hf (fun b hb=>⟨by have:=hFP b hb;omega,fun h=>h⟩)) (hIa _ _ _ hi hsz) ⟨_,rfl,Bk.new _ _ _,hsz⟩)
 ·rintro l m pre x a' W hi ⟨b,rfl,h2,h3⟩ hsz hpre hl hr hd
  exact hbody l m pre x b W hi h2 h3 hsz hpre hl hr hd
theorem Coll.alloc {n0 lo hi Bo:Nat} {TS E:TypeId} {sz:Nat} {w0 A:World} {k:Nat} {cs:List Value} (h:Coll n0 lo hi Bo TS E sz w0 A k cs) (o:Obj) (hs:n0≤A.heap.size):Coll n0 lo hi Bo TS E sz w0 (A.alloc o) k cs:=by
 obtain ⟨v,h1,h2,h3,h4⟩:=h
 have hf:=Fr.alloc (fun _=>False) A o
 exact ⟨v,h1.fr hf (fun _ _ h=>h),ownsRow_fr h2 hf (fun _ _ h=>h),h3.trans (hf.below hs (fun _ _ h=>h)),h4⟩
end Go.Proofs.YtdpngmgaomghoaaGreatDoor
