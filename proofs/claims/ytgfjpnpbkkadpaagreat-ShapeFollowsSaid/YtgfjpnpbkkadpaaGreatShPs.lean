/- Go's maps by pairs of numbers (the texts keyed.Of makes), whatever their elements are. -/
import Derived.Test.YtgfjpnpbkkadpaaGreatKeys
import Derived.Test.YtgfjpnpbkkadpaaGreatRngs
import Derived.Test.YtgfjpnpbkkadpaaGreatProg
namespace Go.Proofs.YtgfjpnpbkkadpaaGreat
open Tryz
open Go.RowKit
namespace Mp
open KeyP Go.ChangeMaps Go.WideElems Go.WideMaps
abbrev TS:TypeId:=9
def HR (v:Value):Option (DataW Value × List MemPlace):=some (.held v,[])
theorem key2_size (a b:Int):(key2 a b).size=16:=by unfold key2;rw [ks_size,List.length_append,kb_len,kb_len]
theorem keyedS:Maps.Keyed prog TS:=Maps.string_keyed underlying9
abbrev lk (a b:Int):Lit:=.string (key2 a b).data.toList
theorem key_of (a b:Int):keyOf prog TS (.string (key2 a b))=some (lk a b):=keyOf_string_mk underlying9 (by rw [key2_size];unfold maxLen;omega)
theorem lk_ne {a b c d:Int} (ha:wf64 a) (hb:wf64 b) (hc:wf64 c) (hd:wf64 d) (h:¬ (a=c∧b=d)):lk a b≠lk c d:=fun e=>by
 have h1:=keyedS.inj (key_of a b) (by rw [e];exact key_of c d)
 have h2:key2 a b=key2 c d:=by injection h1
 exact h (key2_inj ha hb hc hd h2)
def M (w:World) (r n:Nat) (f:Int→Int→Option Value):Prop:=
 n<1000000∧∃D:DataW Value,w.ownsMap prog TS HR r n D∧∀a b,wf64 a→wf64 b→∀z,D.atKey (lk a b) z=match f a b with|some v=>.held v|none=>z
theorem M.fr {S:Nat→Prop} {w w':World} {r n:Nat} {f:Int→Int→Option Value} (h:M w r n f) (hf:Fr S w w') (hs:¬S r):M w' r n f:=by
 obtain ⟨h0,D,h4,h5⟩:=h
 have hlt:=h4.lt
 obtain ⟨es,clock,hb,F,hsz,hD⟩:=h4
 exact ⟨h0,D,⟨es,clock,(hf.block r hlt hs).trans hb,F,hsz,hD⟩,h5⟩
theorem M.to {w:World} {r n:Nat} {f g:Int→Int→Option Value} (h:M w r n f) (hg:∀a b,wf64 a→wf64 b→g a b=f a b):M w r n g:=by
 obtain ⟨h0,D,h4,h5⟩:=h
 exact ⟨h0,D,h4,fun a b ha hb z=>by rw [hg a b ha hb];exact h5 a b ha hb z⟩
theorem M.new (w:World):M (w.alloc (.map #[] 0)) w.heap.size 0 (fun _ _=>none):=⟨by omega,_,World.ownsMap_made w _ _ _,fun _ _ _ _ _=>rfl⟩
section
variable {w:World} {r n:Nat} {f:Int→Int→Option Value} {T e:TypeId} (hT:prog.underlying T=some (.map TS e)) {zv:Value} (hz:∀w,(zeroValue e).run prog w=.ok zv w)
include hT hz
theorem M.look (h:M w r n f) {a b:Int} (ha:wf64 a) (hb:wf64 b):(Instr.lookup T (.map (some r)) (.string (key2 a b)) false).run prog w=.ok ((f a b).getD zv) w:=by
 obtain ⟨h0,D,h4,h5⟩:=h
 obtain ⟨v,ps,hrun,hv⟩:=h4.lookup keyedS hT (hz w) (show HR zv=some (.held zv,[]) from rfl) (key_of a b)
 rw [h5 a b ha hb] at hv
 simp only [HR,Option.some.injEq,Prod.mk.injEq] at hv
 cases hf:f a b with
 |none=>rw [hf] at hv;simp only [DataW.held.injEq] at hv;rw [hrun,hv.1];rfl
 |some u=>rw [hf] at hv;simp only [DataW.held.injEq] at hv;rw [hrun,hv.1];rfl
omit hz in
theorem M.upd (h:M w r n f) {a b:Int} (ha:wf64 a) (hb:wf64 b) (v:Value) {g:Int→Int→Option Value} (e1:g a b=some v) (e2:∀c d,¬ (c=a∧d=b)→g c d=f c d) (hn:n+1<1000000):
  ∃w',(Instr.mapUpdate T (.map (some r)) (.string (key2 a b)) v).run prog w=.ok () w'∧M w' r (n+1) g∧Fr (· =r) w w':=by
 obtain ⟨h0,D,h4,h5⟩:=h
 obtain ⟨w',hrun,hown,hg⟩:=h4.update keyedS hT (by unfold maxLen;omega) (key_of a b) (show HR v=some (.held v,[]) from rfl)
 refine ⟨w',hrun,⟨hn,_,hown,fun c d hc hd z=>?_⟩,Fr.grown hg (fun k e=>by cases e;rfl)⟩
 by_cases e:c=a∧d=b
 ·obtain ⟨rfl,rfl⟩:=e
  rw [Maps.atKey_put_same h4.isMap (keyedS.key (key_of c d)),e1]
 ·rw [Maps.atKey_put_other (lk_ne hc hd ha hb e),e2 c d e]
  exact h5 c d hc hd z
end
end Mp
namespace ShapeP
open BagP
abbrev K3:=Int × Int × Int
structure Pl where
 t:Int
 i:Int
 c:Int
 d:Int
 p:Int
 f:Int
def Pl.k (x:Pl):K3:=(x.c,x.d,x.f)
def cn (p:K3→Bool) (l:List K3):Int:=(l.countP p:Nat)
theorem cn_range (p:K3→Bool) (l:List K3):0≤cn p l∧cn p l≤l.length:=⟨by unfold cn;omega,by unfold cn;have:=List.countP_le_length (p:=p) (l:=l);omega⟩
theorem cn_append (p:K3→Bool) (l m:List K3):cn p (l++m)=cn p l+cn p m:=by unfold cn;rw [List.countP_append];omega
theorem cn_snoc (p:K3→Bool) (l:List K3) (k:K3):cn p (l++ [k])=cn p l+if p k then 1 else 0:=by
 rw [cn_append];unfold cn;simp only [List.countP_cons,List.countP_nil];split<;>simp
theorem cn_cons (p:K3→Bool) (l:List K3) (k:K3):cn p (k::l)=cn p l+if p k then 1 else 0:=by
 unfold cn;rw [List.countP_cons];split<;>simp
theorem cn_erase (p:K3→Bool) {k:K3}:∀ {l:List K3},k∈l→cn p (l.erase k)=cn p l-if p k then 1 else 0
 | [],h=>by simp at h
 |x::t,h=>by
  by_cases e:x=k
  ·subst e;rw [List.erase_cons_head,cn_cons];omega
  ·rw [List.erase_cons_tail (by simpa using e),cn_cons,cn_cons,cn_erase p (by simpa [Ne.symm e] using h)]
   omega
theorem cn_true (l:List K3):cn (fun _=>true) l=l.length:=by unfold cn;simp
theorem cn_pos {p:K3→Bool} {k:K3} {l:List K3} (h:k∈l) (hp:p k=true):1≤cn p l:=by
 unfold cn;have:=List.countP_pos_iff.2 ⟨k,h,hp⟩;omega
theorem len_sum {L:List (Int × Int)} (h:Pos L):(L.length:Int)≤sumL L:=by
 induction L with
 |nil=>simp [sumL]
 |cons p t ih=>have h1:=h p (by simp);have h2:=ih (fun q hq=>h q (by simp [hq]));simp only [sumL,List.length_cons];omega
structure IsBag (key:K3→Int) (q:K3→Bool) (l:List K3) (L:List (Int × Int)):Prop where
 ok:Ok L
 cnt:∀x,cnt x L=cn (fun k=>q k&&(x==key k)) l
 sum:sumL L=cn q l
section
variable {key:K3→Int} {q:K3→Bool} {l:List K3} {L M:List (Int × Int)}
theorem IsBag.nil:IsBag key q [] []:=⟨Ok.nil,fun _=>rfl,rfl⟩
theorem IsBag.ext (h:IsBag key q l L) (h':IsBag key q l M):L=M:=bag_ext h.ok.srt h'.ok.srt h.ok.pos h'.ok.pos (fun x=>by rw [h.cnt,h'.cnt])
theorem IsBag.len (h:IsBag key q l L):L.length≤l.length:=by
 have:=len_sum h.ok.pos;have:=cn_range q l;have:=h.sum;omega
theorem IsBag.add (h:IsBag key q l L) (hl:l.length<1000000) (k:K3) (hq:q k=true):IsBag key q (l++ [k]) (addL (key k) 1 L):=by
 have hs:=h.sum;have hr:=cn_range q l
 have hk:okA 1 L=true:=by unfold okA;simp;omega
 refine ⟨h.ok.add _ _,fun x=>?_,?_⟩
 ·unfold addL;rw [hk,if_pos rfl,cnt_set,cn_snoc,hq,←h.cnt]
  by_cases e:x=key k
  ·subst e;simp [sameK_refl]
  ·rw [sameK_ne e];simp [e]
 ·unfold addL;rw [hk,if_pos rfl,sumL_set _ _ h.ok.srt,cn_snoc,hq,hs];simp;omega
theorem IsBag.skip (h:IsBag key q l L) (k:K3) (hq:q k=false):IsBag key q (l++ [k]) L:=
 ⟨h.ok,fun x=>by rw [h.cnt,cn_snoc,hq];simp,by rw [h.sum,cn_snoc,hq];simp⟩
theorem IsBag.ok1 (h:IsBag key q l L) {k:K3} (hk:k∈l) (hq:q k=true):okT (key k) 1 L=true:=by
 unfold okT;rw [h.cnt]
 have:=cn_pos (p:=fun j=>q j&&(key k==key j)) hk (by simp [hq])
 simp;omega
theorem IsBag.take (h:IsBag key q l L) {k:K3} (hk:k∈l) (hq:q k=true):IsBag key q (l.erase k) (takeL (key k) 1 L):=by
 have ho:=h.ok1 hk hq
 refine ⟨h.ok.take _ _,fun x=>?_,?_⟩
 ·unfold takeL;rw [ho,if_pos rfl,cnt_set,cn_erase _ hk,hq,←h.cnt]
  by_cases e:x=key k
  ·subst e;simp [sameK_refl]
  ·rw [sameK_ne e];simp [e]
 ·unfold takeL;rw [ho,if_pos rfl,sumL_set _ _ h.ok.srt,cn_erase _ hk,hq,h.sum];simp;omega
theorem IsBag.skipT (h:IsBag key q l L) {k:K3} (hk:k∈l) (hq:q k=false):IsBag key q (l.erase k) L:=
 ⟨h.ok,fun x=>by rw [h.cnt,cn_erase _ hk,hq];simp,by rw [h.sum,cn_erase _ hk,hq];simp⟩
end
def kd (k:K3):Int:=k.2.1
def kf (k:K3):Int:=k.2.2
def qd (k:K3):Bool:=decide (0<k.2.1)
def qf (_:K3):Bool:=true
abbrev Dep:=IsBag kd qd
abbrev Fan:=IsBag kf qf
def cls (c:Int) (k:K3):Bool:=k.1==c
structure Shp where
 n:Int
 r:Int
 o:Int
 c:Int
 D:List (Int × Int)
 F:List (Int × Int)
structure IsShp (l:List K3) (x:Shp):Prop where
 n:x.n=l.length
 r:x.r=cn (cls 1) l
 o:x.o=cn (cls 2) l
 c:x.c=cn (cls 3) l
 D:Dep l x.D
 F:Fan l x.F
theorem IsShp.ext {l:List K3} {x y:Shp} (h:IsShp l x) (h':IsShp l y):x=y:=by
 obtain ⟨a1,a2,a3,a4,a5,a6⟩:=h
 obtain ⟨b1,b2,b3,b4,b5,b6⟩:=h'
 have e5:=a5.ext b5;have e6:=a6.ext b6
 cases x;cases y;simp_all
def hasB (l out:List K3):Bool:=out.all (fun k=>decide (out.count k≤l.count k))
def dif (l out:List K3):List K3:=out.foldl List.erase l
theorem hasB_iff {l out:List K3}:hasB l out=true↔ ∀k,out.count k≤l.count k:=by
 unfold hasB
 rw [List.all_eq_true]
 refine ⟨fun h k=>?_,fun h k _=>by simpa using h k⟩
 by_cases hk:k∈out
 ·simpa using h k hk
 ·rw [List.count_eq_zero_of_not_mem hk];omega
theorem hasB_left {l a b:List K3} (h:hasB l (a++b)=true):hasB l a=true:=by
 rw [hasB_iff] at h ⊢
 intro k;have:=h k;rw [List.count_append] at this;omega
theorem hasB_snoc (l a:List K3) (k:K3):hasB l (a++ [k])=(hasB l a&&decide (a.count k+1≤l.count k)):=by
 rw [Bool.eq_iff_iff,Bool.and_eq_true,hasB_iff,hasB_iff,decide_eq_true_eq]
 refine ⟨fun h=>⟨fun j=>?_,?_⟩,fun h j=>?_⟩
 ·have:=h j;rw [List.count_append] at this;omega
 ·have:=h k;rw [List.count_append] at this;simpa using this
 ·rw [List.count_append]
  by_cases e:k=j
  ·subst e;simpa using h.2
  ·have:=h.1 j;rw [List.count_cons_of_ne (by simpa using e)];simpa using this
theorem count_dif (x:K3):∀ (out l:List K3),(dif l out).count x=l.count x-out.count x
 | [],l=>by simp [dif]
 |k::t,l=>by
  show (dif (l.erase k) t).count x=_
  rw [count_dif x t]
  by_cases e:k=x
  ·subst e;rw [List.count_erase_self,List.count_cons_self];omega
  ·rw [List.count_erase_of_ne (by simpa using fun h=>e h.symm),List.count_cons_of_ne (by simpa using e)]
theorem mem_dif {l a:List K3} {k:K3}:k∈dif l a↔a.count k+1≤l.count k:=by
 rw [←List.count_pos_iff,count_dif];omega
theorem dif_snoc (l a:List K3) (k:K3):dif l (a++ [k])=(dif l a).erase k:=by simp [dif]
theorem dif_len (out:List K3):∀l:List K3,(dif l out).length≤l.length:=by
 induction out with
 |nil=>intro l;exact Nat.le_refl _
 |cons k t ih=>intro l;exact Nat.le_trans (ih (l.erase k)) List.length_erase_le
def appL (l out ins:List K3):List K3:=if hasB l out then dif l out++ins else l
def great:List (Int × Int)→Int
 | []=>0
 |p::t=>t.foldl (fun m q=>max m q.1) p.1
theorem great_snoc {l:List (Int × Int)} (h:l≠ []) (q:Int × Int):great (l++ [q])=max (great l) q.1:=by
 cases l with
 |nil=>exact absurd rfl h
 |cons p t=>simp [great]
end ShapeP
abbrev wfI (k:Int):Prop:=(Lit.int .i64 k).wf=true
theorem keyI {k:Int} (h:wfI k):keyOf prog 3 (.int .i64 k)=some (.int .i64 k):=Maps.keyOf_int_mk underlying3 h
theorem zeroI (w:World):(zeroValue 3).run prog w=.ok (.int .i64 0) w:=by kernel_rfl
section
variable {T:TypeId} (hT:prog.underlying T=some (.map 3 3))
include hT
end
namespace Fm
open Go.MapKept Go.ChangeMaps Go.WideElems
structure KV {κ:Type} (tk:TypeId) (kv:κ→Value) (ok:κ→Prop):Prop where
 keyed:Maps.Keyed prog tk
 inj:∀ {a b:κ},kv a=kv b→a=b
 has:∀ {k:κ},ok k→∃l,keyOf prog tk (kv k)=some l
abbrev D0:DataW Unit:=.lit (.int .i64 0)
def FM {κ:Type} (tk:TypeId) (kv:κ→Value) (ok:κ→Prop) (w:World) (r n:Nat) (f:κ→Int):Prop:=
 n<1000000∧∃D:DataW Unit,w.ownsMap prog tk (plainElem prog 3) r n D∧∀k l,ok k→keyOf prog tk (kv k)=some l→D.atKey l D0=.lit (.int .i64 (f k))
def FMS {κ:Type} (tk:TypeId) (kv:κ→Value) (ok:κ→Prop) (w:World) (r n:Nat) (f:κ→Int) (k:κ) (s:Nat):Prop:=
 FM tk kv ok w r n f∧∃ (es:Array MapEntry) (clock i:Nat) (e:MapEntry),w.heap[r]? =some (.map es clock)∧es.toList[i]? =some e∧e.born=s∧e.key=kv k
section
variable {κ:Type} {tk:TypeId} {kv:κ→Value} {ok:κ→Prop} {w w':World} {r n:Nat} {f:κ→Int}
theorem FM.fr {S:Nat→Prop} (h:FM tk kv ok w r n f) (hf:Fr S w w') (hs:∀b∈ [r],¬S b):FM tk kv ok w' r n f:=by
 obtain ⟨h0,D,h4,h5⟩:=h
 have hlt:=h4.lt
 obtain ⟨es,clock,hb,F,hsz,hD⟩:=h4
 exact ⟨h0,D,⟨es,clock,(hf.block r hlt (hs r (by simp))).trans hb,F,hsz,hD⟩,h5⟩
theorem FM.lt (h:FM tk kv ok w r n f):r<w.heap.size:=by obtain ⟨_,D,h4,_⟩:=h;exact h4.lt
theorem FM.new (w:World):FM tk kv ok (w.alloc (.map #[] 0)) w.heap.size 0 (fun _=>0):=⟨by omega,_,World.ownsMap_made w _ _ _,fun _ _ _ _=>rfl⟩
theorem FM.to (h:FM tk kv ok w r n f) {g:κ→Int} (hg:∀k,ok k→g k=f k):FM tk kv ok w r n g:=by
 obtain ⟨h0,D,h4,h5⟩:=h
 exact ⟨h0,D,h4,fun k l hk hl=>by rw [hg k hk];exact h5 k l hk hl⟩
variable (K:KV tk kv ok) {T:TypeId} (hT:prog.underlying T=some (.map tk 3))
include K hT
theorem FM.look (h:FM tk kv ok w r n f) {k:κ} (hk:ok k):(Instr.lookup T (.map (some r)) (kv k) false).run prog w=.ok (.int .i64 (f k)) w:=by
 obtain ⟨h0,D,h4,h5⟩:=h
 obtain ⟨l,hl⟩:=K.has hk
 obtain ⟨c,hrun,hat,-⟩:=h4.lookup_int K.keyed hT underlying3 (zeroI w) hl
 rw [h5 k l hk hl] at hat
 simp only [DataW.lit.injEq,Lit.int.injEq,true_and] at hat
 rw [hat];exact hrun
theorem FM.upd (h:FM tk kv ok w r n f) {k:κ} (hk:ok k) {v:Int} (hv:wfI v) {f':κ→Int} (e1:f' k=v) (e2:∀j,j≠k→f' j=f j) (hn:n+1<1000000):
  ∃w',(Instr.mapUpdate T (.map (some r)) (kv k) (.int .i64 v)).run prog w=.ok () w'∧FM tk kv ok w' r (n+1) f'∧Fr (· =r) w w':=by
 obtain ⟨h0,D,h4,h5⟩:=h
 obtain ⟨l,hl⟩:=K.has hk
 obtain ⟨w',hrun,hown,hg⟩:=h4.update K.keyed hT (by unfold maxLen;omega) hl (plainElem_int underlying3 hv)
 refine ⟨w',hrun,⟨hn,_,hown,fun j lj hj hlj=>?_⟩,Fr.grown hg (fun k e=>by cases e;rfl)⟩
 by_cases e:j=k
 ·subst e
  rw [hl] at hlj;cases hlj
  rw [Maps.atKey_put_same h4.isMap (K.keyed.key hl),e1]
 ·have hne:lj≠l:=fun el=>e (K.inj (K.keyed.inj hlj (el▸hl)))
  rw [Maps.atKey_put_other hne,e2 j e]
  exact h5 j lj hj hlj
theorem FM.del (h:FM tk kv ok w r n f) {k:κ} (hk:ok k) {f':κ→Int} (e1:f' k=0) (e2:∀j,j≠k→f' j=f j) (ty:TypeId):
  ∃w',(Builtin.delete_ #[T,tk] ty #[.map (some r),kv k]).run prog w=.ok (.tuple #[]) w'∧FM tk kv ok w' r n f'∧Fr (· =r) w w':=by
 obtain ⟨h0,D,h4,h5⟩:=h
 obtain ⟨l,hl⟩:=K.has hk
 obtain ⟨w',hrun,hown,hg⟩:=h4.drop K.keyed hT hl ty
 refine ⟨w',hrun,⟨h0,_,hown,fun j lj hj hlj=>?_⟩,Fr.grown hg.grown (fun k e=>by cases e;rfl)⟩
 by_cases e:j=k
 ·subst e
  rw [hl] at hlj;cases hlj
  rw [Maps.atKey_del_same,e1]
 ·have hne:lj≠l:=fun el=>e (K.inj (K.keyed.inj hlj (el▸hl)))
  rw [Maps.atKey_del_other hne,e2 j e]
  exact h5 j lj hj hlj
omit K hT in
theorem modify_congr {es:Array MapEntry} {j:Nat} {e0:MapEntry} (h:es.toList[j]? =some e0) {g g':MapEntry→MapEntry} (hg:g e0=g' e0):es.modify j g=es.modify j g':=by
 apply Array.ext'
 rw [Array.toList_modify,Array.toList_modify,modify_eq_set _ _ _ _ h,modify_eq_set _ _ _ _ h,hg]
theorem FM.entry (h:FM tk kv ok w r n f) {k:κ} (hk:ok k) (hw:wfI (f k)) (hn:n+1<1000000):
  ∃w' s,(Instr.mapEntry T (.map (some r)) (kv k)).run prog w=.ok (.tuple #[.int .i64 (f k),.int .i64 (s:Nat)]) w'∧FMS tk kv ok w' r (n+1) f k s∧Fr (· =r) w w':=by
 have hlk:=h.look K hT hk
 obtain ⟨w',hup,hfm,hfr⟩:=h.upd K hT hk hw (f':=f) rfl (fun _ _=>rfl) hn
 obtain ⟨h0,D,⟨es,clock,hb,F,hsz,hD⟩,h5⟩:=h
 obtain ⟨l,hl⟩:=K.has hk
 rcases K.keyed.find w hl es.toList F.keys with ⟨h1,h2⟩| ⟨j,e0,h1,h2,h3⟩
 ·have ef:f k=0:=by
   simp [Instr.lookup,run_underlying hT,MapKept.run_getObj_map hb,K.keyed.check w _ hl,h1,Result.andThen] at hlk
   exact hlk.symm
  simp [Instr.mapUpdate,run_underlying hT,MapKept.run_getObj_map hb,K.keyed.check w _ hl,h1,MapKept.run_setObj_map _ hb,Result.andThen] at hup
  refine ⟨w',clock,?_,⟨hfm,?_⟩,hfr⟩
  ·simp [Instr.mapEntry,run_underlying hT,MapKept.run_getObj_map hb,K.keyed.check w _ hl,h1,MapKept.run_setObj_map _ hb,Result.andThen]
   rw [ef] at hup
   exact ⟨⟨ef.symm,rfl⟩,hup⟩
  ·subst hup
   exact ⟨_,_,es.size,⟨kv k,.int .i64 (f k),clock⟩,(heap_set hb).1,by simp,rfl,rfl⟩
 ·have hj:es[j]? =some e0:=by simpa using h2
  have ev:e0.val=.int .i64 (f k):=by
   simp [Instr.lookup,run_underlying hT,MapKept.run_getObj_map hb,K.keyed.check w _ hl,h1,Result.andThen] at hlk
   exact hlk
  simp [Instr.mapUpdate,run_underlying hT,MapKept.run_getObj_map hb,K.keyed.check w _ hl,h1,hj,h3,K.keyed.stays w hl,MapKept.run_setObj_map _ hb,Result.andThen] at hup
  have em:es.modify j (fun e=>{ e with key:=kv k })=es.modify j (fun e=>{ e with key:=kv k,val:=.int .i64 (f k) }):=modify_congr h2 (by simp [ev])
  refine ⟨w',e0.born,?_,⟨hfm,?_⟩,hfr⟩
  ·simp [Instr.mapEntry,run_underlying hT,MapKept.run_getObj_map hb,K.keyed.check w _ hl,h1,hj,h3,K.keyed.stays w hl,MapKept.run_setObj_map _ hb,Result.andThen,ev]
   rw [em]
   exact ⟨rfl,hup⟩
  ·subst hup
   refine ⟨_,_,j,{ e0 with key:=kv k,val:=.int .i64 (f k) },(heap_set hb).1,?_,rfl,rfl⟩
   rw [Array.toList_modify,modify_eq_set _ _ _ _ h2]
   rw [List.getElem?_set_self (List.getElem?_eq_some_iff.1 h2).1]
theorem FMS.store {k:κ} {s:Nat} (h:FMS tk kv ok w r n f k s) (hk:ok k) {v:Int} (hv:wfI v) {f':κ→Int} (e1:f' k=v) (e2:∀j,j≠k→f' j=f j) (hn:n+1<1000000):
  ∃w',(Instr.entryStore T (.map (some r)) (.int .i64 (s:Nat)) (.int .i64 v)).run prog w=.ok () w'∧FM tk kv ok w' r (n+1) f'∧Fr (· =r) w w':=by
 obtain ⟨h,es,clock,i,e,hb,hi,hs,hkey⟩:=h
 obtain ⟨w',hup,hfm,hfr⟩:=h.upd K hT hk hv e1 e2 hn
 obtain ⟨h0,D,⟨es',clock',hb',F,hsz,hD⟩,h5⟩:=h
 rw [hb] at hb';cases hb'
 obtain ⟨l,hl⟩:=K.has hk
 refine ⟨w',?_,hfm,hfr⟩
 have hil:=(List.getElem?_eq_some_iff.1 hi).1
 have hie:=(List.getElem?_eq_some_iff.1 hi).2
 rcases K.keyed.find w hl es.toList F.keys with ⟨h1,h2⟩| ⟨j,e0,h1,h2,h3⟩
 ·exact absurd hkey (h2 e (List.mem_of_getElem? hi))
 ·have eij:i=j:=by
   by_cases hne:i=j
   ·exact hne
   ·exact absurd (hkey.trans h3.symm) (other_key F h2 hi hne)
  subst eij
  rw [hi] at h2;cases h2
  have hj:es[i]? =some e:=by simpa using hi
  have hfi:es.findIdx? (fun x=>(x.born:Int)==(s:Int))=some i:=by
   rw [Array.findIdx?_eq_some_iff_getElem]
   refine ⟨by simpa using hil,?_,fun j hji=>?_⟩
   ·have:es[i]'(by simpa using hil)=e:=by simpa using hie
    rw [this];simp [hs]
   ·have hjl:j<es.toList.length:=by omega
    have hnd:=((stamped_iff es clock).1 F.stamped).2.1
    rw [List.nodup_iff_pairwise_ne] at hnd
    have:=(List.pairwise_iff_getElem.1 hnd) j i (by simpa using hjl) (by simpa using hil) hji
    simp only [List.getElem_map] at this
    rw [hie,hs] at this
    have h':es[j].born≠s:=by simpa using this
    simp only [beq_iff_eq]
    omega
  simp [Instr.mapUpdate,run_underlying hT,MapKept.run_getObj_map hb,K.keyed.check w _ hl,h1,hj,hkey,K.keyed.stays w hl,MapKept.run_setObj_map _ hb,Result.andThen] at hup
  have em:es.modify i (fun x=>{ x with val:=.int .i64 v })=es.modify i (fun x=>{ x with key:=kv k,val:=.int .i64 v }):=modify_congr hi (by simp [←hkey])
  simp [Instr.entryStore,MapKept.run_getObj_map hb,hfi,MapKept.run_setObj_map _ hb,Result.andThen,asInt,asIntOf]
  rw [em]
  exact hup
theorem look_none {k:κ} (hk:ok k):(Instr.lookup T (.map none) (kv k) false).run prog w=.ok (.int .i64 0) w:=by
 obtain ⟨l,hl⟩:=K.has hk
 exact Maps.look_nil false K.keyed hT (zeroI w) hl
end
theorem KI:KV 3 (fun k:Int=>.int .i64 k) wfI:=⟨Maps.int_keyed underlying3,fun h=>by simpa using h,fun h=>⟨_,keyI h⟩⟩
end Fm
end Go.Proofs.YtgfjpnpbkkadpaaGreat
