/- Lists in order, plain: where one comes in. No program is named. -/
import Derived.Test.YtdpngmgaomghoaaGreatDoorEntQ
namespace Go.Proofs.YtdpngmgaomghoaaGreatDoor
open Go.RowKit
namespace EntP
def lowK {α:Type} (p:α→Bool) (out:List α):Nat:=(out.takeWhile p).length
section
variable {α β:Type}
theorem lowK_nil (p:α→Bool):lowK p []=0:=rfl
theorem lowK_cons (p:α→Bool) (a:α) (t:List α):lowK p (a::t)=if p a then lowK p t+1 else 0:=by
 unfold lowK
 rw [List.takeWhile_cons]
 cases p a<;>rfl
theorem lowK_le (p:α→Bool):∀out:List α,lowK p out≤out.length
 | []=>Nat.le_refl _
 |a::t=>by
  rw [lowK_cons]
  have:=lowK_le p t
  split<;>simp<;>omega
theorem lowK_at (p:α→Bool):∀ {out:List α} {k:Nat},(∀i (h:i<out.length),i<k→p out[i]=true)→(k=out.length∨∃h:k<out.length,p out[k]=false)→lowK p out=k
 | [],k,_,h=>by
  rcases h with h| ⟨h,-⟩
  ·rw [h];rfl
  ·simp at h
 |a::t,0,_,h=>by
  rw [lowK_cons]
  rcases h with h| ⟨_,h⟩
  ·simp at h
  ·have h:p a=false:=by simpa using h
   simp [h]
 |a::t,k+1,h1,h2=>by
  rw [lowK_cons]
  have h0:=h1 0 (by simp) (by omega)
  simp at h0
  rw [if_pos h0,lowK_at p (k:=k) (fun i hi hk=>by
   have:=h1 (i+1) (by simpa using hi) (by omega)
   simpa using this) (by
   rcases h2 with h| ⟨h,h'⟩
   ·left;simp at h;exact h
   ·right;exact ⟨by simpa using h,by simpa using h'⟩)]
def insK (p:α→Bool) (x:α) (out:List α):List α:=out.take (lowK p out)++x::out.drop (lowK p out)
theorem mem_insK {p:α→Bool} {x y:α} {out:List α}:y∈insK p x out↔y=x∨y∈out:=by
 unfold insK
 rw [List.mem_append,List.mem_cons]
 have h:y∈out↔y∈out.take (lowK p out)∨y∈out.drop (lowK p out):=by
  rw [←List.mem_append,List.take_append_drop]
 rw [h]
 constructor
 ·rintro (h|h|h)
  ·exact .inr (.inl h)
  ·exact .inl h
  ·exact .inr (.inr h)
 ·rintro (h|h|h)
  ·exact .inr (.inl h)
  ·exact .inl h
  ·exact .inr (.inr h)
theorem insK_len (p:α→Bool) (x:α) (out:List α):(insK p x out).length=out.length+1:=by
 unfold insK
 have:=lowK_le p out
 simp;omega
theorem insK_cons (p:α→Bool) (x a:α) (t:List α):insK p x (a::t)=if p a then a::insK p x t else x::a::t:=by
 unfold insK
 rw [lowK_cons]
 cases p a<;>simp
theorem ins_pw (f:α→β) (lt:β→β→Bool) (tr:∀a b c,lt a b=true→lt b c=true→lt a c=true) (tri:∀a b,lt a b=false→lt b a=false→a=b) (x:α):∀ {out:List α},out.Pairwise (fun a b=>lt (f a) (f b)=true)→(∀a∈out,f a≠f x)→(insK (fun a=>lt (f a) (f x)) x out).Pairwise (fun a b=>lt (f a) (f b)=true)
 | [],_,_=>by simp [insK,lowK_nil]
 |a::t,hs,hne=>by
  have h1:=List.pairwise_cons.1 hs
  rw [insK_cons]
  cases ha:lt (f a) (f x) with
  |true=>
   rw [if_pos rfl]
   refine List.pairwise_cons.2 ⟨fun b hb=>?_,ins_pw f lt tr tri x h1.2 (fun b hb=>hne b (by simp [hb]))⟩
   rcases mem_insK.1 hb with rfl|hb
   ·exact ha
   ·exact h1.1 b hb
  |false=>
   rw [if_neg Bool.false_ne_true]
   have hx:lt (f x) (f a)=true:=by
    cases h:lt (f x) (f a) with
    |true=>rfl
    |false=>exact absurd (tri _ _ ha h) (hne a (by simp))
   refine List.pairwise_cons.2 ⟨fun b hb=>?_,hs⟩
   rcases List.mem_cons.1 hb with rfl|hb
   ·exact hx
   ·exact tr _ _ _ hx (h1.1 b hb)
theorem low_has (f:α→β) (lt:β→β→Bool) (irr:∀a,lt a a=false) (x:β):∀ {out:List α},out.Pairwise (fun a b=>lt (f a) (f b)=true)→(∃a∈out,f a=x)→∃h:lowK (fun a=>lt (f a) x) out<out.length,f out[lowK (fun a=>lt (f a) x) out]=x
 | [],_,h=>by obtain ⟨a,h,-⟩:=h;cases h
 |a::t,hs,h=>by
  have h1:=List.pairwise_cons.1 hs
  cases ha:lt (f a) x with
  |true=>
   have hk:lowK (fun a=>lt (f a) x) (a::t)=lowK (fun a=>lt (f a) x) t+1:=by rw [lowK_cons,if_pos ha]
   obtain ⟨b,hb,hbx⟩:=h
   have hbt:b∈t:=by
    rcases List.mem_cons.1 hb with rfl|hb
    ·rw [hbx,irr] at ha;cases ha
    ·exact hb
   obtain ⟨h2,h3⟩:=low_has f lt irr x h1.2 ⟨b,hbt,hbx⟩
   refine ⟨by rw [hk];simpa using h2,?_⟩
   simp only [hk,List.getElem_cons_succ]
   exact h3
  |false=>
   have hk:lowK (fun a=>lt (f a) x) (a::t)=0:=by rw [lowK_cons,if_neg (by rw [ha];exact Bool.false_ne_true)]
   obtain ⟨b,hb,hbx⟩:=h
   have hba:b=a:=by
    rcases List.mem_cons.1 hb with rfl|hb
    ·rfl
    ·have:=h1.1 b hb;rw [hbx,ha] at this;cases this
   refine ⟨by rw [hk];simp,?_⟩
   simp only [hk,List.getElem_cons_zero]
   rw [←hba];exact hbx
end
end EntP
end Go.Proofs.YtdpngmgaomghoaaGreatDoor
