/- Texts with a zero byte between their parts, plain: their order is that of the parts. No program is named. -/
import Derived.Test.YtdpngmgaomghoaaGreatDoorHistQ
namespace Go.Proofs.YtdpngmgaomghoaaGreatDoor
open Go.RowKit
namespace Sep
def nz (l:List UInt8):Prop:=∀x∈l,0<x
theorem nz_cons {x:UInt8} {l:List UInt8} (h:nz (x::l)):0<x∧nz l:=⟨h x (by simp),fun y hy=>h y (by simp [hy])⟩
theorem less_sep:∀ {a c:List UInt8} (b d:List UInt8),nz a→nz c→Op.bytesLess (a++0::b) (c++0::d)=(Op.bytesLess a c||(decide (a=c)&&Op.bytesLess b d))
 | [],[],b,d,_,_=>by simp [Op.bytesLess]
 | [],y::c,b,d,_,h=>by
  have:=(nz_cons h).1
  simp [Op.bytesLess,this]
 |x::a,[],b,d,h,_=>by
  have h1:=(nz_cons h).1
  have h2:¬x<0:=UInt8.not_lt.2 (UInt8.le_of_lt h1)
  have h3:x≠0:=fun e=>by rw [e] at h1;exact absurd h1 (UInt8.lt_irrefl _)
  simp [Op.bytesLess,h2,h3]
 |x::a,y::c,b,d,h,k=>by
  simp only [List.cons_append,Op.bytesLess,less_sep b d (nz_cons h).2 (nz_cons k).2,List.cons.injEq]
  by_cases e:x=y
  ·subst e
   have:=UInt8.lt_irrefl x
   simp [this]
  ·have e2:(x==y)=false:=by simpa using e
   simp [e,e2]
theorem inj_sep:∀ {a c b d:List UInt8},nz a→nz c→a++0::b=c++0::d→a=c∧b=d
 | [],[],b,d,_,_,h=>⟨rfl,by simpa using h⟩
 | [],y::c,b,d,_,h,e=>by
  have h1:=(nz_cons h).1
  simp only [List.nil_append,List.cons_append,List.cons.injEq] at e
  rw [←e.1] at h1;exact absurd h1 (UInt8.lt_irrefl _)
 |x::a,[],b,d,h,_,e=>by
  have h1:=(nz_cons h).1
  simp only [List.nil_append,List.cons_append,List.cons.injEq] at e
  rw [e.1] at h1;exact absurd h1 (UInt8.lt_irrefl _)
 |x::a,y::c,b,d,h,k,e=>by
  simp only [List.cons_append,List.cons.injEq] at e
  obtain ⟨e1,e2⟩:=inj_sep (nz_cons h).2 (nz_cons k).2 e.2
  exact ⟨by rw [e.1,e1],e2⟩
theorem inj_sep1:∀ {a c b d:List UInt8},nz c→nz d→a++0::b=c++0::d→a=c∧b=d
 | [],[],b,d,_,_,h=>⟨rfl,by simpa using h⟩
 | [],y::c,b,d,h,_,e=>by
  have h1:=(nz_cons h).1
  simp only [List.nil_append,List.cons_append,List.cons.injEq] at e
  rw [←e.1] at h1;exact absurd h1 (UInt8.lt_irrefl _)
 |x::a,[],b,d,_,h,e=>by
  simp only [List.nil_append,List.cons_append,List.cons.injEq] at e
  have h1:=h 0 (by rw [←e.2];simp)
  exact absurd h1 (UInt8.lt_irrefl _)
 |x::a,y::c,b,d,h,k,e=>by
  simp only [List.cons_append,List.cons.injEq] at e
  obtain ⟨e1,e2⟩:=inj_sep1 (nz_cons h).2 k e.2
  exact ⟨by rw [e.1,e1],e2⟩
end Sep
namespace OpsP
open BagP HistP
abbrev Nm:=ByteArray × ByteArray
def nzN (k:Nm):Prop:=Sep.nz k.1.toList∧Sep.nz k.2.toList∧k.1.size+k.2.size≤1000000
def ltN (a b:Nm):Bool:=Ord.lt a.1 b.1||(decide (a.1=b.1)&&Ord.lt a.2 b.2)
abbrev Vw:=List (ByteArray × (Nm × HS))
section
variable {V:Vw} {k:Nm} {x:HS}
end
end OpsP
end Go.Proofs.YtdpngmgaomghoaaGreatDoor
