/- Sums of durations, buckets and histograms, plain. No program is named. -/
import Derived.Test.YtdpngmgaomghoaaGreatKB
namespace Go.Proofs.YtdpngmgaomghoaaGreat
namespace HistP
open BagP
def clamp (n lo hi:Int):Int:=max lo (min n hi)
def cl (d:Int):Int:=clamp d 0 4611686018427387904
theorem cl_rng (d:Int):0≤cl d∧cl d≤4611686018427387904:=by unfold cl clamp;omega
structure May (s:Int × Int):Prop where
 h0:0≤s.1
 h1:s.1≤4294967296
 l0:0≤s.2
 l1:s.2<4611686018427387904
theorem May.zero:May (0,0):=⟨by simp,by simp,by simp,by simp⟩
def addS (s:Int × Int) (d:Int):Int × Int:=
 if 4294967296<s.1+(s.2+cl d) / 4611686018427387904 then (4294967296,4611686018427387903) else (s.1+(s.2+cl d) / 4611686018427387904,(s.2+cl d) % 4611686018427387904)
def subS (s:Int × Int) (d:Int):Int × Int:=
 if s.2-cl d<0 then (if s.1-1<0 then (0,0) else (s.1-1,s.2-cl d+4611686018427387904)) else (s.1,s.2-cl d)
def lessS (a b:Int × Int):Bool:=decide (a.1<b.1∨a.1=b.1∧a.2<b.2)
def bothS (a b:Int × Int):Int × Int:=
 if 4294967296<(addS a b.2).1+b.1 then (4294967296,4611686018427387903) else ((addS a b.2).1+b.1,(addS a b.2).2)
theorem May.add {s:Int × Int} (h:May s) (d:Int):May (addS s d):=by
 obtain ⟨h0,h1,h2,h3⟩:=h
 have:=cl_rng d
 unfold addS
 split
 ·exact ⟨by simp,by simp,by simp,by simp⟩
 ·refine ⟨?_,?_,?_,?_⟩<;>dsimp only<;>omega
theorem May.sub {s:Int × Int} (h:May s) (d:Int):May (subS s d):=by
 obtain ⟨h0,h1,h2,h3⟩:=h
 have:=cl_rng d
 unfold subS
 split
 ·split
  ·exact May.zero
  ·refine ⟨?_,?_,?_,?_⟩<;>dsimp only<;>omega
 ·refine ⟨?_,?_,?_,?_⟩<;>dsimp only<;>omega
theorem May.both {a b:Int × Int} (h:May a) (k:May b):May (bothS a b):=by
 have h2:=h.add b.2
 obtain ⟨h0,h1,h2,h3⟩:=h2
 obtain ⟨k0,k1,k2,k3⟩:=k
 unfold bothS
 split
 ·exact ⟨by simp,by simp,by simp,by simp⟩
 ·refine ⟨?_,?_,?_,?_⟩<;>dsimp only<;>omega
def sumS (l:List Int):Int × Int:=l.foldl addS (0,0)
theorem May.sum (l:List Int):∀ {s:Int × Int},May s→May (l.foldl addS s):=by
 induction l with
 |nil=>intro s h;exact h
 |cons d l ih=>intro s h;exact ih (h.add d)
def val (s:Int × Int):Int:=s.1*4611686018427387904+s.2
abbrev top:Int:=19807040633177770416813375487
theorem val_inj {a b:Int × Int} (ha:May a) (hb:May b) (h:val a=val b):a=b:=by
 obtain ⟨a1,a2,a3,a4⟩:=ha
 obtain ⟨b1,b2,b3,b4⟩:=hb
 obtain ⟨x,y⟩:=a
 obtain ⟨u,v⟩:=b
 unfold val at h
 dsimp only at *
 have:x=u:=by omega
 subst this
 have:y=v:=by omega
 subst this
 rfl
theorem val_add {s:Int × Int} (h:May s) (d:Int):val (addS s d)=min (val s+cl d) top:=by
 obtain ⟨h0,h1,h2,h3⟩:=h
 have:=cl_rng d
 unfold addS val top
 split<;>dsimp only<;>omega
theorem val_sub {s:Int × Int} (h:May s) (d:Int):val (subS s d)=max (val s-cl d) 0:=by
 obtain ⟨h0,h1,h2,h3⟩:=h
 have:=cl_rng d
 unfold subS val
 split
 ·split<;>dsimp only<;>omega
 ·dsimp only;omega
theorem less_val {a b:Int × Int} (ha:May a) (hb:May b):lessS a b=decide (val a<val b):=by
 obtain ⟨a1,a2,a3,a4⟩:=ha
 obtain ⟨b1,b2,b3,b4⟩:=hb
 unfold lessS val
 rw [decide_eq_decide]
 omega
end HistP
end Go.Proofs.YtdpngmgaomghoaaGreat
