/- Sums of durations, buckets and histograms, plain. No program is named. -/
import Derived.Test.YtdpngmgaomghoaaGreatKB
namespace Go.Proofs.YtdpngmgaomghoaaGreat
namespace HistP
open BagP
def clamp (n lo hi:Int):Int:=max lo (min n hi)
def cl (d:Int):Int:=clamp d 0 4611686018427387904
theorem cl_rng (d:Int):0≤cl d∧cl d≤4611686018427387904:=by unfold cl clamp;omega
structure May (s:Int × Int):Prop where
 h0:0≤s.1
 h1:s.1≤4294967296
 l0:0≤s.2
 l1:s.2<4611686018427387904
theorem May.zero:May (0,0):=⟨by simp,by simp,by simp,by simp⟩
def addS (s:Int × Int) (d:Int):Int × Int:=
 if 4294967296<s.1+(s.2+cl d) / 4611686018427387904 then (4294967296,4611686018427387903) else (s.1+(s.2+cl d) / 4611686018427387904,(s.2+cl d) % 4611686018427387904)
def subS (s:Int × Int) (d:Int):Int × Int:=
 if s.2-cl d<0 then (if s.1-1<0 then (0,0) else (s.1-1,s.2-cl d+4611686018427387904)) else (s.1,s.2-cl d)
def lessS (a b:Int × Int):Bool:=decide (a.1<b.1∨a.1=b.1∧a.2<b.2)
def bothS (a b:Int × Int):Int × Int:=
 if 4294967296<(addS a b.2).1+b.1 then (4294967296,4611686018427387903) else ((addS a b.2).1+b.1,(addS a b.2).2)
theorem May.add {s:Int × Int} (h:May s) (d:Int):May (addS s d):=by
 obtain ⟨h0,h1,h2,h3⟩:=h
 have:=cl_rng d
 unfold addS
 split
 ·exact ⟨by simp,by simp,by simp,by simp⟩
 ·refine ⟨?_,?_,?_,?_⟩<;>dsimp only<;>omega
theorem May.sub {s:Int × Int} (h:May s) (d:Int):May (subS s d):=by
 obtain ⟨h0,h1,h2,h3⟩:=h
 have:=cl_rng d
 unfold subS
 split
 ·split
  ·exact May.zero
  ·refine ⟨?_,?_,?_,?_⟩<;>dsimp only<;>omega
 ·refine ⟨?_,?_,?_,?_⟩<;>dsimp only<;>omega
theorem May.both {a b:Int × Int} (h:May a) (k:May b):May (bothS a b):=by
 have h2:=h.add b.2
 obtain ⟨h0,h1,h2,h3⟩:=h2
 obtain ⟨k0,k1,k2,k3⟩:=k
 unfold bothS
 split
 ·exact ⟨by simp,by simp,by simp,by simp⟩
 ·refine ⟨?_,?_,?_,?_⟩<;>dsimp only<;>omega
def sumS (l:List Int):Int × Int:=l.foldl addS (0,0)
theorem May.sum (l:List Int):∀ {s:Int × Int},May s→May (l.foldl addS s):=by
 induction l with
 |nil=>intro s h;exact h
 |cons d l ih=>intro s h;exact ih (h.add d)
end HistP
namespace HistP
open BagP
def bits (n:Nat):Nat:=if n=0 then 0 else n.log2+1
theorem bits_eq {n k:Nat} (h:n<2 ^ k) (h2:k=0∨2 ^ (k-1)≤n):bits n=k:=by
 unfold bits
 by_cases hn:n=0
 ·subst hn
  rw [if_pos rfl]
  rcases h2 with h2|h2
  ·exact h2.symm
  ·have:=Nat.two_pow_pos (k-1);omega
 ·rw [if_neg hn]
  have h1:n.log2<k:=(Nat.log2_lt hn).2 h
  rcases h2 with h2|h2
  ·omega
  ·have:k-1≤n.log2:=(Nat.le_log2 hn).2 h2
   omega
theorem bits_lt (n:Nat):n<2 ^ bits n:=by
 unfold bits
 by_cases hn:n=0
 ·subst hn;simp
 ·rw [if_neg hn];exact (Nat.log2_lt hn).1 (by omega)
theorem bits_le {n:Nat} (hn:n≠0):2 ^ (bits n-1)≤n:=by
 unfold bits
 rw [if_neg hn]
 exact (Nat.le_log2 hn).1 (by omega)
theorem bits_zero {n:Nat}:bits n=0↔n=0:=by
 unfold bits;split<;>simp_all
theorem bits_mono {a b:Nat} (h:a≤b):bits a≤bits b:=by
 by_cases ha:a=0
 ·subst ha;simp [bits]
 ·have hb:b≠0:=by omega
  unfold bits
  rw [if_neg ha,if_neg hb]
  have:a.log2≤b.log2:=(Nat.le_log2 hb).2 (Nat.le_trans ((Nat.le_log2 ha).1 (Nat.le_refl _)) h)
  omega
def bk (d:Int):Int:=(bits (cl d).toNat:Nat)
theorem bk_rng (d:Int):0≤bk d∧bk d≤63:=by
 have hc:=cl_rng d
 refine ⟨by unfold bk;omega,?_⟩
 have h:bits (cl d).toNat≤bits 4611686018427387904:=bits_mono (by omega)
 have h2:bits 4611686018427387904=63:=bits_eq (by decide) (.inr (by decide))
 unfold bk;omega
def bnd (k:Int):Int × Int × Bool:=
 if k<0∨63<k then (0,0,false) else if k=0 then (0,0,true) else if k=63 then (4611686018427387904,4611686018427387904,true) else (2 ^ (k-1).toNat,2 ^ k.toNat-1,true)
theorem pow62 {n:Nat} (h:n≤62):(1:Int)≤2 ^ n∧(2:Int) ^ n≤4611686018427387904:=by
 have h1:2 ^ n≤2 ^ 62:=Nat.pow_le_pow_right (by decide) h
 have h2:=Nat.two_pow_pos n
 have e:((2 ^ n:Nat):Int)=2 ^ n:=by simp
 have e2:(2:Nat) ^ 62=4611686018427387904:=by decide
 rw [←e]
 omega
theorem bk_bnd (d:Int):(bnd (bk d)).1≤cl d∧cl d≤(bnd (bk d)).2.1∧(bnd (bk d)).2.2=true:=by
 have hr:=bk_rng d
 have hc:=cl_rng d
 have hlt:=bits_lt (cl d).toNat
 have hk:(bk d).toNat=bits (cl d).toNat:=by unfold bk;omega
 unfold bnd
 rw [if_neg (by omega)]
 by_cases h0:bk d=0
 ·rw [if_pos h0]
  have:(cl d).toNat=0:=bits_zero.1 (by unfold bk at h0;omega)
  exact ⟨by dsimp only;omega,by dsimp only;omega,rfl⟩
 ·rw [if_neg h0]
  have hn:(cl d).toNat≠0:=fun e=>h0 (by unfold bk;rw [e];rfl)
  have hle:=bits_le hn
  rw [←hk] at hlt hle
  have e1:((2 ^ (bk d-1).toNat:Nat):Int)=2 ^ (bk d-1).toNat:=by simp
  have e2:((2 ^ (bk d).toNat:Nat):Int)=2 ^ (bk d).toNat:=by simp
  have e3:(bk d).toNat-1=(bk d-1).toNat:=by omega
  rw [e3] at hle
  by_cases h63:bk d=63
  ·rw [if_pos h63]
   rw [h63] at hle
   have:(2:Nat) ^ ((63:Int)-1).toNat=4611686018427387904:=by decide
   exact ⟨by dsimp only;omega,by dsimp only;omega,rfl⟩
  ·rw [if_neg h63]
   refine ⟨?_,?_,rfl⟩
   ·dsimp only;rw [←e1];omega
   ·dsimp only;rw [←e2];omega
abbrev HS:=List (Int × Int) × (Int × Int)
def addH (d:Int) (x:HS):HS:=(addL (bk d) 1 x.1,addS x.2 d)
def okD (d:Int) (x:HS):Bool:= !lessS x.2 (addS (0,0) d)&&okT (bk d) 1 x.1
def dropH (d:Int) (x:HS):HS:=if okD d x then (takeL (bk d) 1 x.1,subS x.2 d) else x
def addAll (o:List (Int × Int)) (L:List (Int × Int)):List (Int × Int):=o.foldl (fun L p=>addL p.1 p.2 L) L
def mergeH (o x:HS):HS:=(addAll o.1 x.1,bothS x.2 o.2)
def ofH (l:List Int):HS:=l.foldl (fun x d=>addH d x) ([],(0,0))
def rank (n p:Int):Int:=max 1 (n / 1000*clamp p 0 1000+(n % 1000*clamp p 0 1000+999) / 1000)
def findQ:Int→List (Int × Int)→Option Int
 |_,[]=>none
 |r,(k,m)::t=>if r≤m then some k else findQ (r-m) t
def quant (x:HS) (p:Int):Int × Int × Bool:=
 match findQ (rank (sumL x.1) p) x.1 with
 |some k=>bnd k
 |none=>(0,0,false)
theorem rank_is {n p r:Int} (hn:0≤n) (h1:1≤r) (_hr:r≤max 1 n) (hlo:r=1∨(r-1)*1000<n*clamp p 0 1000) (hhi:¬ (r<n∧r*1000<n*clamp p 0 1000)):r=rank n p:=by
 have hc:0≤clamp p 0 1000∧clamp p 0 1000≤1000:=by unfold clamp;omega
 unfold rank
 generalize clamp p 0 1000=c at *
 have e:n*c=1000*(n / 1000*c)+n % 1000*c:=by
  have:n=1000*(n / 1000)+n % 1000:=by omega
  conv=>lhs;rw [this]
  rw [Int.add_mul,Int.mul_assoc]
 have hq:n*c≤n*1000:=Int.mul_le_mul_of_nonneg_left hc.2 hn
 have hq0:0≤n*c:=Int.mul_nonneg hn hc.1
 have hb:0≤n % 1000*c:=Int.mul_nonneg (by omega) hc.1
 rw [e] at hlo hhi hq hq0
 generalize n / 1000*c=A at *
 generalize n % 1000*c=B at *
 omega
theorem rank_rng {n p:Int} (hn:1≤n):1≤rank n p∧rank n p≤n:=by
 have hc:0≤clamp p 0 1000∧clamp p 0 1000≤1000:=by unfold clamp;omega
 unfold rank
 generalize clamp p 0 1000=c at *
 have h1:n / 1000*c≤n / 1000*1000:=Int.mul_le_mul_of_nonneg_left hc.2 (by omega)
 have h2:n % 1000*c≤n % 1000*1000:=Int.mul_le_mul_of_nonneg_left hc.2 (by omega)
 generalize n / 1000*c=A at *
 generalize n % 1000*c=B at *
 omega
theorem findQ_some:∀ {L:List (Int × Int)} {r:Int},1≤r→r≤sumL L→∃k,findQ r L=some k:=by
 intro L
 induction L with
 |nil=>intro r h1 h2;simp [sumL] at h2;omega
 |cons p t ih=>
  obtain ⟨k,m⟩:=p
  intro r h1 h2
  unfold findQ
  by_cases h:r≤m
  ·exact ⟨k,by rw [if_pos h]⟩
  ·rw [if_neg h]
   have:sumL ((k,m)::t)=m+sumL t:=by simp [sumL]
   exact ih (by omega) (by omega)
end HistP
end Go.Proofs.YtdpngmgaomghoaaGreat
