/- Bytes of numbers, of records; which record goes ahead: plain. -/
import Derived.Test.YtdpngmgaomghoaaGreatDoorSetP
namespace Go.Proofs.YtdpngmgaomghoaaGreatDoor
open Go.RowKit
namespace PackP
open KeyP SetP
def vb (u:Nat):List UInt8:=if u<128 then [UInt8.ofNat u] else UInt8.ofNat (u % 128+128)::vb (u / 128)
termination_by u
decreasing_by omega
theorem vb_lt {u:Nat} (h:u<128):vb u= [UInt8.ofNat u]:=by rw [vb,if_pos h]
theorem vb_ge {u:Nat} (h:¬u<128):vb u=UInt8.ofNat (u % 128+128)::vb (u / 128):=by rw [vb,if_neg h]
theorem of_inj {a b:Nat} (ha:a<256) (hb:b<256) (h:UInt8.ofNat a=UInt8.ofNat b):a=b:=by
 have:=congrArg UInt8.toNat h
 rw [UInt8.toNat_ofNat',UInt8.toNat_ofNat'] at this;omega
theorem vb_inj:∀ (u v:Nat) (s t:List UInt8),vb u++s=vb v++t→u=v∧s=t:=by
 intro u
 induction u using Nat.strongRecOn with
 |_ u ih=>
  intro v s t h
  by_cases hu:u<128
  ·by_cases hv:v<128
   ·rw [vb_lt hu,vb_lt hv,List.singleton_append,List.singleton_append,List.cons.injEq] at h
    exact ⟨of_inj (by omega) (by omega) h.1,h.2⟩
   ·rw [vb_lt hu,vb_ge hv,List.singleton_append,List.cons_append,List.cons.injEq] at h
    have:=of_inj (by omega) (by omega) h.1;omega
  ·by_cases hv:v<128
   ·rw [vb_ge hu,vb_lt hv,List.singleton_append,List.cons_append,List.cons.injEq] at h
    have:=of_inj (by omega) (by omega) h.1;omega
   ·rw [vb_ge hu,vb_ge hv,List.cons_append,List.cons_append,List.cons.injEq] at h
    have h1:=of_inj (by omega) (by omega) h.1
    obtain ⟨h2,h3⟩:=ih (u / 128) (by omega) (v / 128) s t h.2
    exact ⟨by omega,h3⟩
theorem vb_len:∀ (k u:Nat),u<128 ^ (k+1)→(vb u).length≤k+1
 |0,u,h=>by rw [vb_lt (by omega)];simp
 |k+1,u,h=>by
  by_cases hu:u<128
  ·rw [vb_lt hu];simp
  ·rw [vb_ge hu,List.length_cons]
   have:=vb_len k (u / 128) (by rw [Nat.div_lt_iff_lt_mul (by omega)];rw [Nat.pow_succ] at h;exact h)
   omega
theorem vb_len10 {u:Nat} (h:u<18446744073709551616):(vb u).length≤10:=vb_len 9 u (by omega)
def zz (n:Int):Nat:=(if n<0 then -(2*n)-1 else 2*n).toNat
theorem zz_lt {n:Int} (h:in64 n):zz n<18446744073709551616:=by unfold zz;unfold in64 at h;split<;>omega
theorem zz_inj {a b:Int} (h:zz a=zz b):a=b:=by unfold zz at h;split at h<;>split at h<;>omega
def nb (n:Int):List UInt8:=if n<0 then [] else vb n.toNat
theorem nb_ge {n:Int} (h:0≤n):nb n=vb n.toNat:=by unfold nb;rw [if_neg (by omega)]
theorem nb_len {n:Int} (h:in64 n):(nb n).length≤10:=by
 unfold nb;unfold in64 at h
 split
 ·simp
 ·exact vb_len10 (by omega)
theorem nb_inj {a b:Int} (ha:0≤a) (hb:0≤b) {s t:List UInt8} (h:nb a++s=nb b++t):a=b∧s=t:=by
 rw [nb_ge ha,nb_ge hb] at h
 obtain ⟨h1,h2⟩:=vb_inj _ _ _ _ h
 exact ⟨by omega,h2⟩
def tb (s:ByteArray):List UInt8:=vb s.size++s.data.toList
theorem tb_inj {a b:ByteArray} {s t:List UInt8} (h:tb a++s=tb b++t):a=b∧s=t:=by
 unfold tb at h
 rw [List.append_assoc,List.append_assoc] at h
 obtain ⟨h1,h2⟩:=vb_inj _ _ _ _ h
 obtain ⟨h3,h4⟩:=List.append_inj h2 h1
 exact ⟨ByteArray.ext (Array.ext' h3),h4⟩
theorem tb_len {s:ByteArray} (h:s.size≤24):(tb s).length≤25:=by
 unfold tb
 rw [vb_lt (by omega),List.length_append,List.length_singleton]
 have:s.data.toList.length=s.size:=rfl
 omega
def gb (g:Bool):List UInt8:= [if g then 1 else 0]
theorem gb_inj {a b:Bool} (h:gb a=gb b):a=b:=by revert h;cases a<;>cases b<;>simp [gb]
def enc (x:Sn):List UInt8:=nb x.t++(nb x.i++(nb x.p++(nb x.r++(tb x.s++(tb x.o++(vb (zz x.b)++(vb (zz x.d)++gb x.g)))))))
def nameB (s:ByteArray):Bool:=s.data.toList.all (fun c=>decide (33≤c.toNat)&&decide (c.toNat≤126))&&(decide (1≤s.size)&&decide (s.size≤24))
def mayB (x:Sn):Bool:=decide (0<x.t)&&(decide (0<x.i)&&(decide (0≤x.p)&&(decide (0≤x.r)&&(nameB x.s&&(nameB x.o&&(decide (-4611686018427387904≤x.b)&&decide (x.b<4611686018427387904)))))))
structure May (x:Sn):Prop where
 t:0<x.t
 i:0<x.i
 p:0≤x.p
 r:0≤x.r
 s:nameB x.s=true
 o:nameB x.o=true
 b1: -4611686018427387904≤x.b
 b2:x.b<4611686018427387904
theorem may_iff {x:Sn}:mayB x=true↔May x:=by
 unfold mayB
 simp only [Bool.and_eq_true,decide_eq_true_eq]
 exact ⟨fun ⟨h1,h2,h3,h4,h5,h6,h7,h8⟩=>⟨h1,h2,h3,h4,h5,h6,h7,h8⟩,fun ⟨h1,h2,h3,h4,h5,h6,h7,h8⟩=>⟨h1,h2,h3,h4,h5,h6,h7,h8⟩⟩
theorem name_size {s:ByteArray} (h:nameB s=true):1≤s.size∧s.size≤24:=by
 unfold nameB at h
 simp only [Bool.and_eq_true,decide_eq_true_eq] at h
 exact h.2
theorem enc_inj {x y:Sn} (hx:May x) (hy:May y) (h:enc x=enc y):x=y:=by
 unfold enc at h
 obtain ⟨h1,h⟩:=nb_inj (Int.le_of_lt hx.t) (Int.le_of_lt hy.t) h
 obtain ⟨h2,h⟩:=nb_inj (Int.le_of_lt hx.i) (Int.le_of_lt hy.i) h
 obtain ⟨h3,h⟩:=nb_inj hx.p hy.p h
 obtain ⟨h4,h⟩:=nb_inj hx.r hy.r h
 obtain ⟨h5,h⟩:=tb_inj h
 obtain ⟨h6,h⟩:=tb_inj h
 obtain ⟨h7,h⟩:=vb_inj _ _ _ _ h
 obtain ⟨h8,h⟩:=vb_inj _ _ _ _ h
 have h9:=gb_inj h
 have h7:=zz_inj h7
 have h8:=zz_inj h8
 cases x;cases y;simp_all
theorem enc_len {x:Sn} (hx:May x) (hk:x.ok):(enc x).length≤111:=by
 unfold enc
 have:=nb_len hk.t;have:=nb_len hk.i;have:=nb_len hk.p;have:=nb_len hk.r
 have:=tb_len (name_size hx.s).2;have:=tb_len (name_size hx.o).2
 have:=vb_len10 (zz_lt hk.b);have:=vb_len10 (zz_lt hk.d)
 simp only [List.length_append]
 have:(gb x.g).length=1:=rfl
 omega
def kdr (d:Int):Int:=max 0 (min d 4611686018427387904)
def kp (x:Sn):Sn:={ x with d:=kdr x.d }
theorem kdr_in (n:Int):0≤kdr n∧kdr n≤4611686018427387904:=by unfold kdr;omega
theorem kdr_kdr (n:Int):kdr (kdr n)=kdr n:=by unfold kdr;omega
theorem kp_kp (x:Sn):kp (kp x)=kp x:=by unfold kp;simp only [kdr_kdr]
theorem kp_ok {x:Sn} (h:x.ok):(kp x).ok:=⟨h.t,h.i,h.p,h.r,h.b,by have:=kdr_in x.d;show in64 (kdr x.d);unfold in64;omega,h.s,h.o⟩
theorem kp_may (x:Sn):mayB (kp x)=mayB x:=rfl
def bts (x:Sn):List UInt8:=if mayB x then enc (kp x) else []
theorem bts_kp (x:Sn):bts (kp x)=bts x:=by unfold bts;rw [kp_may,kp_kp]
def nwr (x y:Sn):Bool:=decide (y.r<x.r)||(decide (x.r=y.r)&&Op.bytesLess (bts y) (bts x))
theorem nwr_irr (x:Sn):nwr x x=false:=by unfold nwr;rw [Bl.irr];simp
theorem nwr_tr {x y z:Sn} (h1:nwr x y=true) (h2:nwr y z=true):nwr x z=true:=by
 simp only [nwr,Bool.or_eq_true,Bool.and_eq_true,decide_eq_true_eq] at *
 rcases h1 with h1| ⟨h1,h3⟩
 ·rcases h2 with h2| ⟨h2,h4⟩
  ·exact .inl (by omega)
  ·exact .inl (by omega)
 ·rcases h2 with h2| ⟨h2,h4⟩
  ·exact .inl (by omega)
  ·exact .inr ⟨by omega,Bl.tr _ _ _ h4 h3⟩
theorem nwr_tri {x y:Sn} (hx:mayB x=true) (hy:mayB y=true) (h1:nwr x y=false) (h2:nwr y x=false):kp x=kp y:=by
 simp only [nwr,Bool.or_eq_false_iff,Bool.and_eq_false_iff,decide_eq_false_iff_not] at h1 h2
 have e:x.r=y.r:=by omega
 have b1:Op.bytesLess (bts y) (bts x)=false:=h1.2.resolve_left (fun h=>h e)
 have b2:Op.bytesLess (bts x) (bts y)=false:=h2.2.resolve_left (fun h=>h e.symm)
 have hb:=Bl.tri _ _ b1 b2
 unfold bts at hb
 rw [hx,hy] at hb
 exact (enc_inj (may_iff.1 (by rw [kp_may];exact hy)) (may_iff.1 (by rw [kp_may];exact hx)) hb).symm
def put (L:List Sn) (x:Sn):List Sn:=if mayB x then (match fnd x L with|none=>ins (kp x) L|some z=>if nwr (kp x) z then ins (kp x) L else L) else L
def setOf (l:List Sn):List Sn:=l.foldl put []
end PackP
namespace PackP
open KeyP SetP
theorem nwr_kpl (x y:Sn):nwr (kp x) y=nwr x y:=by unfold nwr;rw [bts_kp];rfl
theorem nwr_kpr (x y:Sn):nwr x (kp y)=nwr x y:=by unfold nwr;rw [bts_kp];rfl
theorem one_kpl (x y:Sn):one (kp x) y=one x y:=rfl
theorem one_kpr (x y:Sn):one x (kp y)=one x y:=rfl
theorem one_tr {a b c:Sn} (h1:one a b=true) (h2:one b c=true):one a c=true:=by rw [one_iff] at *;omega
theorem one_sm {a b:Sn} (h:one a b=true):one b a=true:=by rw [one_comm];exact h
structure IsSet (l L:List Sn):Prop where
 srs:Srs L
 of:∀z∈L,∃x∈l,mayB x=true∧kp x=z
 top:∀x∈l,mayB x=true→∃z∈L,one z x=true∧nwr x z=false
theorem IsSet.nil:IsSet [] []:=⟨.nil,fun _ h=>by simp at h,fun _ h=>by simp at h⟩
theorem IsSet.snoc {l L:List Sn} (h:IsSet l L) (x:Sn):IsSet (l++ [x]) (put L x):=by
 unfold put
 by_cases hm:mayB x=true
 ·rw [if_pos hm]
  have insd:(∀z∈L,one z x=true→nwr x z=true)→IsSet (l++ [x]) (ins (kp x) L):=by
   intro hz
   refine ⟨ins_srs h.srs,fun z hzm=>?_,fun x' hx' hm'=>?_⟩
   ·rcases (ins_mem h.srs).1 hzm with rfl| ⟨hz1,-⟩
    ·exact ⟨x,by simp,hm,rfl⟩
    ·obtain ⟨x0,h0,h1,h2⟩:=h.of z hz1
     exact ⟨x0,by simp [h0],h1,h2⟩
   ·rcases List.mem_append.1 hx' with hx'|hx'
    ·obtain ⟨z,hz1,hz2,hz3⟩:=h.top x' hx' hm'
     cases ho:one z x with
     |false=>exact ⟨z,(ins_mem h.srs).2 (.inr ⟨hz1,by rw [one_kpr];exact ho⟩),hz2,hz3⟩
     |true=>
      refine ⟨kp x,(ins_mem h.srs).2 (.inl rfl),by rw [one_kpl];exact one_tr (one_sm ho) hz2,?_⟩
      rw [nwr_kpr]
      cases hn:nwr x' x with
      |false=>rfl
      |true=>rw [nwr_tr hn (hz z hz1 ho)] at hz3;cases hz3
    ·obtain rfl:=List.mem_singleton.1 hx'
     exact ⟨kp x',(ins_mem h.srs).2 (.inl rfl),by rw [one_kpl];exact one_refl _,by rw [nwr_kpr];exact nwr_irr _⟩
  cases hf:fnd x L with
  |none=>exact insd (fun z hz ho=>by rw [fnd_none hf z hz] at ho;cases ho)
  |some z0=>
   obtain ⟨f1,f2⟩:=fnd_some hf
   show IsSet _ (if nwr (kp x) z0=true then ins (kp x) L else L)
   by_cases hn:nwr (kp x) z0=true
   ·rw [if_pos hn]
    refine insd (fun z hz ho=>?_)
    rw [srs_uni h.srs hz f1 (one_tr ho (one_sm f2)),←nwr_kpl];exact hn
   ·rw [if_neg hn]
    refine ⟨h.srs,fun z hz=>?_,fun x' hx' hm'=>?_⟩
    ·obtain ⟨x0,h0,h1,h2⟩:=h.of z hz
     exact ⟨x0,by simp [h0],h1,h2⟩
    ·rcases List.mem_append.1 hx' with hx'|hx'
     ·exact h.top x' hx' hm'
     ·obtain rfl:=List.mem_singleton.1 hx'
      exact ⟨z0,f1,f2,by rw [←nwr_kpl];simpa using hn⟩
 ·rw [if_neg hm]
  refine ⟨h.srs,fun z hz=>?_,fun x' hx' hm'=>?_⟩
  ·obtain ⟨x0,h0,h1,h2⟩:=h.of z hz
   exact ⟨x0,by simp [h0],h1,h2⟩
  ·rcases List.mem_append.1 hx' with hx'|hx'
   ·exact h.top x' hx' hm'
   ·obtain rfl:=List.mem_singleton.1 hx'
    exact absurd hm' hm
theorem setOf_snoc (l:List Sn) (x:Sn):setOf (l++ [x])=put (setOf l) x:=by unfold setOf;rw [List.foldl_append];rfl
theorem isSet_go:∀ (r l L:List Sn),IsSet l L→IsSet (l++r) (r.foldl put L)
 | [],l,L,h=>by simpa using h
 |x::r,l,L,h=>by
  have:=isSet_go r (l++ [x]) (put L x) (h.snoc x)
  rw [List.append_assoc] at this;exact this
theorem isSet (l:List Sn):IsSet l (setOf l):=isSet_go l [] [] IsSet.nil
theorem IsSet.mem {l L:List Sn} (h:IsSet l L) (y:Sn):y∈L↔(∃x∈l,mayB x=true∧kp x=y)∧∀x∈l,mayB x=true→one x y=true→nwr x y=false:=by
 constructor
 ·intro hy
  refine ⟨h.of y hy,fun x hx hm ho=>?_⟩
  obtain ⟨z,z1,z2,z3⟩:=h.top x hx hm
  rw [srs_uni h.srs hy z1 (one_sm (one_tr z2 ho))];exact z3
 ·rintro ⟨⟨x,hx,hm,rfl⟩,hall⟩
  obtain ⟨z,z1,z2,z3⟩:=h.top x hx hm
  obtain ⟨x',x1,x2,rfl⟩:=h.of z z1
  have h1:=hall x' x1 x2 z2
  rw [nwr_kpr] at z3 h1
  rw [nwr_tri hm x2 z3 h1];exact z1
def Kpt (l:List Sn) (y:Sn):Prop:=∃x∈l,mayB x=true∧kp x=y
theorem IsSet.mem' {l L:List Sn} (h:IsSet l L) (y:Sn):y∈L↔Kpt l y∧∀x,Kpt l x→one x y=true→nwr x y=false:=by
 rw [h.mem]
 refine and_congr Iff.rfl ⟨?_,?_⟩
 ·rintro H x ⟨x',h1,h2,rfl⟩ ho
  rw [nwr_kpl];exact H x' h1 h2 ho
 ·intro H x hx hm ho
  have:=H (kp x) ⟨x,hx,hm,rfl⟩ ho
  rwa [nwr_kpl] at this
theorem IsSet.uni {l L l' L':List Sn} (h:IsSet l L) (h':IsSet l' L') (he:∀y,Kpt l y↔Kpt l' y):L=L':=by
 refine srs_ext h.srs h'.srs (fun y=>?_)
 rw [h.mem',h'.mem',he]
 refine and_congr Iff.rfl (forall_congr' fun x=>?_)
 rw [he]
structure Ok (L:List Sn):Prop where
 srs:Srs L
 may:∀x∈L,mayB x=true
 kept:∀x∈L,kp x=x
theorem IsSet.okL {l L:List Sn} (h:IsSet l L):Ok L:=⟨h.srs,fun z hz=>by
  obtain ⟨x,-,h1,rfl⟩:=h.of z hz
  rw [kp_may];exact h1,fun z hz=>by
  obtain ⟨x,-,h1,rfl⟩:=h.of z hz
  exact kp_kp x⟩
theorem Ok.isSet {L:List Sn} (h:Ok L):IsSet L L:=⟨h.srs,fun z hz=>⟨z,hz,h.may z hz,h.kept z hz⟩,fun x hx _=>⟨x,hx,one_refl x,nwr_irr x⟩⟩
theorem Ok.set {L:List Sn} (h:Ok L):setOf L=L:=(PackP.isSet L).uni h.isSet (fun _=>Iff.rfl)
theorem setOf_ok (l:List Sn):Ok (setOf l):=(isSet l).okL
theorem put_len (L:List Sn) (hs:Srs L) (x:Sn):(put L x).length≤L.length+1:=by
 have:=ins_len (kp x) hs
 unfold put
 split
 ·split
  ·exact this
  ·split
   ·exact this
   ·omega
 ·omega
theorem setOf_len (l:List Sn):(setOf l).length≤l.length:=by
 have key:∀ (r l L:List Sn),IsSet l L→(r.foldl put L).length≤L.length+r.length:=by
  intro r
  induction r with
  |nil=>intro l L h;simp
  |cons x r ih=>
   intro l L h
   have:=ih (l++ [x]) (put L x) (h.snoc x)
   have h2:=put_len L h.srs x
   rw [List.foldl_cons,List.length_cons];omega
 have:=key l [] [] IsSet.nil
 rw [List.length_nil,Nat.zero_add] at this
 exact this
end PackP
namespace PackP
open KeyP SetP
theorem Ok.filter {L:List Sn} (h:Ok L) (p:Sn→Bool):Ok (L.filter p):=
 ⟨h.srs.filter _,fun x hx=>h.may x (List.mem_filter.1 hx).1,fun x hx=>h.kept x (List.mem_filter.1 hx).1⟩
end PackP
end Go.Proofs.YtdpngmgaomghoaaGreatDoor
