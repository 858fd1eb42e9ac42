/- What histograms hold: of which durations they are, plain. No program is named. -/
import Derived.Test.YtdpngmgaomghoaaGreatHistQ
namespace Go.Proofs.YtdpngmgaomghoaaGreat
namespace HistP
open BagP
structure Good (x:HS) (l:List Int):Prop where
 ok:Ok x.1
 may:May x.2
 cnt:∀y,cnt y x.1=((l.map bk).count y:Nat)
 sum:sumL x.1=l.length
 val:val x.2=(l.map cl).sum
theorem Good.nil:Good ([],(0,0)) []:=⟨Ok.nil,May.zero,fun y=>by simp [BagP.cnt,getL],by simp [sumL],rfl⟩
theorem cls_rng:∀l:List Int,0≤(l.map cl).sum∧(l.map cl).sum≤4611686018427387904*(l.length:Int)
 | []=>by simp
 |d::l=>by
  have h:=cls_rng l
  have:=cl_rng d
  simp only [List.map_cons,List.sum_cons,List.length_cons]
  omega
theorem cnt_same (y x v:Int) (L:List (Int × Int)):cnt y (setL x v L)=if y=x then v else cnt y L:=by
 rw [cnt_set]
 by_cases h:y=x
 ·subst h;rw [if_pos rfl,sameK_refl];rfl
 ·rw [if_neg h,sameK_ne h];rfl
theorem Good.add {x:HS} {l:List Int} (h:Good x l) (hl:l.length≤100000) (d:Int):Good (addH d x) (d::l):=by
 have hk:okA 1 x.1=true:=by
  unfold okA;rw [decide_eq_true_iff,h.sum];omega
 have he:addL (bk d) 1 x.1=setL (bk d) (BagP.cnt (bk d) x.1+1) x.1:=by unfold addL;rw [hk];rfl
 refine ⟨h.ok.add _ _,h.may.add d,fun y=>?_,?_,?_⟩
 ·show BagP.cnt y (addL (bk d) 1 x.1)=_
  rw [he,cnt_same,List.map_cons,List.count_cons]
  by_cases e:y=bk d
  ·subst e;rw [if_pos rfl,h.cnt];simp
  ·rw [if_neg e,h.cnt,if_neg (by simpa using fun e'=>e e'.symm)];simp
 ·show sumL (addL (bk d) 1 x.1)=_
  rw [he,sumL_set _ _ h.ok.srt,h.sum,List.length_cons];omega
 ·show HistP.val (addS x.2 d)=_
  rw [val_add h.may,h.val,List.map_cons,List.sum_cons]
  have:=cls_rng l
  have:=cl_rng d
  unfold top
  omega
theorem Good.ext {x y:HS} {l m:List Int} (h:Good x l) (k:Good y m) (hc:∀z,(l.map bk).count z=(m.map bk).count z) (hv:(l.map cl).sum=(m.map cl).sum):x=y:=by
 have h1:x.1=y.1:=bag_ext h.ok.srt k.ok.srt h.ok.pos k.ok.pos (fun z=>by rw [h.cnt,k.cnt,hc])
 have h2:x.2=y.2:=val_inj h.may k.may (by rw [h.val,k.val,hv])
 exact Prod.ext h1 h2
theorem perm_sum {l m:List Int} (h:l.Perm m):l.sum=m.sum:=by
 induction h with
 |nil=>rfl
 |cons x _ ih=>simp only [List.sum_cons,ih]
 |swap x y l=>simp only [List.sum_cons];omega
 |trans _ _ h1 h2=>exact h1.trans h2
theorem Good.perm {x:HS} {l m:List Int} (h:Good x l) (hp:l.Perm m):Good x m:=
 ⟨h.ok,h.may,fun y=>by rw [h.cnt,(hp.map bk).count_eq],by rw [h.sum,hp.length_eq],by rw [h.val,perm_sum (hp.map cl)]⟩
theorem Good.drop {x:HS} {l:List Int} {d:Int} (h:Good x (d::l)):okD d x=true∧Good (dropH d x) l:=by
 have hc:1≤BagP.cnt (bk d) x.1:=by rw [h.cnt];simp;omega
 have hk:okT (bk d) 1 x.1=true:=by unfold okT;rw [decide_eq_true_iff];omega
 have he:takeL (bk d) 1 x.1=setL (bk d) (BagP.cnt (bk d) x.1-1) x.1:=by unfold takeL;rw [hk];rfl
 have hv:=h.val
 rw [List.map_cons,List.sum_cons] at hv
 have hr:=cls_rng l
 have hcl:=cl_rng d
 have ha:=val_add May.zero d
 have h0:HistP.val (0,0)=0:=rfl
 rw [h0] at ha
 have hless:lessS x.2 (addS (0,0) d)=false:=by
  rw [less_val h.may (May.zero.add d),decide_eq_false_iff_not,ha,hv]
  unfold top;omega
 have hok:okD d x=true:=by unfold okD;rw [hless,hk];rfl
 refine ⟨hok,?_⟩
 unfold dropH
 rw [hok,if_pos rfl]
 refine ⟨h.ok.take _ _,h.may.sub d,fun y=>?_,?_,?_⟩
 ·show BagP.cnt y (takeL (bk d) 1 x.1)=_
  rw [he,cnt_same]
  have hy:=h.cnt y
  rw [List.map_cons,List.count_cons] at hy
  by_cases e:y=bk d
  ·subst e;rw [if_pos rfl,hy];simp
  ·rw [if_neg e,hy,if_neg (by simpa using fun e'=>e e'.symm)];simp
 ·show sumL (takeL (bk d) 1 x.1)=_
  rw [he,sumL_set _ _ h.ok.srt,h.sum,List.length_cons];omega
 ·show HistP.val (subS x.2 d)=_
  rw [val_sub h.may,hv];omega
end HistP
end Go.Proofs.YtdpngmgaomghoaaGreat
