/- Chapter 13: the program compares declarations. -/
import Derived.Test.YthdldeenpgeemaaGreatDoorPart8
import Derived.Test.YthdldeenpgeemaaGreatDoorPart7
import Derived.Test.YthdldeenpgeemaaGreatDoorPart6
import Derived.Test.YthdldeenpgeemaaGreatDoorPart4
import Derived.Test.YthdldeenpgeemaaGreatDoorPart3
import Derived.Test.YthdldeenpgeemaaGreatDoorPart5
set_option maxHeartbeats 4000000
set_option maxRecDepth 100000
namespace Go.Sx
open Go.Fr
def all2 {α β:Type} (p:α→β→Bool):List α→List β→Bool
 | [],[]=>true
 | x::xs,y::ys=>p x y&&all2 p xs ys
 | _,_=>false
theorem all2_iff {α β:Type} {p:α→β→Bool}: ∀{a:List α} {b:List β},all2 p a b=true↔a.length=b.length∧ ∀i (h1:i<a.length) (h2:i<b.length),p a[i] b[i]=true
 | [],[]=>by simp [all2]
 | [],y::b=>by simp [all2]
 | x::a,[]=>by simp [all2]
 | x::a,y::b=>by
   rw [all2,Bool.and_eq_true,all2_iff]
   constructor
   · rintro ⟨h,hl,hi⟩
     refine ⟨by simp [hl],fun i h1 h2=>?_⟩
     cases i with
     | zero=>exact h
     | succ i=>exact hi i (by simpa using h1) Ydi
   · rintro ⟨hl,hi⟩
     exact ⟨hi 0 Ybn Ybn,by simpa using hl,fun i h1 h2=>hi (i+1) (by simpa using h1) Ydi⟩
theorem all2_eq {α:Type} [DecidableEq α] {a b:List α}:all2 (fun x y=>decide (x=y)) a b=decide (a=b):=by
 rw [Bool.eq_iff_iff,all2_iff,decide_eq_true_iff]
 simp only [decide_eq_true_eq]
 exact ⟨fun ⟨h,hi⟩=>List.ext_getElem h hi,fun h=>by subst h;exact ⟨rfl,fun _ _ _=>rfl⟩⟩
end Go.Sx
namespace Go.Proofs.YthdldeenpgeemaaGreatDoor
open Go Go.RowKit Go.Kx Go.Fr Go.Lx Go.Sx
instance eqItemD3:EqD Tryz.prog 106 itemV:=⟨_,rfl,by kernel_rfl,by kernel_rfl,fun a b=>⟨_,(.str rfl rfl rfl rfl (.int rfl rfl rfl rfl (.int rfl rfl rfl rfl .nil))),by rw [Bool.eq_iff_iff];cases a;cases b;simp⟩⟩
instance eqKeyD3:EqD Tryz.prog 97 keyV:=⟨_,rfl,by kernel_rfl,by kernel_rfl,fun a b=>⟨_,(.int rfl rfl rfl rfl (.str rfl rfl rfl rfl (.int rfl rfl rfl rfl .nil))),by rw [Bool.eq_iff_iff];cases a;cases b;simp⟩⟩
instance eqCritD3:EqD Tryz.prog 70 critV:=⟨_,rfl,by kernel_rfl,by kernel_rfl,fun a b=>⟨_,(.str rfl rfl rfl rfl (.int rfl rfl rfl rfl (.int rfl rfl rfl rfl (.int rfl rfl rfl rfl (.int rfl rfl rfl rfl (.int rfl rfl rfl rfl (.bool rfl rfl rfl rfl .nil))))))),by rw [Bool.eq_iff_iff];cases a;cases b;simp⟩⟩
theorem Xfy (a b:List Int):FnC Tryz.prog 115 [isl eI a,isl eI b] [] (fun p loc=>p=exB (decide (a=b))∧loc=[]):=by
 refine Wl (i:=0) rfl Ws fun ha=>?_
 refine Wl (i:=1) rfl Ws fun hb=>?_
 obtain ⟨ha,-⟩:=ha
 obtain ⟨hb,-⟩:=hb
 simp only [maxLen] at ha hb
 refine X4 Tryz.func115 rfl Tryz.ntmps115 rfl fun w0 F0 out=>?_
 by_cases hl:a.length=b.length
 · (repeat' (first|refine Xf ?_|refine Xb ?_|refine Xd ?_|(apply Xk;exact Yai;exact rfl)|refine Xp ?_|refine Xs ?_|(refine Xo rfl (fun hb=>?_) (fun hb=>?_)<;>(repeat (first|replace hb:=X0 hb|replace hb:=X1 hb|replace hb:=Vf hb|replace hb:=Vg hb))<;>(try (exfalso;omega)))))
   all_goals (try (exfalso;omega))
   refine W1 (fun k:Nat=>([(0,isl eI a),(1,isl eI b),(12,exI .i64 a.length),(13,exI .i64 k)],[])) (fun k=>k≤a.length∧a.take k=b.take k) (fun k=>a.length-k) 0 ?_ ⟨Nat.zero_le _,rfl⟩ fun k hk=>?_
   · exact Xg (by repeat (first|exact Xm|refine Xh rfl ?_)) (List.Sublist.refl _)
   obtain ⟨hk,ht⟩:=hk
   by_cases hlt:k<a.length
   · by_cases he:a[k]=b[k]'Yan
     · (repeat' (first|refine Xf ?_|refine Xb ?_|refine Xd ?_|(apply Xk;exact Yba;exact rfl)|refine Xp ?_|refine Xs ?_|(refine Xo rfl (fun hb=>?_) (fun hb=>?_)<;>(repeat (first|replace hb:=X0 hb|replace hb:=X1 hb))<;>(try (exfalso;omega)))))
       (refine W9 9 rfl ?_)
       all_goals ((apply Xc 0 rfl Yaa rfl Yab Xa;(exact Xe rfl);exact rfl))
       all_goals ((apply Xc 1 rfl Yaa rfl Yab Xa;(exact Xe rfl);exact rfl))
       all_goals ((apply Xc 2 rfl Yaa rfl Yab Xa;(exact Yae);exact rfl))
       all_goals ((apply Xu 3 rfl Yaa rfl Yaa Yab Xa;(exact Yag);exact rfl))
       all_goals ((apply Xc 4 rfl Yaa rfl Yab Xa;(exact Xe rfl);exact rfl))
       all_goals ((apply Xc 5 rfl Yaa rfl Yab Xa;(exact Xe rfl);exact rfl))
       all_goals ((apply Xc 6 rfl Yaa rfl Yab Xa;(exact Yae);exact rfl))
       all_goals ((apply Xu 7 rfl Yaa rfl Yaa Yab Xa;(exact Yag);exact rfl))
       all_goals ((apply Xc 8 rfl Yaa rfl Yab Xa;(exact Ybi);exact rfl))
       all_goals (refine X3 Yaa ?_)
       all_goals ((repeat' (first|refine Xb ?_|refine Xd ?_|(apply Xk;exact Ya5;exact rfl)|refine Xs ?_|(refine Xo rfl (fun hb=>?_) (fun hb=>?_)<;>(repeat (first|replace hb:=X0 hb|replace hb:=X1 hb|replace hb:=Vf hb|replace hb:=Vg hb))<;>(try (exfalso;omega))))))
       all_goals (try (exfalso;simp_all;done))
       exact ⟨k+1,⟨by omega,by rw [List.take_succ_eq_append_getElem hlt,List.take_succ_eq_append_getElem Yan,ht,he]⟩,by omega,Xg (by repeat (first|exact Xm|refine Xh rfl ?_)) (List.Sublist.refl _)⟩
     · (repeat' (first|refine Xf ?_|refine Xb ?_|refine Xd ?_|(apply Xk;exact Yba;exact rfl)|refine Xp ?_|refine Xs ?_|(refine Xo rfl (fun hb=>?_) (fun hb=>?_)<;>(repeat (first|replace hb:=X0 hb|replace hb:=X1 hb))<;>(try (exfalso;omega)))))
       (refine W9 9 rfl ?_)
       all_goals ((apply Xc 0 rfl Yaa rfl Yab Xa;(exact Xe rfl);exact rfl))
       all_goals ((apply Xc 1 rfl Yaa rfl Yab Xa;(exact Xe rfl);exact rfl))
       all_goals ((apply Xc 2 rfl Yaa rfl Yab Xa;(exact Yae);exact rfl))
       all_goals ((apply Xu 3 rfl Yaa rfl Yaa Yab Xa;(exact Yag);exact rfl))
       all_goals ((apply Xc 4 rfl Yaa rfl Yab Xa;(exact Xe rfl);exact rfl))
       all_goals ((apply Xc 5 rfl Yaa rfl Yab Xa;(exact Xe rfl);exact rfl))
       all_goals ((apply Xc 6 rfl Yaa rfl Yab Xa;(exact Yae);exact rfl))
       all_goals ((apply Xu 7 rfl Yaa rfl Yaa Yab Xa;(exact Yag);exact rfl))
       all_goals ((apply Xc 8 rfl Yaa rfl Yab Xa;(exact Ybi);exact rfl))
       all_goals (refine X3 Yaa ?_)
       all_goals ((repeat' (first|refine Xf ?_|refine Xb ?_|refine Xd ?_|(apply Xk;(exact Xj rfl);exact rfl)|refine Xz ?_|(refine Xo rfl (fun hb=>?_) (fun hb=>?_)<;>(repeat (first|replace hb:=X0 hb|replace hb:=X1 hb|replace hb:=Vf hb|replace hb:=Vg hb))<;>(try (exfalso;omega))))))
       all_goals (try (exfalso;simp_all;done))
       refine ⟨.inr rfl,Vk rfl (.tmp rfl) (List.nil_sublist _) ⟨congrArg exB ?_,rfl⟩⟩
       exact (decide_eq_false fun e=>he Ydn).symm
   · have hk9:k=a.length:=by omega
     subst hk9
     rw [List.take_length,hl,List.take_length] at ht
     (repeat' (first|refine Xf ?_|refine Xb ?_|refine Xd ?_|(apply Xk;exact Ybv;exact rfl)|refine Xz ?_|refine Wy ?_|(refine Xo rfl (fun hb=>?_) (fun hb=>?_)<;>(repeat (first|replace hb:=X0 hb|replace hb:=X1 hb))<;>(try (exfalso;omega)))))
     refine ⟨.inr rfl,Vk rfl (.tmp rfl) (List.nil_sublist _) ⟨congrArg exB ?_,rfl⟩⟩
     exact (decide_eq_true ht).symm
 · (repeat' (first|refine Xf ?_|refine Xb ?_|refine Xd ?_|(apply Xk;exact Yai;exact rfl)|refine Xz ?_|(refine Xo rfl (fun hb=>?_) (fun hb=>?_)<;>(repeat (first|replace hb:=X0 hb|replace hb:=X1 hb|replace hb:=Vf hb|replace hb:=Vg hb))<;>(try (exfalso;omega)))))
   all_goals (try (exfalso;omega))
   refine ⟨.inr rfl,Vk rfl (.tmp rfl) (List.nil_sublist _) ⟨congrArg exB ?_,rfl⟩⟩
   exact (decide_eq_false fun e=>hl (by rw [e])).symm
theorem Xfz (a b:List KeyD):FnC Tryz.prog 108 [isl eKey a,isl eKey b] [] (fun p loc=>p=exB (decide (a=b))∧loc=[]):=by
 refine Wl (i:=0) rfl Ws fun ha=>?_
 refine Wl (i:=1) rfl Ws fun hb=>?_
 obtain ⟨ha,-⟩:=ha
 obtain ⟨hb,-⟩:=hb
 simp only [maxLen] at ha hb
 refine X4 Tryz.func108 rfl Tryz.ntmps108 rfl fun w0 F0 out=>?_
 by_cases hl:a.length=b.length
 · (repeat' (first|refine Xf ?_|refine Xb ?_|refine Xd ?_|(apply Xk;exact Yai;exact rfl)|refine Xp ?_|refine Xs ?_|(refine Xo rfl (fun hb=>?_) (fun hb=>?_)<;>(repeat (first|replace hb:=X0 hb|replace hb:=X1 hb|replace hb:=Vf hb|replace hb:=Vg hb))<;>(try (exfalso;omega)))))
   all_goals (try (exfalso;omega))
   refine W1 (fun k:Nat=>([(0,isl eKey a),(1,isl eKey b),(12,exI .i64 a.length),(13,exI .i64 k)],[])) (fun k=>k≤a.length∧a.take k=b.take k) (fun k=>a.length-k) 0 ?_ ⟨Nat.zero_le _,rfl⟩ fun k hk=>?_
   · exact Xg (by repeat (first|exact Xm|refine Xh rfl ?_)) (List.Sublist.refl _)
   obtain ⟨hk,ht⟩:=hk
   by_cases hlt:k<a.length
   · by_cases he:a[k]=b[k]'Yan
     · (repeat' (first|refine Xf ?_|refine Xb ?_|refine Xd ?_|(apply Xk;exact Yba;exact rfl)|refine Xp ?_|refine Xs ?_|(refine Xo rfl (fun hb=>?_) (fun hb=>?_)<;>(repeat (first|replace hb:=X0 hb|replace hb:=X1 hb))<;>(try (exfalso;omega)))))
       (refine W9 9 rfl ?_)
       all_goals ((apply Xc 0 rfl Yaa rfl Yab Xa;(exact Xe rfl);exact rfl))
       all_goals ((apply Xc 1 rfl Yaa rfl Yab Xa;(exact Xe rfl);exact rfl))
       all_goals ((apply Xc 2 rfl Yaa rfl Yab Xa;(exact Yae);exact rfl))
       all_goals ((apply Xu 3 rfl Yaa rfl Yaa Yab Xa;(exact Yau);exact rfl))
       all_goals ((apply Xc 4 rfl Yaa rfl Yab Xa;(exact Xe rfl);exact rfl))
       all_goals ((apply Xc 5 rfl Yaa rfl Yab Xa;(exact Xe rfl);exact rfl))
       all_goals ((apply Xc 6 rfl Yaa rfl Yab Xa;(exact Yae);exact rfl))
       all_goals ((apply Xu 7 rfl Yaa rfl Yaa Yab Xa;(exact Yau);exact rfl))
       all_goals ((apply Xc 8 rfl Yaa rfl Yab Xa;(exact Ybp);exact rfl))
       all_goals (refine X3 Yaa ?_)
       all_goals ((repeat' (first|refine Xf ?_|refine Xb ?_|refine Xd ?_|(apply Xk;exact Yay;exact rfl)|refine Xs ?_|refine Xz ?_|(refine Xo rfl (fun hb=>?_) (fun hb=>?_)<;>(repeat (first|replace hb:=X0 hb|replace hb:=X1 hb|replace hb:=Vf hb|replace hb:=Vg hb))<;>(try (exfalso;fail))))))
       all_goals (try (exfalso;simp_all;done))
       exact ⟨k+1,⟨by omega,by rw [List.take_succ_eq_append_getElem hlt,List.take_succ_eq_append_getElem Yan,ht,he]⟩,by omega,Xg (by repeat (first|exact Xm|refine Xh rfl ?_)) (List.Sublist.refl _)⟩
     · (repeat' (first|refine Xf ?_|refine Xb ?_|refine Xd ?_|(apply Xk;exact Yba;exact rfl)|refine Xp ?_|refine Xs ?_|(refine Xo rfl (fun hb=>?_) (fun hb=>?_)<;>(repeat (first|replace hb:=X0 hb|replace hb:=X1 hb))<;>(try (exfalso;omega)))))
       (refine W9 9 rfl ?_)
       all_goals ((apply Xc 0 rfl Yaa rfl Yab Xa;(exact Xe rfl);exact rfl))
       all_goals ((apply Xc 1 rfl Yaa rfl Yab Xa;(exact Xe rfl);exact rfl))
       all_goals ((apply Xc 2 rfl Yaa rfl Yab Xa;(exact Yae);exact rfl))
       all_goals ((apply Xu 3 rfl Yaa rfl Yaa Yab Xa;(exact Yau);exact rfl))
       all_goals ((apply Xc 4 rfl Yaa rfl Yab Xa;(exact Xe rfl);exact rfl))
       all_goals ((apply Xc 5 rfl Yaa rfl Yab Xa;(exact Xe rfl);exact rfl))
       all_goals ((apply Xc 6 rfl Yaa rfl Yab Xa;(exact Yae);exact rfl))
       all_goals ((apply Xu 7 rfl Yaa rfl Yaa Yab Xa;(exact Yau);exact rfl))
       all_goals ((apply Xc 8 rfl Yaa rfl Yab Xa;(exact Ybp);exact rfl))
       all_goals (refine X3 Yaa ?_)
       all_goals ((repeat' (first|refine Xf ?_|refine Xb ?_|refine Xd ?_|(apply Xk;exact Yay;exact rfl)|refine Xs ?_|refine Xz ?_|(refine Xo rfl (fun hb=>?_) (fun hb=>?_)<;>(repeat (first|replace hb:=X0 hb|replace hb:=X1 hb|replace hb:=Vf hb|replace hb:=Vg hb))<;>(try (exfalso;fail))))))
       all_goals (try (exfalso;simp_all;done))
       refine ⟨.inr rfl,Vk rfl (.tmp rfl) (List.nil_sublist _) ⟨congrArg exB ?_,rfl⟩⟩
       exact (decide_eq_false fun e=>he Ydn).symm
   · have hk9:k=a.length:=by omega
     subst hk9
     rw [List.take_length,hl,List.take_length] at ht
     (repeat' (first|refine Xf ?_|refine Xb ?_|refine Xd ?_|(apply Xk;exact Ybv;exact rfl)|refine Xz ?_|refine Wy ?_|(refine Xo rfl (fun hb=>?_) (fun hb=>?_)<;>(repeat (first|replace hb:=X0 hb|replace hb:=X1 hb))<;>(try (exfalso;omega)))))
     refine ⟨.inr rfl,Vk rfl (.tmp rfl) (List.nil_sublist _) ⟨congrArg exB ?_,rfl⟩⟩
     exact (decide_eq_true ht).symm
 · (repeat' (first|refine Xf ?_|refine Xb ?_|refine Xd ?_|(apply Xk;exact Yai;exact rfl)|refine Xz ?_|(refine Xo rfl (fun hb=>?_) (fun hb=>?_)<;>(repeat (first|replace hb:=X0 hb|replace hb:=X1 hb|replace hb:=Vf hb|replace hb:=Vg hb))<;>(try (exfalso;omega)))))
   all_goals (try (exfalso;omega))
   refine ⟨.inr rfl,Vk rfl (.tmp rfl) (List.nil_sublist _) ⟨congrArg exB ?_,rfl⟩⟩
   exact (decide_eq_false fun e=>hl (by rw [e])).symm
theorem Xes (a b:List Crit):FnC Tryz.prog 111 [isl eCrit a,isl eCrit b] [] (fun p loc=>p=exB (decide (a=b))∧loc=[]):=by
 refine Wl (i:=0) rfl Ws fun ha=>?_
 refine Wl (i:=1) rfl Ws fun hb=>?_
 obtain ⟨ha,-⟩:=ha
 obtain ⟨hb,-⟩:=hb
 simp only [maxLen] at ha hb
 refine X4 Tryz.func111 rfl Tryz.ntmps111 rfl fun w0 F0 out=>?_
 by_cases hl:a.length=b.length
 · (repeat' (first|refine Xf ?_|refine Xb ?_|refine Xd ?_|(apply Xk;exact Yai;exact rfl)|refine Xp ?_|refine Xs ?_|(refine Xo rfl (fun hb=>?_) (fun hb=>?_)<;>(repeat (first|replace hb:=X0 hb|replace hb:=X1 hb|replace hb:=Vf hb|replace hb:=Vg hb))<;>(try (exfalso;omega)))))
   all_goals (try (exfalso;omega))
   refine W1 (fun k:Nat=>([(0,isl eCrit a),(1,isl eCrit b),(12,exI .i64 a.length),(13,exI .i64 k)],[])) (fun k=>k≤a.length∧a.take k=b.take k) (fun k=>a.length-k) 0 ?_ ⟨Nat.zero_le _,rfl⟩ fun k hk=>?_
   · exact Xg (by repeat (first|exact Xm|refine Xh rfl ?_)) (List.Sublist.refl _)
   obtain ⟨hk,ht⟩:=hk
   by_cases hlt:k<a.length
   · by_cases he:a[k]=b[k]'Yan
     · (repeat' (first|refine Xf ?_|refine Xb ?_|refine Xd ?_|(apply Xk;exact Yba;exact rfl)|refine Xp ?_|refine Xs ?_|(refine Xo rfl (fun hb=>?_) (fun hb=>?_)<;>(repeat (first|replace hb:=X0 hb|replace hb:=X1 hb))<;>(try (exfalso;omega)))))
       (refine W9 9 rfl ?_)
       all_goals ((apply Xc 0 rfl Yaa rfl Yab Xa;(exact Xe rfl);exact rfl))
       all_goals ((apply Xc 1 rfl Yaa rfl Yab Xa;(exact Xe rfl);exact rfl))
       all_goals ((apply Xc 2 rfl Yaa rfl Yab Xa;(exact Yae);exact rfl))
       all_goals ((apply Xu 3 rfl Yaa rfl Yaa Yab Xa;(exact Yau);exact rfl))
       all_goals ((apply Xc 4 rfl Yaa rfl Yab Xa;(exact Xe rfl);exact rfl))
       all_goals ((apply Xc 5 rfl Yaa rfl Yab Xa;(exact Xe rfl);exact rfl))
       all_goals ((apply Xc 6 rfl Yaa rfl Yab Xa;(exact Yae);exact rfl))
       all_goals ((apply Xu 7 rfl Yaa rfl Yaa Yab Xa;(exact Yau);exact rfl))
       all_goals ((apply Xc 8 rfl Yaa rfl Yab Xa;(exact Ybp);exact rfl))
       all_goals (refine X3 Yaa ?_)
       all_goals ((repeat' (first|refine Xf ?_|refine Xb ?_|refine Xd ?_|(apply Xk;exact Yay;exact rfl)|refine Xs ?_|refine Xz ?_|(refine Xo rfl (fun hb=>?_) (fun hb=>?_)<;>(repeat (first|replace hb:=X0 hb|replace hb:=X1 hb|replace hb:=Vf hb|replace hb:=Vg hb))<;>(try (exfalso;fail))))))
       all_goals (try (exfalso;simp_all;done))
       exact ⟨k+1,⟨by omega,by rw [List.take_succ_eq_append_getElem hlt,List.take_succ_eq_append_getElem Yan,ht,he]⟩,by omega,Xg (by repeat (first|exact Xm|refine Xh rfl ?_)) (List.Sublist.refl _)⟩
     · (repeat' (first|refine Xf ?_|refine Xb ?_|refine Xd ?_|(apply Xk;exact Yba;exact rfl)|refine Xp ?_|refine Xs ?_|(refine Xo rfl (fun hb=>?_) (fun hb=>?_)<;>(repeat (first|replace hb:=X0 hb|replace hb:=X1 hb))<;>(try (exfalso;omega)))))
       (refine W9 9 rfl ?_)
       all_goals ((apply Xc 0 rfl Yaa rfl Yab Xa;(exact Xe rfl);exact rfl))
       all_goals ((apply Xc 1 rfl Yaa rfl Yab Xa;(exact Xe rfl);exact rfl))
       all_goals ((apply Xc 2 rfl Yaa rfl Yab Xa;(exact Yae);exact rfl))
       all_goals ((apply Xu 3 rfl Yaa rfl Yaa Yab Xa;(exact Yau);exact rfl))
       all_goals ((apply Xc 4 rfl Yaa rfl Yab Xa;(exact Xe rfl);exact rfl))
       all_goals ((apply Xc 5 rfl Yaa rfl Yab Xa;(exact Xe rfl);exact rfl))
       all_goals ((apply Xc 6 rfl Yaa rfl Yab Xa;(exact Yae);exact rfl))
       all_goals ((apply Xu 7 rfl Yaa rfl Yaa Yab Xa;(exact Yau);exact rfl))
       all_goals ((apply Xc 8 rfl Yaa rfl Yab Xa;(exact Ybp);exact rfl))
       all_goals (refine X3 Yaa ?_)
       all_goals ((repeat' (first|refine Xf ?_|refine Xb ?_|refine Xd ?_|(apply Xk;exact Yay;exact rfl)|refine Xs ?_|refine Xz ?_|(refine Xo rfl (fun hb=>?_) (fun hb=>?_)<;>(repeat (first|replace hb:=X0 hb|replace hb:=X1 hb|replace hb:=Vf hb|replace hb:=Vg hb))<;>(try (exfalso;fail))))))
       all_goals (try (exfalso;simp_all;done))
       refine ⟨.inr rfl,Vk rfl (.tmp rfl) (List.nil_sublist _) ⟨congrArg exB ?_,rfl⟩⟩
       exact (decide_eq_false fun e=>he Ydn).symm
   · have hk9:k=a.length:=by omega
     subst hk9
     rw [List.take_length,hl,List.take_length] at ht
     (repeat' (first|refine Xf ?_|refine Xb ?_|refine Xd ?_|(apply Xk;exact Ybv;exact rfl)|refine Xz ?_|refine Wy ?_|(refine Xo rfl (fun hb=>?_) (fun hb=>?_)<;>(repeat (first|replace hb:=X0 hb|replace hb:=X1 hb))<;>(try (exfalso;omega)))))
     refine ⟨.inr rfl,Vk rfl (.tmp rfl) (List.nil_sublist _) ⟨congrArg exB ?_,rfl⟩⟩
     exact (decide_eq_true ht).symm
 · (repeat' (first|refine Xf ?_|refine Xb ?_|refine Xd ?_|(apply Xk;exact Yai;exact rfl)|refine Xz ?_|(refine Xo rfl (fun hb=>?_) (fun hb=>?_)<;>(repeat (first|replace hb:=X0 hb|replace hb:=X1 hb|replace hb:=Vf hb|replace hb:=Vg hb))<;>(try (exfalso;omega)))))
   all_goals (try (exfalso;omega))
   refine ⟨.inr rfl,Vk rfl (.tmp rfl) (List.nil_sublist _) ⟨congrArg exB ?_,rfl⟩⟩
   exact (decide_eq_false fun e=>hl (by rw [e])).symm
theorem Xet (a b:List ItemD):FnC Tryz.prog 112 [isl eItem a,isl eItem b] [] (fun p loc=>p=exB (decide (a=b))∧loc=[]):=by
 refine Wl (i:=0) rfl Ws fun ha=>?_
 refine Wl (i:=1) rfl Ws fun hb=>?_
 obtain ⟨ha,-⟩:=ha
 obtain ⟨hb,-⟩:=hb
 simp only [maxLen] at ha hb
 refine X4 Tryz.func112 rfl Tryz.ntmps112 rfl fun w0 F0 out=>?_
 by_cases hl:a.length=b.length
 · (repeat' (first|refine Xf ?_|refine Xb ?_|refine Xd ?_|(apply Xk;exact Yai;exact rfl)|refine Xp ?_|refine Xs ?_|(refine Xo rfl (fun hb=>?_) (fun hb=>?_)<;>(repeat (first|replace hb:=X0 hb|replace hb:=X1 hb|replace hb:=Vf hb|replace hb:=Vg hb))<;>(try (exfalso;omega)))))
   all_goals (try (exfalso;omega))
   refine W1 (fun k:Nat=>([(0,isl eItem a),(1,isl eItem b),(12,exI .i64 a.length),(13,exI .i64 k)],[])) (fun k=>k≤a.length∧a.take k=b.take k) (fun k=>a.length-k) 0 ?_ ⟨Nat.zero_le _,rfl⟩ fun k hk=>?_
   · exact Xg (by repeat (first|exact Xm|refine Xh rfl ?_)) (List.Sublist.refl _)
   obtain ⟨hk,ht⟩:=hk
   by_cases hlt:k<a.length
   · by_cases he:a[k]=b[k]'Yan
     · (repeat' (first|refine Xf ?_|refine Xb ?_|refine Xd ?_|(apply Xk;exact Yba;exact rfl)|refine Xp ?_|refine Xs ?_|(refine Xo rfl (fun hb=>?_) (fun hb=>?_)<;>(repeat (first|replace hb:=X0 hb|replace hb:=X1 hb))<;>(try (exfalso;omega)))))
       (refine W9 9 rfl ?_)
       all_goals ((apply Xc 0 rfl Yaa rfl Yab Xa;(exact Xe rfl);exact rfl))
       all_goals ((apply Xc 1 rfl Yaa rfl Yab Xa;(exact Xe rfl);exact rfl))
       all_goals ((apply Xc 2 rfl Yaa rfl Yab Xa;(exact Yae);exact rfl))
       all_goals ((apply Xu 3 rfl Yaa rfl Yaa Yab Xa;(exact Yau);exact rfl))
       all_goals ((apply Xc 4 rfl Yaa rfl Yab Xa;(exact Xe rfl);exact rfl))
       all_goals ((apply Xc 5 rfl Yaa rfl Yab Xa;(exact Xe rfl);exact rfl))
       all_goals ((apply Xc 6 rfl Yaa rfl Yab Xa;(exact Yae);exact rfl))
       all_goals ((apply Xu 7 rfl Yaa rfl Yaa Yab Xa;(exact Yau);exact rfl))
       all_goals ((apply Xc 8 rfl Yaa rfl Yab Xa;(exact Ybp);exact rfl))
       all_goals (refine X3 Yaa ?_)
       all_goals ((repeat' (first|refine Xf ?_|refine Xb ?_|refine Xd ?_|(apply Xk;exact Yay;exact rfl)|refine Xs ?_|refine Xz ?_|(refine Xo rfl (fun hb=>?_) (fun hb=>?_)<;>(repeat (first|replace hb:=X0 hb|replace hb:=X1 hb|replace hb:=Vf hb|replace hb:=Vg hb))<;>(try (exfalso;fail))))))
       all_goals (try (exfalso;simp_all;done))
       exact ⟨k+1,⟨by omega,by rw [List.take_succ_eq_append_getElem hlt,List.take_succ_eq_append_getElem Yan,ht,he]⟩,by omega,Xg (by repeat (first|exact Xm|refine Xh rfl ?_)) (List.Sublist.refl _)⟩
     · (repeat' (first|refine Xf ?_|refine Xb ?_|refine Xd ?_|(apply Xk;exact Yba;exact rfl)|refine Xp ?_|refine Xs ?_|(refine Xo rfl (fun hb=>?_) (fun hb=>?_)<;>(repeat (first|replace hb:=X0 hb|replace hb:=X1 hb))<;>(try (exfalso;omega)))))
       (refine W9 9 rfl ?_)
       all_goals ((apply Xc 0 rfl Yaa rfl Yab Xa;(exact Xe rfl);exact rfl))
       all_goals ((apply Xc 1 rfl Yaa rfl Yab Xa;(exact Xe rfl);exact rfl))
       all_goals ((apply Xc 2 rfl Yaa rfl Yab Xa;(exact Yae);exact rfl))
       all_goals ((apply Xu 3 rfl Yaa rfl Yaa Yab Xa;(exact Yau);exact rfl))
       all_goals ((apply Xc 4 rfl Yaa rfl Yab Xa;(exact Xe rfl);exact rfl))
       all_goals ((apply Xc 5 rfl Yaa rfl Yab Xa;(exact Xe rfl);exact rfl))
       all_goals ((apply Xc 6 rfl Yaa rfl Yab Xa;(exact Yae);exact rfl))
       all_goals ((apply Xu 7 rfl Yaa rfl Yaa Yab Xa;(exact Yau);exact rfl))
       all_goals ((apply Xc 8 rfl Yaa rfl Yab Xa;(exact Ybp);exact rfl))
       all_goals (refine X3 Yaa ?_)
       all_goals ((repeat' (first|refine Xf ?_|refine Xb ?_|refine Xd ?_|(apply Xk;exact Yay;exact rfl)|refine Xs ?_|refine Xz ?_|(refine Xo rfl (fun hb=>?_) (fun hb=>?_)<;>(repeat (first|replace hb:=X0 hb|replace hb:=X1 hb|replace hb:=Vf hb|replace hb:=Vg hb))<;>(try (exfalso;fail))))))
       all_goals (try (exfalso;simp_all;done))
       refine ⟨.inr rfl,Vk rfl (.tmp rfl) (List.nil_sublist _) ⟨congrArg exB ?_,rfl⟩⟩
       exact (decide_eq_false fun e=>he Ydn).symm
   · have hk9:k=a.length:=by omega
     subst hk9
     rw [List.take_length,hl,List.take_length] at ht
     (repeat' (first|refine Xf ?_|refine Xb ?_|refine Xd ?_|(apply Xk;exact Ybv;exact rfl)|refine Xz ?_|refine Wy ?_|(refine Xo rfl (fun hb=>?_) (fun hb=>?_)<;>(repeat (first|replace hb:=X0 hb|replace hb:=X1 hb))<;>(try (exfalso;omega)))))
     refine ⟨.inr rfl,Vk rfl (.tmp rfl) (List.nil_sublist _) ⟨congrArg exB ?_,rfl⟩⟩
     exact (decide_eq_true ht).symm
 · (repeat' (first|refine Xf ?_|refine Xb ?_|refine Xd ?_|(apply Xk;exact Yai;exact rfl)|refine Xz ?_|(refine Xo rfl (fun hb=>?_) (fun hb=>?_)<;>(repeat (first|replace hb:=X0 hb|replace hb:=X1 hb|replace hb:=Vf hb|replace hb:=Vg hb))<;>(try (exfalso;omega)))))
   all_goals (try (exfalso;omega))
   refine ⟨.inr rfl,Vk rfl (.tmp rfl) (List.nil_sublist _) ⟨congrArg exB ?_,rfl⟩⟩
   exact (decide_eq_false fun e=>hl (by rw [e])).symm
theorem Xeu (k j:Nat) (a b:List Ex) (hp: ∀x y:Ex,FnC Tryz.prog 110 [agg (exV k x),agg (exV j y)] [] (fun p loc=>p=exB (decide (x=y))∧loc=[])):FnC Tryz.prog 168 [isl (eEx k) a,isl (eEx j) b,ex (.func (.func 110) #[] #[])] [] (fun p loc=>p=exB (all2 (fun x y=>decide (x=y)) a b)∧loc=[]):=by
 refine Wl (i:=0) rfl Ws fun ha=>?_
 refine Wl (i:=1) rfl Ws fun hb=>?_
 obtain ⟨ha,-⟩:=ha
 obtain ⟨hb,-⟩:=hb
 simp only [maxLen] at ha hb
 refine X4 Tryz.func168 rfl Tryz.ntmps168 rfl fun w0 F0 out=>?_
 by_cases hl:a.length=b.length
 · (repeat' (first|refine Xf ?_|refine Xb ?_|refine Xd ?_|(apply Xk;exact Yai;exact rfl)|refine Xp ?_|refine Xs ?_|(refine Xo rfl (fun hb=>?_) (fun hb=>?_)<;>(repeat (first|replace hb:=X0 hb|replace hb:=X1 hb|replace hb:=Vf hb|replace hb:=Vg hb))<;>(try (exfalso;omega)))))
   all_goals (try (exfalso;omega))
   refine W1 (fun q:Nat=>([(1,isl (eEx j) b),(2,ex (.func (.func 110) #[] #[])),(15,isl (eEx k) a),(16,exI .i64 a.length),(17,exI .i64 q)],[])) (fun q=>q≤a.length∧ ∀i (h1:i<a.length) (h2:i<b.length),i<q→(fun x y:Ex=>decide (x=y)) a[i] b[i]=true) (fun q=>a.length-q) 0 ?_ ⟨Nat.zero_le _,fun i _ _ h=>absurd h Yan⟩ fun m hm=>?_
   · exact Xg (by repeat (first|exact Xm|refine Xh rfl ?_)) (List.Sublist.refl _)
   obtain ⟨hm,hpre⟩:=hm
   by_cases hlt:m<a.length
   · have hlt2:m<b.length:=by omega
     have hcall:=hp a[m] b[m]
     cases he:(fun x y:Ex=>decide (x=y)) a[m] b[m]
     · try simp only at he
       rw [he] at hcall
       (repeat' (first|refine Xf ?_|refine Xb ?_|refine Xd ?_|(apply Xk;exact Ybb;exact rfl)|refine Xp ?_|refine Xs ?_|refine Xz ?_|refine Xx rfl ?_|(apply Xi;exact rfl;first|(apply Xn;(refine V9 (vs:=[]) (args:=[_,_]) rfl Tryz.func110 rfl hcall rfl ?_;rintro _ _ ⟨rfl,rfl⟩))|(apply Wh;refine X7 ?_;intro _)|(apply Xt;refine Xq (k:=0) (l0:=[]) rfl rfl rfl ?_))|(refine Xo rfl (fun hb=>?_) (fun hb=>?_)<;>(repeat (first|replace hb:=X0 hb|replace hb:=X1 hb))<;>(try (exfalso;omega)))))
       all_goals (try (exfalso;first|contradiction|omega))
       refine ⟨.inr rfl,Vk rfl (.tmp rfl) (List.nil_sublist _) ⟨congrArg exB ?_,rfl⟩⟩
       symm
       rw [Bool.eq_false_iff]
       intro h
       have h3:=(all2_iff.1 h).2 m hlt hlt2
       try simp only at h3
       rw [he] at h3
       cases h3
     · have he2:=he
       try simp only at he
       rw [he] at hcall
       (repeat' (first|refine Xf ?_|refine Xb ?_|refine Xd ?_|(apply Xk;exact Ya2;exact rfl)|refine Xp ?_|refine Xs ?_|refine X2 rfl ?_|(apply Xi;exact rfl;first|(apply Xn;(refine V9 (vs:=[]) (args:=[_,_]) rfl Tryz.func110 rfl hcall rfl ?_;rintro _ _ ⟨rfl,rfl⟩))|(apply Wh;refine X7 ?_;intro _)|(apply Xt;refine Xq (k:=0) (l0:=[]) rfl rfl rfl ?_))|(refine Xo rfl (fun hb=>?_) (fun hb=>?_)<;>(repeat (first|replace hb:=X0 hb|replace hb:=X1 hb))<;>(try (exfalso;omega)))))
       all_goals (try (exfalso;first|contradiction|omega))
       refine ⟨m+1,⟨by omega,fun i h1 h2 h3=>?_⟩,by omega,Xg (by repeat (first|exact Xm|refine Xh rfl ?_)) (List.nil_sublist _)⟩
       rcases Nat.lt_or_ge i m with h|h
       · exact hpre i h1 h2 h
       · have:i=m:=by omega
         subst this
         exact he2
   · (repeat' (first|refine Xf ?_|refine Xb ?_|refine Xd ?_|(apply Xk;exact Ybv;exact rfl)|refine Xz ?_|refine Wy ?_|(refine Xo rfl (fun hb=>?_) (fun hb=>?_)<;>(repeat (first|replace hb:=X0 hb|replace hb:=X1 hb))<;>(try (exfalso;omega)))))
     all_goals (try (exfalso;omega))
     refine ⟨.inr rfl,Vk rfl (.tmp rfl) (List.nil_sublist _) ⟨congrArg exB ?_,rfl⟩⟩
     exact (all2_iff.2 ⟨hl,fun i h1 h2=>hpre i h1 h2 Yan⟩).symm
 · (repeat' (first|refine Xf ?_|refine Xb ?_|refine Xd ?_|(apply Xk;exact Yai;exact rfl)|refine Xz ?_|(refine Xo rfl (fun hb=>?_) (fun hb=>?_)<;>(repeat (first|replace hb:=X0 hb|replace hb:=X1 hb|replace hb:=Vf hb|replace hb:=Vg hb))<;>(try (exfalso;omega)))))
   all_goals (try (exfalso;omega))
   refine ⟨.inr rfl,Vk rfl (.tmp rfl) (List.nil_sublist _) ⟨congrArg exB ?_,rfl⟩⟩
   symm
   rw [Bool.eq_false_iff]
   exact fun h=>hl (all2_iff.1 h).1
theorem Xf0 (a b:List TieD) (hp: ∀x y:TieD,FnC Tryz.prog 107 [agg (tieV x),agg (tieV y)] [] (fun p loc=>p=exB (decide (x=y))∧loc=[])):FnC Tryz.prog 113 [isl eTie a,isl eTie b,ex (.func (.func 107) #[] #[])] [] (fun p loc=>p=exB (all2 (fun x y=>decide (x=y)) a b)∧loc=[]):=by
 refine Wl (i:=0) rfl Ws fun ha=>?_
 refine Wl (i:=1) rfl Ws fun hb=>?_
 obtain ⟨ha,-⟩:=ha
 obtain ⟨hb,-⟩:=hb
 simp only [maxLen] at ha hb
 refine X4 Tryz.func113 rfl Tryz.ntmps113 rfl fun w0 F0 out=>?_
 by_cases hl:a.length=b.length
 · (repeat' (first|refine Xf ?_|refine Xb ?_|refine Xd ?_|(apply Xk;exact Yai;exact rfl)|refine Xp ?_|refine Xs ?_|(refine Xo rfl (fun hb=>?_) (fun hb=>?_)<;>(repeat (first|replace hb:=X0 hb|replace hb:=X1 hb|replace hb:=Vf hb|replace hb:=Vg hb))<;>(try (exfalso;omega)))))
   all_goals (try (exfalso;omega))
   refine W1 (fun q:Nat=>([(1,isl eTie b),(2,ex (.func (.func 107) #[] #[])),(15,isl eTie a),(16,exI .i64 a.length),(17,exI .i64 q)],[])) (fun q=>q≤a.length∧ ∀i (h1:i<a.length) (h2:i<b.length),i<q→(fun x y:TieD=>decide (x=y)) a[i] b[i]=true) (fun q=>a.length-q) 0 ?_ ⟨Nat.zero_le _,fun i _ _ h=>absurd h Yan⟩ fun m hm=>?_
   · exact Xg (by repeat (first|exact Xm|refine Xh rfl ?_)) (List.Sublist.refl _)
   obtain ⟨hm,hpre⟩:=hm
   by_cases hlt:m<a.length
   · have hlt2:m<b.length:=by omega
     have hcall:=hp a[m] b[m]
     cases he:(fun x y:TieD=>decide (x=y)) a[m] b[m]
     · try simp only at he
       rw [he] at hcall
       (repeat' (first|refine Xf ?_|refine Xb ?_|refine Xd ?_|(apply Xk;exact Ybb;exact rfl)|refine Xp ?_|refine Xs ?_|refine Xz ?_|refine Xx rfl ?_|(apply Xi;exact rfl;first|(apply Xn;(refine V9 (vs:=[]) (args:=[_,_]) rfl Tryz.func107 rfl hcall rfl ?_;rintro _ _ ⟨rfl,rfl⟩))|(apply Wh;refine X7 ?_;intro _)|(apply Xt;refine Xq (k:=0) (l0:=[]) rfl rfl rfl ?_))|(refine Xo rfl (fun hb=>?_) (fun hb=>?_)<;>(repeat (first|replace hb:=X0 hb|replace hb:=X1 hb))<;>(try (exfalso;omega)))))
       all_goals (try (exfalso;first|contradiction|omega))
       refine ⟨.inr rfl,Vk rfl (.tmp rfl) (List.nil_sublist _) ⟨congrArg exB ?_,rfl⟩⟩
       symm
       rw [Bool.eq_false_iff]
       intro h
       have h3:=(all2_iff.1 h).2 m hlt hlt2
       try simp only at h3
       rw [he] at h3
       cases h3
     · have he2:=he
       try simp only at he
       rw [he] at hcall
       (repeat' (first|refine Xf ?_|refine Xb ?_|refine Xd ?_|(apply Xk;exact Ya2;exact rfl)|refine Xp ?_|refine Xs ?_|refine X2 rfl ?_|(apply Xi;exact rfl;first|(apply Xn;(refine V9 (vs:=[]) (args:=[_,_]) rfl Tryz.func107 rfl hcall rfl ?_;rintro _ _ ⟨rfl,rfl⟩))|(apply Wh;refine X7 ?_;intro _)|(apply Xt;refine Xq (k:=0) (l0:=[]) rfl rfl rfl ?_))|(refine Xo rfl (fun hb=>?_) (fun hb=>?_)<;>(repeat (first|replace hb:=X0 hb|replace hb:=X1 hb))<;>(try (exfalso;omega)))))
       all_goals (try (exfalso;first|contradiction|omega))
       refine ⟨m+1,⟨by omega,fun i h1 h2 h3=>?_⟩,by omega,Xg (by repeat (first|exact Xm|refine Xh rfl ?_)) (List.nil_sublist _)⟩
       rcases Nat.lt_or_ge i m with h|h
       · exact hpre i h1 h2 h
       · have:i=m:=by omega
         subst this
         exact he2
   · (repeat' (first|refine Xf ?_|refine Xb ?_|refine Xd ?_|(apply Xk;exact Ybv;exact rfl)|refine Xz ?_|refine Wy ?_|(refine Xo rfl (fun hb=>?_) (fun hb=>?_)<;>(repeat (first|replace hb:=X0 hb|replace hb:=X1 hb))<;>(try (exfalso;omega)))))
     all_goals (try (exfalso;omega))
     refine ⟨.inr rfl,Vk rfl (.tmp rfl) (List.nil_sublist _) ⟨congrArg exB ?_,rfl⟩⟩
     exact (all2_iff.2 ⟨hl,fun i h1 h2=>hpre i h1 h2 Yan⟩).symm
 · (repeat' (first|refine Xf ?_|refine Xb ?_|refine Xd ?_|(apply Xk;exact Yai;exact rfl)|refine Xz ?_|(refine Xo rfl (fun hb=>?_) (fun hb=>?_)<;>(repeat (first|replace hb:=X0 hb|replace hb:=X1 hb|replace hb:=Vf hb|replace hb:=Vg hb))<;>(try (exfalso;omega)))))
   all_goals (try (exfalso;omega))
   refine ⟨.inr rfl,Vk rfl (.tmp rfl) (List.nil_sublist _) ⟨congrArg exB ?_,rfl⟩⟩
   symm
   rw [Bool.eq_false_iff]
   exact fun h=>hl (all2_iff.1 h).1
theorem Xdo (k j:Nat) (a b:List RoundD) (hp: ∀x y:RoundD,FnC Tryz.prog 109 [agg (W3 k x),agg (W3 j y)] [] (fun p loc=>p=exB (decide (x=y))∧loc=[])):FnC Tryz.prog 114 [isl (Vy k) a,isl (Vy j) b,ex (.func (.func 109) #[] #[])] [] (fun p loc=>p=exB (all2 (fun x y=>decide (x=y)) a b)∧loc=[]):=by
 refine Wl (i:=0) rfl Ws fun ha=>?_
 refine Wl (i:=1) rfl Ws fun hb=>?_
 obtain ⟨ha,-⟩:=ha
 obtain ⟨hb,-⟩:=hb
 simp only [maxLen] at ha hb
 refine X4 Tryz.func114 rfl Tryz.ntmps114 rfl fun w0 F0 out=>?_
 by_cases hl:a.length=b.length
 · (repeat' (first|refine Xf ?_|refine Xb ?_|refine Xd ?_|(apply Xk;exact Yai;exact rfl)|refine Xp ?_|refine Xs ?_|(refine Xo rfl (fun hb=>?_) (fun hb=>?_)<;>(repeat (first|replace hb:=X0 hb|replace hb:=X1 hb|replace hb:=Vf hb|replace hb:=Vg hb))<;>(try (exfalso;omega)))))
   all_goals (try (exfalso;omega))
   refine W1 (fun q:Nat=>([(1,isl (Vy j) b),(2,ex (.func (.func 109) #[] #[])),(15,isl (Vy k) a),(16,exI .i64 a.length),(17,exI .i64 q)],[])) (fun q=>q≤a.length∧ ∀i (h1:i<a.length) (h2:i<b.length),i<q→(fun x y:RoundD=>decide (x=y)) a[i] b[i]=true) (fun q=>a.length-q) 0 ?_ ⟨Nat.zero_le _,fun i _ _ h=>absurd h Yan⟩ fun m hm=>?_
   · exact Xg (by repeat (first|exact Xm|refine Xh rfl ?_)) (List.Sublist.refl _)
   obtain ⟨hm,hpre⟩:=hm
   by_cases hlt:m<a.length
   · have hlt2:m<b.length:=by omega
     have hcall:=hp a[m] b[m]
     cases he:(fun x y:RoundD=>decide (x=y)) a[m] b[m]
     · try simp only at he
       rw [he] at hcall
       (repeat' (first|refine Xf ?_|refine Xb ?_|refine Xd ?_|(apply Xk;exact Ybb;exact rfl)|refine Xp ?_|refine Xs ?_|refine Xz ?_|refine Xx rfl ?_|(apply Xi;exact rfl;first|(apply Xn;(refine V9 (vs:=[]) (args:=[_,_]) rfl Tryz.func109 rfl hcall rfl ?_;rintro _ _ ⟨rfl,rfl⟩))|(apply Wh;refine X7 ?_;intro _)|(apply Xt;refine Xq (k:=0) (l0:=[]) rfl rfl rfl ?_))|(refine Xo rfl (fun hb=>?_) (fun hb=>?_)<;>(repeat (first|replace hb:=X0 hb|replace hb:=X1 hb))<;>(try (exfalso;omega)))))
       all_goals (try (exfalso;first|contradiction|omega))
       refine ⟨.inr rfl,Vk rfl (.tmp rfl) (List.nil_sublist _) ⟨congrArg exB ?_,rfl⟩⟩
       symm
       rw [Bool.eq_false_iff]
       intro h
       have h3:=(all2_iff.1 h).2 m hlt hlt2
       try simp only at h3
       rw [he] at h3
       cases h3
     · have he2:=he
       try simp only at he
       rw [he] at hcall
       (repeat' (first|refine Xf ?_|refine Xb ?_|refine Xd ?_|(apply Xk;exact Ya2;exact rfl)|refine Xp ?_|refine Xs ?_|refine X2 rfl ?_|(apply Xi;exact rfl;first|(apply Xn;(refine V9 (vs:=[]) (args:=[_,_]) rfl Tryz.func109 rfl hcall rfl ?_;rintro _ _ ⟨rfl,rfl⟩))|(apply Wh;refine X7 ?_;intro _)|(apply Xt;refine Xq (k:=0) (l0:=[]) rfl rfl rfl ?_))|(refine Xo rfl (fun hb=>?_) (fun hb=>?_)<;>(repeat (first|replace hb:=X0 hb|replace hb:=X1 hb))<;>(try (exfalso;omega)))))
       all_goals (try (exfalso;first|contradiction|omega))
       refine ⟨m+1,⟨by omega,fun i h1 h2 h3=>?_⟩,by omega,Xg (by repeat (first|exact Xm|refine Xh rfl ?_)) (List.nil_sublist _)⟩
       rcases Nat.lt_or_ge i m with h|h
       · exact hpre i h1 h2 h
       · have:i=m:=by omega
         subst this
         exact he2
   · (repeat' (first|refine Xf ?_|refine Xb ?_|refine Xd ?_|(apply Xk;exact Ybv;exact rfl)|refine Xz ?_|refine Wy ?_|(refine Xo rfl (fun hb=>?_) (fun hb=>?_)<;>(repeat (first|replace hb:=X0 hb|replace hb:=X1 hb))<;>(try (exfalso;omega)))))
     all_goals (try (exfalso;omega))
     refine ⟨.inr rfl,Vk rfl (.tmp rfl) (List.nil_sublist _) ⟨congrArg exB ?_,rfl⟩⟩
     exact (all2_iff.2 ⟨hl,fun i h1 h2=>hpre i h1 h2 Yan⟩).symm
 · (repeat' (first|refine Xf ?_|refine Xb ?_|refine Xd ?_|(apply Xk;exact Yai;exact rfl)|refine Xz ?_|(refine Xo rfl (fun hb=>?_) (fun hb=>?_)<;>(repeat (first|replace hb:=X0 hb|replace hb:=X1 hb|replace hb:=Vf hb|replace hb:=Vg hb))<;>(try (exfalso;omega)))))
   all_goals (try (exfalso;omega))
   refine ⟨.inr rfl,Vk rfl (.tmp rfl) (List.nil_sublist _) ⟨congrArg exB ?_,rfl⟩⟩
   symm
   rw [Bool.eq_false_iff]
   exact fun h=>hl (all2_iff.1 h).1
theorem sameExpr13_any: ∀(k j:Nat) (x y:Ex),FnC Tryz.prog 110 [agg (exV k x),agg (exV j y)] [] (fun p loc=>p=exB (decide (x=y))∧loc=[]):=by
 intro k
 induction k with
 | zero=>intro j x y;exact Wl (i:=0) rfl Sm fun h=>h.elim
 | succ k ih=>
   intro j x y
   cases j with
   | zero=>exact Wl (i:=1) rfl Sm fun h=>h.elim
   | succ j=>
     show FnC Tryz.prog 110 [agg [exI .i64 x.kind,exT x.name,exI .i64 x.n,exI .i64 x.d,isl (eEx k) x.l],agg [exI .i64 y.kind,exT y.name,exI .i64 y.n,exI .i64 y.d,isl (eEx j) y.l]] [] (fun p loc=>p=exB (decide (x=y))∧loc=[])
     have hcall:=Xeu k j x.l y.l (ih j)
     rw [all2_eq] at hcall
     refine X4 Tryz.func110 rfl Tryz.ntmps110 rfl fun w0 F0 out=>?_
     (repeat' (first|refine Xf ?_|refine Xb ?_|refine Xd ?_|(apply Xk;exact Yby;exact rfl)|(refine Ve rfl rfl rfl rfl rfl ?_)|(apply Vh;exact rfl;exact rfl;exact rfl;(first|exact Yap|exact Yad|exact Yd9);exact rfl)|refine Xz ?_|(apply Xi;exact rfl;(apply U7;refine V2 rfl ?_;intro _))|(apply Vt;exact rfl;exact rfl;exact rfl;exact rfl;(apply Xn;(refine X9 Tryz.func168 rfl hcall rfl ?_;rintro _ _ ⟨rfl,rfl⟩)))|(refine W0 rfl rfl (fun hb=>?_) (fun hb=>?_)<;>(repeat (first|replace hb:=X0 hb|replace hb:=X1 hb))<;>(try (exfalso;fail)))))
     all_goals (refine ⟨.inr rfl,Vk rfl (.tmp rfl) (List.nil_sublist _) ⟨congrArg exB ?_,rfl⟩⟩)
     all_goals (rw [Bool.eq_iff_iff];simp only [decide_eq_true_eq,Ex.ext_iff' x y,Bool.false_eq_true,false_iff, *])
     all_goals simp
theorem Xhh (x y:TieD):FnC Tryz.prog 107 [agg (tieV x),agg (tieV y)] [] (fun p loc=>p=exB (decide (x=y))∧loc=[]):=by
 have he:decide (x=y)=(decide (x.name=y.name)&&decide (x.keys=y.keys)):=by
   cases x;cases y;rw [Bool.eq_iff_iff];simp
 rw [he]
 refine X4 Tryz.func107 rfl Tryz.ntmps107 rfl fun w0 F0 out=>?_
 (repeat' (first|refine Xf ?_|refine Xb ?_|refine Xd ?_|(apply Xk;exact Ybu;exact rfl)|(refine Ve rfl rfl rfl rfl rfl ?_)|(apply Vh;exact rfl;exact rfl;exact rfl;(first|exact Yap|exact Yad);exact rfl)|refine Xz ?_|(apply Xi;exact rfl;(apply U7;refine V2 rfl ?_;intro _))|(apply Vt;exact rfl;exact rfl;exact rfl;exact rfl;(apply Xn;(refine X9 Tryz.func108 rfl (Xfz _ _) rfl ?_;rintro _ _ ⟨rfl,rfl⟩)))|(refine W0 rfl rfl (fun hb=>?_) (fun hb=>?_)<;>(repeat (first|replace hb:=X0 hb|replace hb:=X1 hb))<;>(try (exfalso;fail)))))
 all_goals (refine ⟨.inr rfl,Vk rfl (.tmp rfl) (List.nil_sublist _) ⟨congrArg exB ?_,rfl⟩⟩)
 all_goals simp [*]
theorem Xhi (k j:Nat) (x y:RoundD):FnC Tryz.prog 109 [agg (W3 k x),agg (W3 j y)] [] (fun p loc=>p=exB (decide (x=y))∧loc=[]):=by
 have he:decide (x=y)=decide (x.name=y.name∧x.panel=y.panel∧x.quota=y.quota∧x.cut=y.cut∧x.places=y.places∧x.free=y.free∧x.tie=y.tie∧x.tieNo=y.tieNo∧x.score=y.score):=by
   cases x;cases y;rw [Bool.eq_iff_iff];simp only [decide_eq_true_eq,RoundD.mk.injEq];constructor<;>(rintro ⟨h1,h2,h3,h4,h5,h6,h7,h8,h9⟩;refine ⟨?_,?_,?_,?_,?_,?_,?_,?_,?_⟩<;>assumption)
 rw [he]
 have hcall:=sameExpr13_any k j x.score y.score
 refine X4 Tryz.func109 rfl Tryz.ntmps109 rfl fun w0 F0 out=>?_
 (repeat' (first|refine Xf ?_|refine Xb ?_|refine Xd ?_|(apply Xk;exact Ybu;exact rfl)|(refine Ve rfl rfl rfl rfl rfl ?_)|(apply Vh;exact rfl;exact rfl;exact rfl;(first|exact Yc7|exact Yad|(apply V1;first|exact Xav rfl rfl|exact Qf rfl rfl|exact Xpr rfl rfl rfl));exact rfl)|refine Xz ?_|(apply Xi;exact rfl;(apply U7;refine V2 rfl ?_;intro _))|(apply Vt;exact rfl;exact rfl;exact rfl;exact rfl;(apply Xn;(refine X9 Tryz.func110 rfl hcall rfl ?_;rintro _ _ ⟨rfl,rfl⟩)))|(refine W0 rfl rfl (fun hb=>?_) (fun hb=>?_)<;>(repeat (first|replace hb:=X0 hb|replace hb:=X1 hb))<;>(try (exfalso;fail)))))
 all_goals (refine ⟨.inr rfl,Vk rfl (.tmp rfl) (List.nil_sublist _) ⟨congrArg exB ?_,rfl⟩⟩)
 all_goals (rw [Bool.eq_iff_iff];simp only [decide_eq_true_eq,Bool.false_eq_true,false_iff, *])
 all_goals simp [*]
end Go.Proofs.YthdldeenpgeemaaGreatDoor
namespace Go.Proofs.YthdldeenpgeemaaGreatDoor
open Go Go.RowKit Go.Kx Go.Fr Go.Lx Go.Sx
structure StopW (p:Prop):Prop where
 out:p
theorem Xdz (k j:Nat) (a b:RulesD):FnC Tryz.prog 37 [agg (Vc k a),agg (Vc j b)] [] (fun p loc=>p=exB (decide (a=b))∧loc=[]):=by
 have ht:=Xf0 a.ties b.ties (fun x y=>Xhh x y)
 rw [all2_eq] at ht
 have hr:=Xdo k j a.rounds b.rounds (fun x y=>Xhi k j x y)
 rw [all2_eq] at hr
 have he:decide (a=b)=decide (a.name=b.name∧a.crits=b.crits∧a.bonus=b.bonus∧a.malus=b.malus∧a.ties=b.ties∧a.rounds=b.rounds∧a.prizes=b.prizes∧a.points=b.points∧a.best=b.best):=by
   cases a;cases b;rw [Bool.eq_iff_iff];simp only [decide_eq_true_eq,RulesD.mk.injEq]
 rw [he]
 refine X4 Tryz.func37 rfl Tryz.ntmps37 rfl fun w0 F0 out=>?_
 (repeat' (first|(apply Vs 3;refine StopW.out ?_)|refine Xf ?_|refine Xb ?_|refine Xd ?_|(apply Xk;(exact Xj rfl);exact rfl)|(apply Xi;exact rfl;(apply U7;refine V2 rfl ?_;intro _))))
 rename_i b2 b3
 refine ⟨?_⟩
 refine Rc 3 (fun v:Bool=>([(2,ex (.pointer (some ⟨b2,0,none⟩))),(3,ex (.pointer (some ⟨b3,0,none⟩))),(5,ex (.func (.func 107) #[] #[])),(6,ex (.func (.func 109) #[] #[])),(7,exB v)],[row b3 29 9 (Vc j b),row b2 29 9 (Vc k a)])) (fun v=>v=(decide (a.crits=b.crits)&&decide (a.bonus=b.bonus)&&decide (a.malus=b.malus))) ?_ fun v hv=>?_
 · (repeat' (first|refine Xb ?_|refine Xd ?_|(apply Xk;exact Ycv;exact rfl)|(refine Ve rfl rfl rfl rfl rfl ?_)|(apply Vh;exact rfl;exact rfl;exact rfl;(first|exact Yap|exact Yad);exact rfl)|(apply Xi;exact rfl;(apply Xn;(refine X9 Tryz.func111 rfl (Xes _ _) rfl ?_;rintro _ _ ⟨rfl,rfl⟩)))|(apply Vt;exact rfl;exact rfl;exact rfl;exact rfl;(apply Xn;(refine X9 Tryz.func112 rfl (Xet _ _) rfl ?_;rintro _ _ ⟨rfl,rfl⟩)))|(refine W0 rfl rfl (fun hb=>?_) (fun hb=>?_)<;>(repeat (first|replace hb:=X0 hb|replace hb:=X1 hb))<;>(try (exfalso;fail)))))
   all_goals (refine ⟨_,?_,Xg (by repeat (first|exact Xm|refine Xh rfl ?_)) (List.Sublist.refl _)⟩)
   all_goals simp [*]
 refine Rc 4 (fun u:Bool=>([(2,ex (.pointer (some ⟨b2,0,none⟩))),(3,ex (.pointer (some ⟨b3,0,none⟩))),(7,exB v),(8,exB u)],[row b3 29 9 (Vc j b),row b2 29 9 (Vc k a)])) (fun u=>u=(decide (a.ties=b.ties)&&decide (a.rounds=b.rounds))) ?_ fun u hu=>?_
 · (repeat' (first|refine Xb ?_|refine Xd ?_|(apply Xk;exact Ycv;exact rfl)|(refine Ve rfl rfl rfl rfl rfl ?_)|(apply Vh;exact rfl;exact rfl;exact rfl;(first|exact Xe rfl|exact Yap|exact Yad);exact rfl)|(apply Xi;exact rfl;(apply Xn;(refine X9 Tryz.func113 rfl ht rfl ?_;rintro _ _ ⟨rfl,rfl⟩)))|(apply Vt;exact rfl;exact rfl;exact rfl;exact rfl;(apply Xn;(refine X9 Tryz.func114 rfl hr rfl ?_;rintro _ _ ⟨rfl,rfl⟩)))|(refine W0 rfl rfl (fun hb=>?_) (fun hb=>?_)<;>(repeat (first|replace hb:=X0 hb|replace hb:=X1 hb))<;>(try (exfalso;fail)))))
   all_goals (refine ⟨_,?_,Xg (by repeat (first|exact Xm|refine Xh rfl ?_)) (List.Sublist.refl _)⟩)
   all_goals simp [*]
 clear ht hr he
 refine Rc 5 (fun u2:Bool=>([(4,exB u2)],[])) (fun u2=>u2=(decide (a.name=b.name)&&v&&u&&decide (a.prizes=b.prizes)&&decide (a.points=b.points)&&decide (a.best=b.best))) ?_ fun u2 hu2=>?_
 · clear hv hu
   (repeat' (first|refine Xb ?_|refine Xd ?_|(apply Xk;exact Ybu;exact rfl)|(refine Ve rfl rfl rfl rfl rfl ?_)|(apply Vh;exact rfl;exact rfl;exact rfl;(first|exact Xe rfl|exact Yap|exact Yad|exact Ybc);exact rfl)|(apply Vt;exact rfl;exact rfl;exact rfl;exact rfl;(apply Xn;(refine X9 Tryz.func115 rfl (Xfy _ _) rfl ?_;rintro _ _ ⟨rfl,rfl⟩)))|(refine W0 rfl rfl (fun hb=>?_) (fun hb=>?_)<;>(repeat (first|replace hb:=X0 hb|replace hb:=X1 hb))<;>(try (exfalso;fail)))))
   all_goals (refine ⟨_,?_,Xg (by repeat (first|exact Xm|refine Xh rfl ?_)) (List.nil_sublist _)⟩)
   all_goals simp [*]
 · (repeat' (refine Xz ?_))
   refine ⟨.inr rfl,Vk rfl (.tmp rfl) (List.nil_sublist _) ⟨congrArg exB ?_,rfl⟩⟩
   rw [hu2,hv,hu,Bool.eq_iff_iff]
   simp only [Bool.and_eq_true,decide_eq_true_eq]
   simp only [and_assoc]
end Go.Proofs.YthdldeenpgeemaaGreatDoor
namespace Go.Sx
open Go.Lx Go.Fr
def tkW (w:List UInt8):TokD:=⟨1,w,0,0⟩
def tkS (w:List UInt8):TokD:=⟨3,w,0,0⟩
def tkN (n:Int):TokD:=⟨2,[],n,0⟩
def sT (w:List UInt8):TokD:=if Tk w then tkW w else tkS w
def commaT:List Int→List TokD
 | []=>[]
 | x::l=>tkN x::l.flatMap fun y=>[tkS sComma,tkN y]
def Rh (k:Int):Nat:=if k=6∨k=7∨k=9∨k=10 then 2 else if k=8 then 1 else if k=11 then 4 else 0
def Xah (p:Int×List TokD):List TokD:=if p.1=6∨p.1=7 then tkS sOpen::p.2++[tkS sClose] else p.2
def Xj4 (n d:Int):List TokD:=if d=1 then [tkN n] else [tkN n,tkS sSlash,tkN d]
def Xbq (k:Int) (s:List UInt8) (n d:Int) (ps:List (Int×List TokD)):List TokD:=
 let e:=fun i:Nat=>((ps[i]?).map (·.2)).getD []
 let p:=fun i:Nat=>((ps[i]?).map Xah).getD []
 if ps.length≠Rh k then []
 else if k=1 then Xj4 n d
 else if k=8 then Xj4 n d++tkS sStar::p 0
 else if k=2 then [tkW s]
 else if k=3 then [tkW wBonus]
 else if k=4 then [tkW wMalus]
 else if k=5 then [tkW wRound,tkW s]
 else if k=6 then e 0++tkS sPlus::p 1
 else if k=7 then e 0++tkS sMinus::p 1
 else if k=9 then tkW wLeast::tkS sOpen::e 0++tkS sComma::e 1++[tkS sClose]
 else if k=10 then tkW wGreatest::tkS sOpen::e 0++tkS sComma::e 1++[tkS sClose]
 else if k=11 then tkW wIf::e 0++tkW wUpto::e 1++tkW wThen::e 2++tkW wElse::e 3++[tkW wEnd]
 else []
mutual
def exT':Ex→List TokD
 | .mk k s n d l=>Xbq k s n d (exTs l)
def exTs:List Ex→List (Int×List TokD)
 | []=>[]
 | x::l=>(x.kind,exT' x)::exTs l
end
theorem exTs_eq: ∀l:List Ex,exTs l=l.map fun x=>(x.kind,exT' x)
 | []=>rfl
 | x::l=>by rw [exTs,exTs_eq l];rfl
theorem Xhj (x:Ex):exT' x=Xbq x.kind x.name x.n x.d (x.l.map fun y=>(y.kind,exT' y)):=by
 cases x;rw [exT',exTs_eq];rfl
def Xhk (c:Crit):List TokD:=if c.how=1 then [tkW wSum] else if c.how=2 then [tkW wMean,tkW wTrim,tkN c.trim] else [tkW wMedian]
def Ry (c:Crit):List TokD:=[tkW wCriterion,tkW c.name,tkW wFrom,tkN c.low,tkW wTo,tkN c.high,tkW wStep,tkN c.step]++Xhk c++(if c.rev then [tkW wReverse] else [])++[tkS sSemi]
def Tu (w:List UInt8) (x:ItemD):List TokD:=[tkW w,tkW x.name,tkW wValue,tkN x.value,tkW wMost,tkN x.most,tkS sSemi]
def Qj (k:KeyD):List TokD:=
 if k.kind=1 then [tkW wTotal,tkW k.name] else if k.kind=2 then [tkW wScore,tkW k.name] else if k.kind=5 then [tkW wRule,tkW k.name]
 else if k.kind=3 then [tkW wHighest] else if k.kind=4 then [tkW wBonus] else [tkW wLot]
def keysT:List KeyD→List TokD
 | []=>[]
 | k::l=>Qj k++l.flatMap fun y=>tkS sComma::Qj y
def Xev (t:TieD):List TokD:=[tkW wTie,tkW t.name]++keysT t.keys++[tkS sSemi]
def Xhl (c:Int):List TokD:=if c=1 then [tkW wOver] else if c=2 then [tkW wUnder] else [tkW wLots]
def roundT (r:RoundD):List TokD:=
 [tkW wRound,tkW r.name,tkW wPanel,tkN r.panel,tkW wQuota,tkN r.quota]++Xhl r.cut++(if r.free then [tkW wFree] else [])
   ++ (if r.places then [tkW wPlaces] else tkW wScore::exT' r.score)++(if r.tieNo=0 then [tkW wTie,tkW r.tie] else [])++[tkS sSemi]
def Uh (r:RulesD):List TokD:=
 [tkW wCompetition,tkW r.name,tkS sSemi]++r.crits.flatMap Ry++r.bonus.flatMap (Tu wBonus)++r.malus.flatMap (Tu wMalus)
   ++ r.ties.flatMap Xev++r.rounds.flatMap roundT
   ++ (if r.prizes=[] then [] else tkW wPrizes::commaT r.prizes++[tkS sSemi])
   ++ (if r.points=[] then [] else tkW wPoints::commaT r.points++[tkW wBest,tkN r.best,tkS sSemi])
def Xd0 (r:RulesD):List UInt8×Int:=
 if (Uh r).all V7&&(decide ((Qg (Uh r) 0).2.2=0)&&decide ((Qg (Uh r) 0).1=r)) then (joinF ((Uh r).map word),0) else ([],130)
end Go.Sx
namespace Go.Fr
open Go.RowKit Go.Kx
def ifp (T:TypeId) (p:SP):SP:=⟨fun F w v=> ∃u,v= .iface T u∧p.rel F w u,fun ⟨u,h1,h2⟩ hk=>⟨u,h1,p.mono h2 hk⟩⟩
instance {T:TypeId} {p:SP}:Sc (ifp T p):=⟨by rintro F w v ⟨u,rfl,_⟩;rfl⟩
def anyV:SP:=⟨fun _ _ _=>True,fun h _=>h⟩
section
variable {C:Cx} {S:(Nat→Prop)→World→World→Prop} {env:Env} {loc:List Ent} {dst:Option Tmp} {ty:TypeId} {pos:String} {af:Array Edge} {g:Option (Nat×Bool)}
theorem Ri {x:Operand} {T:TypeId} {p:SP} {dd:TypeDesc} (hx:ev env x=some p) (ht:C.P.underlying T=some dd) (hn:concB dd=true:=by rfl):WT C S ⟨dst,.makeInterface T x,ty,pos,af,g⟩ (ifp T p) env loc:=by
 constructor
 intro F a w hR
 have hv:=X8 hR hx
 refine ⟨.iface T (a.eval x),⟨_,rfl,hv⟩,fun w' _=>?_⟩
 clear hv
 generalize a.eval=ρ
 cases dd<;>first|(cases hn;done)|simp [execOp,Instr.makeInterface,Vz ht,go_sem]
theorem Se {x:Operand} {xT T:TypeId} {p:SP} {dd:TypeDesc} (hx:ev env x=some (ifp T p)) (ht:C.P.underlying T=some dd) (hn:concB dd=true:=by rfl):WT C S ⟨dst,.typeAssert x xT T true,ty,pos,af,g⟩ (tup [p,exB true]) env loc:=by
 constructor
 intro F a w hR
 obtain ⟨u,hv,hu⟩:=X8 hR hx
 refine ⟨.tuple #[u,.bool true],⟨[u,.bool true],rfl,.cons hu (.cons rfl .nil)⟩,fun w' _=>?_⟩
 generalize a.eval=ρ at hv ⊢
 cases dd<;>first|(cases hn;done)|simp [execOp,Instr.typeAssert,hv,Vz ht,go_sem]
theorem Uc {x:Operand} {xT T U:TypeId} {p:SP} {dd:TypeDesc} {sz bt:Nat} {z:Value} (hx:ev env x=some (ifp U p)) (ht:C.P.underlying T=some dd) (hne:Nat.beq U T=false) [hT:TI C.P T sz bt z] (hn:concB dd=true:=by rfl):WT C S ⟨dst,.typeAssert x xT T true,ty,pos,af,g⟩ (tup [anyV,exB false]) env loc:=by
 constructor
 intro F a w hR
 obtain ⟨u,hv,hu⟩:=X8 hR hx
 obtain ⟨ti,hi,-,-,hz⟩:=hT.out
 have hne2: ¬U=T:=fun e=>by subst e;rw [Nat.beq_refl] at hne;cases hne
 refine ⟨.tuple #[z,.bool false],⟨[z,.bool false],rfl,.cons trivial (.cons rfl .nil)⟩,fun w' _=>?_⟩
 generalize a.eval=ρ at hv ⊢
 cases dd<;>first|(cases hn;done)|simp [execOp,Instr.typeAssert,hv,Vz ht,hne2,zeroValue,Xfk hi,hz,go_sem]
end
end Go.Fr
namespace Go.Sx
open Go.Lx Go.Fr
inductive PutV where
 | s (w:List UInt8)
 | nm (w:List UInt8)
 | i (n:Int)
 | il (l:List Int)
 | pt (x:Ex)
 | xx (x:Ex)
def PutV.lvl:PutV→Nat
 | .s _=>0
 | .nm _=>0
 | .i _=>0
 | .il _=>1
 | .xx _=>1
 | .pt _=>2
def PutV.toks:PutV→List TokD
 | .s w=>[sT w]
 | .nm w=>[tkW w]
 | .i n=>[tkN n]
 | .il l=>commaT l
 | .pt x=>Xah (x.kind,exT' x)
 | .xx x=>exT' x
end Go.Sx
namespace Go.Proofs.YthdldeenpgeemaaGreatDoor
open Go Go.RowKit Go.Kx Go.Fr Go.Lx Go.Sx
def Xpa (k:Nat):PutV→SP
 | .s w=>ifp 9 (exT w)
 | .nm w=>ifp 164 (exT w)
 | .i n=>ifp 3 (exI .i64 n)
 | .il l=>ifp 27 (isl eI l)
 | .pt x=>ifp 222 (agg (exV k x))
 | .xx x=>ifp 52 (agg (exV k x))
abbrev Xsk (k:Nat) (p:PutV):List SP:=[Xpa k p]
instance {k:Nat}:LenS (Xsk k) 1:=⟨fun _=>rfl⟩
abbrev Tq (k:Nat):Enc PutV:=Xh0 (Xsk k) 1 16
def Vv (b:Nat) (oa:Option Addr) (c:Nat) (acc:List TokD):List Ent:=[row b 80 1 [ex (.slice oa acc.length c)],vec (.slice oa acc.length c) 40 4 acc.length (acc.flatMap Xch)]
def Xhm (k:Nat) (l:List PutV):Prop:= ∀(b:Nat) (oa:Option Addr) (c:Nat) (acc:List TokD),acc.length+(l.flatMap PutV.toks).length≤70000→FnC Tryz.prog 104 [ex (.pointer (some ⟨b,0,none⟩)),isl (Tq k) l] (Vv b oa c acc) (fun _ loc=> ∃oa' c',loc=Vv b oa' c' (acc++l.flatMap PutV.toks))
def Xi3 (k:Nat) (x:Ex):Prop:= ∀(b:Nat) (oa:Option Addr) (c:Nat) (acc:List TokD),acc.length+(exT' x).length≤70000→FnC Tryz.prog 167 [ex (.pointer (some ⟨b,0,none⟩)),agg (exV k x)] (Vv b oa c acc) (fun _ loc=> ∃oa' c',loc=Vv b oa' c' (acc++exT' x))
end Go.Proofs.YthdldeenpgeemaaGreatDoor
namespace Go.Sx
open Go.Lx Go.Fr
theorem commaT_take: ∀(l:List Int) (j:Nat) (h:j<l.length),commaT (l.take (j+1))=commaT (l.take j)++((if j=0 then [] else [tkS sComma])++[tkN l[j]])
 | x::l,0,_=>rfl
 | x::l,j+1,h=>by
   have h':j<l.length:=by simpa using h
   show tkN x::(l.take (j+1)).flatMap (fun y=>[tkS sComma,tkN y])=(tkN x::(l.take j).flatMap (fun y=>[tkS sComma,tkN y]))++([tkS sComma]++[tkN l[j]])
   rw [List.take_succ_eq_append_getElem h',List.flatMap_append]
   rfl
theorem commaT_len: ∀l:List Int,l.length≤(commaT l).length
 | []=>Nat.le_refl _
 | x::l=>by
   have h:l.length≤(l.flatMap (fun y=>[tkS sComma,tkN y])).length:=by
     induction l with
     | nil=>exact Nat.le_refl _
     | cons y l ih=>simp only [List.flatMap_cons,List.length_append,List.length_cons,List.length_nil];omega
   show l.length+1≤(l.flatMap (fun y=>[tkS sComma,tkN y])).length+1
   omega
theorem commaT_mono: ∀(l:List Int) (i:Nat),(commaT (l.take i)).length≤(commaT l).length
 | l,0=>Nat.zero_le _
 | [],i+1=>Nat.le_refl _
 | x::l,i+1=>by
   show ((l.take i).flatMap (fun y=>[tkS sComma,tkN y])).length+1≤(l.flatMap (fun y=>[tkS sComma,tkN y])).length+1
   have h:l.flatMap (fun y=>[tkS sComma,tkN y])=(l.take i).flatMap (fun y=>[tkS sComma,tkN y])++(l.drop i).flatMap (fun y=>[tkS sComma,tkN y]):=by rw [←List.flatMap_append,List.take_append_drop]
   rw [h,List.length_append];omega
end Go.Sx
namespace Go.Proofs.YthdldeenpgeemaaGreatDoor
open Go Go.RowKit Go.Kx Go.Fr Go.Lx Go.Sx
theorem Xcx (k n:Nat) (hn:n≤2) (hput: ∀l:List PutV,l≠[]→(∀x∈l,x.lvl<n)→Xhm k l) (hexp:1≤n→ ∀x,Xi3 k x) (l:List PutV) (hl: ∀x∈l,x.lvl≤n):Xhm k l:=by
 intro b oa c acc hlen
 refine Wl (i:=1) rfl Ws fun ha=>?_
 obtain ⟨ha,-⟩:=ha
 simp only [maxLen] at ha
 refine X4 Tryz.func104 rfl Tryz.ntmps104 rfl fun w0 F0 out=>?_
 unfold Vv
 (repeat' (first|refine Xf ?_|refine Xb ?_|refine Xd ?_|(apply Xk;(first|exact Xe rfl|exact Yaq);exact rfl)|refine Xp ?_))
 refine W1 (fun z:Nat×Option Addr×Nat=>([(0,ex (.pointer (some ⟨b,0,none⟩))),(15,isl (Tq k) l),(16,exI .i64 l.length),(17,exI .i64 z.1)],Vv b z.2.1 z.2.2 (acc++(l.take z.1).flatMap PutV.toks))) (fun z=>z.1≤l.length) (fun z=>l.length-z.1) (0,oa,c) ?_ (Nat.zero_le _) fun z hz=>?_
 · exact Xg (by repeat (first|exact Xm|refine Xh rfl ?_)) (by simp only [Vv,List.take_zero,List.flatMap_nil,List.append_nil];exact List.Sublist.refl _)
 obtain ⟨q,oa1,c1⟩:=z
 simp only at hz
 by_cases hlt:q<l.length
 · have hx:=hl l[q] (List.getElem_mem hlt)
   have hT:acc++(l.take (q+1)).flatMap PutV.toks=acc++(l.take q).flatMap PutV.toks++(l[q]).toks:=by
     rw [List.take_succ_eq_append_getElem hlt,List.flatMap_append,List.flatMap_cons,List.flatMap_nil,List.append_nil,List.append_assoc]
   have hAl:(acc++(l.take q).flatMap PutV.toks).length≤70000:=by
     have h1:l.flatMap PutV.toks=(l.take q).flatMap PutV.toks++(l.drop q).flatMap PutV.toks:=by rw [←List.flatMap_append,List.take_append_drop]
     rw [h1,List.length_append] at hlen
     rw [List.length_append]
     omega
   (repeat' (first|(apply W2 4;refine StopW.out ?_)|refine Xf ?_|refine Xb ?_|refine Xd ?_|(apply Xk;(first|exact Xe rfl|exact Xj rfl|exact Yag|exact Yak|exact Yae);exact rfl)|refine Xp ?_|refine Xs ?_|(refine Xo rfl (fun hb=>?_) (fun hb=>?_)<;>(repeat (first|replace hb:=X0 hb|replace hb:=X1 hb))<;>(try (exfalso;omega)))))
   generalize hA:acc++(l.take q).flatMap PutV.toks=A at hT hAl
   generalize hxx:l[q]=x at hx
   cases x with
   | i m=>
     constructor
     dsimp only
     try rw [hxx]
     simp only [Xpa]
     (repeat' (first|(apply Xy 22;apply Xk;exact Uc rfl rfl rfl)|(apply Xy 40;apply Xk;exact Uc rfl rfl rfl)|(apply Xy 54;apply Xk;exact Se rfl rfl;exact rfl)|(apply W2 15;refine StopW.out ?_)|refine Xf ?_|refine Xb ?_|refine Xd ?_|(apply Xk;(first|exact Xj rfl|exact Ybw);exact rfl)|refine Xx rfl ?_|refine X2 rfl ?_))
     all_goals (try (exact rfl))
     refine ⟨?_⟩
     refine Wf (env':=[(9,exI .i64 m),(0,ex (.pointer (some ⟨b,0,none⟩))),(15,isl (Tq k) l),(16,exI .i64 l.length),(17,exI .i64 (q:Int))]) (loc':=Vv b oa1 c1 A) (Xg (by repeat (first|exact Xm|refine Xh rfl ?_)) Ycf) ?_
     refine Uy (fun x:Option Addr×Nat=>([(0,ex (.pointer (some ⟨b,0,none⟩))),(15,isl (Tq k) l),(16,exI .i64 l.length),(17,exI .i64 (q:Int))],Vv b x.1 x.2 (A++[tkN m]))) (fun _=>True) ?_ fun x _=>?_
     · unfold Vv
       (repeat' (first|(refine Xja (k:=2) rfl Yan ?_;intro _ _ hv;subst hv)|(apply Xi;exact rfl;apply V4;refine V5 (k:=2) (l0:=[]) rfl rfl (by exact Xbz (k:=0) (qs:=Xch (tkN m)) rfl rfl rfl) rfl ?_;intro _)|refine Xb ?_|refine Xd ?_|(apply Xk;exact Ycw;exact rfl)|(apply Xi;exact rfl;first|(apply Xt;refine Xq (k:=1) (l0:=[]) rfl rfl rfl ?_)|(apply X5;(refine Wb rfl rfl ?_);intro _))))
       all_goals (refine Wc (_,_) trivial (Xg (by repeat (first|exact Xm|refine Xh rfl ?_)) Ybf))
     · obtain ⟨oa2,c2⟩:=x
       simp only
       rw [show A++[tkN m]=acc++(l.take (q+1)).flatMap PutV.toks by rw [hT,hxx];rfl]
       (repeat' (first|refine Xb ?_|refine Xd ?_|(apply Xk;exact Ya5;exact rfl)))
       exact ⟨(q+1,oa2,c2),by show q+1≤l.length;omega,by show l.length-(q+1)<l.length-q;omega,Xg (by repeat (first|exact Xm|refine Xh rfl ?_)) (List.Sublist.refl _)⟩
   | nm w=>
     constructor
     dsimp only
     try rw [hxx]
     simp only [Xpa]
     (repeat' (first|(apply Xy 22;apply Xk;exact Uc rfl rfl rfl)|(apply Xy 40;apply Xk;exact Se rfl rfl;exact rfl)|(apply W2 12;refine StopW.out ?_)|refine Xf ?_|refine Xb ?_|refine Xd ?_|(apply Xk;(first|exact Xj rfl|exact Ybw);exact rfl)|refine Xx rfl ?_|refine X2 rfl ?_))
     all_goals (try (exact rfl))
     refine ⟨?_⟩
     refine Wf (env':=[(8,exT w),(0,ex (.pointer (some ⟨b,0,none⟩))),(15,isl (Tq k) l),(16,exI .i64 l.length),(17,exI .i64 (q:Int))]) (loc':=Vv b oa1 c1 A) (Xg (by repeat (first|exact Xm|refine Xh rfl ?_)) Ycf) ?_
     refine Uy (fun x:Option Addr×Nat=>([(0,ex (.pointer (some ⟨b,0,none⟩))),(15,isl (Tq k) l),(16,exI .i64 l.length),(17,exI .i64 (q:Int))],Vv b x.1 x.2 (A++[tkW w]))) (fun _=>True) ?_ fun x _=>?_
     · unfold Vv
       (repeat' (first|(refine Xja (k:=2) rfl Yan ?_;intro _ _ hv;subst hv)|(apply Xi;exact rfl;apply V4;refine V5 (k:=2) (l0:=[]) rfl rfl (by exact Xbz (k:=0) (qs:=Xch (tkW w)) rfl rfl rfl) rfl ?_;intro _)|refine Xb ?_|refine Xd ?_|(apply Xk;exact Ycw;exact rfl)|(apply Xi;exact rfl;first|(apply Xt;refine Xq (k:=1) (l0:=[]) rfl rfl rfl ?_)|(apply X5;(refine Wb rfl rfl ?_);intro _))))
       all_goals (refine Wc (_,_) trivial (Xg (by repeat (first|exact Xm|refine Xh rfl ?_)) Ybf))
     · obtain ⟨oa2,c2⟩:=x
       simp only
       rw [show A++[tkW w]=acc++(l.take (q+1)).flatMap PutV.toks by rw [hT,hxx];rfl]
       (repeat' (first|refine Xb ?_|refine Xd ?_|(apply Xk;exact Ya5;exact rfl)))
       exact ⟨(q+1,oa2,c2),by show q+1≤l.length;omega,by show l.length-(q+1)<l.length-q;omega,Xg (by repeat (first|exact Xm|refine Xh rfl ?_)) (List.Sublist.refl _)⟩
   | s w=>
     have hw:=words13_any
     have hC:=S5 wordsL w Yar
     cases hr:Tk w
     all_goals (rw [show decide (w∈wordsL)=Tk w from rfl,hr] at hC)
     · constructor
       dsimp only
       try rw [hxx]
       simp only [Xpa]
       (repeat' (first|(apply Xy 22;apply Xk;exact Se rfl rfl;exact rfl)|(apply W2 9;refine StopW.out ?_)|refine Xf ?_|refine Xb ?_|refine Xd ?_|(apply Xk;(first|exact Xe rfl|exact Xj rfl|exact Ybw);exact rfl)|refine Xs ?_|refine Xx rfl ?_|refine X2 rfl ?_|(apply Xi;exact rfl;(apply Xn;first|(refine X9 Tryz.func166 rfl hw rfl ?_;rintro _ _ ⟨rfl,rfl⟩)|(refine X9 Tryz.func138 rfl hC rfl ?_;rintro _ _ ⟨rfl,rfl⟩)))))
       all_goals (try (exact rfl))
       all_goals (try (exfalso;first|contradiction|omega))
       refine ⟨?_⟩
       refine Wf (env':=[(6,exT w),(7,exI .i64 3),(0,ex (.pointer (some ⟨b,0,none⟩))),(15,isl (Tq k) l),(16,exI .i64 l.length),(17,exI .i64 (q:Int))]) (loc':=Vv b oa1 c1 A) (Xg (by repeat (first|exact Xm|refine Xh rfl ?_)) Ycf) ?_
       refine Uy (fun x:Option Addr×Nat=>([(0,ex (.pointer (some ⟨b,0,none⟩))),(15,isl (Tq k) l),(16,exI .i64 l.length),(17,exI .i64 (q:Int))],Vv b x.1 x.2 (A++[tkS w]))) (fun _=>True) ?_ fun x _=>?_
       · unfold Vv
         (repeat' (first|(refine Xja (k:=2) rfl Yan ?_;intro _ _ hv;subst hv)|(apply Xi;exact rfl;apply V4;refine V5 (k:=2) (l0:=[]) rfl rfl (by exact Xbz (k:=0) (qs:=Xch (tkS w)) rfl rfl rfl) rfl ?_;intro _)|refine Xb ?_|refine Xd ?_|(apply Xk;exact Ycw;exact rfl)|(apply Xi;exact rfl;first|(apply Xt;refine Xq (k:=1) (l0:=[]) rfl rfl rfl ?_)|(apply X5;(refine Wb rfl rfl ?_);intro _))))
         all_goals (refine Wc (_,_) trivial (Xg (by repeat (first|exact Xm|refine Xh rfl ?_)) Ybf))
       · obtain ⟨oa2,c2⟩:=x
         simp only
         rw [show A++[tkS w]=acc++(l.take (q+1)).flatMap PutV.toks by rw [hT,hxx];simp only [PutV.toks,sT,hr];rfl]
         (repeat' (first|refine Xb ?_|refine Xd ?_|(apply Xk;exact Ya5;exact rfl)))
         exact ⟨(q+1,oa2,c2),by show q+1≤l.length;omega,by show l.length-(q+1)<l.length-q;omega,Xg (by repeat (first|exact Xm|refine Xh rfl ?_)) (List.Sublist.refl _)⟩
     · constructor
       dsimp only
       try rw [hxx]
       simp only [Xpa]
       (repeat' (first|(apply Xy 22;apply Xk;exact Se rfl rfl;exact rfl)|(apply W2 9;refine StopW.out ?_)|refine Xf ?_|refine Xb ?_|refine Xd ?_|(apply Xk;(first|exact Xe rfl|exact Xj rfl|exact Ybw);exact rfl)|refine Xx rfl ?_|(apply Xi;exact rfl;(apply Xn;first|(refine X9 Tryz.func166 rfl hw rfl ?_;rintro _ _ ⟨rfl,rfl⟩)|(refine X9 Tryz.func138 rfl hC rfl ?_;rintro _ _ ⟨rfl,rfl⟩)))))
       all_goals (try (exact rfl))
       all_goals (try (exfalso;first|contradiction|omega))
       refine ⟨?_⟩
       refine Wf (env':=[(6,exT w),(7,exI .i64 1),(0,ex (.pointer (some ⟨b,0,none⟩))),(15,isl (Tq k) l),(16,exI .i64 l.length),(17,exI .i64 (q:Int))]) (loc':=Vv b oa1 c1 A) (Xg (by repeat (first|exact Xm|refine Xh rfl ?_)) Ycf) ?_
       refine Uy (fun x:Option Addr×Nat=>([(0,ex (.pointer (some ⟨b,0,none⟩))),(15,isl (Tq k) l),(16,exI .i64 l.length),(17,exI .i64 (q:Int))],Vv b x.1 x.2 (A++[tkW w]))) (fun _=>True) ?_ fun x _=>?_
       · unfold Vv
         (repeat' (first|(refine Xja (k:=2) rfl Yan ?_;intro _ _ hv;subst hv)|(apply Xi;exact rfl;apply V4;refine V5 (k:=2) (l0:=[]) rfl rfl (by exact Xbz (k:=0) (qs:=Xch (tkW w)) rfl rfl rfl) rfl ?_;intro _)|refine Xb ?_|refine Xd ?_|(apply Xk;exact Ycw;exact rfl)|(apply Xi;exact rfl;first|(apply Xt;refine Xq (k:=1) (l0:=[]) rfl rfl rfl ?_)|(apply X5;(refine Wb rfl rfl ?_);intro _))))
         all_goals (refine Wc (_,_) trivial (Xg (by repeat (first|exact Xm|refine Xh rfl ?_)) Ybf))
       · obtain ⟨oa2,c2⟩:=x
         simp only
         rw [show A++[tkW w]=acc++(l.take (q+1)).flatMap PutV.toks by rw [hT,hxx];simp only [PutV.toks,sT,hr];rfl]
         (repeat' (first|refine Xb ?_|refine Xd ?_|(apply Xk;exact Ya5;exact rfl)))
         exact ⟨(q+1,oa2,c2),by show q+1≤l.length;omega,by show l.length-(q+1)<l.length-q;omega,Xg (by repeat (first|exact Xm|refine Xh rfl ?_)) (List.Sublist.refl _)⟩
   | xx x=>
     have hlx:A.length+(exT' x).length≤70000:=by
       have h2:=congrArg List.length hT
       have h1:l.flatMap PutV.toks=(l.take (q+1)).flatMap PutV.toks++(l.drop (q+1)).flatMap PutV.toks:=by rw [←List.flatMap_append,List.take_append_drop]
       rw [h1,List.length_append] at hlen
       rw [hxx] at h2
       simp only [List.length_append,PutV.toks] at h2
       omega
     have he:=hexp hx x b oa1 c1 A hlx
     constructor
     dsimp only
     try rw [hxx]
     simp only [Xpa]
     (repeat' (first|(apply Xy 22;apply Xk;exact Uc rfl rfl rfl)|(apply Xy 40;apply Xk;exact Uc rfl rfl rfl)|(apply Xy 54;apply Xk;exact Uc rfl rfl rfl)|(apply Xy 68;apply Xk;exact Uc rfl rfl rfl)|(apply Xy 90;apply Xk;exact Uc rfl rfl rfl)|(apply Xy 113;apply Xk;exact Se rfl rfl;exact rfl)|(apply W2 33;refine StopW.out ?_)|refine Xf ?_|refine Xb ?_|refine Xd ?_|(apply Xk;(first|exact Xe rfl|exact Ybw|exact Ych);exact rfl)|refine Xx rfl ?_|refine X2 rfl ?_|(apply Xi;exact rfl;first|(apply Xn;(refine Xl (.one 1 rfl (.one 1 rfl .nil)) Tryz.func167 rfl he rfl ?_;rintro _ _ ⟨oa2,c2,rfl⟩))|(apply Wh;refine X7 ?_;intro _)|(apply Xt;refine Xq (k:=0) (l0:=[]) rfl rfl rfl ?_))))
     all_goals (try (exact rfl))
     refine ⟨?_⟩
     refine Wf (env':=[(0,ex (.pointer (some ⟨b,0,none⟩))),(15,isl (Tq k) l),(16,exI .i64 l.length),(17,exI .i64 (q:Int))]) (loc':=Vv b oa2 c2 (A++exT' x)) (Xg (by repeat (first|exact Xm|refine Xh rfl ?_)) (List.sublist_append_left _ _)) ?_
     rw [show A++exT' x=acc++(l.take (q+1)).flatMap PutV.toks by rw [hT,hxx];rfl]
     (repeat' (first|refine Xb ?_|refine Xd ?_|(apply Xk;exact Ya5;exact rfl)))
     exact ⟨(q+1,oa2,c2),by show q+1≤l.length;omega,by show l.length-(q+1)<l.length-q;omega,Xg (by repeat (first|exact Xm|refine Xh rfl ?_)) (List.Sublist.refl _)⟩
   | pt x=>
     have hlx:A.length+(Xah (x.kind,exT' x)).length≤70000:=by
       have h2:=congrArg List.length hT
       have h1:l.flatMap PutV.toks=(l.take (q+1)).flatMap PutV.toks++(l.drop (q+1)).flatMap PutV.toks:=by rw [←List.flatMap_append,List.take_append_drop]
       rw [h1,List.length_append] at hlen
       rw [hxx] at h2
       simp only [List.length_append,PutV.toks] at h2
       omega
     constructor
     dsimp only
     try rw [hxx]
     simp only [Xpa]
     (repeat' (first|(apply Xy 22;apply Xk;exact Uc rfl rfl rfl)|(apply Xy 40;apply Xk;exact Uc rfl rfl rfl)|(apply Xy 54;apply Xk;exact Uc rfl rfl rfl)|(apply Xy 68;apply Xk;exact Uc rfl rfl rfl)|(apply Xy 90;apply Xk;exact Se rfl rfl;exact rfl)|(apply W2 27;refine StopW.out ?_)|refine Xf ?_|refine Xb ?_|refine Xd ?_|(apply Xk;(exact Wi rfl rfl);exact rfl)|refine Xx rfl ?_|refine X2 rfl ?_|(apply Xi;exact rfl;first|(apply Wh;refine X7 ?_;intro _)|(apply Xt;refine Xq (k:=0) (l0:=[]) rfl rfl rfl ?_))))
     all_goals (try (exact rfl))
     refine ⟨?_⟩
     rename_i b14
     refine Wf (env':=[(13,ex (.pointer (some ⟨b14,0,none⟩))),(0,ex (.pointer (some ⟨b,0,none⟩))),(15,isl (Tq k) l),(16,exI .i64 l.length),(17,exI .i64 (q:Int))]) (loc':=row b14 222 5 (exV k x)::Vv b oa1 c1 A) (Xg (by repeat (first|exact Xm|refine Xh rfl ?_)) (List.Sublist.refl _)) ?_
     by_cases hk:x.kind=6∨x.kind=7
     · have hpt:Xah (x.kind,exT' x)=[PutV.s [40],.xx x,.s [41]].flatMap PutV.toks:=by
         unfold Xah
         rw [if_pos hk]
         show _=sT [40]::(exT' x++[sT [41]])
         rfl
       rw [hpt] at hlx
       have hp:=hput [.s [40],.xx x,.s [41]] Ybn (by have h2:2≤n:=hx;intro y hy;simp only [List.mem_cons,List.not_mem_nil,or_false] at hy;rcases hy with rfl|rfl|rfl<;>simp only [PutV.lvl]<;>omega) b oa1 c1 A hlx
       (repeat' (first|(apply W2 28;refine StopW.out ?_)|refine Xb ?_|refine Xd ?_|(apply Xk;(first|exact Xe rfl|exact Wk (b:=true) rfl (fun _=>rfl) (fun e=>by cases e)|exact Wk (b:=false) rfl (fun e=>by cases e) (fun _=>rfl)|exact Yaf|exact Yad|exact Ybc);exact rfl)|(refine Ve rfl rfl rfl rfl rfl ?_)|(apply Vh;exact rfl;exact rfl;exact rfl;(first|exact Yaf|exact Yad|exact Ybc);exact rfl)|refine Xx rfl ?_|(refine W0 rfl rfl (fun hb=>?_) (fun hb=>?_)<;>(repeat (first|replace hb:=X0 hb|replace hb:=X1 hb))<;>(try (exfalso;fail)))|(refine Xo rfl (fun hb=>?_) (fun hb=>?_)<;>(repeat (first|replace hb:=X0 hb|replace hb:=X1 hb))<;>(try (exfalso;omega)))))
       all_goals (try (exfalso;omega))
       all_goals (refine ⟨?_⟩)
       all_goals (refine Wf (env':=[(13,ex (.pointer (some ⟨b14,0,none⟩))),(0,ex (.pointer (some ⟨b,0,none⟩))),(15,isl (Tq k) l),(16,exI .i64 l.length),(17,exI .i64 (q:Int))]) (loc':=row b14 222 5 (exV k x)::Vv b oa1 c1 A) (Xg (by repeat (first|exact Xm|refine Xh rfl ?_)) (List.Sublist.refl _)) ?_)
       all_goals ((repeat' (first|(apply Xy 102;apply Xk;exact Ri rfl rfl;exact rfl)|(apply Xy 104;apply Xk;exact Ri rfl rfl;exact rfl)|(apply Xy 105;apply Xk;exact Ri rfl rfl;exact rfl)|(apply Xy 107;refine Wj (k:=0) (E:=Tq k) (t:=106) [.s [40],.xx x,.s [41]] rfl rfl rfl rfl ?_ (hc:=by decide) (hby:=by show _ * 16≤140737488355328;decide))|(apply W2 33;refine StopW.out ?_)|refine Xb ?_|refine Xd ?_|(apply Xk;(first|exact Xe rfl|exact Ych);exact rfl)|(apply Xi;exact rfl;first|(apply Xn;(refine Xl (.one 1 rfl (.one 1 rfl .nil)) Tryz.func104 rfl hp rfl ?_;rintro _ _ ⟨oa2,c2,rfl⟩))|(apply X5;(refine Wq rfl Yac ?_);intro _)))))
       all_goals (try (exact rfl))
       all_goals (refine ⟨?_⟩)
       all_goals (refine Wf (env':=[(0,ex (.pointer (some ⟨b,0,none⟩))),(15,isl (Tq k) l),(16,exI .i64 l.length),(17,exI .i64 (q:Int))]) (loc':=Vv b oa2 c2 (A++Xah (x.kind,exT' x))) (Xg (by repeat (first|exact Xm|refine Xh rfl ?_)) (by rw [hpt];exact List.sublist_append_left _ _)) ?_)
       all_goals (rw [show A++Xah (x.kind,exT' x)=acc++(l.take (q+1)).flatMap PutV.toks by rw [hT,hxx];rfl])
       all_goals ((repeat' (first|refine Xb ?_|refine Xd ?_|(apply Xk;exact Ya5;exact rfl))))
       all_goals (exact ⟨(q+1,oa2,c2),by show q+1≤l.length;omega,by show l.length-(q+1)<l.length-q;omega,Xg (by repeat (first|exact Xm|refine Xh rfl ?_)) (List.Sublist.refl _)⟩)
     · have hpt:Xah (x.kind,exT' x)=[PutV.xx x].flatMap PutV.toks:=by
         unfold Xah
         rw [if_neg hk]
         show _=exT' x++[]
         rw [List.append_nil]
       rw [hpt] at hlx
       have hp:=hput [.xx x] Ybn (by have h2:2≤n:=hx;intro y hy;simp only [List.mem_cons,List.not_mem_nil,or_false] at hy;rcases hy with rfl;simp only [PutV.lvl];omega) b oa1 c1 A hlx
       (repeat' (first|(apply W2 29;refine StopW.out ?_)|refine Xb ?_|refine Xd ?_|(apply Xk;(first|exact Xe rfl|exact Wk (b:=false) rfl (fun e=>by cases e) (fun _=>rfl)|exact Yaf|exact Yad|exact Ybc);exact rfl)|(apply Vh;exact rfl;exact rfl;exact rfl;(first|exact Yaf|exact Yad|exact Ybc);exact rfl)|(refine W0 rfl rfl (fun hb=>?_) (fun hb=>?_)<;>(repeat (first|replace hb:=X0 hb|replace hb:=X1 hb))<;>(try (exfalso;omega)))|(refine Xo rfl (fun hb=>?_) (fun hb=>?_)<;>(repeat (first|replace hb:=X0 hb|replace hb:=X1 hb))<;>(try (exfalso;omega)))))
       all_goals (try (exfalso;omega))
       all_goals (refine ⟨?_⟩)
       all_goals (refine Wf (env':=[(13,ex (.pointer (some ⟨b14,0,none⟩))),(0,ex (.pointer (some ⟨b,0,none⟩))),(15,isl (Tq k) l),(16,exI .i64 l.length),(17,exI .i64 (q:Int))]) (loc':=row b14 222 5 (exV k x)::Vv b oa1 c1 A) (Xg (by repeat (first|exact Xm|refine Xh rfl ?_)) (List.Sublist.refl _)) ?_)
       all_goals ((repeat' (first|(apply Xy 110;apply Xk;exact Ri rfl rfl;exact rfl)|(apply Xy 112;refine Wj (k:=0) (E:=Tq k) (t:=111) [.xx x] rfl rfl rfl rfl ?_ (hc:=by decide) (hby:=by show _ * 16≤140737488355328;decide))|(apply W2 33;refine StopW.out ?_)|refine Xb ?_|refine Xd ?_|(apply Xk;(first|exact Xe rfl|exact Ych);exact rfl)|(apply Xi;exact rfl;first|(apply Xn;(refine Xl (.one 1 rfl (.one 1 rfl .nil)) Tryz.func104 rfl hp rfl ?_;rintro _ _ ⟨oa2,c2,rfl⟩))|(apply X5;(refine Wb rfl rfl ?_);intro _)))))
       all_goals (try (exact rfl))
       all_goals (refine ⟨?_⟩)
       all_goals (refine Wf (env':=[(0,ex (.pointer (some ⟨b,0,none⟩))),(15,isl (Tq k) l),(16,exI .i64 l.length),(17,exI .i64 (q:Int))]) (loc':=Vv b oa2 c2 (A++Xah (x.kind,exT' x))) (Xg (by repeat (first|exact Xm|refine Xh rfl ?_)) (by rw [hpt];exact List.sublist_append_left _ _)) ?_)
       all_goals (rw [show A++Xah (x.kind,exT' x)=acc++(l.take (q+1)).flatMap PutV.toks by rw [hT,hxx];rfl])
       all_goals ((repeat' (first|refine Xb ?_|refine Xd ?_|(apply Xk;exact Ya5;exact rfl))))
       all_goals (exact ⟨(q+1,oa2,c2),by show q+1≤l.length;omega,by show l.length-(q+1)<l.length-q;omega,Xg (by repeat (first|exact Xm|refine Xh rfl ?_)) (List.Sublist.refl _)⟩)
   | il m=>
     have hlx:A.length+(commaT m).length≤70000:=by
       have h2:=congrArg List.length hT
       have h1:l.flatMap PutV.toks=(l.take (q+1)).flatMap PutV.toks++(l.drop (q+1)).flatMap PutV.toks:=by rw [←List.flatMap_append,List.take_append_drop]
       rw [h1,List.length_append] at hlen
       rw [hxx] at h2
       simp only [List.length_append,PutV.toks] at h2
       omega
     have hml:=commaT_len m
     have hn1:1≤n:=hx
     constructor
     dsimp only
     try rw [hxx]
     simp only [Xpa]
     (repeat' (first|(apply Xy 22;apply Xk;exact Uc rfl rfl rfl)|(apply Xy 40;apply Xk;exact Uc rfl rfl rfl)|(apply Xy 54;apply Xk;exact Uc rfl rfl rfl)|(apply Xy 68;apply Xk;exact Se rfl rfl;exact rfl)|refine Xf ?_|refine Xb ?_|refine Xd ?_|(apply Xk;(first|exact Xe rfl|exact Xj rfl|exact Ybw|exact Yaq);exact rfl)|refine Xp ?_|refine Xx rfl ?_|refine X2 rfl ?_))
     all_goals (try (exact rfl))
     refine W1 (fun z:Nat×Option Addr×Nat=>([(0,ex (.pointer (some ⟨b,0,none⟩))),(15,isl (Tq k) l),(16,exI .i64 l.length),(17,exI .i64 (q:Int)),(71,isl eI m),(72,exI .i64 m.length),(73,exI .i64 (z.1:Int))],Vv b z.2.1 z.2.2 (A++commaT (m.take z.1)))) (fun z=>z.1≤m.length) (fun z=>m.length-z.1) (0,oa1,c1) ?_ (Nat.zero_le _) fun z hz=>?_
     · exact Xg (by repeat (first|exact Xm|refine Xh rfl ?_)) (by show List.Sublist (Vv b oa1 c1 (A++[])) _;rw [List.append_nil];exact List.Sublist.refl _)
     obtain ⟨j,oa3,c3⟩:=z
     simp only at hz
     by_cases hj:j<m.length
     · have hct:=commaT_take m j hj
       have hcl:(commaT (m.take (j+1))).length≤(commaT m).length:=commaT_mono m (j+1)
       have hmj: ∀(oa:Option Addr) (c:Nat) (acc2:List TokD),acc2.length+1≤70000→FnC Tryz.prog 104 [ex (.pointer (some ⟨b,0,none⟩)),isl (Tq k) [.i m[j]]] (Vv b oa c acc2) (fun _ loc=> ∃oa' c',loc=Vv b oa' c' (acc2++[tkN m[j]])):=fun oa c acc2 h2=>hput [.i m[j]] Ybn (by intro y hy;rw [List.mem_singleton.1 hy];exact hn1) b oa c acc2 h2
       have hce: ∀(oa:Option Addr) (c:Nat) (acc2:List TokD),acc2.length+1≤70000→FnC Tryz.prog 104 [ex (.pointer (some ⟨b,0,none⟩)),isl (Tq k) [.s sComma]] (Vv b oa c acc2) (fun _ loc=> ∃oa' c',loc=Vv b oa' c' (acc2++[tkS sComma])):=fun oa c acc2 h2=>hput [.s sComma] Ybn (by intro y hy;rw [List.mem_singleton.1 hy];exact hn1) b oa c acc2 h2
       by_cases hj0:j=0
       · rw [if_pos hj0,List.nil_append] at hct
         have hp:=hmj oa3 c3 (A++commaT (m.take j)) (by rw [hct,List.length_append,List.length_singleton] at hcl;rw [List.length_append];omega)
         rw [List.append_assoc,←hct] at hp
         (repeat' (first|(apply Xy 86;apply Xk;exact Ri rfl rfl;exact rfl)|(apply Xy 88;refine Wj (k:=0) (E:=Tq k) (t:=87) [.i m[j]] rfl rfl rfl rfl ?_ (hc:=by decide) (hby:=by show _ * 16≤140737488355328;decide))|refine Xf ?_|refine Xb ?_|refine Xd ?_|(apply Xk;(first|exact Xe rfl|exact Xj rfl|exact Yag|exact Ybz|exact Yae);exact rfl)|refine Xp ?_|refine Xs ?_|(apply Xi;exact rfl;first|(apply Xn;(refine Xl (.one 0 rfl (.one 0 rfl .nil)) Tryz.func104 rfl hp rfl ?_;rintro _ _ ⟨oa4,c4,rfl⟩))|(apply X5;(refine Wb rfl rfl ?_);intro _))|(refine Xo rfl (fun hb=>?_) (fun hb=>?_)<;>(repeat (first|replace hb:=X0 hb|replace hb:=X1 hb))<;>(try (exfalso;omega)))))
         all_goals (try (exfalso;omega))
         exact ⟨(j+1,oa4,c4),by show j+1≤m.length;omega,by show m.length-(j+1)<m.length-j;omega,Xg (by repeat (first|exact Xm|refine Xh rfl ?_)) (List.sublist_append_left _ _)⟩
       · rw [if_neg hj0] at hct
         have hl2:(A++commaT (m.take j)).length+2≤70000:=by rw [hct,List.length_append,List.length_append,List.length_singleton,List.length_singleton] at hcl;rw [List.length_append];omega
         have hp1:=hce oa3 c3 (A++commaT (m.take j)) Yan
         have hp2:=fun oa c=>hmj oa c (A++commaT (m.take j)++[tkS sComma]) (by rw [List.length_append,List.length_singleton];omega)
         rw [show A++commaT (m.take j)++[tkS sComma]++[tkN m[j]]=A++commaT (m.take (j+1)) by rw [hct];simp only [List.append_assoc]] at hp2
         (repeat' (first|(apply Xy 81;apply Xk;exact Ri rfl rfl;exact rfl)|(apply Xy 86;apply Xk;exact Ri rfl rfl;exact rfl)|(apply Xy 83;refine Wj (k:=0) (E:=Tq k) (t:=82) [.s sComma] rfl rfl rfl rfl ?_ (hc:=by decide) (hby:=by show _ * 16≤140737488355328;decide))|(apply Xy 88;refine Wj (k:=0) (E:=Tq k) (t:=87) [.i m[j]] rfl rfl rfl rfl ?_ (hc:=by decide) (hby:=by show _ * 16≤140737488355328;decide))|refine Xf ?_|refine Xb ?_|refine Xd ?_|(apply Xk;(first|exact Xe rfl|exact Xj rfl|exact Yag|exact Ybz|exact Yae);exact rfl)|refine Xp ?_|refine Xs ?_|(apply Xi;exact rfl;first|(apply Xn;first|(refine Xl (.one 0 rfl (.one 0 rfl .nil)) Tryz.func104 rfl hp1 rfl ?_;rintro _ _ ⟨oa4,c4,rfl⟩)|(refine Xl (.one 0 rfl (.one 0 rfl .nil)) Tryz.func104 rfl (hp2 _ _) rfl ?_;rintro _ _ ⟨oa5,c5,rfl⟩))|(apply X5;(refine Wb rfl rfl ?_);intro _))|(refine Xo rfl (fun hb=>?_) (fun hb=>?_)<;>(repeat (first|replace hb:=X0 hb|replace hb:=X1 hb))<;>(try (exfalso;omega)))))
         all_goals (try (exfalso;omega))
         exact ⟨(j+1,oa5,c5),by show j+1≤m.length;omega,by show m.length-(j+1)<m.length-j;omega,Xg (by repeat (first|exact Xm|refine Xh rfl ?_)) (List.sublist_append_left _ _)⟩
     · (repeat' (first|refine Xf ?_|refine Xb ?_|refine Xd ?_|(apply Xk;(first|exact Xe rfl|exact Ybe);exact rfl)|refine Wy ?_|(refine Xo rfl (fun hb=>?_) (fun hb=>?_)<;>(repeat (first|replace hb:=X0 hb|replace hb:=X1 hb))<;>(try (exfalso;omega)))))
       have hq:j=m.length:=by omega
       subst hq
       exact ⟨(q+1,oa3,c3),by show q+1≤l.length;omega,by show l.length-(q+1)<l.length-q;omega,Xg (by repeat (first|exact Xm|refine Xh rfl ?_)) (by show List.Sublist (Vv b oa3 c3 (acc++(l.take (q+1)).flatMap PutV.toks)) (Vv b oa3 c3 (A++commaT (m.take m.length)));rw [hT,hxx,List.take_length];exact List.Sublist.refl _)⟩
 · (repeat' (first|refine Xf ?_|refine Xb ?_|refine Xd ?_|(apply Xk;(exact Yak);exact rfl)|refine Wy ?_|(refine Xo rfl (fun hb=>?_) (fun hb=>?_)<;>(repeat (first|replace hb:=X0 hb|replace hb:=X1 hb))<;>(try (exfalso;omega)))))
   have hq:q=l.length:=by omega
   subst hq
   refine ⟨.inl rfl,Rn (loc':=Vv b oa1 c1 (acc++l.flatMap PutV.toks)) rfl (by show List.Sublist _ (Vv b oa1 c1 (acc++(l.take l.length).flatMap PutV.toks));rw [List.take_length];exact List.Sublist.refl _) ⟨oa1,c1,rfl⟩⟩
end Go.Proofs.YthdldeenpgeemaaGreatDoor
namespace Go.Fr
open Go.RowKit Go.Kx
def Xlq (C:Cx) (env:Env) (loc:List Ent) (env':Env) (loc':List Ent):Prop:= ∀F a w,Rel C F env loc a w→ ∃F':Nat→Prop,(∀b,F b→F' b)∧Rel C F' env' loc' a w
theorem Xj5 {C:Cx} {H:Nat→Prop} {n:Nat} {ops:Array Oper} {Q:Post} {fuel:Nat} {listed:Array Bool} {env env':Env} {loc loc':List Ent} (hl:Xlq C env loc env' loc') (h:WPY C H n ops Q fuel listed env' loc'):WPY C H n ops Q fuel listed env loc:=
 ⟨fun F a w hR=>let ⟨F',hF,hR'⟩:=hl F a w hR;Sy (fun _ hs b hb hx=>hs b hb (hx.imp (hF b) id)) _ _ _ _ (h.out F' a w hR')⟩
theorem Xew {C:Cx} {env:Env} {l1 l2:List Ent} {b T tot:Nat} {ps:List SP} {α:Type} {E:Enc α} {fs:α→List SP} {l:List α} {n c:Nat} (hE:Fits E fs) (h0: ∀a,(fs a).length=E.size) (hps:ps=l.flatMap fs) (hn:l.length=n) (htot:tot=c * E.size) (hpos:0<E.size) (hc:c≤maxLen) (hby:n * E.bytes≤140737488355328) {t:Nat} (ht:look t env=some (ex (.slice (some ⟨b,0,none⟩) n c))):
   Xlq C env (l1++row b T tot ps::l2) ((t,isl E l)::env) (l1++l2):=by
 intro F a w hR
 have hmem:row b T tot ps∈(l1++row b T tot ps::l2)++C.out:=by simp
 obtain ⟨cur,h1,h2,h3⟩:=hR.good.rel _ hmem
 have hb:=hR.good.lt _ hmem b Ydz
 have hm: ∀k,F k→k<w.heap.size→(F k∨k=b)∧w.heap[k]?=w.heap[k]?:=fun k hk _=>⟨.inl hk,rfl⟩
 have hsub:(l1++l2++C.out).Sublist ((l1++row b T tot ps::l2)++C.out):=((List.Sublist.refl l1).append (List.sublist_cons_self _ _)).append (List.Sublist.refl _)
 have hdis: ∀e∈l1++l2++C.out,b∉e.foot:=by
   intro e he hbe
   have hd:=hR.good.disj
   rw [List.append_assoc,List.cons_append] at hd
   rw [List.append_assoc] at he
   have hd2:=List.pairwise_append.1 hd
   rcases List.mem_append.1 he with he|he
   · exact hd2.2.2 e he _ List.mem_cons_self b hbe Ydz
   · exact (List.pairwise_cons.1 hd2.2.1).1 e he b Ydz hbe
 have hle:n≤c:=by
   rcases Nat.eq_zero_or_pos n with h|h
   · omega
   · have hpl:ps.length=n * E.size:=by
       rw [hps,Ud h0,hn]
     have:0<ps.length:=by rw [hpl];exact Nat.mul_pos h hpos
     obtain ⟨v,h4,_⟩:=h3 (ps.length-1) ps[ps.length-1] (List.getElem?_eq_getElem Yan)
     have h5:=(Array.getElem?_eq_some_iff.1 h4).1
     have h6:n * E.size≤c * E.size:=by omega
     exact Nat.le_of_mul_le_mul_right h6 hpos
 have hcells: ∀i (hi:i<l.length),CellsR (fun k=>F k∨k=b) w (fs l[i]) ((cur.toList.drop (i * E.size)).take E.size):=by
   intro i hi
   have key: ∀j,j<E.size→ps[i * E.size+j]?=(fs l[i])[j]?:=by
     intro j hj
     rw [hps]
     clear hps hn ht hmem h1 h2 h3 hm hsub hdis
     induction l generalizing i with
     | nil=>simp at hi
     | cons x xs ih=>
       rw [List.flatMap_cons]
       cases i with
       | zero=>simp only [Nat.zero_mul,Nat.zero_add,List.getElem_cons_zero];rw [List.getElem?_append_left Yd5]
       | succ i=>
         rw [List.getElem?_append_right (by rw [h0,Nat.succ_mul];omega),h0,List.getElem_cons_succ]
         rw [←ih i Ydt]
         congr 1
         rw [Nat.succ_mul];omega
   have hall: ∀j,j<E.size→ ∃v p,(fs l[i])[j]?=some p∧cur[i * E.size+j]?=some v∧p.rel F w v:=fun j hj=>by
     have hp:(fs l[i])[j]?=some ((fs l[i])[j]'Yd5):=List.getElem?_eq_getElem _
     obtain ⟨v,h4,h5⟩:=h3 _ _ ((key j hj).trans hp)
     exact ⟨v,_,hp,h4,h5⟩
   refine ⟨?_,fun j p hp=>?_⟩
   · rw [List.length_take,List.length_drop,Array.length_toList,h0]
     rcases Nat.eq_zero_or_pos E.size with h|h
     · omega
     · obtain ⟨v,p,_,h4,_⟩:=hall (E.size-1) Yan
       have:=(Array.getElem?_eq_some_iff.1 h4).1
       omega
   · have hj:j<E.size:=by rw [←h0 l[i]];exact (List.getElem?_eq_some_iff.1 hp).1
     obtain ⟨v,q,h4,h5,h6⟩:=hall j hj
     rw [hp] at h4;cases h4
     exact ⟨v,by rw [List.getElem?_take,if_pos hj,List.getElem?_drop,Array.getElem?_toList];exact h5,p.mono h6 hm⟩
 have hsl:Sl E (fun k=>F k∨k=b) w (some ⟨b,0,none⟩) n c l:=by
   refine ⟨hn,hle,hc,hby,(fun h=>by cases h),fun i hi=>⟨b,0,_,rfl,.inr rfl,hb.1,?_,fun j hj=>?_,hE.inn (hcells i hi)⟩⟩
   · rw [(hcells i hi).len,h0]
   · rw [List.getElem?_take,if_pos hj,List.getElem?_drop,Array.getElem?_toList]
     simp [World.cell?,h1]
 refine ⟨fun k=>F k∨k=b,fun _ h=> .inl h,⟨fun e he=>e.mono (hR.good.rel e (hsub.subset he)) hm fun _ _=>rfl,fun e he k hk=>⟨(hR.good.lt e (hsub.subset he) k hk).1,?_⟩,hR.good.disj.sublist hsub⟩,fun t' q hq=>?_,hR.size,hR.defers,hR.ch,fun e he=>hR.own e ?_,fun k hk hlt=> .inl (hR.grow k hk hlt)⟩
 · rintro (h|rfl)
   · exact (hR.good.lt e (hsub.subset he) k hk).2 h
   · exact hdis e he hk
 · rw [Um] at hq
   split at hq
   · rename_i e;cases hq;subst e
     have hv:a.tmps.getD t' undef= .slice (some ⟨b,0,none⟩) n c:=hR.env _ _ ht
     rw [hv]
     exact ⟨_,_,_,rfl,hsl⟩
   · exact q.mono (hR.env t' q hq) hm
 · rcases List.mem_append.1 he with h|h
   · exact List.mem_append_left _ h
   · exact List.mem_append_right _ (List.mem_cons_of_mem _ h)
theorem Xhn {C:Cx} {env:Env} {loc:List Ent} {k b T n c t tot:Nat} {ps:List SP} {α:Type} {E:Enc α} {fs:α→List SP} (l:List α) (ht:look t env=some (ex (.slice (some ⟨b,0,none⟩) n c))) (he:loc[k]?=some (row b T tot ps)) [hE:Fits E fs] (hps:ps=l.flatMap fs) (hn:l.length=n) (htot:tot=c * E.size) (hc:c≤maxLen) (hf0: ∀a,(fs a).length=E.size) (hpos:0<E.size) (hby:n * E.bytes≤140737488355328):Xlq C env loc ((t,isl E l)::env) (loc.eraseIdx k):=by
 have hk:=List.getElem?_eq_some_iff.1 he
 have e1:loc=loc.take k++row b T tot ps::loc.drop (k+1):=by
   conv=>lhs;rw [←List.take_append_drop k loc]
   rw [List.drop_eq_getElem_cons hk.1,hk.2]
 have e2:loc.eraseIdx k=loc.take k++loc.drop (k+1):=List.eraseIdx_eq_take_drop_succ _ _
 rw [e2]
 conv=>arg 3;rw [e1]
 exact Xew hE hf0 hps hn htot hpos hc hby ht
theorem Xax {C:Cx} {H:Nat→Prop} {n0:Nat} {ops:Array Oper} {Q:Post} {fuel:Nat} {listed:Array Bool} {env:Env} {loc:List Ent} {k b T n c t tot:Nat} {ps:List SP} {α:Type} {E:Enc α} {fs:α→List SP} (l:List α) (ht:look t env=some (ex (.slice (some ⟨b,0,none⟩) n c))) (he:loc[k]?=some (row b T tot ps)) [hE:Fits E fs] (hps:ps=l.flatMap fs) (hn:l.length=n) (h:WPY C H n0 ops Q fuel listed ((t,isl E l)::env) (loc.eraseIdx k)) (htot:tot=c * E.size:=by first|rfl|omega) (hc:c≤maxLen:=by first|assumption|omega|(simp only [maxLen];omega)) (hf0: ∀a,(fs a).length=E.size:=by exact fun _=>rfl) (hpos:0<E.size:=by first|decide|exact Yd7) (hby:n * E.bytes≤140737488355328:=by first|omega|(simp only [eSl,eByte];omega)):WPY C H n0 ops Q fuel listed env loc:=
 Xj5 (Xhn l ht he hps hn htot hc hf0 hpos hby) h
section
variable {C:Cx} {H:Nat→Prop} {env:Env} {loc:List Ent} {dst:Option Tmp} {ty:TypeId} {pos:String} {af:Array Edge} {g:Option (Nat×Bool)}
theorem Xlr {κ:Type} [DecidableEq κ] [MK κ] {m:List (κ×SP)} {k:κ} {p:SP} {t kt et:TypeId} {dk:TypeDesc} {x y:Operand} (hx:ev env x=some (U0 m)) (hy:ev env y=some (ex (MK.val k))) (hl:Uq m k=some p) (ht:C.P.underlying t=some (.map kt et)) (hk:C.P.underlying kt=some dk) (hok:MK.ok κ dk):WT C (Xca H) ⟨dst,.lookup t x y false,ty,pos,af,g⟩ p env loc:=by
 constructor
 intro F a w hR
 obtain ⟨b,hv,h1,h2,h3⟩:=X8 hR hx
 have hvy:a.eval y=MK.val k:=X8 hR hy
 obtain ⟨es,clock,h4,h5,h6⟩:=h3
 obtain ⟨i,v,h7,h8,_⟩:=Sp hok m es.toList 0 (by simpa using h5) (fun i k p hp=>by simpa using h6 i k p hp) hl
 refine ⟨v,h8,fun w' hs=>?_⟩
 have hf:=Sh (P:=C.P) hk h7
 have hb:=hs b h2 (.inl h1)
 generalize a.eval=ρ at hv hvy ⊢
 simp [execOp,hv,hvy,Instr.lookup,Vz ht,go_sem,Go.MapKept.run_getObj_map (hb.trans h4),MK.check hk hok,hf]
theorem Xj6 {κ:Type} [DecidableEq κ] [MK κ] {m:List (κ×SP)} {k:κ} {t kt et:TypeId} {dk:TypeDesc} {x y:Operand} {sz bt:Nat} {z:Value} (hx:ev env x=some (U0 m)) (hy:ev env y=some (ex (MK.val k))) (hl:Uq m k=none) (ht:C.P.underlying t=some (.map kt et)) (hk:C.P.underlying kt=some dk) (hok:MK.ok κ dk) [hT:TI C.P et sz bt z]:WT C (Xca H) ⟨dst,.lookup t x y false,ty,pos,af,g⟩ (ex z) env loc:=by
 constructor
 intro F a w hR
 obtain ⟨b,hv,h1,h2,h3⟩:=X8 hR hx
 have hvy:a.eval y=MK.val k:=X8 hR hy
 refine ⟨z,rfl,fun w' hs=>?_⟩
 have hr:=Xaj (w':=w') (hT:=hT) ht hk hok h3 (hs b h2 (.inl h1)) hl false
 generalize a.eval=ρ at hv hvy ⊢
 simp [execOp,hv,hvy,hr,go_sem]
end
end Go.Fr
namespace Go.Sx
open Go.Lx Go.Fr
def partsM:List (Int×SP):=[(6,exI .i64 2),(7,exI .i64 2),(9,exI .i64 2),(10,exI .i64 2),(8,exI .i64 1),(11,exI .i64 4)]
theorem Xi4 (k:Int):k=6∨k=7∨k=9∨k=10∨k=8∨k=11∨(Rh k=0∧Uq partsM k=none):=by
 by_cases h:k=6∨k=7∨k=9∨k=10∨k=8∨k=11
 · omega
 · refine .inr (.inr (.inr (.inr (.inr (.inr ⟨?_,?_⟩)))))
   · unfold Rh;rw [if_neg Yan,if_neg Yan,if_neg Yan]
   · simp only [partsM,Uq]
     rw [if_neg Yan,if_neg Yan,if_neg Yan,if_neg Yan,if_neg Yan,if_neg Yan]
theorem Xj7 (k:Int) (h:Rh k≠0):Uq partsM k=some (exI .i64 (Rh k)):=by
 rcases Xi4 k with rfl|rfl|rfl|rfl|rfl|rfl|⟨h0,_⟩
 all_goals first|rfl|exact absurd h0 h
theorem Xj8 (k:Int) (h:Rh k=0):Uq partsM k=none:=by
 rcases Xi4 k with rfl|rfl|rfl|rfl|rfl|rfl|⟨_,h0⟩
 all_goals first|exact h0|exact absurd h Yar
section
variable {C:Cx} {H:Nat→Prop} {env:Env} {loc:List Ent} {dst:Option Tmp} {ty:TypeId} {pos:String} {af:Array Edge} {g:Option (Nat×Bool)}
theorem Xoa {kd:Int} {t kt et:TypeId} {dk:TypeDesc} {x y:Operand} {bt:Nat} (hx:ev env x=some (U0 partsM)) (hy:ev env y=some (exI .i64 kd)) (ht:C.P.underlying t=some (.map kt et)) (hk:C.P.underlying kt=some dk) (hok:MK.ok Int dk) [hT:TI C.P et 1 bt (.int .i64 0)]:WT C (Xca H) ⟨dst,.lookup t x y false,ty,pos,af,g⟩ (exI .i64 (Rh kd:Nat)) env loc:=by
 by_cases h:Rh kd=0
 · rw [h];exact Xj6 (κ:=Int) hx hy (Xj8 kd h) ht hk hok
 · exact Xlr (κ:=Int) hx hy (Xj7 kd h) ht hk hok
end
theorem Xq6 {k:Int} {s:List UInt8} {n d:Int} {ps:List (Int×List TokD)} (h:ps.length≠Rh k):Xbq k s n d ps=[]:=by unfold Xbq;rw [if_pos h]
theorem Xls {k:Int} {s:List UInt8} {n d:Int} {ps:List (Int×List TokD)} (h:k<1∨11<k):Xbq k s n d ps=[]:=by
 unfold Xbq
 simp only [show ¬k=1 by omega,show ¬k=2 by omega,show ¬k=3 by omega,show ¬k=4 by omega,show ¬k=5 by omega,show ¬k=6 by omega,show ¬k=7 by omega,show ¬k=8 by omega,show ¬k=9 by omega,show ¬k=10 by omega,show ¬k=11 by omega,if_false,ite_self]
end Go.Sx
namespace Go.Proofs.YthdldeenpgeemaaGreatDoor
open Go Go.RowKit Go.Kx Go.Fr Go.Lx Go.Sx
theorem Xlt (k:Nat) (hexp: ∀x,Xi3 k x) (l:List PutV):Xhm k l:=by
 have p0: ∀l:List PutV,(∀x∈l,x.lvl≤0)→Xhm k l:=fun l hl=>Xcx k 0 Yar (fun m hm hx=>by
   cases m with
   | nil=>exact absurd rfl hm
   | cons y m=>exact absurd (hx y Ybn) (Nat.not_lt_zero _)) (fun h=>absurd h Yar) l hl
 have p1: ∀l:List PutV,(∀x∈l,x.lvl≤1)→Xhm k l:=fun l hl=>Xcx k 1 Yar (fun m _ hx=>p0 m fun y hy=>Nat.le_of_lt_succ (hx y hy)) (fun _=>hexp) l hl
 exact Xcx k 2 Yar (fun m _ hx=>p1 m fun y hy=>Nat.le_of_lt_succ (hx y hy)) (fun _=>hexp) l fun y _=>by cases y<;>simp [PutV.lvl]
theorem nparts13_any:FnC Tryz.prog 194 [] [] (fun p loc=>p=U0 partsM∧loc=[]):=by
 refine X4 Tryz.func194 rfl Tryz.ntmps194 rfl fun w0 F0 out=>?_
 (repeat' (first|(apply Xi;exact rfl;apply Xai;refine R0 (κ:=Int) ?_;intro _)|(apply Xi;exact rfl;apply Wo;refine Wa (κ:=Int) (j:=0) (.inr rfl) rfl rfl rfl rfl rfl rfl ⟨_,rfl⟩ ?_)|refine Xf ?_|refine Xb ?_|refine Xd ?_|(apply Xk;exact Ya0;exact rfl)|refine Xz ?_))
 apply U5
 apply Xd7 (k:=0) (t:=0) (m:=partsM)
 · simp only [List.set_cons_zero,List.getElem?_cons_zero,Xd8,partsM,Int.reduceEq,if_false];rfl
 · rfl
 exact ⟨.inr rfl,Vk rfl (.tmp rfl) (List.nil_sublist _) ⟨rfl,rfl⟩⟩
end Go.Proofs.YthdldeenpgeemaaGreatDoor
namespace Go.Proofs.YthdldeenpgeemaaGreatDoor
open Go Go.RowKit Go.Kx Go.Fr Go.Lx Go.Sx
theorem Xho (k:Nat) (hput: ∀l,Xhm k l): ∀x,Xi3 (k+1) x:=by
 rintro ⟨kd,s,n,d,l⟩ b oa c acc hlen
 have hE:exT' (.mk kd s n d l)=Xbq kd s n d (l.map fun y=>(y.kind,exT' y)):=by rw [Xhj];rfl
 rw [hE] at hlen ⊢
 refine Wl (i:=1) rfl (Ui (i:=4) (p:=isl (eEx k) l) rfl Ws) fun hl=>?_
 obtain ⟨hl,-⟩:=hl
 simp only [maxLen] at hl
 show FnC Tryz.prog 167 [ex (.pointer (some ⟨b,0,none⟩)),agg [exI .i64 kd,exT s,exI .i64 n,exI .i64 d,isl (eEx k) l]] (Vv b oa c acc) _
 refine X4 Tryz.func167 rfl Tryz.ntmps167 rfl fun w0 F0 out=>?_
 (repeat' (first|(apply Vs 1;refine StopW.out ?_)|refine Xf ?_|refine Xb ?_|refine Xd ?_|(apply Xi;exact rfl;(apply U7;refine V2 rfl ?_;intro _))))
 refine ⟨?_⟩
 rename_i b3
 refine Wf ((Tw (k:=0) (t:=3) rfl rfl).trans (Xg (env':=[(0,ex (.pointer (some ⟨b,0,none⟩))),(3,fp [exI .i64 kd,exT s,exI .i64 n,exI .i64 d,isl (eEx k) l])]) (loc':=Vv b oa c acc) (by repeat (first|exact Xm|refine Xh rfl ?_)) (List.Sublist.refl _))) ?_
 refine Xf ?_
 (refine Ue ([]) 8 rfl ?_)
 all_goals ((apply Xc 0 rfl Yaa rfl Yab Xa;(exact Yaj);exact rfl))
 all_goals ((apply Xu 1 rfl Yaa rfl Yaa Yab Xa;(exact Yag);exact rfl))
 all_goals ((apply Xc 2 rfl Yaa rfl Yab Xa;(exact Yaq);exact rfl))
 all_goals ((apply Xc 4 rfl Yaa rfl Yab Xa;(exact Yaj);exact rfl))
 all_goals ((apply Xu 5 rfl Yaa rfl Yaa Yab Xa;(exact Yag);exact rfl))
 all_goals ((apply Xr 3;exact Yaa;exact rfl;exact Xa;exact (fun _ _ h=>h);(apply Xn;(refine X9 Tryz.func194 rfl nparts13_any rfl ?_;rintro _ _ ⟨rfl,rfl⟩))))
 all_goals ((apply Xr 6;exact Yaa;exact rfl;exact Xa;exact (fun _ _ h=>h);(apply V6;(apply Vd;exact Xoa rfl rfl rfl rfl ⟨_,rfl⟩);exact rfl)))
 all_goals ((apply Xc 7 rfl Yaa rfl Yab Xa;(exact Ybi);exact rfl))
 all_goals (refine X3 Yaa ?_)
 (repeat' (first|(apply Vs 2;refine StopW.out ?_)|refine Xs ?_|refine Xz ?_|(refine Xo rfl (fun hb=>?_) (fun hb=>?_)<;>(repeat (first|replace hb:=X0 hb|replace hb:=X1 hb|replace hb:=Vf hb|replace hb:=Vg hb))<;>(try (exfalso;fail)))))
 · exact ⟨.inr rfl,Rn (loc':=Vv b oa c acc) rfl (List.Sublist.refl _) ⟨oa,c,by rw [Xq6 (by rw [List.length_map];omega),List.append_nil]⟩⟩
 refine ⟨?_⟩
 have hla:l.length=Rh kd:=by omega
 refine Wf (Xg (env':=[(0,ex (.pointer (some ⟨b,0,none⟩))),(3,fp [exI .i64 kd,exT s,exI .i64 n,exI .i64 d,isl (eEx k) l])]) (loc':=Vv b oa c acc) (by repeat (first|exact Xm|refine Xh rfl ?_)) (List.Sublist.refl _)) ?_
 by_cases k1:kd=1
 · subst k1
   obtain rfl:l=[]:=List.length_eq_zero_iff.1 hla
   by_cases hd:d=1
   · subst hd
     have hT:Xbq 1 s n 1 ([].map fun y=>(y.kind,exT' y))=[.i n].flatMap PutV.toks:=by
       simp only [List.flatMap_cons,List.flatMap_nil,List.append_nil,List.nil_append,List.append_assoc]
       rfl
     rw [hT] at hlen
     simp only [List.flatMap_cons,List.flatMap_nil,List.length_append,List.length_nil] at hlen
     (repeat' (first|(apply Xy 22;refine Wj (k:=0) (E:=Tq k) (t:=21) [.i n] rfl rfl rfl rfl ?_ (hc:=by decide) (hby:=by show _ * 16≤140737488355328;decide))|refine Xf ?_|refine Xb ?_|refine Xd ?_|(apply Xk;(first|exact Xe rfl|exact Xj rfl|exact Yag|exact Yaj|exact Ycq|exact Yas);exact rfl)|refine Xp ?_|refine Xs ?_|refine Xx rfl ?_|refine X2 rfl ?_|(apply Xi;exact rfl;first|(apply Xn;(refine Xl (.one 0 rfl (.one 0 rfl .nil)) Tryz.func104 rfl (hput _ b _ _ _ Ya4) rfl ?_;rintro _ _ ⟨_,_,rfl⟩))|(apply X5;(refine Wb rfl rfl ?_);intro _))))
     all_goals (try (exfalso;omega))
     all_goals (exact ⟨.inl rfl,Rn (loc':=Vv b _ _ _) rfl (List.sublist_append_left _ _) ⟨_,_,congrArg (Vv b _ _) Yav⟩⟩)
   · have hT:Xbq 1 s n d ([].map fun y=>(y.kind,exT' y))=[.i n,.s [47],.i d].flatMap PutV.toks:=by
       simp only [List.flatMap_cons,List.flatMap_nil,List.append_nil,List.nil_append,List.append_assoc]
       simp only [Xbq,Xj4,if_neg hd];rfl
     rw [hT] at hlen
     simp only [List.flatMap_cons,List.flatMap_nil,List.length_append,List.length_nil] at hlen
     (repeat' (first|(apply Xy 22;refine Wj (k:=0) (E:=Tq k) (t:=21) [.i n] rfl rfl rfl rfl ?_ (hc:=by decide) (hby:=by show _ * 16≤140737488355328;decide))|(apply Xy 32;refine Wj (k:=0) (E:=Tq k) (t:=31) [.s [47],.i d] rfl rfl rfl rfl ?_ (hc:=by decide) (hby:=by show _ * 16≤140737488355328;decide))|refine Xf ?_|refine Xb ?_|refine Xd ?_|(apply Xk;(first|exact Xe rfl|exact Xj rfl|exact Yag|exact Yaj|exact Ycq|exact Yas);exact rfl)|refine Xp ?_|refine Xs ?_|refine Xx rfl ?_|refine X2 rfl ?_|(apply Xi;exact rfl;first|(apply Xn;(refine Xl (.one 0 rfl (.one 0 rfl .nil)) Tryz.func104 rfl (hput _ b _ _ _ Ya4) rfl ?_;rintro _ _ ⟨_,_,rfl⟩))|(apply X5;(first|refine Wb rfl rfl ?_|refine Wq rfl Yac ?_);intro _))|(refine Xo rfl (fun hb=>?_) (fun hb=>?_)<;>(repeat (first|replace hb:=X0 hb|replace hb:=X1 hb|replace hb:=Vf hb|replace hb:=Vg hb))<;>(try (exfalso;contradiction)))))
     all_goals (try (exfalso;omega))
     all_goals (exact ⟨.inl rfl,Rn (loc':=Vv b _ _ _) rfl (List.sublist_append_left _ _) ⟨_,_,congrArg (Vv b _ _) Yav⟩⟩)
 by_cases k2:kd=2
 · subst k2
   obtain rfl:l=[]:=List.length_eq_zero_iff.1 hla
   have hT:Xbq 2 s n d ([].map fun y=>(y.kind,exT' y))=[.nm s].flatMap PutV.toks:=by
     simp only [List.flatMap_cons,List.flatMap_nil,List.append_nil,List.nil_append,List.append_assoc]
     rfl
   rw [hT] at hlen
   simp only [List.flatMap_cons,List.flatMap_nil,List.length_append,List.length_nil] at hlen
   (repeat' (first|(apply Xy 52;refine Wj (k:=0) (E:=Tq k) (t:=51) [.nm s] rfl rfl rfl rfl ?_ (hc:=by decide) (hby:=by show _ * 16≤140737488355328;decide))|refine Xf ?_|refine Xb ?_|refine Xd ?_|(apply Xk;exact Yaz;exact rfl)|refine Xp ?_|refine Xx rfl ?_|refine X2 rfl ?_|(apply Xi;exact rfl;first|(apply Xn;(refine Xl (.one 0 rfl (.one 0 rfl .nil)) Tryz.func104 rfl (hput _ b _ _ _ Ya4) rfl ?_;rintro _ _ ⟨_,_,rfl⟩))|(apply X5;(refine Wb rfl rfl ?_);intro _))))
   all_goals (try (exfalso;omega))
   all_goals (exact ⟨.inl rfl,Rn (loc':=Vv b _ _ _) rfl (List.sublist_append_left _ _) ⟨_,_,congrArg (Vv b _ _) Yav⟩⟩)
 by_cases k3:kd=3
 · subst k3
   obtain rfl:l=[]:=List.length_eq_zero_iff.1 hla
   have hT:Xbq 3 s n d ([].map fun y=>(y.kind,exT' y))=[.s [98,111,110,117,115]].flatMap PutV.toks:=by
     simp only [List.flatMap_cons,List.flatMap_nil,List.append_nil,List.nil_append,List.append_assoc]
     rfl
   rw [hT] at hlen
   simp only [List.flatMap_cons,List.flatMap_nil,List.length_append,List.length_nil] at hlen
   (repeat' (first|(apply Xy 58;refine Wj (k:=0) (E:=Tq k) (t:=57) [.s [98,111,110,117,115]] rfl rfl rfl rfl ?_ (hc:=by decide) (hby:=by show _ * 16≤140737488355328;decide))|refine Xf ?_|refine Xb ?_|refine Xd ?_|(apply Xk;exact Yaz;exact rfl)|refine Xp ?_|refine Xx rfl ?_|refine X2 rfl ?_|(apply Xi;exact rfl;first|(apply Xn;(refine Xl (.one 0 rfl (.one 0 rfl .nil)) Tryz.func104 rfl (hput _ b _ _ _ Ya4) rfl ?_;rintro _ _ ⟨_,_,rfl⟩))|(apply X5;(refine Wb rfl rfl ?_);intro _))))
   all_goals (try (exfalso;omega))
   all_goals (exact ⟨.inl rfl,Rn (loc':=Vv b _ _ _) rfl (List.sublist_append_left _ _) ⟨_,_,congrArg (Vv b _ _) Yav⟩⟩)
 by_cases k4:kd=4
 · subst k4
   obtain rfl:l=[]:=List.length_eq_zero_iff.1 hla
   have hT:Xbq 4 s n d ([].map fun y=>(y.kind,exT' y))=[.s [109,97,108,117,115]].flatMap PutV.toks:=by
     simp only [List.flatMap_cons,List.flatMap_nil,List.append_nil,List.nil_append,List.append_assoc]
     rfl
   rw [hT] at hlen
   simp only [List.flatMap_cons,List.flatMap_nil,List.length_append,List.length_nil] at hlen
   (repeat' (first|(apply Xy 64;refine Wj (k:=0) (E:=Tq k) (t:=63) [.s [109,97,108,117,115]] rfl rfl rfl rfl ?_ (hc:=by decide) (hby:=by show _ * 16≤140737488355328;decide))|refine Xf ?_|refine Xb ?_|refine Xd ?_|(apply Xk;exact Yaz;exact rfl)|refine Xp ?_|refine Xx rfl ?_|refine X2 rfl ?_|(apply Xi;exact rfl;first|(apply Xn;(refine Xl (.one 0 rfl (.one 0 rfl .nil)) Tryz.func104 rfl (hput _ b _ _ _ Ya4) rfl ?_;rintro _ _ ⟨_,_,rfl⟩))|(apply X5;(refine Wb rfl rfl ?_);intro _))))
   all_goals (try (exfalso;omega))
   all_goals (exact ⟨.inl rfl,Rn (loc':=Vv b _ _ _) rfl (List.sublist_append_left _ _) ⟨_,_,congrArg (Vv b _ _) Yav⟩⟩)
 by_cases k5:kd=5
 · subst k5
   obtain rfl:l=[]:=List.length_eq_zero_iff.1 hla
   have hT:Xbq 5 s n d ([].map fun y=>(y.kind,exT' y))=[.s [114,111,117,110,100],.nm s].flatMap PutV.toks:=by
     simp only [List.flatMap_cons,List.flatMap_nil,List.append_nil,List.nil_append,List.append_assoc]
     rfl
   rw [hT] at hlen
   simp only [List.flatMap_cons,List.flatMap_nil,List.length_append,List.length_nil] at hlen
   (repeat' (first|(apply Xy 73;refine Wj (k:=0) (E:=Tq k) (t:=72) [.s [114,111,117,110,100],.nm s] rfl rfl rfl rfl ?_ (hc:=by decide) (hby:=by show _ * 16≤140737488355328;decide))|refine Xf ?_|refine Xb ?_|refine Xd ?_|(apply Xk;exact Yaz;exact rfl)|refine Xp ?_|refine Xx rfl ?_|refine X2 rfl ?_|(apply Xi;exact rfl;first|(apply Xn;(refine Xl (.one 0 rfl (.one 0 rfl .nil)) Tryz.func104 rfl (hput _ b _ _ _ Ya4) rfl ?_;rintro _ _ ⟨_,_,rfl⟩))|(apply X5;(refine Wq rfl Yac ?_);intro _))))
   all_goals (try (exfalso;omega))
   all_goals (exact ⟨.inl rfl,Rn (loc':=Vv b _ _ _) rfl (List.sublist_append_left _ _) ⟨_,_,congrArg (Vv b _ _) Yav⟩⟩)
 by_cases k6:kd=6
 · subst k6
   obtain ⟨e0,l,rfl⟩: ∃e t,l=e::t:=by cases l with|nil=>exact absurd hla Yar|cons e t=>exact ⟨e,t,rfl⟩
   obtain ⟨e1,l,rfl⟩: ∃e t,l=e::t:=by cases l with|nil=>exact absurd hla Yc1|cons e t=>exact ⟨e,t,rfl⟩
   obtain rfl:l=[]:=by cases l with|nil=>rfl|cons e t=>exact absurd hla Yc1
   have hT:Xbq 6 s n d ([e0,e1].map fun y=>(y.kind,exT' y))=[.xx e0,.s [43],.pt e1].flatMap PutV.toks:=by
     simp only [List.flatMap_cons,List.flatMap_nil,List.append_nil,List.nil_append,List.append_assoc]
     rfl
   rw [hT] at hlen
   simp only [List.flatMap_cons,List.flatMap_nil,List.length_append,List.length_nil] at hlen
   (repeat' (first|refine Xf ?_|refine Xb ?_|refine Xd ?_|(apply Xk;exact Yb5;exact rfl)|refine Xp ?_|refine Xx rfl ?_|refine X2 rfl ?_))
   (refine Ue ([]) 14 rfl ?_)
   all_goals ((apply Xc 0 rfl Yaa rfl Yab Xa;(exact Xe rfl);exact rfl))
   all_goals ((apply Xc 1 rfl Yaa rfl Yab Xa;(exact Yaj);exact rfl))
   all_goals ((apply Xu 2 rfl Yaa rfl Yaa Yab Xa;(exact Yag);exact rfl))
   all_goals ((apply Xc 3 rfl Yaa rfl Yab Xa;(exact Yae);exact rfl))
   all_goals ((apply Xu 4 rfl Yaa rfl Yaa Yab Xa;(exact Yau);exact rfl))
   all_goals ((apply Xc 5 rfl Yaa rfl Yab Xa;(exact Yas);exact rfl))
   all_goals ((apply Xc 6 rfl Yaa rfl Yab Xa;(exact Yas);exact rfl))
   all_goals ((apply Xc 7 rfl Yaa rfl Yab Xa;(exact Yaj);exact rfl))
   all_goals ((apply Xu 8 rfl Yaa rfl Yaa Yab Xa;(exact Yag);exact rfl))
   all_goals ((apply Xc 9 rfl Yaa rfl Yab Xa;(exact Yae);exact rfl))
   all_goals ((apply Xu 10 rfl Yaa rfl Yaa Yab Xa;(exact Yau);exact rfl))
   all_goals ((apply Xc 11 rfl Yaa rfl Yab Xa;(exact Yas);exact rfl))
   all_goals ((apply Xr 12;exact Yaa;exact rfl;exact Xa;exact (fun _ _ h=>h);(apply X5;(refine Wq rfl Yac ?_);intro _)))
   all_goals ((refine Xax (k:=0) (E:=Tq k) (t:=88) [.xx e0,.s [43],.pt e1] rfl rfl rfl rfl ?_ (hc:=by decide) (hby:=by show _ * 16≤140737488355328;decide)))
   all_goals ((apply Xr 13;exact Yaa;exact rfl;exact Xa;exact (fun _ _ h=>h);(apply Xn;(refine Xl (.one 0 rfl (.one 0 rfl .nil)) Tryz.func104 rfl (hput _ b _ _ _ Ya4) rfl ?_;rintro _ _ ⟨_,_,rfl⟩))))
   all_goals (refine X3 Yaa ?_)
   all_goals ((repeat' (fail)))
   all_goals (try (exfalso;omega))
   all_goals (exact ⟨.inl rfl,Rn (loc':=Vv b _ _ _) rfl (List.sublist_append_left _ _) ⟨_,_,congrArg (Vv b _ _) Yav⟩⟩)
 by_cases k7:kd=7
 · subst k7
   obtain ⟨e0,l,rfl⟩: ∃e t,l=e::t:=by cases l with|nil=>exact absurd hla Yar|cons e t=>exact ⟨e,t,rfl⟩
   obtain ⟨e1,l,rfl⟩: ∃e t,l=e::t:=by cases l with|nil=>exact absurd hla Yc1|cons e t=>exact ⟨e,t,rfl⟩
   obtain rfl:l=[]:=by cases l with|nil=>rfl|cons e t=>exact absurd hla Yc1
   have hT:Xbq 7 s n d ([e0,e1].map fun y=>(y.kind,exT' y))=[.xx e0,.s [45],.pt e1].flatMap PutV.toks:=by
     simp only [List.flatMap_cons,List.flatMap_nil,List.append_nil,List.nil_append,List.append_assoc]
     rfl
   rw [hT] at hlen
   simp only [List.flatMap_cons,List.flatMap_nil,List.length_append,List.length_nil] at hlen
   (repeat' (first|refine Xf ?_|refine Xb ?_|refine Xd ?_|(apply Xk;exact Yb5;exact rfl)|refine Xp ?_|refine Xx rfl ?_|refine X2 rfl ?_))
   (refine Ue ([]) 14 rfl ?_)
   all_goals ((apply Xc 0 rfl Yaa rfl Yab Xa;(exact Xe rfl);exact rfl))
   all_goals ((apply Xc 1 rfl Yaa rfl Yab Xa;(exact Yaj);exact rfl))
   all_goals ((apply Xu 2 rfl Yaa rfl Yaa Yab Xa;(exact Yag);exact rfl))
   all_goals ((apply Xc 3 rfl Yaa rfl Yab Xa;(exact Yae);exact rfl))
   all_goals ((apply Xu 4 rfl Yaa rfl Yaa Yab Xa;(exact Yau);exact rfl))
   all_goals ((apply Xc 5 rfl Yaa rfl Yab Xa;(exact Yas);exact rfl))
   all_goals ((apply Xc 6 rfl Yaa rfl Yab Xa;(exact Yas);exact rfl))
   all_goals ((apply Xc 7 rfl Yaa rfl Yab Xa;(exact Yaj);exact rfl))
   all_goals ((apply Xu 8 rfl Yaa rfl Yaa Yab Xa;(exact Yag);exact rfl))
   all_goals ((apply Xc 9 rfl Yaa rfl Yab Xa;(exact Yae);exact rfl))
   all_goals ((apply Xu 10 rfl Yaa rfl Yaa Yab Xa;(exact Yau);exact rfl))
   all_goals ((apply Xc 11 rfl Yaa rfl Yab Xa;(exact Yas);exact rfl))
   all_goals ((apply Xr 12;exact Yaa;exact rfl;exact Xa;exact (fun _ _ h=>h);(apply X5;(refine Wq rfl Yac ?_);intro _)))
   all_goals ((refine Xax (k:=0) (E:=Tq k) (t:=104) [.xx e0,.s [45],.pt e1] rfl rfl rfl rfl ?_ (hc:=by decide) (hby:=by show _ * 16≤140737488355328;decide)))
   all_goals ((apply Xr 13;exact Yaa;exact rfl;exact Xa;exact (fun _ _ h=>h);(apply Xn;(refine Xl (.one 0 rfl (.one 0 rfl .nil)) Tryz.func104 rfl (hput _ b _ _ _ Ya4) rfl ?_;rintro _ _ ⟨_,_,rfl⟩))))
   all_goals (refine X3 Yaa ?_)
   all_goals ((repeat' (fail)))
   all_goals (try (exfalso;omega))
   all_goals (exact ⟨.inl rfl,Rn (loc':=Vv b _ _ _) rfl (List.sublist_append_left _ _) ⟨_,_,congrArg (Vv b _ _) Yav⟩⟩)
 by_cases k8:kd=8
 · subst k8
   obtain ⟨e0,l,rfl⟩: ∃e t,l=e::t:=by cases l with|nil=>exact absurd hla Yar|cons e t=>exact ⟨e,t,rfl⟩
   obtain rfl:l=[]:=by cases l with|nil=>rfl|cons e t=>exact absurd hla Yc1
   by_cases hd:d=1
   · subst hd
     have hT:Xbq 8 s n 1 ([e0].map fun y=>(y.kind,exT' y))=[.i n,.s [42],.pt e0].flatMap PutV.toks:=by
       simp only [List.flatMap_cons,List.flatMap_nil,List.append_nil,List.nil_append,List.append_assoc]
       rfl
     rw [hT] at hlen
     simp only [List.flatMap_cons,List.flatMap_nil,List.length_append,List.length_nil] at hlen
     (repeat' (first|(apply Xy 22;refine Wj (k:=0) (E:=Tq k) (t:=21) [.i n] rfl rfl rfl rfl ?_ (hc:=by decide) (hby:=by show _ * 16≤140737488355328;decide))|(apply Xy 44;refine Wj (k:=0) (E:=Tq k) (t:=43) [.s [42],.pt e0] rfl rfl rfl rfl ?_ (hc:=by decide) (hby:=by show _ * 16≤140737488355328;decide))|refine Xf ?_|refine Xb ?_|refine Xd ?_|(apply Xk;(first|exact Xe rfl|exact Xj rfl|exact Yc2|exact Yaj|exact Ycq|exact Yae|exact Yas);exact rfl)|refine Xp ?_|refine Xs ?_|refine Xx rfl ?_|refine X2 rfl ?_|(apply Xi;exact rfl;first|(apply Xn;(refine Xl (.one 0 rfl (.one 0 rfl .nil)) Tryz.func104 rfl (hput _ b _ _ _ Ya4) rfl ?_;rintro _ _ ⟨_,_,rfl⟩))|(apply X5;(first|refine Wb rfl rfl ?_|refine Wq rfl Yac ?_);intro _))))
     all_goals (try (exfalso;omega))
     all_goals (exact ⟨.inl rfl,Rn (loc':=Vv b _ _ _) rfl (List.sublist_append_left _ _) ⟨_,_,congrArg (Vv b _ _) Yav⟩⟩)
   · have hT:Xbq 8 s n d ([e0].map fun y=>(y.kind,exT' y))=[.i n,.s [47],.i d,.s [42],.pt e0].flatMap PutV.toks:=by
       simp only [List.flatMap_cons,List.flatMap_nil,List.append_nil,List.nil_append,List.append_assoc]
       simp only [Xbq,Xj4,if_neg hd];rfl
     rw [hT] at hlen
     simp only [List.flatMap_cons,List.flatMap_nil,List.length_append,List.length_nil] at hlen
     (repeat' (first|(apply Xy 22;refine Wj (k:=0) (E:=Tq k) (t:=21) [.i n] rfl rfl rfl rfl ?_ (hc:=by decide) (hby:=by show _ * 16≤140737488355328;decide))|(apply Xy 32;refine Wj (k:=0) (E:=Tq k) (t:=31) [.s [47],.i d] rfl rfl rfl rfl ?_ (hc:=by decide) (hby:=by show _ * 16≤140737488355328;decide))|(apply Xy 44;refine Wj (k:=0) (E:=Tq k) (t:=43) [.s [42],.pt e0] rfl rfl rfl rfl ?_ (hc:=by decide) (hby:=by show _ * 16≤140737488355328;decide))|refine Xf ?_|refine Xb ?_|refine Xd ?_|(apply Xk;(first|exact Xe rfl|exact Xj rfl|exact Yc2|exact Yaj|exact Ycq|exact Yae|exact Yas);exact rfl)|refine Xp ?_|refine Xx rfl ?_|refine X2 rfl ?_|(apply Xi;exact rfl;first|(apply Xn;(refine Xl (.one 0 rfl (.one 0 rfl .nil)) Tryz.func104 rfl (hput _ b _ _ _ Ya4) rfl ?_;rintro _ _ ⟨_,_,rfl⟩))|(apply X5;(first|refine Wb rfl rfl ?_|refine Wq rfl Yac ?_);intro _))|(refine Xo rfl (fun hb=>?_) (fun hb=>?_)<;>(repeat (first|replace hb:=X0 hb|replace hb:=X1 hb|replace hb:=Vf hb|replace hb:=Vg hb))<;>(try (exfalso;contradiction)))))
     all_goals (try (exfalso;omega))
     all_goals (exact ⟨.inl rfl,Rn (loc':=Vv b _ _ _) rfl (List.sublist_append_left _ _) ⟨_,_,congrArg (Vv b _ _) Yav⟩⟩)
 by_cases k9:kd=9
 · subst k9
   obtain ⟨e0,l,rfl⟩: ∃e t,l=e::t:=by cases l with|nil=>exact absurd hla Yar|cons e t=>exact ⟨e,t,rfl⟩
   obtain ⟨e1,l,rfl⟩: ∃e t,l=e::t:=by cases l with|nil=>exact absurd hla Yc1|cons e t=>exact ⟨e,t,rfl⟩
   obtain rfl:l=[]:=by cases l with|nil=>rfl|cons e t=>exact absurd hla Yc1
   have hT:Xbq 9 s n d ([e0,e1].map fun y=>(y.kind,exT' y))=[.s [108,101,97,115,116],.s [40],.xx e0,.s [44],.xx e1,.s [41]].flatMap PutV.toks:=by
     have hA:Xbq 9 s n d ([e0,e1].map fun y=>(y.kind,exT' y))=tkW wLeast::tkS sOpen::exT' e0++tkS sComma::exT' e1++[tkS sClose]:=rfl
     rw [hA]
     simp only [List.flatMap_cons,List.flatMap_nil,List.append_nil,List.nil_append,List.append_assoc,List.cons_append]
     rfl
   rw [hT] at hlen
   simp only [List.flatMap_cons,List.flatMap_nil,List.length_append,List.length_nil] at hlen
   (repeat' (first|refine Xf ?_|refine Xb ?_|refine Xd ?_|(apply Xk;exact Yb5;exact rfl)|refine Xp ?_|refine Xx rfl ?_|refine X2 rfl ?_))
   (refine Ue ([]) 17 rfl ?_)
   all_goals ((apply Xc 0 rfl Yaa rfl Yab Xa;(exact Xe rfl);exact rfl))
   all_goals ((apply Xc 1 rfl Yaa rfl Yab Xa;(exact Yas);exact rfl))
   all_goals ((apply Xc 2 rfl Yaa rfl Yab Xa;(exact Yas);exact rfl))
   all_goals ((apply Xc 3 rfl Yaa rfl Yab Xa;(exact Yaj);exact rfl))
   all_goals ((apply Xu 4 rfl Yaa rfl Yaa Yab Xa;(exact Yag);exact rfl))
   all_goals ((apply Xc 5 rfl Yaa rfl Yab Xa;(exact Yae);exact rfl))
   all_goals ((apply Xu 6 rfl Yaa rfl Yaa Yab Xa;(exact Yau);exact rfl))
   all_goals ((apply Xc 7 rfl Yaa rfl Yab Xa;(exact Yas);exact rfl))
   all_goals ((apply Xc 8 rfl Yaa rfl Yab Xa;(exact Yas);exact rfl))
   all_goals ((apply Xc 9 rfl Yaa rfl Yab Xa;(exact Yaj);exact rfl))
   all_goals ((apply Xu 10 rfl Yaa rfl Yaa Yab Xa;(exact Yag);exact rfl))
   all_goals ((apply Xc 11 rfl Yaa rfl Yab Xa;(exact Yae);exact rfl))
   all_goals ((apply Xu 12 rfl Yaa rfl Yaa Yab Xa;(exact Yau);exact rfl))
   all_goals ((apply Xc 13 rfl Yaa rfl Yab Xa;(exact Yas);exact rfl))
   all_goals ((apply Xc 14 rfl Yaa rfl Yab Xa;(exact Yas);exact rfl))
   all_goals ((apply Xr 15;exact Yaa;exact rfl;exact Xa;exact (fun _ _ h=>h);(apply X5;(refine Wq rfl Yac ?_);intro _)))
   all_goals ((refine Xax (k:=0) (E:=Tq k) (t:=123) [.s [108,101,97,115,116],.s [40],.xx e0,.s [44],.xx e1,.s [41]] rfl rfl rfl rfl ?_ (hc:=by decide) (hby:=by show _ * 16≤140737488355328;decide)))
   all_goals ((apply Xr 16;exact Yaa;exact rfl;exact Xa;exact (fun _ _ h=>h);(apply Xn;(refine Xl (.one 0 rfl (.one 0 rfl .nil)) Tryz.func104 rfl (hput _ b _ _ _ Ya4) rfl ?_;rintro _ _ ⟨_,_,rfl⟩))))
   all_goals (refine X3 Yaa ?_)
   all_goals ((repeat' (fail)))
   all_goals (try (exfalso;omega))
   all_goals (exact ⟨.inl rfl,Rn (loc':=Vv b _ _ _) rfl (List.sublist_append_left _ _) ⟨_,_,congrArg (Vv b _ _) Yav⟩⟩)
 by_cases k10:kd=10
 · subst k10
   obtain ⟨e0,l,rfl⟩: ∃e t,l=e::t:=by cases l with|nil=>exact absurd hla Yar|cons e t=>exact ⟨e,t,rfl⟩
   obtain ⟨e1,l,rfl⟩: ∃e t,l=e::t:=by cases l with|nil=>exact absurd hla Yc1|cons e t=>exact ⟨e,t,rfl⟩
   obtain rfl:l=[]:=by cases l with|nil=>rfl|cons e t=>exact absurd hla Yc1
   have hT:Xbq 10 s n d ([e0,e1].map fun y=>(y.kind,exT' y))=[.s [103,114,101,97,116,101,115,116],.s [40],.xx e0,.s [44],.xx e1,.s [41]].flatMap PutV.toks:=by
     have hA:Xbq 10 s n d ([e0,e1].map fun y=>(y.kind,exT' y))=tkW wGreatest::tkS sOpen::exT' e0++tkS sComma::exT' e1++[tkS sClose]:=rfl
     rw [hA]
     simp only [List.flatMap_cons,List.flatMap_nil,List.append_nil,List.nil_append,List.append_assoc,List.cons_append]
     rfl
   rw [hT] at hlen
   simp only [List.flatMap_cons,List.flatMap_nil,List.length_append,List.length_nil] at hlen
   (repeat' (first|refine Xf ?_|refine Xb ?_|refine Xd ?_|(apply Xk;exact Yb5;exact rfl)|refine Xp ?_|refine Xx rfl ?_|refine X2 rfl ?_))
   (refine Ue ([]) 17 rfl ?_)
   all_goals ((apply Xc 0 rfl Yaa rfl Yab Xa;(exact Xe rfl);exact rfl))
   all_goals ((apply Xc 1 rfl Yaa rfl Yab Xa;(exact Yas);exact rfl))
   all_goals ((apply Xc 2 rfl Yaa rfl Yab Xa;(exact Yas);exact rfl))
   all_goals ((apply Xc 3 rfl Yaa rfl Yab Xa;(exact Yaj);exact rfl))
   all_goals ((apply Xu 4 rfl Yaa rfl Yaa Yab Xa;(exact Yag);exact rfl))
   all_goals ((apply Xc 5 rfl Yaa rfl Yab Xa;(exact Yae);exact rfl))
   all_goals ((apply Xu 6 rfl Yaa rfl Yaa Yab Xa;(exact Yau);exact rfl))
   all_goals ((apply Xc 7 rfl Yaa rfl Yab Xa;(exact Yas);exact rfl))
   all_goals ((apply Xc 8 rfl Yaa rfl Yab Xa;(exact Yas);exact rfl))
   all_goals ((apply Xc 9 rfl Yaa rfl Yab Xa;(exact Yaj);exact rfl))
   all_goals ((apply Xu 10 rfl Yaa rfl Yaa Yab Xa;(exact Yag);exact rfl))
   all_goals ((apply Xc 11 rfl Yaa rfl Yab Xa;(exact Yae);exact rfl))
   all_goals ((apply Xu 12 rfl Yaa rfl Yaa Yab Xa;(exact Yau);exact rfl))
   all_goals ((apply Xc 13 rfl Yaa rfl Yab Xa;(exact Yas);exact rfl))
   all_goals ((apply Xc 14 rfl Yaa rfl Yab Xa;(exact Yas);exact rfl))
   all_goals ((apply Xr 15;exact Yaa;exact rfl;exact Xa;exact (fun _ _ h=>h);(apply X5;(refine Wq rfl Yac ?_);intro _)))
   all_goals ((refine Xax (k:=0) (E:=Tq k) (t:=142) [.s [103,114,101,97,116,101,115,116],.s [40],.xx e0,.s [44],.xx e1,.s [41]] rfl rfl rfl rfl ?_ (hc:=by decide) (hby:=by show _ * 16≤140737488355328;decide)))
   all_goals ((apply Xr 16;exact Yaa;exact rfl;exact Xa;exact (fun _ _ h=>h);(apply Xn;(refine Xl (.one 0 rfl (.one 0 rfl .nil)) Tryz.func104 rfl (hput _ b _ _ _ Ya4) rfl ?_;rintro _ _ ⟨_,_,rfl⟩))))
   all_goals (refine X3 Yaa ?_)
   all_goals ((repeat' (fail)))
   all_goals (try (exfalso;omega))
   all_goals (exact ⟨.inl rfl,Rn (loc':=Vv b _ _ _) rfl (List.sublist_append_left _ _) ⟨_,_,congrArg (Vv b _ _) Yav⟩⟩)
 by_cases k11:kd=11
 · subst k11
   obtain ⟨e0,l,rfl⟩: ∃e t,l=e::t:=by cases l with|nil=>exact absurd hla Yar|cons e t=>exact ⟨e,t,rfl⟩
   obtain ⟨e1,l,rfl⟩: ∃e t,l=e::t:=by cases l with|nil=>exact absurd hla Yc1|cons e t=>exact ⟨e,t,rfl⟩
   obtain ⟨e2,l,rfl⟩: ∃e t,l=e::t:=by cases l with|nil=>exact absurd hla Yc1|cons e t=>exact ⟨e,t,rfl⟩
   obtain ⟨e3,l,rfl⟩: ∃e t,l=e::t:=by cases l with|nil=>exact absurd hla Yc1|cons e t=>exact ⟨e,t,rfl⟩
   obtain rfl:l=[]:=by cases l with|nil=>rfl|cons e t=>exact absurd hla Yc1
   have hT:Xbq 11 s n d ([e0,e1,e2,e3].map fun y=>(y.kind,exT' y))=[.s [105,102],.xx e0,.s [117,112,116,111],.xx e1,.s [116,104,101,110],.xx e2,.s [101,108,115,101],.xx e3,.s [101,110,100]].flatMap PutV.toks:=by
     have hA:Xbq 11 s n d ([e0,e1,e2,e3].map fun y=>(y.kind,exT' y))=tkW wIf::exT' e0++tkW wUpto::exT' e1++tkW wThen::exT' e2++tkW wElse::exT' e3++[tkW wEnd]:=rfl
     rw [hA]
     simp only [List.flatMap_cons,List.flatMap_nil,List.append_nil,List.nil_append,List.append_assoc,List.cons_append]
     rfl
   rw [hT] at hlen
   simp only [List.flatMap_cons,List.flatMap_nil,List.length_append,List.length_nil] at hlen
   (repeat' (first|refine Xf ?_|refine Xb ?_|refine Xd ?_|(apply Xk;exact Yb5;exact rfl)|refine Xp ?_|refine Xx rfl ?_|refine X2 rfl ?_))
   (refine Ue ([]) 28 rfl ?_)
   all_goals ((apply Xc 0 rfl Yaa rfl Yab Xa;(exact Xe rfl);exact rfl))
   all_goals ((apply Xc 1 rfl Yaa rfl Yab Xa;(exact Yas);exact rfl))
   all_goals ((apply Xc 2 rfl Yaa rfl Yab Xa;(exact Yaj);exact rfl))
   all_goals ((apply Xu 3 rfl Yaa rfl Yaa Yab Xa;(exact Yag);exact rfl))
   all_goals ((apply Xc 4 rfl Yaa rfl Yab Xa;(exact Yae);exact rfl))
   all_goals ((apply Xu 5 rfl Yaa rfl Yaa Yab Xa;(exact Yau);exact rfl))
   all_goals ((apply Xc 6 rfl Yaa rfl Yab Xa;(exact Yas);exact rfl))
   all_goals ((apply Xc 7 rfl Yaa rfl Yab Xa;(exact Yas);exact rfl))
   all_goals ((apply Xc 8 rfl Yaa rfl Yab Xa;(exact Yaj);exact rfl))
   all_goals ((apply Xu 9 rfl Yaa rfl Yaa Yab Xa;(exact Yag);exact rfl))
   all_goals ((apply Xc 10 rfl Yaa rfl Yab Xa;(exact Yae);exact rfl))
   all_goals ((apply Xu 11 rfl Yaa rfl Yaa Yab Xa;(exact Yau);exact rfl))
   all_goals ((apply Xc 12 rfl Yaa rfl Yab Xa;(exact Yas);exact rfl))
   all_goals ((apply Xc 13 rfl Yaa rfl Yab Xa;(exact Yas);exact rfl))
   all_goals ((apply Xc 14 rfl Yaa rfl Yab Xa;(exact Yaj);exact rfl))
   all_goals ((apply Xu 15 rfl Yaa rfl Yaa Yab Xa;(exact Yag);exact rfl))
   all_goals ((apply Xc 16 rfl Yaa rfl Yab Xa;(exact Yae);exact rfl))
   all_goals ((apply Xu 17 rfl Yaa rfl Yaa Yab Xa;(exact Yau);exact rfl))
   all_goals ((apply Xc 18 rfl Yaa rfl Yab Xa;(exact Yas);exact rfl))
   all_goals ((apply Xc 19 rfl Yaa rfl Yab Xa;(exact Yas);exact rfl))
   all_goals ((apply Xc 20 rfl Yaa rfl Yab Xa;(exact Yaj);exact rfl))
   all_goals ((apply Xu 21 rfl Yaa rfl Yaa Yab Xa;(exact Yag);exact rfl))
   all_goals ((apply Xc 22 rfl Yaa rfl Yab Xa;(exact Yae);exact rfl))
   all_goals ((apply Xu 23 rfl Yaa rfl Yaa Yab Xa;(exact Yau);exact rfl))
   all_goals ((apply Xc 24 rfl Yaa rfl Yab Xa;(exact Yas);exact rfl))
   all_goals ((apply Xc 25 rfl Yaa rfl Yab Xa;(exact Yas);exact rfl))
   all_goals ((apply Xr 26;exact Yaa;exact rfl;exact Xa;exact (fun _ _ h=>h);(apply X5;(refine Wq rfl Yac ?_);intro _)))
   all_goals ((refine Xax (k:=0) (E:=Tq k) (t:=172) [.s [105,102],.xx e0,.s [117,112,116,111],.xx e1,.s [116,104,101,110],.xx e2,.s [101,108,115,101],.xx e3,.s [101,110,100]] rfl rfl rfl rfl ?_ (hc:=by decide) (hby:=by show _ * 16≤140737488355328;decide)))
   all_goals ((apply Xr 27;exact Yaa;exact rfl;exact Xa;exact (fun _ _ h=>h);(apply Xn;(refine Xl (.one 0 rfl (.one 0 rfl .nil)) Tryz.func104 rfl (hput _ b _ _ _ Ya4) rfl ?_;rintro _ _ ⟨_,_,rfl⟩))))
   all_goals (refine X3 Yaa ?_)
   all_goals ((repeat' (fail)))
   all_goals (try (exfalso;omega))
   all_goals (exact ⟨.inl rfl,Rn (loc':=Vv b _ _ _) rfl (List.sublist_append_left _ _) ⟨_,_,congrArg (Vv b _ _) Yav⟩⟩)
 · rw [Xls (by have: ¬(kd=1):=k1;omega)]
   (repeat' (first|refine Xf ?_|refine Xb ?_|refine Xd ?_|(apply Xk;exact Yb5;exact rfl)|refine Xp ?_|refine Xs ?_|(refine Xo rfl (fun hb=>?_) (fun hb=>?_)<;>(repeat (first|replace hb:=X0 hb|replace hb:=X1 hb))<;>(try (exfalso;contradiction)))))
   all_goals (try (exfalso;omega))
   all_goals (exact ⟨.inl rfl,Rn (loc':=Vv b oa c acc) rfl (List.Sublist.refl _) ⟨oa,c,by rw [List.append_nil]⟩⟩)
theorem wexpr13_all: ∀k x,Xi3 k x
 | 0,_=>fun _ _ _ _ _=>Wl (i:=1) rfl Sm fun h=>h.elim
 | k+1,x=>Xho k (Xlt k (wexpr13_all k)) x
theorem T9 (k:Nat) (l:List PutV):Xhm k l:=Xlt k (wexpr13_all k) l
end Go.Proofs.YthdldeenpgeemaaGreatDoor
namespace Go.Proofs.YthdldeenpgeemaaGreatDoor
open Go Go.RowKit Go.Kx Go.Fr
def Vx (s:List UInt8):Bool:=Xe8 s&& !decide (s∈words14)
end Go.Proofs.YthdldeenpgeemaaGreatDoor
namespace Go.Proofs.YthdldeenpgeemaaGreatDoor
open Go Go.RowKit Go.Kx Go.Fr
def tabG:Nat:=(Tryz.lays157_ren).g 0
abbrev Tab:Ent:=Xso tabG
def wordsT:List UInt8:=[99,111,109,112,101,116,105,116,105,111,110,32,99,114,105,116,101,114,105,111,110,32,102,114,111,109,32,116,111,32,115,116,101,112,32,115,117,109,32,109,101,97,110,32,116,114,105,109,32,109,101,100,105,97,110,32,114,101,118,101,114,115,101,32,98,111,110,117,115,32,118,97,108,117,101,32,109,111,115,116,32,109,97,108,117,115,32,116,105,101,32,116,111,116,97,108,32,115,99,111,114,101,32,104,105,103,104,101,115,116,32,114,117,108,101,32,108,111,116,32,114,111,117,110,100,32,112,97,110,101,108,32,113,117,111,116,97,32,111,118,101,114,32,117,110,100,101,114,32,108,111,116,115,32,102,114,101,101,32,112,108,97,99,101,115,32,112,114,105,122,101,115,32,112,111,105,110,116,115,32,98,101,115,116,32,108,101,97,115,116,32,103,114,101,97,116,101,115,116,32,105,102,32,117,112,116,111,32,116,104,101,110,32,101,108,115,101,32,101,110,100]
theorem fields_words:Lib.fields wordsT=words14:=by decide +kernel
theorem words_ascii: ∀(j:Nat) b,wordsT[j]?=some b→b.toNat<128:=by
 have h:wordsT.all (fun b=>decide (b.toNat<128))=true:=by decide +kernel
 intro j b hb
 have:=List.all_eq_true.1 h b (List.mem_of_getElem? hb)
 simpa using this
theorem words_len:wordsT.length=221:=by decide +kernel
theorem words14_len:words14.length=38:=by decide +kernel
theorem fields_fr:FnC Tryz.prog 180 [exT wordsT] [Tab] (fun p loc=>p=isl eStr words14∧loc=[]):=by
 refine Xh1 fun F w vals ht h=>?_
 obtain ⟨v,rfl,rfl⟩:=Xix h
 refine (Any.strings_Fields_core Tryz.lays157 Yat ⟨wordsT.toArray⟩ w (by show wordsT.toArray.size<_;rw [List.size_toArray,words_len];decide) (fun j b hb=>words_ascii j b hb) ht.2.2).mono ?_
 rintro e w' ⟨rfl,rfl⟩
 refine ⟨_,_,rfl,⟨rfl,rfl⟩,?_,?_⟩
 · have e1:(⟨wordsT.toArray⟩:ByteArray).data.toList=wordsT:=rfl
   rw [e1,fields_words]
   refine ⟨_,_,_,rfl,⟨rfl,Nat.le_refl _,by rw [words14_len];decide,by rw [words14_len];decide,(fun h=>by cases h),fun i hi=>?_⟩⟩
   refine ⟨_,0,[.string ⟨words14[i].toArray⟩],rfl,.inr (Nat.le_refl _),by simp,rfl,fun j hj=>?_,rfl⟩
   have hj0:j=0:=by have:eStr.size=1:=rfl;omega
   subst hj0
   have hh:(w.alloc (.cells (words14.map fun l=>Value.string ⟨l.toArray⟩).toArray ((Tryz.lays157_ren).t 9))).heap[w.heap.size]?=some (.cells (words14.map fun l=>Value.string ⟨l.toArray⟩).toArray ((Tryz.lays157_ren).t 9) (0,0)):=by
     show (w.heap.push _)[w.heap.size]?=_;simp
   have e2:eStr.size=1:=rfl
   simp only [World.cell?,hh,e2,Nat.mul_one,Nat.add_zero,Nat.zero_add]
   simp [hi]
 · exact ⟨rfl,rfl,rfl,by simp,fun k hk=>Below.heap_alloc w _ k hk⟩
theorem words_any:FnC Tryz.prog 139 [] [Tab] (fun p loc=>p=isl eStr words14∧loc=[]):=by
 refine X4 Tryz.func139 rfl Tryz.ntmps139 rfl fun w0 F0 out=>?_
 have hF:=fields_fr
 (repeat' (first|refine Xf ?_|refine Xb ?_|refine Xd ?_|(apply Xk;(exact Xj rfl);exact rfl)|refine Xz ?_|(apply Xi;exact rfl;(apply Xn;(refine Xl (.dup 0 rfl rfl .nil) Tryz.func180 rfl hF rfl ?_;rintro _ _ ⟨rfl,rfl⟩)))))
 exact ⟨.inr rfl,Vk rfl (.tmp rfl) (List.nil_sublist _) ⟨rfl,rfl⟩⟩
theorem Sk (s:List UInt8):FnC Tryz.prog 66 [exT s] [Tab] (fun p loc=>p=exB (Vx s)∧loc=[]):=by
 refine X4 Tryz.func66 rfl Tryz.ntmps66 rfl fun w0 F0 out=>?_
 have hN:=Xi9 s
 have hW:=words_any
 have hC:=S5 words14 s (by rw [words14_len];decide)
 (repeat' (first|refine Xf ?_|refine Xb ?_|refine Xd ?_|(apply Xk;(first|exact Xe rfl|exact Xj rfl|exact Wk (b:=true) rfl (fun _=>rfl) (fun e=>by cases e)|exact Wk (b:=false) rfl (fun e=>by cases e) (fun _=>rfl));exact rfl)|(refine Ve rfl rfl rfl rfl rfl ?_)|(apply Vh;exact rfl;exact rfl;exact rfl;exact Ybt;exact rfl)|refine Xz ?_|(apply Xi;exact rfl;(apply Xn;(refine X9 Tryz.func130 rfl hN rfl ?_;rintro _ _ ⟨rfl,rfl⟩)))|(apply Vt;exact rfl;exact rfl;exact rfl;exact rfl;(apply Xn;first|(refine Xl (.dup 0 rfl rfl .nil) Tryz.func139 rfl hW rfl ?_;rintro _ _ ⟨rfl,rfl⟩)|(refine X9 Tryz.func138 rfl hC rfl ?_;rintro _ _ ⟨rfl,rfl⟩)))|(refine W0 rfl rfl (fun hb=>?_) (fun hb=>?_)<;>(repeat (fail))<;>(try (exfalso;fail)))))
 all_goals (refine ⟨.inr rfl,Vk rfl (.tmp rfl) (List.nil_sublist _) ⟨congrArg exB ?_,rfl⟩⟩)
 all_goals (unfold Vx;simp [*])
end Go.Proofs.YthdldeenpgeemaaGreatDoor
