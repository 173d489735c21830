/- Chapter 13: the program compares declarations. -/
import Derived.Test.YthdldeenpgeemaaGreatDoorPart8
import Derived.Test.YthdldeenpgeemaaGreatDoorPart7
import Derived.Test.YthdldeenpgeemaaGreatDoorPart6
import Derived.Test.YthdldeenpgeemaaGreatDoorPart4
import Derived.Test.YthdldeenpgeemaaGreatDoorPart3
import Derived.Test.YthdldeenpgeemaaGreatDoorPart5
set_option maxHeartbeats 4000000
set_option maxRecDepth 100000
namespace Go.Sx
open Go.Fr
def Xmn {α β:Type} (p:α→β→Bool):List α→List β→Bool
 | [],[]=>true
 | x::xs,y::ys=>p x y&&Xmn p xs ys
 | _,_=>false
theorem Xib {α β:Type} {p:α→β→Bool}: ∀{a:List α} {b:List β},Xmn p a b=true↔a.length=b.length∧ ∀i (h1:i<a.length) (h2:i<b.length),p a[i] b[i]=true
 | [],[]=>by simp [Xmn]
 | [],y::b=>by simp [Xmn]
 | x::a,[]=>by simp [Xmn]
 | x::a,y::b=>by
   rw [Xmn,Bool.and_eq_true,Xib]
   constructor
   · rintro ⟨h,hl,hi⟩
     refine ⟨by simp [hl],fun i h1 h2=>?_⟩
     cases i with
     | zero=>exact h
     | succ i=>exact hi i (by simpa using h1) Yeh
   · rintro ⟨hl,hi⟩
     exact ⟨hi 0 Yb9 Yb9,by simpa using hl,fun i h1 h2=>hi (i+1) (by simpa using h1) Yeh⟩
theorem Xg2 {α:Type} [DecidableEq α] {a b:List α}:Xmn (fun x y=>decide (x=y)) a b=decide (a=b):=by
 rw [Bool.eq_iff_iff,Xib,decide_eq_true_iff]
 simp only [decide_eq_true_eq]
 exact ⟨fun ⟨h,hi⟩=>List.ext_getElem h hi,fun h=>by subst h;exact ⟨rfl,fun _ _ _=>rfl⟩⟩
end Go.Sx
namespace Go.Proofs.YthdldeenpgeemaaGreatDoor
open Go Go.RowKit Go.Kx Go.Fr Go.Lx Go.Sx
instance eqItemD3:EqD Tryz.prog 106 itemV:=⟨_,rfl,by kernel_rfl,by kernel_rfl,fun a b=>⟨_,(.str rfl rfl rfl rfl (.int rfl rfl rfl rfl (.int rfl rfl rfl rfl .nil))),by rw [Bool.eq_iff_iff];cases a;cases b;simp⟩⟩
instance eqKeyD3:EqD Tryz.prog 97 keyV:=⟨_,rfl,by kernel_rfl,by kernel_rfl,fun a b=>⟨_,(.int rfl rfl rfl rfl (.str rfl rfl rfl rfl (.int rfl rfl rfl rfl .nil))),by rw [Bool.eq_iff_iff];cases a;cases b;simp⟩⟩
instance eqCritD3:EqD Tryz.prog 70 critV:=⟨_,rfl,by kernel_rfl,by kernel_rfl,fun a b=>⟨_,(.str rfl rfl rfl rfl (.int rfl rfl rfl rfl (.int rfl rfl rfl rfl (.int rfl rfl rfl rfl (.int rfl rfl rfl rfl (.int rfl rfl rfl rfl (.bool rfl rfl rfl rfl .nil))))))),by rw [Bool.eq_iff_iff];cases a;cases b;simp⟩⟩
theorem Xfl (a b:List Int):FnC Tryz.prog 115 [isl eI a,isl eI b] [] (fun p loc=>p=exB (decide (a=b))∧loc=[]):=by
 refine Wp (i:=0) rfl Wu fun ha=>?_
 refine Wp (i:=1) rfl Wu fun hb=>?_
 obtain ⟨ha,-⟩:=ha
 obtain ⟨hb,-⟩:=hb
 simp only [maxLen] at ha hb
 refine X3 Tryz.func115 rfl Tryz.ntmps115 rfl fun w0 F0 out=>?_
 by_cases hl:a.length=b.length
 · (repeat' (first|refine Xe ?_|refine Xb ?_|refine Xc ?_|(apply Xn;exact Ya3;exact rfl)|refine Xo ?_|refine Xs ?_|(refine Xp rfl (fun hb=>?_) (fun hb=>?_)<;>(repeat (first|replace hb:=Xz hb|replace hb:=X0 hb|replace hb:=W5 hb|replace hb:=W6 hb))<;>(try (exfalso;omega)))))
   all_goals (try (exfalso;omega))
   refine Ws (fun k:Nat=>([(0,isl eI a),(1,isl eI b),(12,exI .i64 a.length),(13,exI .i64 k)],[])) (fun k=>k≤a.length∧a.take k=b.take k) (fun k=>a.length-k) 0 ?_ ⟨Nat.zero_le _,rfl⟩ fun k hk=>?_
   · exact Xg (by repeat (first|exact Xr|refine Xl rfl ?_)) (List.Sublist.refl _)
   obtain ⟨hk,ht⟩:=hk
   by_cases hlt:k<a.length
   · by_cases he:a[k]=b[k]'Yan
     · (repeat' (first|refine Xe ?_|refine Xb ?_|refine Xc ?_|(apply Xn;exact Yci;exact rfl)|refine Xo ?_|refine Xs ?_|(refine Xp rfl (fun hb=>?_) (fun hb=>?_)<;>(repeat (first|replace hb:=Xz hb|replace hb:=X0 hb))<;>(try (exfalso;omega)))))
       (refine Wt 9 rfl ?_)
       all_goals ((apply Xd 0 rfl Yaa rfl Yab Xa;(exact Xf rfl);exact rfl))
       all_goals ((apply Xd 1 rfl Yaa rfl Yab Xa;(exact Xf rfl);exact rfl))
       all_goals ((apply Xd 2 rfl Yaa rfl Yab Xa;(exact Yah);exact rfl))
       all_goals ((apply Xv 3 rfl Yaa rfl Yaa Yab Xa;(exact Yag);exact rfl))
       all_goals ((apply Xd 4 rfl Yaa rfl Yab Xa;(exact Xf rfl);exact rfl))
       all_goals ((apply Xd 5 rfl Yaa rfl Yab Xa;(exact Xf rfl);exact rfl))
       all_goals ((apply Xd 6 rfl Yaa rfl Yab Xa;(exact Yah);exact rfl))
       all_goals ((apply Xv 7 rfl Yaa rfl Yaa Yab Xa;(exact Yag);exact rfl))
       all_goals ((apply Xd 8 rfl Yaa rfl Yab Xa;(exact Ybo);exact rfl))
       all_goals (refine X9 Yaa ?_)
       all_goals ((repeat' (first|refine Xb ?_|refine Xc ?_|(apply Xn;exact Ych;exact rfl)|refine Xs ?_|(refine Xp rfl (fun hb=>?_) (fun hb=>?_)<;>(repeat (first|replace hb:=Xz hb|replace hb:=X0 hb|replace hb:=W5 hb|replace hb:=W6 hb))<;>(try (exfalso;omega))))))
       all_goals (try (exfalso;simp_all;done))
       exact ⟨k+1,⟨by omega,by rw [List.take_succ_eq_append_getElem hlt,List.take_succ_eq_append_getElem Yan,ht,he]⟩,by omega,Xg (by repeat (first|exact Xr|refine Xl rfl ?_)) (List.Sublist.refl _)⟩
     · (repeat' (first|refine Xe ?_|refine Xb ?_|refine Xc ?_|(apply Xn;exact Yci;exact rfl)|refine Xo ?_|refine Xs ?_|(refine Xp rfl (fun hb=>?_) (fun hb=>?_)<;>(repeat (first|replace hb:=Xz hb|replace hb:=X0 hb))<;>(try (exfalso;omega)))))
       (refine Wt 9 rfl ?_)
       all_goals ((apply Xd 0 rfl Yaa rfl Yab Xa;(exact Xf rfl);exact rfl))
       all_goals ((apply Xd 1 rfl Yaa rfl Yab Xa;(exact Xf rfl);exact rfl))
       all_goals ((apply Xd 2 rfl Yaa rfl Yab Xa;(exact Yah);exact rfl))
       all_goals ((apply Xv 3 rfl Yaa rfl Yaa Yab Xa;(exact Yag);exact rfl))
       all_goals ((apply Xd 4 rfl Yaa rfl Yab Xa;(exact Xf rfl);exact rfl))
       all_goals ((apply Xd 5 rfl Yaa rfl Yab Xa;(exact Xf rfl);exact rfl))
       all_goals ((apply Xd 6 rfl Yaa rfl Yab Xa;(exact Yah);exact rfl))
       all_goals ((apply Xv 7 rfl Yaa rfl Yaa Yab Xa;(exact Yag);exact rfl))
       all_goals ((apply Xd 8 rfl Yaa rfl Yab Xa;(exact Ybo);exact rfl))
       all_goals (refine X9 Yaa ?_)
       all_goals ((repeat' (first|refine Xe ?_|refine Xb ?_|refine Xc ?_|(apply Xn;(exact Xm rfl);exact rfl)|refine Xw ?_|(refine Xp rfl (fun hb=>?_) (fun hb=>?_)<;>(repeat (first|replace hb:=Xz hb|replace hb:=X0 hb|replace hb:=W5 hb|replace hb:=W6 hb))<;>(try (exfalso;omega))))))
       all_goals (try (exfalso;simp_all;done))
       refine ⟨.inr rfl,Vd rfl (.tmp rfl) (List.nil_sublist _) ⟨congrArg exB ?_,rfl⟩⟩
       exact (decide_eq_false fun e=>he Yen).symm
   · have hk9:k=a.length:=by omega
     subst hk9
     rw [List.take_length,hl,List.take_length] at ht
     (repeat' (first|refine Xe ?_|refine Xb ?_|refine Xc ?_|(apply Xn;exact Ycq;exact rfl)|refine Xw ?_|refine Wm ?_|(refine Xp rfl (fun hb=>?_) (fun hb=>?_)<;>(repeat (first|replace hb:=Xz hb|replace hb:=X0 hb))<;>(try (exfalso;omega)))))
     refine ⟨.inr rfl,Vd rfl (.tmp rfl) (List.nil_sublist _) ⟨congrArg exB ?_,rfl⟩⟩
     exact (decide_eq_true ht).symm
 · (repeat' (first|refine Xe ?_|refine Xb ?_|refine Xc ?_|(apply Xn;exact Ya3;exact rfl)|refine Xw ?_|(refine Xp rfl (fun hb=>?_) (fun hb=>?_)<;>(repeat (first|replace hb:=Xz hb|replace hb:=X0 hb|replace hb:=W5 hb|replace hb:=W6 hb))<;>(try (exfalso;omega)))))
   all_goals (try (exfalso;omega))
   refine ⟨.inr rfl,Vd rfl (.tmp rfl) (List.nil_sublist _) ⟨congrArg exB ?_,rfl⟩⟩
   exact (decide_eq_false fun e=>hl (by rw [e])).symm
theorem Xfm (a b:List KeyD):FnC Tryz.prog 108 [isl eKey a,isl eKey b] [] (fun p loc=>p=exB (decide (a=b))∧loc=[]):=by
 refine Wp (i:=0) rfl Wu fun ha=>?_
 refine Wp (i:=1) rfl Wu fun hb=>?_
 obtain ⟨ha,-⟩:=ha
 obtain ⟨hb,-⟩:=hb
 simp only [maxLen] at ha hb
 refine X3 Tryz.func108 rfl Tryz.ntmps108 rfl fun w0 F0 out=>?_
 by_cases hl:a.length=b.length
 · (repeat' (first|refine Xe ?_|refine Xb ?_|refine Xc ?_|(apply Xn;exact Ya3;exact rfl)|refine Xo ?_|refine Xs ?_|(refine Xp rfl (fun hb=>?_) (fun hb=>?_)<;>(repeat (first|replace hb:=Xz hb|replace hb:=X0 hb|replace hb:=W5 hb|replace hb:=W6 hb))<;>(try (exfalso;omega)))))
   all_goals (try (exfalso;omega))
   refine Ws (fun k:Nat=>([(0,isl eKey a),(1,isl eKey b),(12,exI .i64 a.length),(13,exI .i64 k)],[])) (fun k=>k≤a.length∧a.take k=b.take k) (fun k=>a.length-k) 0 ?_ ⟨Nat.zero_le _,rfl⟩ fun k hk=>?_
   · exact Xg (by repeat (first|exact Xr|refine Xl rfl ?_)) (List.Sublist.refl _)
   obtain ⟨hk,ht⟩:=hk
   by_cases hlt:k<a.length
   · by_cases he:a[k]=b[k]'Yan
     · (repeat' (first|refine Xe ?_|refine Xb ?_|refine Xc ?_|(apply Xn;exact Yci;exact rfl)|refine Xo ?_|refine Xs ?_|(refine Xp rfl (fun hb=>?_) (fun hb=>?_)<;>(repeat (first|replace hb:=Xz hb|replace hb:=X0 hb))<;>(try (exfalso;omega)))))
       (refine Wt 9 rfl ?_)
       all_goals ((apply Xd 0 rfl Yaa rfl Yab Xa;(exact Xf rfl);exact rfl))
       all_goals ((apply Xd 1 rfl Yaa rfl Yab Xa;(exact Xf rfl);exact rfl))
       all_goals ((apply Xd 2 rfl Yaa rfl Yab Xa;(exact Yah);exact rfl))
       all_goals ((apply Xv 3 rfl Yaa rfl Yaa Yab Xa;(exact Yav);exact rfl))
       all_goals ((apply Xd 4 rfl Yaa rfl Yab Xa;(exact Xf rfl);exact rfl))
       all_goals ((apply Xd 5 rfl Yaa rfl Yab Xa;(exact Xf rfl);exact rfl))
       all_goals ((apply Xd 6 rfl Yaa rfl Yab Xa;(exact Yah);exact rfl))
       all_goals ((apply Xv 7 rfl Yaa rfl Yaa Yab Xa;(exact Yav);exact rfl))
       all_goals ((apply Xd 8 rfl Yaa rfl Yab Xa;(exact Yce);exact rfl))
       all_goals (refine X9 Yaa ?_)
       all_goals ((repeat' (first|refine Xe ?_|refine Xb ?_|refine Xc ?_|(apply Xn;exact Ybn;exact rfl)|refine Xs ?_|refine Xw ?_|(refine Xp rfl (fun hb=>?_) (fun hb=>?_)<;>(repeat (first|replace hb:=Xz hb|replace hb:=X0 hb|replace hb:=W5 hb|replace hb:=W6 hb))<;>(try (exfalso;fail))))))
       all_goals (try (exfalso;simp_all;done))
       exact ⟨k+1,⟨by omega,by rw [List.take_succ_eq_append_getElem hlt,List.take_succ_eq_append_getElem Yan,ht,he]⟩,by omega,Xg (by repeat (first|exact Xr|refine Xl rfl ?_)) (List.Sublist.refl _)⟩
     · (repeat' (first|refine Xe ?_|refine Xb ?_|refine Xc ?_|(apply Xn;exact Yci;exact rfl)|refine Xo ?_|refine Xs ?_|(refine Xp rfl (fun hb=>?_) (fun hb=>?_)<;>(repeat (first|replace hb:=Xz hb|replace hb:=X0 hb))<;>(try (exfalso;omega)))))
       (refine Wt 9 rfl ?_)
       all_goals ((apply Xd 0 rfl Yaa rfl Yab Xa;(exact Xf rfl);exact rfl))
       all_goals ((apply Xd 1 rfl Yaa rfl Yab Xa;(exact Xf rfl);exact rfl))
       all_goals ((apply Xd 2 rfl Yaa rfl Yab Xa;(exact Yah);exact rfl))
       all_goals ((apply Xv 3 rfl Yaa rfl Yaa Yab Xa;(exact Yav);exact rfl))
       all_goals ((apply Xd 4 rfl Yaa rfl Yab Xa;(exact Xf rfl);exact rfl))
       all_goals ((apply Xd 5 rfl Yaa rfl Yab Xa;(exact Xf rfl);exact rfl))
       all_goals ((apply Xd 6 rfl Yaa rfl Yab Xa;(exact Yah);exact rfl))
       all_goals ((apply Xv 7 rfl Yaa rfl Yaa Yab Xa;(exact Yav);exact rfl))
       all_goals ((apply Xd 8 rfl Yaa rfl Yab Xa;(exact Yce);exact rfl))
       all_goals (refine X9 Yaa ?_)
       all_goals ((repeat' (first|refine Xe ?_|refine Xb ?_|refine Xc ?_|(apply Xn;exact Ybn;exact rfl)|refine Xs ?_|refine Xw ?_|(refine Xp rfl (fun hb=>?_) (fun hb=>?_)<;>(repeat (first|replace hb:=Xz hb|replace hb:=X0 hb|replace hb:=W5 hb|replace hb:=W6 hb))<;>(try (exfalso;fail))))))
       all_goals (try (exfalso;simp_all;done))
       refine ⟨.inr rfl,Vd rfl (.tmp rfl) (List.nil_sublist _) ⟨congrArg exB ?_,rfl⟩⟩
       exact (decide_eq_false fun e=>he Yen).symm
   · have hk9:k=a.length:=by omega
     subst hk9
     rw [List.take_length,hl,List.take_length] at ht
     (repeat' (first|refine Xe ?_|refine Xb ?_|refine Xc ?_|(apply Xn;exact Ycq;exact rfl)|refine Xw ?_|refine Wm ?_|(refine Xp rfl (fun hb=>?_) (fun hb=>?_)<;>(repeat (first|replace hb:=Xz hb|replace hb:=X0 hb))<;>(try (exfalso;omega)))))
     refine ⟨.inr rfl,Vd rfl (.tmp rfl) (List.nil_sublist _) ⟨congrArg exB ?_,rfl⟩⟩
     exact (decide_eq_true ht).symm
 · (repeat' (first|refine Xe ?_|refine Xb ?_|refine Xc ?_|(apply Xn;exact Ya3;exact rfl)|refine Xw ?_|(refine Xp rfl (fun hb=>?_) (fun hb=>?_)<;>(repeat (first|replace hb:=Xz hb|replace hb:=X0 hb|replace hb:=W5 hb|replace hb:=W6 hb))<;>(try (exfalso;omega)))))
   all_goals (try (exfalso;omega))
   refine ⟨.inr rfl,Vd rfl (.tmp rfl) (List.nil_sublist _) ⟨congrArg exB ?_,rfl⟩⟩
   exact (decide_eq_false fun e=>hl (by rw [e])).symm
theorem Xec (a b:List Crit):FnC Tryz.prog 111 [isl eCrit a,isl eCrit b] [] (fun p loc=>p=exB (decide (a=b))∧loc=[]):=by
 refine Wp (i:=0) rfl Wu fun ha=>?_
 refine Wp (i:=1) rfl Wu fun hb=>?_
 obtain ⟨ha,-⟩:=ha
 obtain ⟨hb,-⟩:=hb
 simp only [maxLen] at ha hb
 refine X3 Tryz.func111 rfl Tryz.ntmps111 rfl fun w0 F0 out=>?_
 by_cases hl:a.length=b.length
 · (repeat' (first|refine Xe ?_|refine Xb ?_|refine Xc ?_|(apply Xn;exact Ya3;exact rfl)|refine Xo ?_|refine Xs ?_|(refine Xp rfl (fun hb=>?_) (fun hb=>?_)<;>(repeat (first|replace hb:=Xz hb|replace hb:=X0 hb|replace hb:=W5 hb|replace hb:=W6 hb))<;>(try (exfalso;omega)))))
   all_goals (try (exfalso;omega))
   refine Ws (fun k:Nat=>([(0,isl eCrit a),(1,isl eCrit b),(12,exI .i64 a.length),(13,exI .i64 k)],[])) (fun k=>k≤a.length∧a.take k=b.take k) (fun k=>a.length-k) 0 ?_ ⟨Nat.zero_le _,rfl⟩ fun k hk=>?_
   · exact Xg (by repeat (first|exact Xr|refine Xl rfl ?_)) (List.Sublist.refl _)
   obtain ⟨hk,ht⟩:=hk
   by_cases hlt:k<a.length
   · by_cases he:a[k]=b[k]'Yan
     · (repeat' (first|refine Xe ?_|refine Xb ?_|refine Xc ?_|(apply Xn;exact Yci;exact rfl)|refine Xo ?_|refine Xs ?_|(refine Xp rfl (fun hb=>?_) (fun hb=>?_)<;>(repeat (first|replace hb:=Xz hb|replace hb:=X0 hb))<;>(try (exfalso;omega)))))
       (refine Wt 9 rfl ?_)
       all_goals ((apply Xd 0 rfl Yaa rfl Yab Xa;(exact Xf rfl);exact rfl))
       all_goals ((apply Xd 1 rfl Yaa rfl Yab Xa;(exact Xf rfl);exact rfl))
       all_goals ((apply Xd 2 rfl Yaa rfl Yab Xa;(exact Yah);exact rfl))
       all_goals ((apply Xv 3 rfl Yaa rfl Yaa Yab Xa;(exact Yav);exact rfl))
       all_goals ((apply Xd 4 rfl Yaa rfl Yab Xa;(exact Xf rfl);exact rfl))
       all_goals ((apply Xd 5 rfl Yaa rfl Yab Xa;(exact Xf rfl);exact rfl))
       all_goals ((apply Xd 6 rfl Yaa rfl Yab Xa;(exact Yah);exact rfl))
       all_goals ((apply Xv 7 rfl Yaa rfl Yaa Yab Xa;(exact Yav);exact rfl))
       all_goals ((apply Xd 8 rfl Yaa rfl Yab Xa;(exact Yce);exact rfl))
       all_goals (refine X9 Yaa ?_)
       all_goals ((repeat' (first|refine Xe ?_|refine Xb ?_|refine Xc ?_|(apply Xn;exact Ybn;exact rfl)|refine Xs ?_|refine Xw ?_|(refine Xp rfl (fun hb=>?_) (fun hb=>?_)<;>(repeat (first|replace hb:=Xz hb|replace hb:=X0 hb|replace hb:=W5 hb|replace hb:=W6 hb))<;>(try (exfalso;fail))))))
       all_goals (try (exfalso;simp_all;done))
       exact ⟨k+1,⟨by omega,by rw [List.take_succ_eq_append_getElem hlt,List.take_succ_eq_append_getElem Yan,ht,he]⟩,by omega,Xg (by repeat (first|exact Xr|refine Xl rfl ?_)) (List.Sublist.refl _)⟩
     · (repeat' (first|refine Xe ?_|refine Xb ?_|refine Xc ?_|(apply Xn;exact Yci;exact rfl)|refine Xo ?_|refine Xs ?_|(refine Xp rfl (fun hb=>?_) (fun hb=>?_)<;>(repeat (first|replace hb:=Xz hb|replace hb:=X0 hb))<;>(try (exfalso;omega)))))
       (refine Wt 9 rfl ?_)
       all_goals ((apply Xd 0 rfl Yaa rfl Yab Xa;(exact Xf rfl);exact rfl))
       all_goals ((apply Xd 1 rfl Yaa rfl Yab Xa;(exact Xf rfl);exact rfl))
       all_goals ((apply Xd 2 rfl Yaa rfl Yab Xa;(exact Yah);exact rfl))
       all_goals ((apply Xv 3 rfl Yaa rfl Yaa Yab Xa;(exact Yav);exact rfl))
       all_goals ((apply Xd 4 rfl Yaa rfl Yab Xa;(exact Xf rfl);exact rfl))
       all_goals ((apply Xd 5 rfl Yaa rfl Yab Xa;(exact Xf rfl);exact rfl))
       all_goals ((apply Xd 6 rfl Yaa rfl Yab Xa;(exact Yah);exact rfl))
       all_goals ((apply Xv 7 rfl Yaa rfl Yaa Yab Xa;(exact Yav);exact rfl))
       all_goals ((apply Xd 8 rfl Yaa rfl Yab Xa;(exact Yce);exact rfl))
       all_goals (refine X9 Yaa ?_)
       all_goals ((repeat' (first|refine Xe ?_|refine Xb ?_|refine Xc ?_|(apply Xn;exact Ybn;exact rfl)|refine Xs ?_|refine Xw ?_|(refine Xp rfl (fun hb=>?_) (fun hb=>?_)<;>(repeat (first|replace hb:=Xz hb|replace hb:=X0 hb|replace hb:=W5 hb|replace hb:=W6 hb))<;>(try (exfalso;fail))))))
       all_goals (try (exfalso;simp_all;done))
       refine ⟨.inr rfl,Vd rfl (.tmp rfl) (List.nil_sublist _) ⟨congrArg exB ?_,rfl⟩⟩
       exact (decide_eq_false fun e=>he Yen).symm
   · have hk9:k=a.length:=by omega
     subst hk9
     rw [List.take_length,hl,List.take_length] at ht
     (repeat' (first|refine Xe ?_|refine Xb ?_|refine Xc ?_|(apply Xn;exact Ycq;exact rfl)|refine Xw ?_|refine Wm ?_|(refine Xp rfl (fun hb=>?_) (fun hb=>?_)<;>(repeat (first|replace hb:=Xz hb|replace hb:=X0 hb))<;>(try (exfalso;omega)))))
     refine ⟨.inr rfl,Vd rfl (.tmp rfl) (List.nil_sublist _) ⟨congrArg exB ?_,rfl⟩⟩
     exact (decide_eq_true ht).symm
 · (repeat' (first|refine Xe ?_|refine Xb ?_|refine Xc ?_|(apply Xn;exact Ya3;exact rfl)|refine Xw ?_|(refine Xp rfl (fun hb=>?_) (fun hb=>?_)<;>(repeat (first|replace hb:=Xz hb|replace hb:=X0 hb|replace hb:=W5 hb|replace hb:=W6 hb))<;>(try (exfalso;omega)))))
   all_goals (try (exfalso;omega))
   refine ⟨.inr rfl,Vd rfl (.tmp rfl) (List.nil_sublist _) ⟨congrArg exB ?_,rfl⟩⟩
   exact (decide_eq_false fun e=>hl (by rw [e])).symm
theorem Xed (a b:List ItemD):FnC Tryz.prog 112 [isl eItem a,isl eItem b] [] (fun p loc=>p=exB (decide (a=b))∧loc=[]):=by
 refine Wp (i:=0) rfl Wu fun ha=>?_
 refine Wp (i:=1) rfl Wu fun hb=>?_
 obtain ⟨ha,-⟩:=ha
 obtain ⟨hb,-⟩:=hb
 simp only [maxLen] at ha hb
 refine X3 Tryz.func112 rfl Tryz.ntmps112 rfl fun w0 F0 out=>?_
 by_cases hl:a.length=b.length
 · (repeat' (first|refine Xe ?_|refine Xb ?_|refine Xc ?_|(apply Xn;exact Ya3;exact rfl)|refine Xo ?_|refine Xs ?_|(refine Xp rfl (fun hb=>?_) (fun hb=>?_)<;>(repeat (first|replace hb:=Xz hb|replace hb:=X0 hb|replace hb:=W5 hb|replace hb:=W6 hb))<;>(try (exfalso;omega)))))
   all_goals (try (exfalso;omega))
   refine Ws (fun k:Nat=>([(0,isl eItem a),(1,isl eItem b),(12,exI .i64 a.length),(13,exI .i64 k)],[])) (fun k=>k≤a.length∧a.take k=b.take k) (fun k=>a.length-k) 0 ?_ ⟨Nat.zero_le _,rfl⟩ fun k hk=>?_
   · exact Xg (by repeat (first|exact Xr|refine Xl rfl ?_)) (List.Sublist.refl _)
   obtain ⟨hk,ht⟩:=hk
   by_cases hlt:k<a.length
   · by_cases he:a[k]=b[k]'Yan
     · (repeat' (first|refine Xe ?_|refine Xb ?_|refine Xc ?_|(apply Xn;exact Yci;exact rfl)|refine Xo ?_|refine Xs ?_|(refine Xp rfl (fun hb=>?_) (fun hb=>?_)<;>(repeat (first|replace hb:=Xz hb|replace hb:=X0 hb))<;>(try (exfalso;omega)))))
       (refine Wt 9 rfl ?_)
       all_goals ((apply Xd 0 rfl Yaa rfl Yab Xa;(exact Xf rfl);exact rfl))
       all_goals ((apply Xd 1 rfl Yaa rfl Yab Xa;(exact Xf rfl);exact rfl))
       all_goals ((apply Xd 2 rfl Yaa rfl Yab Xa;(exact Yah);exact rfl))
       all_goals ((apply Xv 3 rfl Yaa rfl Yaa Yab Xa;(exact Yav);exact rfl))
       all_goals ((apply Xd 4 rfl Yaa rfl Yab Xa;(exact Xf rfl);exact rfl))
       all_goals ((apply Xd 5 rfl Yaa rfl Yab Xa;(exact Xf rfl);exact rfl))
       all_goals ((apply Xd 6 rfl Yaa rfl Yab Xa;(exact Yah);exact rfl))
       all_goals ((apply Xv 7 rfl Yaa rfl Yaa Yab Xa;(exact Yav);exact rfl))
       all_goals ((apply Xd 8 rfl Yaa rfl Yab Xa;(exact Yce);exact rfl))
       all_goals (refine X9 Yaa ?_)
       all_goals ((repeat' (first|refine Xe ?_|refine Xb ?_|refine Xc ?_|(apply Xn;exact Ybn;exact rfl)|refine Xs ?_|refine Xw ?_|(refine Xp rfl (fun hb=>?_) (fun hb=>?_)<;>(repeat (first|replace hb:=Xz hb|replace hb:=X0 hb|replace hb:=W5 hb|replace hb:=W6 hb))<;>(try (exfalso;fail))))))
       all_goals (try (exfalso;simp_all;done))
       exact ⟨k+1,⟨by omega,by rw [List.take_succ_eq_append_getElem hlt,List.take_succ_eq_append_getElem Yan,ht,he]⟩,by omega,Xg (by repeat (first|exact Xr|refine Xl rfl ?_)) (List.Sublist.refl _)⟩
     · (repeat' (first|refine Xe ?_|refine Xb ?_|refine Xc ?_|(apply Xn;exact Yci;exact rfl)|refine Xo ?_|refine Xs ?_|(refine Xp rfl (fun hb=>?_) (fun hb=>?_)<;>(repeat (first|replace hb:=Xz hb|replace hb:=X0 hb))<;>(try (exfalso;omega)))))
       (refine Wt 9 rfl ?_)
       all_goals ((apply Xd 0 rfl Yaa rfl Yab Xa;(exact Xf rfl);exact rfl))
       all_goals ((apply Xd 1 rfl Yaa rfl Yab Xa;(exact Xf rfl);exact rfl))
       all_goals ((apply Xd 2 rfl Yaa rfl Yab Xa;(exact Yah);exact rfl))
       all_goals ((apply Xv 3 rfl Yaa rfl Yaa Yab Xa;(exact Yav);exact rfl))
       all_goals ((apply Xd 4 rfl Yaa rfl Yab Xa;(exact Xf rfl);exact rfl))
       all_goals ((apply Xd 5 rfl Yaa rfl Yab Xa;(exact Xf rfl);exact rfl))
       all_goals ((apply Xd 6 rfl Yaa rfl Yab Xa;(exact Yah);exact rfl))
       all_goals ((apply Xv 7 rfl Yaa rfl Yaa Yab Xa;(exact Yav);exact rfl))
       all_goals ((apply Xd 8 rfl Yaa rfl Yab Xa;(exact Yce);exact rfl))
       all_goals (refine X9 Yaa ?_)
       all_goals ((repeat' (first|refine Xe ?_|refine Xb ?_|refine Xc ?_|(apply Xn;exact Ybn;exact rfl)|refine Xs ?_|refine Xw ?_|(refine Xp rfl (fun hb=>?_) (fun hb=>?_)<;>(repeat (first|replace hb:=Xz hb|replace hb:=X0 hb|replace hb:=W5 hb|replace hb:=W6 hb))<;>(try (exfalso;fail))))))
       all_goals (try (exfalso;simp_all;done))
       refine ⟨.inr rfl,Vd rfl (.tmp rfl) (List.nil_sublist _) ⟨congrArg exB ?_,rfl⟩⟩
       exact (decide_eq_false fun e=>he Yen).symm
   · have hk9:k=a.length:=by omega
     subst hk9
     rw [List.take_length,hl,List.take_length] at ht
     (repeat' (first|refine Xe ?_|refine Xb ?_|refine Xc ?_|(apply Xn;exact Ycq;exact rfl)|refine Xw ?_|refine Wm ?_|(refine Xp rfl (fun hb=>?_) (fun hb=>?_)<;>(repeat (first|replace hb:=Xz hb|replace hb:=X0 hb))<;>(try (exfalso;omega)))))
     refine ⟨.inr rfl,Vd rfl (.tmp rfl) (List.nil_sublist _) ⟨congrArg exB ?_,rfl⟩⟩
     exact (decide_eq_true ht).symm
 · (repeat' (first|refine Xe ?_|refine Xb ?_|refine Xc ?_|(apply Xn;exact Ya3;exact rfl)|refine Xw ?_|(refine Xp rfl (fun hb=>?_) (fun hb=>?_)<;>(repeat (first|replace hb:=Xz hb|replace hb:=X0 hb|replace hb:=W5 hb|replace hb:=W6 hb))<;>(try (exfalso;omega)))))
   all_goals (try (exfalso;omega))
   refine ⟨.inr rfl,Vd rfl (.tmp rfl) (List.nil_sublist _) ⟨congrArg exB ?_,rfl⟩⟩
   exact (decide_eq_false fun e=>hl (by rw [e])).symm
theorem Xee (k j:Nat) (a b:List Ex) (hp: ∀x y:Ex,FnC Tryz.prog 110 [agg (exV k x),agg (exV j y)] [] (fun p loc=>p=exB (decide (x=y))∧loc=[])):FnC Tryz.prog 168 [isl (eEx k) a,isl (eEx j) b,ex (.func (.func 110) #[] #[])] [] (fun p loc=>p=exB (Xmn (fun x y=>decide (x=y)) a b)∧loc=[]):=by
 refine Wp (i:=0) rfl Wu fun ha=>?_
 refine Wp (i:=1) rfl Wu fun hb=>?_
 obtain ⟨ha,-⟩:=ha
 obtain ⟨hb,-⟩:=hb
 simp only [maxLen] at ha hb
 refine X3 Tryz.func168 rfl Tryz.ntmps168 rfl fun w0 F0 out=>?_
 by_cases hl:a.length=b.length
 · (repeat' (first|refine Xe ?_|refine Xb ?_|refine Xc ?_|(apply Xn;exact Ya3;exact rfl)|refine Xo ?_|refine Xs ?_|(refine Xp rfl (fun hb=>?_) (fun hb=>?_)<;>(repeat (first|replace hb:=Xz hb|replace hb:=X0 hb|replace hb:=W5 hb|replace hb:=W6 hb))<;>(try (exfalso;omega)))))
   all_goals (try (exfalso;omega))
   refine Ws (fun q:Nat=>([(1,isl (eEx j) b),(2,ex (.func (.func 110) #[] #[])),(15,isl (eEx k) a),(16,exI .i64 a.length),(17,exI .i64 q)],[])) (fun q=>q≤a.length∧ ∀i (h1:i<a.length) (h2:i<b.length),i<q→(fun x y:Ex=>decide (x=y)) a[i] b[i]=true) (fun q=>a.length-q) 0 ?_ ⟨Nat.zero_le _,fun i _ _ h=>absurd h Yan⟩ fun m hm=>?_
   · exact Xg (by repeat (first|exact Xr|refine Xl rfl ?_)) (List.Sublist.refl _)
   obtain ⟨hm,hpre⟩:=hm
   by_cases hlt:m<a.length
   · have hlt2:m<b.length:=by omega
     have hcall:=hp a[m] b[m]
     cases he:(fun x y:Ex=>decide (x=y)) a[m] b[m]
     · try simp only at he
       rw [he] at hcall
       (repeat' (first|refine Xe ?_|refine Xb ?_|refine Xc ?_|(apply Xn;exact Ydx;exact rfl)|refine Xo ?_|refine Xs ?_|refine Xw ?_|refine Xx rfl ?_|(apply Xh;exact rfl;first|(apply Xi;(refine Q2 (vs:=[]) (args:=[_,_]) rfl Tryz.func110 rfl hcall rfl ?_;rintro _ _ ⟨rfl,rfl⟩))|(apply Wb;refine X8 ?_;intro _)|(apply Xt;refine Xj (k:=0) (l0:=[]) rfl rfl rfl ?_))|(refine Xp rfl (fun hb=>?_) (fun hb=>?_)<;>(repeat (first|replace hb:=Xz hb|replace hb:=X0 hb))<;>(try (exfalso;omega)))))
       all_goals (try (exfalso;first|contradiction|omega))
       refine ⟨.inr rfl,Vd rfl (.tmp rfl) (List.nil_sublist _) ⟨congrArg exB ?_,rfl⟩⟩
       symm
       rw [Bool.eq_false_iff]
       intro h
       have h3:=(Xib.1 h).2 m hlt hlt2
       try simp only at h3
       rw [he] at h3
       cases h3
     · have he2:=he
       try simp only at he
       rw [he] at hcall
       (repeat' (first|refine Xe ?_|refine Xb ?_|refine Xc ?_|(apply Xn;exact Ydy;exact rfl)|refine Xo ?_|refine Xs ?_|refine Xy rfl ?_|(apply Xh;exact rfl;first|(apply Xi;(refine Q2 (vs:=[]) (args:=[_,_]) rfl Tryz.func110 rfl hcall rfl ?_;rintro _ _ ⟨rfl,rfl⟩))|(apply Wb;refine X8 ?_;intro _)|(apply Xt;refine Xj (k:=0) (l0:=[]) rfl rfl rfl ?_))|(refine Xp rfl (fun hb=>?_) (fun hb=>?_)<;>(repeat (first|replace hb:=Xz hb|replace hb:=X0 hb))<;>(try (exfalso;omega)))))
       all_goals (try (exfalso;first|contradiction|omega))
       refine ⟨m+1,⟨by omega,fun i h1 h2 h3=>?_⟩,by omega,Xg (by repeat (first|exact Xr|refine Xl rfl ?_)) (List.nil_sublist _)⟩
       rcases Nat.lt_or_ge i m with h|h
       · exact hpre i h1 h2 h
       · have:i=m:=by omega
         subst this
         exact he2
   · (repeat' (first|refine Xe ?_|refine Xb ?_|refine Xc ?_|(apply Xn;exact Ycq;exact rfl)|refine Xw ?_|refine Wm ?_|(refine Xp rfl (fun hb=>?_) (fun hb=>?_)<;>(repeat (first|replace hb:=Xz hb|replace hb:=X0 hb))<;>(try (exfalso;omega)))))
     all_goals (try (exfalso;omega))
     refine ⟨.inr rfl,Vd rfl (.tmp rfl) (List.nil_sublist _) ⟨congrArg exB ?_,rfl⟩⟩
     exact (Xib.2 ⟨hl,fun i h1 h2=>hpre i h1 h2 Yan⟩).symm
 · (repeat' (first|refine Xe ?_|refine Xb ?_|refine Xc ?_|(apply Xn;exact Ya3;exact rfl)|refine Xw ?_|(refine Xp rfl (fun hb=>?_) (fun hb=>?_)<;>(repeat (first|replace hb:=Xz hb|replace hb:=X0 hb|replace hb:=W5 hb|replace hb:=W6 hb))<;>(try (exfalso;omega)))))
   all_goals (try (exfalso;omega))
   refine ⟨.inr rfl,Vd rfl (.tmp rfl) (List.nil_sublist _) ⟨congrArg exB ?_,rfl⟩⟩
   symm
   rw [Bool.eq_false_iff]
   exact fun h=>hl (Xib.1 h).1
theorem Xfn (a b:List TieD) (hp: ∀x y:TieD,FnC Tryz.prog 107 [agg (Xb6 x),agg (Xb6 y)] [] (fun p loc=>p=exB (decide (x=y))∧loc=[])):FnC Tryz.prog 113 [isl eTie a,isl eTie b,ex (.func (.func 107) #[] #[])] [] (fun p loc=>p=exB (Xmn (fun x y=>decide (x=y)) a b)∧loc=[]):=by
 refine Wp (i:=0) rfl Wu fun ha=>?_
 refine Wp (i:=1) rfl Wu fun hb=>?_
 obtain ⟨ha,-⟩:=ha
 obtain ⟨hb,-⟩:=hb
 simp only [maxLen] at ha hb
 refine X3 Tryz.func113 rfl Tryz.ntmps113 rfl fun w0 F0 out=>?_
 by_cases hl:a.length=b.length
 · (repeat' (first|refine Xe ?_|refine Xb ?_|refine Xc ?_|(apply Xn;exact Ya3;exact rfl)|refine Xo ?_|refine Xs ?_|(refine Xp rfl (fun hb=>?_) (fun hb=>?_)<;>(repeat (first|replace hb:=Xz hb|replace hb:=X0 hb|replace hb:=W5 hb|replace hb:=W6 hb))<;>(try (exfalso;omega)))))
   all_goals (try (exfalso;omega))
   refine Ws (fun q:Nat=>([(1,isl eTie b),(2,ex (.func (.func 107) #[] #[])),(15,isl eTie a),(16,exI .i64 a.length),(17,exI .i64 q)],[])) (fun q=>q≤a.length∧ ∀i (h1:i<a.length) (h2:i<b.length),i<q→(fun x y:TieD=>decide (x=y)) a[i] b[i]=true) (fun q=>a.length-q) 0 ?_ ⟨Nat.zero_le _,fun i _ _ h=>absurd h Yan⟩ fun m hm=>?_
   · exact Xg (by repeat (first|exact Xr|refine Xl rfl ?_)) (List.Sublist.refl _)
   obtain ⟨hm,hpre⟩:=hm
   by_cases hlt:m<a.length
   · have hlt2:m<b.length:=by omega
     have hcall:=hp a[m] b[m]
     cases he:(fun x y:TieD=>decide (x=y)) a[m] b[m]
     · try simp only at he
       rw [he] at hcall
       (repeat' (first|refine Xe ?_|refine Xb ?_|refine Xc ?_|(apply Xn;exact Ydx;exact rfl)|refine Xo ?_|refine Xs ?_|refine Xw ?_|refine Xx rfl ?_|(apply Xh;exact rfl;first|(apply Xi;(refine Q2 (vs:=[]) (args:=[_,_]) rfl Tryz.func107 rfl hcall rfl ?_;rintro _ _ ⟨rfl,rfl⟩))|(apply Wb;refine X8 ?_;intro _)|(apply Xt;refine Xj (k:=0) (l0:=[]) rfl rfl rfl ?_))|(refine Xp rfl (fun hb=>?_) (fun hb=>?_)<;>(repeat (first|replace hb:=Xz hb|replace hb:=X0 hb))<;>(try (exfalso;omega)))))
       all_goals (try (exfalso;first|contradiction|omega))
       refine ⟨.inr rfl,Vd rfl (.tmp rfl) (List.nil_sublist _) ⟨congrArg exB ?_,rfl⟩⟩
       symm
       rw [Bool.eq_false_iff]
       intro h
       have h3:=(Xib.1 h).2 m hlt hlt2
       try simp only at h3
       rw [he] at h3
       cases h3
     · have he2:=he
       try simp only at he
       rw [he] at hcall
       (repeat' (first|refine Xe ?_|refine Xb ?_|refine Xc ?_|(apply Xn;exact Ydy;exact rfl)|refine Xo ?_|refine Xs ?_|refine Xy rfl ?_|(apply Xh;exact rfl;first|(apply Xi;(refine Q2 (vs:=[]) (args:=[_,_]) rfl Tryz.func107 rfl hcall rfl ?_;rintro _ _ ⟨rfl,rfl⟩))|(apply Wb;refine X8 ?_;intro _)|(apply Xt;refine Xj (k:=0) (l0:=[]) rfl rfl rfl ?_))|(refine Xp rfl (fun hb=>?_) (fun hb=>?_)<;>(repeat (first|replace hb:=Xz hb|replace hb:=X0 hb))<;>(try (exfalso;omega)))))
       all_goals (try (exfalso;first|contradiction|omega))
       refine ⟨m+1,⟨by omega,fun i h1 h2 h3=>?_⟩,by omega,Xg (by repeat (first|exact Xr|refine Xl rfl ?_)) (List.nil_sublist _)⟩
       rcases Nat.lt_or_ge i m with h|h
       · exact hpre i h1 h2 h
       · have:i=m:=by omega
         subst this
         exact he2
   · (repeat' (first|refine Xe ?_|refine Xb ?_|refine Xc ?_|(apply Xn;exact Ycq;exact rfl)|refine Xw ?_|refine Wm ?_|(refine Xp rfl (fun hb=>?_) (fun hb=>?_)<;>(repeat (first|replace hb:=Xz hb|replace hb:=X0 hb))<;>(try (exfalso;omega)))))
     all_goals (try (exfalso;omega))
     refine ⟨.inr rfl,Vd rfl (.tmp rfl) (List.nil_sublist _) ⟨congrArg exB ?_,rfl⟩⟩
     exact (Xib.2 ⟨hl,fun i h1 h2=>hpre i h1 h2 Yan⟩).symm
 · (repeat' (first|refine Xe ?_|refine Xb ?_|refine Xc ?_|(apply Xn;exact Ya3;exact rfl)|refine Xw ?_|(refine Xp rfl (fun hb=>?_) (fun hb=>?_)<;>(repeat (first|replace hb:=Xz hb|replace hb:=X0 hb|replace hb:=W5 hb|replace hb:=W6 hb))<;>(try (exfalso;omega)))))
   all_goals (try (exfalso;omega))
   refine ⟨.inr rfl,Vd rfl (.tmp rfl) (List.nil_sublist _) ⟨congrArg exB ?_,rfl⟩⟩
   symm
   rw [Bool.eq_false_iff]
   exact fun h=>hl (Xib.1 h).1
theorem Xc7 (k j:Nat) (a b:List RoundD) (hp: ∀x y:RoundD,FnC Tryz.prog 109 [agg (V9 k x),agg (V9 j y)] [] (fun p loc=>p=exB (decide (x=y))∧loc=[])):FnC Tryz.prog 114 [isl (U1 k) a,isl (U1 j) b,ex (.func (.func 109) #[] #[])] [] (fun p loc=>p=exB (Xmn (fun x y=>decide (x=y)) a b)∧loc=[]):=by
 refine Wp (i:=0) rfl Wu fun ha=>?_
 refine Wp (i:=1) rfl Wu fun hb=>?_
 obtain ⟨ha,-⟩:=ha
 obtain ⟨hb,-⟩:=hb
 simp only [maxLen] at ha hb
 refine X3 Tryz.func114 rfl Tryz.ntmps114 rfl fun w0 F0 out=>?_
 by_cases hl:a.length=b.length
 · (repeat' (first|refine Xe ?_|refine Xb ?_|refine Xc ?_|(apply Xn;exact Ya3;exact rfl)|refine Xo ?_|refine Xs ?_|(refine Xp rfl (fun hb=>?_) (fun hb=>?_)<;>(repeat (first|replace hb:=Xz hb|replace hb:=X0 hb|replace hb:=W5 hb|replace hb:=W6 hb))<;>(try (exfalso;omega)))))
   all_goals (try (exfalso;omega))
   refine Ws (fun q:Nat=>([(1,isl (U1 j) b),(2,ex (.func (.func 109) #[] #[])),(15,isl (U1 k) a),(16,exI .i64 a.length),(17,exI .i64 q)],[])) (fun q=>q≤a.length∧ ∀i (h1:i<a.length) (h2:i<b.length),i<q→(fun x y:RoundD=>decide (x=y)) a[i] b[i]=true) (fun q=>a.length-q) 0 ?_ ⟨Nat.zero_le _,fun i _ _ h=>absurd h Yan⟩ fun m hm=>?_
   · exact Xg (by repeat (first|exact Xr|refine Xl rfl ?_)) (List.Sublist.refl _)
   obtain ⟨hm,hpre⟩:=hm
   by_cases hlt:m<a.length
   · have hlt2:m<b.length:=by omega
     have hcall:=hp a[m] b[m]
     cases he:(fun x y:RoundD=>decide (x=y)) a[m] b[m]
     · try simp only at he
       rw [he] at hcall
       (repeat' (first|refine Xe ?_|refine Xb ?_|refine Xc ?_|(apply Xn;exact Ydx;exact rfl)|refine Xo ?_|refine Xs ?_|refine Xw ?_|refine Xx rfl ?_|(apply Xh;exact rfl;first|(apply Xi;(refine Q2 (vs:=[]) (args:=[_,_]) rfl Tryz.func109 rfl hcall rfl ?_;rintro _ _ ⟨rfl,rfl⟩))|(apply Wb;refine X8 ?_;intro _)|(apply Xt;refine Xj (k:=0) (l0:=[]) rfl rfl rfl ?_))|(refine Xp rfl (fun hb=>?_) (fun hb=>?_)<;>(repeat (first|replace hb:=Xz hb|replace hb:=X0 hb))<;>(try (exfalso;omega)))))
       all_goals (try (exfalso;first|contradiction|omega))
       refine ⟨.inr rfl,Vd rfl (.tmp rfl) (List.nil_sublist _) ⟨congrArg exB ?_,rfl⟩⟩
       symm
       rw [Bool.eq_false_iff]
       intro h
       have h3:=(Xib.1 h).2 m hlt hlt2
       try simp only at h3
       rw [he] at h3
       cases h3
     · have he2:=he
       try simp only at he
       rw [he] at hcall
       (repeat' (first|refine Xe ?_|refine Xb ?_|refine Xc ?_|(apply Xn;exact Ydy;exact rfl)|refine Xo ?_|refine Xs ?_|refine Xy rfl ?_|(apply Xh;exact rfl;first|(apply Xi;(refine Q2 (vs:=[]) (args:=[_,_]) rfl Tryz.func109 rfl hcall rfl ?_;rintro _ _ ⟨rfl,rfl⟩))|(apply Wb;refine X8 ?_;intro _)|(apply Xt;refine Xj (k:=0) (l0:=[]) rfl rfl rfl ?_))|(refine Xp rfl (fun hb=>?_) (fun hb=>?_)<;>(repeat (first|replace hb:=Xz hb|replace hb:=X0 hb))<;>(try (exfalso;omega)))))
       all_goals (try (exfalso;first|contradiction|omega))
       refine ⟨m+1,⟨by omega,fun i h1 h2 h3=>?_⟩,by omega,Xg (by repeat (first|exact Xr|refine Xl rfl ?_)) (List.nil_sublist _)⟩
       rcases Nat.lt_or_ge i m with h|h
       · exact hpre i h1 h2 h
       · have:i=m:=by omega
         subst this
         exact he2
   · (repeat' (first|refine Xe ?_|refine Xb ?_|refine Xc ?_|(apply Xn;exact Ycq;exact rfl)|refine Xw ?_|refine Wm ?_|(refine Xp rfl (fun hb=>?_) (fun hb=>?_)<;>(repeat (first|replace hb:=Xz hb|replace hb:=X0 hb))<;>(try (exfalso;omega)))))
     all_goals (try (exfalso;omega))
     refine ⟨.inr rfl,Vd rfl (.tmp rfl) (List.nil_sublist _) ⟨congrArg exB ?_,rfl⟩⟩
     exact (Xib.2 ⟨hl,fun i h1 h2=>hpre i h1 h2 Yan⟩).symm
 · (repeat' (first|refine Xe ?_|refine Xb ?_|refine Xc ?_|(apply Xn;exact Ya3;exact rfl)|refine Xw ?_|(refine Xp rfl (fun hb=>?_) (fun hb=>?_)<;>(repeat (first|replace hb:=Xz hb|replace hb:=X0 hb|replace hb:=W5 hb|replace hb:=W6 hb))<;>(try (exfalso;omega)))))
   all_goals (try (exfalso;omega))
   refine ⟨.inr rfl,Vd rfl (.tmp rfl) (List.nil_sublist _) ⟨congrArg exB ?_,rfl⟩⟩
   symm
   rw [Bool.eq_false_iff]
   exact fun h=>hl (Xib.1 h).1
theorem sameExpr13_any: ∀(k j:Nat) (x y:Ex),FnC Tryz.prog 110 [agg (exV k x),agg (exV j y)] [] (fun p loc=>p=exB (decide (x=y))∧loc=[]):=by
 intro k
 induction k with
 | zero=>intro j x y;exact Wp (i:=0) rfl R4 fun h=>h.elim
 | succ k ih=>
   intro j x y
   cases j with
   | zero=>exact Wp (i:=1) rfl R4 fun h=>h.elim
   | succ j=>
     show FnC Tryz.prog 110 [agg [exI .i64 x.kind,exT x.name,exI .i64 x.n,exI .i64 x.d,isl (eEx k) x.l],agg [exI .i64 y.kind,exT y.name,exI .i64 y.n,exI .i64 y.d,isl (eEx j) y.l]] [] (fun p loc=>p=exB (decide (x=y))∧loc=[])
     have hcall:=Xee k j x.l y.l (ih j)
     rw [Xg2] at hcall
     refine X3 Tryz.func110 rfl Tryz.ntmps110 rfl fun w0 F0 out=>?_
     (repeat' (first|refine Xe ?_|refine Xb ?_|refine Xc ?_|(apply Xn;(first|exact Xf rfl|exact Xm rfl|exact Wd (b:=true) rfl (fun _=>rfl) (fun e=>by cases e)|exact Wd (b:=false) rfl (fun e=>by cases e) (fun _=>rfl)|exact Yap|exact Yad|exact Yar);exact rfl)|(refine Wv rfl rfl rfl rfl rfl ?_)|(apply W0;exact rfl;exact rfl;exact rfl;(first|exact Yap|exact Yad|(apply Vx;first|exact Sy rfl rfl|exact Rw rfl rfl));exact rfl)|refine Xw ?_|(apply Xh;exact rfl;(apply Vp;refine W4 rfl ?_;intro _))|(apply Vm;exact rfl;exact rfl;exact rfl;exact rfl;(apply Xi;(refine Xq Tryz.func168 rfl hcall rfl ?_;rintro _ _ ⟨rfl,rfl⟩)))|(refine Wf rfl rfl (fun hb=>?_) (fun hb=>?_)<;>(repeat (first|replace hb:=Xz hb|replace hb:=X0 hb))<;>(try (exfalso;fail)))))
     all_goals (refine ⟨.inr rfl,Vd rfl (.tmp rfl) (List.nil_sublist _) ⟨congrArg exB ?_,rfl⟩⟩)
     all_goals (rw [Bool.eq_iff_iff];simp only [decide_eq_true_eq,Ex.ext_iff' x y,Bool.false_eq_true,false_iff, *])
     all_goals simp
theorem Xg3 (x y:TieD):FnC Tryz.prog 107 [agg (Xb6 x),agg (Xb6 y)] [] (fun p loc=>p=exB (decide (x=y))∧loc=[]):=by
 have he:decide (x=y)=(decide (x.name=y.name)&&decide (x.keys=y.keys)):=by
   cases x;cases y;rw [Bool.eq_iff_iff];simp
 rw [he]
 refine X3 Tryz.func107 rfl Tryz.ntmps107 rfl fun w0 F0 out=>?_
 (repeat' (first|refine Xe ?_|refine Xb ?_|refine Xc ?_|(apply Xn;exact Ycb;exact rfl)|(refine Wv rfl rfl rfl rfl rfl ?_)|(apply W0;exact rfl;exact rfl;exact rfl;(first|exact Yap|exact Yad);exact rfl)|refine Xw ?_|(apply Xh;exact rfl;(apply Vp;refine W4 rfl ?_;intro _))|(apply Vm;exact rfl;exact rfl;exact rfl;exact rfl;(apply Xi;(refine Xq Tryz.func108 rfl (Xfm _ _) rfl ?_;rintro _ _ ⟨rfl,rfl⟩)))|(refine Wf rfl rfl (fun hb=>?_) (fun hb=>?_)<;>(repeat (first|replace hb:=Xz hb|replace hb:=X0 hb))<;>(try (exfalso;fail)))))
 all_goals (refine ⟨.inr rfl,Vd rfl (.tmp rfl) (List.nil_sublist _) ⟨congrArg exB ?_,rfl⟩⟩)
 all_goals simp [*]
theorem Xg4 (k j:Nat) (x y:RoundD):FnC Tryz.prog 109 [agg (V9 k x),agg (V9 j y)] [] (fun p loc=>p=exB (decide (x=y))∧loc=[]):=by
 have he:decide (x=y)=decide (x.name=y.name∧x.panel=y.panel∧x.quota=y.quota∧x.cut=y.cut∧x.places=y.places∧x.free=y.free∧x.tie=y.tie∧x.tieNo=y.tieNo∧x.score=y.score):=by
   cases x;cases y;rw [Bool.eq_iff_iff];simp only [decide_eq_true_eq,RoundD.mk.injEq];constructor<;>(rintro ⟨h1,h2,h3,h4,h5,h6,h7,h8,h9⟩;refine ⟨?_,?_,?_,?_,?_,?_,?_,?_,?_⟩<;>assumption)
 rw [he]
 have hcall:=sameExpr13_any k j x.score y.score
 refine X3 Tryz.func109 rfl Tryz.ntmps109 rfl fun w0 F0 out=>?_
 (repeat' (first|refine Xe ?_|refine Xb ?_|refine Xc ?_|(apply Xn;exact Ycb;exact rfl)|(refine Wv rfl rfl rfl rfl rfl ?_)|(apply W0;exact rfl;exact rfl;exact rfl;(first|exact Yd2|exact Yad|(apply Vx;first|exact Sy rfl rfl|exact Rw rfl rfl|exact Xqs rfl rfl rfl));exact rfl)|refine Xw ?_|(apply Xh;exact rfl;(apply Vp;refine W4 rfl ?_;intro _))|(apply Vm;exact rfl;exact rfl;exact rfl;exact rfl;(apply Xi;(refine Xq Tryz.func110 rfl hcall rfl ?_;rintro _ _ ⟨rfl,rfl⟩)))|(refine Wf rfl rfl (fun hb=>?_) (fun hb=>?_)<;>(repeat (first|replace hb:=Xz hb|replace hb:=X0 hb))<;>(try (exfalso;fail)))))
 all_goals (refine ⟨.inr rfl,Vd rfl (.tmp rfl) (List.nil_sublist _) ⟨congrArg exB ?_,rfl⟩⟩)
 all_goals (rw [Bool.eq_iff_iff];simp only [decide_eq_true_eq,Bool.false_eq_true,false_iff, *])
 all_goals simp [*]
end Go.Proofs.YthdldeenpgeemaaGreatDoor
namespace Go.Proofs.YthdldeenpgeemaaGreatDoor
open Go Go.RowKit Go.Kx Go.Fr Go.Lx Go.Sx
structure StopW (p:Prop):Prop where
 out:p
theorem Xdk (k j:Nat) (a b:RulesD):FnC Tryz.prog 37 [agg (Wq k a),agg (Wq j b)] [] (fun p loc=>p=exB (decide (a=b))∧loc=[]):=by
 have ht:=Xfn a.ties b.ties (fun x y=>Xg3 x y)
 rw [Xg2] at ht
 have hr:=Xc7 k j a.rounds b.rounds (fun x y=>Xg4 k j x y)
 rw [Xg2] at hr
 have he:decide (a=b)=decide (a.name=b.name∧a.crits=b.crits∧a.bonus=b.bonus∧a.malus=b.malus∧a.ties=b.ties∧a.rounds=b.rounds∧a.prizes=b.prizes∧a.points=b.points∧a.best=b.best):=by
   cases a;cases b;rw [Bool.eq_iff_iff];simp only [decide_eq_true_eq,RulesD.mk.injEq]
 rw [he]
 refine X3 Tryz.func37 rfl Tryz.ntmps37 rfl fun w0 F0 out=>?_
 (repeat' (first|(apply W2 3;refine StopW.out ?_)|refine Xe ?_|refine Xb ?_|refine Xc ?_|(apply Xn;(exact Xm rfl);exact rfl)|(apply Xh;exact rfl;(apply Vp;refine W4 rfl ?_;intro _))))
 rename_i b2 b3
 refine ⟨?_⟩
 refine Xaq 3 (fun v:Bool=>([(2,ex (.pointer (some ⟨b2,0,none⟩))),(3,ex (.pointer (some ⟨b3,0,none⟩))),(5,ex (.func (.func 107) #[] #[])),(6,ex (.func (.func 109) #[] #[])),(7,exB v)],[row b3 29 9 (Wq j b),row b2 29 9 (Wq k a)])) (fun v=>v=(decide (a.crits=b.crits)&&decide (a.bonus=b.bonus)&&decide (a.malus=b.malus))) ?_ fun v hv=>?_
 · (repeat' (first|refine Xb ?_|refine Xc ?_|(apply Xn;exact Ydm;exact rfl)|(refine Wv rfl rfl rfl rfl rfl ?_)|(apply W0;exact rfl;exact rfl;exact rfl;(first|exact Yap|exact Yad);exact rfl)|(apply Xh;exact rfl;(apply Xi;(refine Xq Tryz.func111 rfl (Xec _ _) rfl ?_;rintro _ _ ⟨rfl,rfl⟩)))|(apply Vm;exact rfl;exact rfl;exact rfl;exact rfl;(apply Xi;(refine Xq Tryz.func112 rfl (Xed _ _) rfl ?_;rintro _ _ ⟨rfl,rfl⟩)))|(refine Wf rfl rfl (fun hb=>?_) (fun hb=>?_)<;>(repeat (first|replace hb:=Xz hb|replace hb:=X0 hb))<;>(try (exfalso;fail)))))
   all_goals (refine ⟨_,?_,Xg (by repeat (first|exact Xr|refine Xl rfl ?_)) (List.Sublist.refl _)⟩)
   all_goals simp [*]
 refine Xaq 4 (fun u:Bool=>([(2,ex (.pointer (some ⟨b2,0,none⟩))),(3,ex (.pointer (some ⟨b3,0,none⟩))),(7,exB v),(8,exB u)],[row b3 29 9 (Wq j b),row b2 29 9 (Wq k a)])) (fun u=>u=(decide (a.ties=b.ties)&&decide (a.rounds=b.rounds))) ?_ fun u hu=>?_
 · (repeat' (first|refine Xb ?_|refine Xc ?_|(apply Xn;exact Ydm;exact rfl)|(refine Wv rfl rfl rfl rfl rfl ?_)|(apply W0;exact rfl;exact rfl;exact rfl;(first|exact Xf rfl|exact Yap|exact Yad);exact rfl)|(apply Xh;exact rfl;(apply Xi;(refine Xq Tryz.func113 rfl ht rfl ?_;rintro _ _ ⟨rfl,rfl⟩)))|(apply Vm;exact rfl;exact rfl;exact rfl;exact rfl;(apply Xi;(refine Xq Tryz.func114 rfl hr rfl ?_;rintro _ _ ⟨rfl,rfl⟩)))|(refine Wf rfl rfl (fun hb=>?_) (fun hb=>?_)<;>(repeat (first|replace hb:=Xz hb|replace hb:=X0 hb))<;>(try (exfalso;fail)))))
   all_goals (refine ⟨_,?_,Xg (by repeat (first|exact Xr|refine Xl rfl ?_)) (List.Sublist.refl _)⟩)
   all_goals simp [*]
 clear ht hr he
 refine Xaq 5 (fun u2:Bool=>([(4,exB u2)],[])) (fun u2=>u2=(decide (a.name=b.name)&&v&&u&&decide (a.prizes=b.prizes)&&decide (a.points=b.points)&&decide (a.best=b.best))) ?_ fun u2 hu2=>?_
 · clear hv hu
   (repeat' (first|refine Xb ?_|refine Xc ?_|(apply Xn;exact Ycb;exact rfl)|(refine Wv rfl rfl rfl rfl rfl ?_)|(apply W0;exact rfl;exact rfl;exact rfl;(first|exact Xf rfl|exact Yap|exact Yad|exact Yar);exact rfl)|(apply Vm;exact rfl;exact rfl;exact rfl;exact rfl;(apply Xi;(refine Xq Tryz.func115 rfl (Xfl _ _) rfl ?_;rintro _ _ ⟨rfl,rfl⟩)))|(refine Wf rfl rfl (fun hb=>?_) (fun hb=>?_)<;>(repeat (first|replace hb:=Xz hb|replace hb:=X0 hb))<;>(try (exfalso;fail)))))
   all_goals (refine ⟨_,?_,Xg (by repeat (first|exact Xr|refine Xl rfl ?_)) (List.nil_sublist _)⟩)
   all_goals simp [*]
 · (repeat' (refine Xw ?_))
   refine ⟨.inr rfl,Vd rfl (.tmp rfl) (List.nil_sublist _) ⟨congrArg exB ?_,rfl⟩⟩
   rw [hu2,hv,hu,Bool.eq_iff_iff]
   simp only [Bool.and_eq_true,decide_eq_true_eq]
   simp only [and_assoc]
end Go.Proofs.YthdldeenpgeemaaGreatDoor
namespace Go.Sx
open Go.Lx Go.Fr
def tkW (w:List UInt8):TokD:=⟨1,w,0,0⟩
def tkS (w:List UInt8):TokD:=⟨3,w,0,0⟩
def tkN (n:Int):TokD:=⟨2,[],n,0⟩
def sT (w:List UInt8):TokD:=if Us w then tkW w else tkS w
def commaT:List Int→List TokD
 | []=>[]
 | x::l=>tkN x::l.flatMap fun y=>[tkS sComma,tkN y]
def T1 (k:Int):Nat:=if k=6∨k=7∨k=9∨k=10 then 2 else if k=8 then 1 else if k=11 then 4 else 0
def Rh (p:Int×List TokD):List TokD:=if p.1=6∨p.1=7 then tkS sOpen::p.2++[tkS sClose] else p.2
def Xcg (n d:Int):List TokD:=if d=1 then [tkN n] else [tkN n,tkS sSlash,tkN d]
def Xas (k:Int) (s:List UInt8) (n d:Int) (ps:List (Int×List TokD)):List TokD:=
 let e:=fun i:Nat=>((ps[i]?).map (·.2)).getD []
 let p:=fun i:Nat=>((ps[i]?).map Rh).getD []
 if ps.length≠T1 k then []
 else if k=1 then Xcg n d
 else if k=8 then Xcg n d++tkS sStar::p 0
 else if k=2 then [tkW s]
 else if k=3 then [tkW wBonus]
 else if k=4 then [tkW wMalus]
 else if k=5 then [tkW wRound,tkW s]
 else if k=6 then e 0++tkS sPlus::p 1
 else if k=7 then e 0++tkS sMinus::p 1
 else if k=9 then tkW wLeast::tkS sOpen::e 0++tkS sComma::e 1++[tkS sClose]
 else if k=10 then tkW wGreatest::tkS sOpen::e 0++tkS sComma::e 1++[tkS sClose]
 else if k=11 then tkW wIf::e 0++tkW wUpto::e 1++tkW wThen::e 2++tkW wElse::e 3++[tkW wEnd]
 else []
mutual
def exT':Ex→List TokD
 | .mk k s n d l=>Xas k s n d (exTs l)
def exTs:List Ex→List (Int×List TokD)
 | []=>[]
 | x::l=>(x.kind,exT' x)::exTs l
end
theorem exTs_eq: ∀l:List Ex,exTs l=l.map fun x=>(x.kind,exT' x)
 | []=>rfl
 | x::l=>by rw [exTs,exTs_eq l];rfl
theorem Xef (x:Ex):exT' x=Xas x.kind x.name x.n x.d (x.l.map fun y=>(y.kind,exT' y)):=by
 cases x;rw [exT',exTs_eq];rfl
def Xc0 (c:Crit):List TokD:=if c.how=1 then [tkW wSum] else if c.how=2 then [tkW wMean,tkW wTrim,tkN c.trim] else [tkW wMedian]
def T3 (c:Crit):List TokD:=[tkW wCriterion,tkW c.name,tkW wFrom,tkN c.low,tkW wTo,tkN c.high,tkW wStep,tkN c.step]++Xc0 c++(if c.rev then [tkW wReverse] else [])++[tkS sSemi]
def Un (w:List UInt8) (x:ItemD):List TokD:=[tkW w,tkW x.name,tkW wValue,tkN x.value,tkW wMost,tkN x.most,tkS sSemi]
def Rr (k:KeyD):List TokD:=
 if k.kind=1 then [tkW wTotal,tkW k.name] else if k.kind=2 then [tkW wScore,tkW k.name] else if k.kind=5 then [tkW wRule,tkW k.name]
 else if k.kind=3 then [tkW wHighest] else if k.kind=4 then [tkW wBonus] else [tkW wLot]
def keysT:List KeyD→List TokD
 | []=>[]
 | k::l=>Rr k++l.flatMap fun y=>tkS sComma::Rr y
def Xbq (t:TieD):List TokD:=[tkW wTie,tkW t.name]++keysT t.keys++[tkS sSemi]
def Xb4 (c:Int):List TokD:=if c=1 then [tkW wOver] else if c=2 then [tkW wUnder] else [tkW wLots]
def roundT (r:RoundD):List TokD:=
 [tkW wRound,tkW r.name,tkW wPanel,tkN r.panel,tkW wQuota,tkN r.quota]++Xb4 r.cut++(if r.free then [tkW wFree] else [])
   ++ (if r.places then [tkW wPlaces] else tkW wScore::exT' r.score)++(if r.tieNo=0 then [tkW wTie,tkW r.tie] else [])++[tkS sSemi]
def V2 (r:RulesD):List TokD:=
 [tkW wCompetition,tkW r.name,tkS sSemi]++r.crits.flatMap T3++r.bonus.flatMap (Un wBonus)++r.malus.flatMap (Un wMalus)
   ++ r.ties.flatMap Xbq++r.rounds.flatMap roundT
   ++ (if r.prizes=[] then [] else tkW wPrizes::commaT r.prizes++[tkS sSemi])
   ++ (if r.points=[] then [] else tkW wPoints::commaT r.points++[tkW wBest,tkN r.best,tkS sSemi])
def Sz (r:RulesD):List UInt8×Int:=
 if (V2 r).all V0&&(decide ((Qr (V2 r) 0).2.2=0)&&decide ((Qr (V2 r) 0).1=r)) then (joinF ((V2 r).map word),0) else ([],130)
def declR:RulesD where
 name:=[99,117,112]
 crits:=[⟨[99],0,10,1+1,2,1,true⟩]
 bonus:=[⟨[98],3,2⟩]
 malus:=[⟨[109],4,1⟩]
 ties:=[⟨[116],[⟨1,[99],0⟩,⟨3,[],0⟩,⟨6,[],0⟩]⟩]
 rounds:=[⟨[111,110,101],3,4,2,false,true,.mk 7 [] 0 0 [.mk 2 [99] 0 0 [],.mk 6 [] 0 0 [.mk 3 [] 0 0 [],.mk 8 [] 1 2 [.mk 4 [] 0 0 []]]],[116],0⟩,⟨[116,119,111],3,1,3,true,false,.mk 0 [] 0 0 [],[],-1⟩]
 prizes:=[50,20]
 points:=[5,3]
 best:=2
end Go.Sx
namespace Go.Fr
open Go.RowKit Go.Kx
def ifp (T:TypeId) (p:SP):SP:=⟨fun F w v=> ∃u,v= .iface T u∧p.rel F w u,fun ⟨u,h1,h2⟩ hk=>⟨u,h1,p.mono h2 hk⟩⟩
instance {T:TypeId} {p:SP}:Sc (ifp T p):=⟨by rintro F w v ⟨u,rfl,_⟩;rfl⟩
def anyV:SP:=⟨fun _ _ _=>True,fun h _=>h⟩
section
variable {C:Cx} {S:(Nat→Prop)→World→World→Prop} {env:Env} {loc:List Ent} {dst:Option Tmp} {ty:TypeId} {pos:String} {af:Array Edge} {g:Option (Nat×Bool)}
theorem Ra {x:Operand} {T:TypeId} {p:SP} {dd:TypeDesc} (hx:ev env x=some p) (ht:C.P.underlying T=some dd) (hn:concB dd=true:=by rfl):WT C S ⟨dst,.makeInterface T x,ty,pos,af,g⟩ (ifp T p) env loc:=by
 constructor
 intro F a w hR
 have hv:=We hR hx
 refine ⟨.iface T (a.eval x),⟨_,rfl,hv⟩,fun w' _=>?_⟩
 clear hv
 generalize a.eval=ρ
 cases dd<;>first|(cases hn;done)|simp [execOp,Instr.makeInterface,Vs ht,go_sem]
theorem T9 {x:Operand} {xT T:TypeId} {p:SP} {dd:TypeDesc} (hx:ev env x=some (ifp T p)) (ht:C.P.underlying T=some dd) (hn:concB dd=true:=by rfl):WT C S ⟨dst,.typeAssert x xT T true,ty,pos,af,g⟩ (tup [p,exB true]) env loc:=by
 constructor
 intro F a w hR
 obtain ⟨u,hv,hu⟩:=We hR hx
 refine ⟨.tuple #[u,.bool true],⟨[u,.bool true],rfl,.cons hu (.cons rfl .nil)⟩,fun w' _=>?_⟩
 generalize a.eval=ρ at hv ⊢
 cases dd<;>first|(cases hn;done)|simp [execOp,Instr.typeAssert,hv,Vs ht,go_sem]
theorem V7 {x:Operand} {xT T U:TypeId} {p:SP} {dd:TypeDesc} {sz bt:Nat} {z:Value} (hx:ev env x=some (ifp U p)) (ht:C.P.underlying T=some dd) (hne:Nat.beq U T=false) [hT:TI C.P T sz bt z] (hn:concB dd=true:=by rfl):WT C S ⟨dst,.typeAssert x xT T true,ty,pos,af,g⟩ (tup [anyV,exB false]) env loc:=by
 constructor
 intro F a w hR
 obtain ⟨u,hv,hu⟩:=We hR hx
 obtain ⟨ti,hi,-,-,hz⟩:=hT.out
 have hne2: ¬U=T:=fun e=>by subst e;rw [Nat.beq_refl] at hne;cases hne
 refine ⟨.tuple #[z,.bool false],⟨[z,.bool false],rfl,.cons trivial (.cons rfl .nil)⟩,fun w' _=>?_⟩
 generalize a.eval=ρ at hv ⊢
 cases dd<;>first|(cases hn;done)|simp [execOp,Instr.typeAssert,hv,Vs ht,hne2,zeroValue,Xe7 hi,hz,go_sem]
end
end Go.Fr
namespace Go.Sx
open Go.Lx Go.Fr
inductive PutV where
 | s (w:List UInt8)
 | nm (w:List UInt8)
 | i (n:Int)
 | il (l:List Int)
 | pt (x:Ex)
 | xx (x:Ex)
def PutV.lvl:PutV→Nat
 | .s _=>0
 | .nm _=>0
 | .i _=>0
 | .il _=>1
 | .xx _=>1
 | .pt _=>2
def PutV.toks:PutV→List TokD
 | .s w=>[sT w]
 | .nm w=>[tkW w]
 | .i n=>[tkN n]
 | .il l=>commaT l
 | .pt x=>Rh (x.kind,exT' x)
 | .xx x=>exT' x
end Go.Sx
namespace Go.Proofs.YthdldeenpgeemaaGreatDoor
open Go Go.RowKit Go.Kx Go.Fr Go.Lx Go.Sx
def Xn6 (k:Nat):PutV→SP
 | .s w=>ifp 9 (exT w)
 | .nm w=>ifp 164 (exT w)
 | .i n=>ifp 3 (exI .i64 n)
 | .il l=>ifp 27 (isl eI l)
 | .pt x=>ifp 222 (agg (exV k x))
 | .xx x=>ifp 52 (agg (exV k x))
abbrev Xru (k:Nat) (p:PutV):List SP:=[Xn6 k p]
instance {k:Nat}:LenS (Xru k) 1:=⟨fun _=>rfl⟩
abbrev Tf (k:Nat):Enc PutV:=Xhh (Xru k) 1 16
def Vt (b:Nat) (oa:Option Addr) (c:Nat) (acc:List TokD):List Ent:=[row b 80 1 [ex (.slice oa acc.length c)],vec (.slice oa acc.length c) 40 4 acc.length (acc.flatMap Qa)]
def Xg5 (k:Nat) (l:List PutV):Prop:= ∀(b:Nat) (oa:Option Addr) (c:Nat) (acc:List TokD),acc.length+(l.flatMap PutV.toks).length≤70000→FnC Tryz.prog 104 [ex (.pointer (some ⟨b,0,none⟩)),isl (Tf k) l] (Vt b oa c acc) (fun _ loc=> ∃oa' c',loc=Vt b oa' c' (acc++l.flatMap PutV.toks))
def Xic (k:Nat) (x:Ex):Prop:= ∀(b:Nat) (oa:Option Addr) (c:Nat) (acc:List TokD),acc.length+(exT' x).length≤70000→FnC Tryz.prog 167 [ex (.pointer (some ⟨b,0,none⟩)),agg (exV k x)] (Vt b oa c acc) (fun _ loc=> ∃oa' c',loc=Vt b oa' c' (acc++exT' x))
end Go.Proofs.YthdldeenpgeemaaGreatDoor
namespace Go.Sx
open Go.Lx Go.Fr
theorem commaT_take: ∀(l:List Int) (j:Nat) (h:j<l.length),commaT (l.take (j+1))=commaT (l.take j)++((if j=0 then [] else [tkS sComma])++[tkN l[j]])
 | x::l,0,_=>rfl
 | x::l,j+1,h=>by
   have h':j<l.length:=by simpa using h
   show tkN x::(l.take (j+1)).flatMap (fun y=>[tkS sComma,tkN y])=(tkN x::(l.take j).flatMap (fun y=>[tkS sComma,tkN y]))++([tkS sComma]++[tkN l[j]])
   rw [List.take_succ_eq_append_getElem h',List.flatMap_append]
   rfl
theorem commaT_len: ∀l:List Int,l.length≤(commaT l).length
 | []=>Nat.le_refl _
 | x::l=>by
   have h:l.length≤(l.flatMap (fun y=>[tkS sComma,tkN y])).length:=by
     induction l with
     | nil=>exact Nat.le_refl _
     | cons y l ih=>simp only [List.flatMap_cons,List.length_append,List.length_cons,List.length_nil];omega
   show l.length+1≤(l.flatMap (fun y=>[tkS sComma,tkN y])).length+1
   omega
theorem commaT_mono: ∀(l:List Int) (i:Nat),(commaT (l.take i)).length≤(commaT l).length
 | l,0=>Nat.zero_le _
 | [],i+1=>Nat.le_refl _
 | x::l,i+1=>by
   show ((l.take i).flatMap (fun y=>[tkS sComma,tkN y])).length+1≤(l.flatMap (fun y=>[tkS sComma,tkN y])).length+1
   have h:l.flatMap (fun y=>[tkS sComma,tkN y])=(l.take i).flatMap (fun y=>[tkS sComma,tkN y])++(l.drop i).flatMap (fun y=>[tkS sComma,tkN y]):=by rw [←List.flatMap_append,List.take_append_drop]
   rw [h,List.length_append];omega
end Go.Sx
namespace Go.Proofs.YthdldeenpgeemaaGreatDoor
open Go Go.RowKit Go.Kx Go.Fr Go.Lx Go.Sx
theorem Xch (k n:Nat) (hn:n≤2) (hput: ∀l:List PutV,l≠[]→(∀x∈l,x.lvl<n)→Xg5 k l) (hexp:1≤n→ ∀x,Xic k x) (l:List PutV) (hl: ∀x∈l,x.lvl≤n):Xg5 k l:=by
 intro b oa c acc hlen
 refine Wp (i:=1) rfl Wu fun ha=>?_
 obtain ⟨ha,-⟩:=ha
 simp only [maxLen] at ha
 refine X3 Tryz.func104 rfl Tryz.ntmps104 rfl fun w0 F0 out=>?_
 unfold Vt
 (repeat' (first|refine Xe ?_|refine Xb ?_|refine Xc ?_|(apply Xn;(first|exact Xf rfl|exact Yaj);exact rfl)|refine Xo ?_))
 refine Ws (fun z:Nat×Option Addr×Nat=>([(0,ex (.pointer (some ⟨b,0,none⟩))),(15,isl (Tf k) l),(16,exI .i64 l.length),(17,exI .i64 z.1)],Vt b z.2.1 z.2.2 (acc++(l.take z.1).flatMap PutV.toks))) (fun z=>z.1≤l.length) (fun z=>l.length-z.1) (0,oa,c) ?_ (Nat.zero_le _) fun z hz=>?_
 · exact Xg (by repeat (first|exact Xr|refine Xl rfl ?_)) (by simp only [Vt,List.take_zero,List.flatMap_nil,List.append_nil];exact List.Sublist.refl _)
 obtain ⟨q,oa1,c1⟩:=z
 simp only at hz
 by_cases hlt:q<l.length
 · have hx:=hl l[q] (List.getElem_mem hlt)
   have hT:acc++(l.take (q+1)).flatMap PutV.toks=acc++(l.take q).flatMap PutV.toks++(l[q]).toks:=by
     rw [List.take_succ_eq_append_getElem hlt,List.flatMap_append,List.flatMap_cons,List.flatMap_nil,List.append_nil,List.append_assoc]
   have hAl:(acc++(l.take q).flatMap PutV.toks).length≤70000:=by
     have h1:l.flatMap PutV.toks=(l.take q).flatMap PutV.toks++(l.drop q).flatMap PutV.toks:=by rw [←List.flatMap_append,List.take_append_drop]
     rw [h1,List.length_append] at hlen
     rw [List.length_append]
     omega
   (repeat' (first|(apply Wa 4;refine StopW.out ?_)|refine Xe ?_|refine Xb ?_|refine Xc ?_|(apply Xn;(first|exact Xf rfl|exact Xm rfl|exact Yag|exact Yam|exact Yah);exact rfl)|refine Xo ?_|refine Xs ?_|(refine Xp rfl (fun hb=>?_) (fun hb=>?_)<;>(repeat (first|replace hb:=Xz hb|replace hb:=X0 hb))<;>(try (exfalso;omega)))))
   generalize hA:acc++(l.take q).flatMap PutV.toks=A at hT hAl
   generalize hxx:l[q]=x at hx
   cases x with
   | i m=>
     constructor
     dsimp only
     try rw [hxx]
     simp only [Xn6]
     (repeat' (first|(apply X4 22;apply Xn;exact V7 rfl rfl rfl)|(apply X4 40;apply Xn;exact V7 rfl rfl rfl)|(apply X4 54;apply Xn;exact T9 rfl rfl;exact rfl)|(apply Wa 15;refine StopW.out ?_)|refine Xe ?_|refine Xb ?_|refine Xc ?_|(apply Xn;(first|exact Xm rfl|exact Ybb);exact rfl)|refine Xx rfl ?_|refine Xy rfl ?_))
     all_goals (try (exact rfl))
     refine ⟨?_⟩
     refine X7 (env':=[(9,exI .i64 m),(0,ex (.pointer (some ⟨b,0,none⟩))),(15,isl (Tf k) l),(16,exI .i64 l.length),(17,exI .i64 (q:Int))]) (loc':=Vt b oa1 c1 A) (Xg (by repeat (first|exact Xr|refine Xl rfl ?_)) Yc0) ?_
     refine V1 (fun x:Option Addr×Nat=>([(0,ex (.pointer (some ⟨b,0,none⟩))),(15,isl (Tf k) l),(16,exI .i64 l.length),(17,exI .i64 (q:Int))],Vt b x.1 x.2 (A++[tkN m]))) (fun _=>True) ?_ fun x _=>?_
     · unfold Vt
       (repeat' (first|(refine Qo (k:=2) rfl Yan ?_;intro _ _ hv;subst hv)|(apply Xh;exact rfl;apply Ve;refine Vb (k:=2) (l0:=[]) rfl rfl (by exact Rm (k:=0) (qs:=Qa (tkN m)) rfl rfl rfl) rfl ?_;intro _)|refine Xb ?_|refine Xc ?_|(apply Xn;exact Ydn;exact rfl)|(apply Xh;exact rfl;first|(apply Xt;refine Xj (k:=1) (l0:=[]) rfl rfl rfl ?_)|(apply X5;(refine X6 rfl rfl ?_);intro _))))
       all_goals (refine Wo (_,_) trivial (Xg (by repeat (first|exact Xr|refine Xl rfl ?_)) Ybt))
     · obtain ⟨oa2,c2⟩:=x
       simp only
       rw [show A++[tkN m]=acc++(l.take (q+1)).flatMap PutV.toks by rw [hT,hxx];rfl]
       (repeat' (first|refine Xb ?_|refine Xc ?_|(apply Xn;exact Ych;exact rfl)))
       exact ⟨(q+1,oa2,c2),by show q+1≤l.length;omega,by show l.length-(q+1)<l.length-q;omega,Xg (by repeat (first|exact Xr|refine Xl rfl ?_)) (List.Sublist.refl _)⟩
   | nm w=>
     constructor
     dsimp only
     try rw [hxx]
     simp only [Xn6]
     (repeat' (first|(apply X4 22;apply Xn;exact V7 rfl rfl rfl)|(apply X4 40;apply Xn;exact T9 rfl rfl;exact rfl)|(apply Wa 12;refine StopW.out ?_)|refine Xe ?_|refine Xb ?_|refine Xc ?_|(apply Xn;(first|exact Xm rfl|exact Ybb);exact rfl)|refine Xx rfl ?_|refine Xy rfl ?_))
     all_goals (try (exact rfl))
     refine ⟨?_⟩
     refine X7 (env':=[(8,exT w),(0,ex (.pointer (some ⟨b,0,none⟩))),(15,isl (Tf k) l),(16,exI .i64 l.length),(17,exI .i64 (q:Int))]) (loc':=Vt b oa1 c1 A) (Xg (by repeat (first|exact Xr|refine Xl rfl ?_)) Yc0) ?_
     refine V1 (fun x:Option Addr×Nat=>([(0,ex (.pointer (some ⟨b,0,none⟩))),(15,isl (Tf k) l),(16,exI .i64 l.length),(17,exI .i64 (q:Int))],Vt b x.1 x.2 (A++[tkW w]))) (fun _=>True) ?_ fun x _=>?_
     · unfold Vt
       (repeat' (first|(refine Qo (k:=2) rfl Yan ?_;intro _ _ hv;subst hv)|(apply Xh;exact rfl;apply Ve;refine Vb (k:=2) (l0:=[]) rfl rfl (by exact Rm (k:=0) (qs:=Qa (tkW w)) rfl rfl rfl) rfl ?_;intro _)|refine Xb ?_|refine Xc ?_|(apply Xn;exact Ydn;exact rfl)|(apply Xh;exact rfl;first|(apply Xt;refine Xj (k:=1) (l0:=[]) rfl rfl rfl ?_)|(apply X5;(refine X6 rfl rfl ?_);intro _))))
       all_goals (refine Wo (_,_) trivial (Xg (by repeat (first|exact Xr|refine Xl rfl ?_)) Ybt))
     · obtain ⟨oa2,c2⟩:=x
       simp only
       rw [show A++[tkW w]=acc++(l.take (q+1)).flatMap PutV.toks by rw [hT,hxx];rfl]
       (repeat' (first|refine Xb ?_|refine Xc ?_|(apply Xn;exact Ych;exact rfl)))
       exact ⟨(q+1,oa2,c2),by show q+1≤l.length;omega,by show l.length-(q+1)<l.length-q;omega,Xg (by repeat (first|exact Xr|refine Xl rfl ?_)) (List.Sublist.refl _)⟩
   | s w=>
     have hw:=words13_any
     have hC:=Qg wordsL w Yao
     cases hr:Us w
     all_goals (rw [show decide (w∈wordsL)=Us w from rfl,hr] at hC)
     · constructor
       dsimp only
       try rw [hxx]
       simp only [Xn6]
       (repeat' (first|(apply X4 22;apply Xn;exact T9 rfl rfl;exact rfl)|(apply Wa 9;refine StopW.out ?_)|refine Xe ?_|refine Xb ?_|refine Xc ?_|(apply Xn;exact Ycm;exact rfl)|refine Xs ?_|refine Xx rfl ?_|refine Xy rfl ?_|(apply Xh;exact rfl;(apply Xi;first|(refine Xq Tryz.func166 rfl hw rfl ?_;rintro _ _ ⟨rfl,rfl⟩)|(refine Xq Tryz.func138 rfl hC rfl ?_;rintro _ _ ⟨rfl,rfl⟩)))))
       all_goals (try (exact rfl))
       all_goals (try (exfalso;first|contradiction|omega))
       refine ⟨?_⟩
       refine X7 (env':=[(6,exT w),(7,exI .i64 3),(0,ex (.pointer (some ⟨b,0,none⟩))),(15,isl (Tf k) l),(16,exI .i64 l.length),(17,exI .i64 (q:Int))]) (loc':=Vt b oa1 c1 A) (Xg (by repeat (first|exact Xr|refine Xl rfl ?_)) Yc0) ?_
       refine V1 (fun x:Option Addr×Nat=>([(0,ex (.pointer (some ⟨b,0,none⟩))),(15,isl (Tf k) l),(16,exI .i64 l.length),(17,exI .i64 (q:Int))],Vt b x.1 x.2 (A++[tkS w]))) (fun _=>True) ?_ fun x _=>?_
       · unfold Vt
         (repeat' (first|(refine Qo (k:=2) rfl Yan ?_;intro _ _ hv;subst hv)|(apply Xh;exact rfl;apply Ve;refine Vb (k:=2) (l0:=[]) rfl rfl (by exact Rm (k:=0) (qs:=Qa (tkS w)) rfl rfl rfl) rfl ?_;intro _)|refine Xb ?_|refine Xc ?_|(apply Xn;exact Ydn;exact rfl)|(apply Xh;exact rfl;first|(apply Xt;refine Xj (k:=1) (l0:=[]) rfl rfl rfl ?_)|(apply X5;(refine X6 rfl rfl ?_);intro _))))
         all_goals (refine Wo (_,_) trivial (Xg (by repeat (first|exact Xr|refine Xl rfl ?_)) Ybt))
       · obtain ⟨oa2,c2⟩:=x
         simp only
         rw [show A++[tkS w]=acc++(l.take (q+1)).flatMap PutV.toks by rw [hT,hxx];simp only [PutV.toks,sT,hr];rfl]
         (repeat' (first|refine Xb ?_|refine Xc ?_|(apply Xn;exact Ych;exact rfl)))
         exact ⟨(q+1,oa2,c2),by show q+1≤l.length;omega,by show l.length-(q+1)<l.length-q;omega,Xg (by repeat (first|exact Xr|refine Xl rfl ?_)) (List.Sublist.refl _)⟩
     · constructor
       dsimp only
       try rw [hxx]
       simp only [Xn6]
       (repeat' (first|(apply X4 22;apply Xn;exact T9 rfl rfl;exact rfl)|(apply Wa 9;refine StopW.out ?_)|refine Xe ?_|refine Xb ?_|refine Xc ?_|(apply Xn;exact Ycm;exact rfl)|refine Xx rfl ?_|(apply Xh;exact rfl;(apply Xi;first|(refine Xq Tryz.func166 rfl hw rfl ?_;rintro _ _ ⟨rfl,rfl⟩)|(refine Xq Tryz.func138 rfl hC rfl ?_;rintro _ _ ⟨rfl,rfl⟩)))))
       all_goals (try (exact rfl))
       all_goals (try (exfalso;first|contradiction|omega))
       refine ⟨?_⟩
       refine X7 (env':=[(6,exT w),(7,exI .i64 1),(0,ex (.pointer (some ⟨b,0,none⟩))),(15,isl (Tf k) l),(16,exI .i64 l.length),(17,exI .i64 (q:Int))]) (loc':=Vt b oa1 c1 A) (Xg (by repeat (first|exact Xr|refine Xl rfl ?_)) Yc0) ?_
       refine V1 (fun x:Option Addr×Nat=>([(0,ex (.pointer (some ⟨b,0,none⟩))),(15,isl (Tf k) l),(16,exI .i64 l.length),(17,exI .i64 (q:Int))],Vt b x.1 x.2 (A++[tkW w]))) (fun _=>True) ?_ fun x _=>?_
       · unfold Vt
         (repeat' (first|(refine Qo (k:=2) rfl Yan ?_;intro _ _ hv;subst hv)|(apply Xh;exact rfl;apply Ve;refine Vb (k:=2) (l0:=[]) rfl rfl (by exact Rm (k:=0) (qs:=Qa (tkW w)) rfl rfl rfl) rfl ?_;intro _)|refine Xb ?_|refine Xc ?_|(apply Xn;exact Ydn;exact rfl)|(apply Xh;exact rfl;first|(apply Xt;refine Xj (k:=1) (l0:=[]) rfl rfl rfl ?_)|(apply X5;(refine X6 rfl rfl ?_);intro _))))
         all_goals (refine Wo (_,_) trivial (Xg (by repeat (first|exact Xr|refine Xl rfl ?_)) Ybt))
       · obtain ⟨oa2,c2⟩:=x
         simp only
         rw [show A++[tkW w]=acc++(l.take (q+1)).flatMap PutV.toks by rw [hT,hxx];simp only [PutV.toks,sT,hr];rfl]
         (repeat' (first|refine Xb ?_|refine Xc ?_|(apply Xn;exact Ych;exact rfl)))
         exact ⟨(q+1,oa2,c2),by show q+1≤l.length;omega,by show l.length-(q+1)<l.length-q;omega,Xg (by repeat (first|exact Xr|refine Xl rfl ?_)) (List.Sublist.refl _)⟩
   | xx x=>
     have hlx:A.length+(exT' x).length≤70000:=by
       have h2:=congrArg List.length hT
       have h1:l.flatMap PutV.toks=(l.take (q+1)).flatMap PutV.toks++(l.drop (q+1)).flatMap PutV.toks:=by rw [←List.flatMap_append,List.take_append_drop]
       rw [h1,List.length_append] at hlen
       rw [hxx] at h2
       simp only [List.length_append,PutV.toks] at h2
       omega
     have he:=hexp hx x b oa1 c1 A hlx
     constructor
     dsimp only
     try rw [hxx]
     simp only [Xn6]
     (repeat' (first|(apply X4 22;apply Xn;exact V7 rfl rfl rfl)|(apply X4 40;apply Xn;exact V7 rfl rfl rfl)|(apply X4 54;apply Xn;exact V7 rfl rfl rfl)|(apply X4 68;apply Xn;exact V7 rfl rfl rfl)|(apply X4 90;apply Xn;exact V7 rfl rfl rfl)|(apply X4 113;apply Xn;exact T9 rfl rfl;exact rfl)|(apply Wa 33;refine StopW.out ?_)|refine Xe ?_|refine Xb ?_|refine Xc ?_|(apply Xn;(first|exact Xf rfl|exact Ybb|exact Ybg);exact rfl)|refine Xx rfl ?_|refine Xy rfl ?_|(apply Xh;exact rfl;first|(apply Xi;(refine Xk (.one 1 rfl (.one 1 rfl .nil)) Tryz.func167 rfl he rfl ?_;rintro _ _ ⟨oa2,c2,rfl⟩))|(apply Wb;refine X8 ?_;intro _)|(apply Xt;refine Xj (k:=0) (l0:=[]) rfl rfl rfl ?_))))
     all_goals (try (exact rfl))
     refine ⟨?_⟩
     refine X7 (env':=[(0,ex (.pointer (some ⟨b,0,none⟩))),(15,isl (Tf k) l),(16,exI .i64 l.length),(17,exI .i64 (q:Int))]) (loc':=Vt b oa2 c2 (A++exT' x)) (Xg (by repeat (first|exact Xr|refine Xl rfl ?_)) (List.sublist_append_left _ _)) ?_
     rw [show A++exT' x=acc++(l.take (q+1)).flatMap PutV.toks by rw [hT,hxx];rfl]
     (repeat' (first|refine Xb ?_|refine Xc ?_|(apply Xn;exact Ych;exact rfl)))
     exact ⟨(q+1,oa2,c2),by show q+1≤l.length;omega,by show l.length-(q+1)<l.length-q;omega,Xg (by repeat (first|exact Xr|refine Xl rfl ?_)) (List.Sublist.refl _)⟩
   | pt x=>
     have hlx:A.length+(Rh (x.kind,exT' x)).length≤70000:=by
       have h2:=congrArg List.length hT
       have h1:l.flatMap PutV.toks=(l.take (q+1)).flatMap PutV.toks++(l.drop (q+1)).flatMap PutV.toks:=by rw [←List.flatMap_append,List.take_append_drop]
       rw [h1,List.length_append] at hlen
       rw [hxx] at h2
       simp only [List.length_append,PutV.toks] at h2
       omega
     constructor
     dsimp only
     try rw [hxx]
     simp only [Xn6]
     (repeat' (first|(apply X4 22;apply Xn;exact V7 rfl rfl rfl)|(apply X4 40;apply Xn;exact V7 rfl rfl rfl)|(apply X4 54;apply Xn;exact V7 rfl rfl rfl)|(apply X4 68;apply Xn;exact V7 rfl rfl rfl)|(apply X4 90;apply Xn;exact T9 rfl rfl;exact rfl)|(apply Wa 27;refine StopW.out ?_)|refine Xe ?_|refine Xb ?_|refine Xc ?_|(apply Xn;(exact Xdz rfl rfl);exact rfl)|refine Xx rfl ?_|refine Xy rfl ?_|(apply Xh;exact rfl;first|(apply Wb;refine X8 ?_;intro _)|(apply Xt;refine Xj (k:=0) (l0:=[]) rfl rfl rfl ?_))))
     all_goals (try (exact rfl))
     refine ⟨?_⟩
     rename_i b14
     refine X7 (env':=[(13,ex (.pointer (some ⟨b14,0,none⟩))),(0,ex (.pointer (some ⟨b,0,none⟩))),(15,isl (Tf k) l),(16,exI .i64 l.length),(17,exI .i64 (q:Int))]) (loc':=row b14 222 5 (exV k x)::Vt b oa1 c1 A) (Xg (by repeat (first|exact Xr|refine Xl rfl ?_)) (List.Sublist.refl _)) ?_
     by_cases hk:x.kind=6∨x.kind=7
     · have hpt:Rh (x.kind,exT' x)=[PutV.s [40],.xx x,.s [41]].flatMap PutV.toks:=by
         unfold Rh
         rw [if_pos hk]
         show _=sT [40]::(exT' x++[sT [41]])
         rfl
       rw [hpt] at hlx
       have hp:=hput [.s [40],.xx x,.s [41]] Yb9 (by have h2:2≤n:=hx;intro y hy;simp only [List.mem_cons,List.not_mem_nil,or_false] at hy;rcases hy with rfl|rfl|rfl<;>simp only [PutV.lvl]<;>omega) b oa1 c1 A hlx
       (repeat' (first|(apply Wa 28;refine StopW.out ?_)|refine Xb ?_|refine Xc ?_|(apply Xn;(first|exact Xf rfl|exact Wd (b:=true) rfl (fun _=>rfl) (fun e=>by cases e)|exact Wd (b:=false) rfl (fun e=>by cases e) (fun _=>rfl)|exact Yai|exact Yad|exact Yar);exact rfl)|(refine Wv rfl rfl rfl rfl rfl ?_)|(apply W0;exact rfl;exact rfl;exact rfl;(first|exact Yai|exact Yad|exact Yar);exact rfl)|refine Xx rfl ?_|(refine Wf rfl rfl (fun hb=>?_) (fun hb=>?_)<;>(repeat (first|replace hb:=Xz hb|replace hb:=X0 hb))<;>(try (exfalso;fail)))|(refine Xp rfl (fun hb=>?_) (fun hb=>?_)<;>(repeat (first|replace hb:=Xz hb|replace hb:=X0 hb))<;>(try (exfalso;omega)))))
       all_goals (try (exfalso;omega))
       all_goals (refine ⟨?_⟩)
       all_goals (refine X7 (env':=[(13,ex (.pointer (some ⟨b14,0,none⟩))),(0,ex (.pointer (some ⟨b,0,none⟩))),(15,isl (Tf k) l),(16,exI .i64 l.length),(17,exI .i64 (q:Int))]) (loc':=row b14 222 5 (exV k x)::Vt b oa1 c1 A) (Xg (by repeat (first|exact Xr|refine Xl rfl ?_)) (List.Sublist.refl _)) ?_)
       all_goals ((repeat' (first|(apply X4 102;apply Xn;exact Ra rfl rfl;exact rfl)|(apply X4 104;apply Xn;exact Ra rfl rfl;exact rfl)|(apply X4 105;apply Xn;exact Ra rfl rfl;exact rfl)|(apply X4 107;refine Wj (k:=0) (E:=Tf k) (t:=106) [.s [40],.xx x,.s [41]] rfl rfl rfl rfl ?_ (hc:=by decide) (hby:=by show _ * 16≤140737488355328;decide))|(apply Wa 33;refine StopW.out ?_)|refine Xb ?_|refine Xc ?_|(apply Xn;(first|exact Xf rfl|exact Ybg);exact rfl)|(apply Xh;exact rfl;first|(apply Xi;(refine Xk (.one 1 rfl (.one 1 rfl .nil)) Tryz.func104 rfl hp rfl ?_;rintro _ _ ⟨oa2,c2,rfl⟩))|(apply X5;(refine Wi rfl Yac ?_);intro _)))))
       all_goals (try (exact rfl))
       all_goals (refine ⟨?_⟩)
       all_goals (refine X7 (env':=[(0,ex (.pointer (some ⟨b,0,none⟩))),(15,isl (Tf k) l),(16,exI .i64 l.length),(17,exI .i64 (q:Int))]) (loc':=Vt b oa2 c2 (A++Rh (x.kind,exT' x))) (Xg (by repeat (first|exact Xr|refine Xl rfl ?_)) (by rw [hpt];exact List.sublist_append_left _ _)) ?_)
       all_goals (rw [show A++Rh (x.kind,exT' x)=acc++(l.take (q+1)).flatMap PutV.toks by rw [hT,hxx];rfl])
       all_goals ((repeat' (first|refine Xb ?_|refine Xc ?_|(apply Xn;exact Ych;exact rfl))))
       all_goals (exact ⟨(q+1,oa2,c2),by show q+1≤l.length;omega,by show l.length-(q+1)<l.length-q;omega,Xg (by repeat (first|exact Xr|refine Xl rfl ?_)) (List.Sublist.refl _)⟩)
     · have hpt:Rh (x.kind,exT' x)=[PutV.xx x].flatMap PutV.toks:=by
         unfold Rh
         rw [if_neg hk]
         show _=exT' x++[]
         rw [List.append_nil]
       rw [hpt] at hlx
       have hp:=hput [.xx x] Yb9 (by have h2:2≤n:=hx;intro y hy;simp only [List.mem_cons,List.not_mem_nil,or_false] at hy;rcases hy with rfl;simp only [PutV.lvl];omega) b oa1 c1 A hlx
       (repeat' (first|(apply Wa 29;refine StopW.out ?_)|refine Xb ?_|refine Xc ?_|(apply Xn;(first|exact Xf rfl|exact Wd (b:=false) rfl (fun e=>by cases e) (fun _=>rfl)|exact Yai|exact Yad|exact Yar);exact rfl)|(apply W0;exact rfl;exact rfl;exact rfl;(first|exact Yai|exact Yad|exact Yar);exact rfl)|(refine Wf rfl rfl (fun hb=>?_) (fun hb=>?_)<;>(repeat (first|replace hb:=Xz hb|replace hb:=X0 hb))<;>(try (exfalso;omega)))|(refine Xp rfl (fun hb=>?_) (fun hb=>?_)<;>(repeat (first|replace hb:=Xz hb|replace hb:=X0 hb))<;>(try (exfalso;omega)))))
       all_goals (try (exfalso;omega))
       all_goals (refine ⟨?_⟩)
       all_goals (refine X7 (env':=[(13,ex (.pointer (some ⟨b14,0,none⟩))),(0,ex (.pointer (some ⟨b,0,none⟩))),(15,isl (Tf k) l),(16,exI .i64 l.length),(17,exI .i64 (q:Int))]) (loc':=row b14 222 5 (exV k x)::Vt b oa1 c1 A) (Xg (by repeat (first|exact Xr|refine Xl rfl ?_)) (List.Sublist.refl _)) ?_)
       all_goals ((repeat' (first|(apply X4 110;apply Xn;exact Ra rfl rfl;exact rfl)|(apply X4 112;refine Wj (k:=0) (E:=Tf k) (t:=111) [.xx x] rfl rfl rfl rfl ?_ (hc:=by decide) (hby:=by show _ * 16≤140737488355328;decide))|(apply Wa 33;refine StopW.out ?_)|refine Xb ?_|refine Xc ?_|(apply Xn;(first|exact Xf rfl|exact Ybg);exact rfl)|(apply Xh;exact rfl;first|(apply Xi;(refine Xk (.one 1 rfl (.one 1 rfl .nil)) Tryz.func104 rfl hp rfl ?_;rintro _ _ ⟨oa2,c2,rfl⟩))|(apply X5;(refine X6 rfl rfl ?_);intro _)))))
       all_goals (try (exact rfl))
       all_goals (refine ⟨?_⟩)
       all_goals (refine X7 (env':=[(0,ex (.pointer (some ⟨b,0,none⟩))),(15,isl (Tf k) l),(16,exI .i64 l.length),(17,exI .i64 (q:Int))]) (loc':=Vt b oa2 c2 (A++Rh (x.kind,exT' x))) (Xg (by repeat (first|exact Xr|refine Xl rfl ?_)) (by rw [hpt];exact List.sublist_append_left _ _)) ?_)
       all_goals (rw [show A++Rh (x.kind,exT' x)=acc++(l.take (q+1)).flatMap PutV.toks by rw [hT,hxx];rfl])
       all_goals ((repeat' (first|refine Xb ?_|refine Xc ?_|(apply Xn;exact Ych;exact rfl))))
       all_goals (exact ⟨(q+1,oa2,c2),by show q+1≤l.length;omega,by show l.length-(q+1)<l.length-q;omega,Xg (by repeat (first|exact Xr|refine Xl rfl ?_)) (List.Sublist.refl _)⟩)
   | il m=>
     have hlx:A.length+(commaT m).length≤70000:=by
       have h2:=congrArg List.length hT
       have h1:l.flatMap PutV.toks=(l.take (q+1)).flatMap PutV.toks++(l.drop (q+1)).flatMap PutV.toks:=by rw [←List.flatMap_append,List.take_append_drop]
       rw [h1,List.length_append] at hlen
       rw [hxx] at h2
       simp only [List.length_append,PutV.toks] at h2
       omega
     have hml:=commaT_len m
     have hn1:1≤n:=hx
     constructor
     dsimp only
     try rw [hxx]
     simp only [Xn6]
     (repeat' (first|(apply X4 22;apply Xn;exact V7 rfl rfl rfl)|(apply X4 40;apply Xn;exact V7 rfl rfl rfl)|(apply X4 54;apply Xn;exact V7 rfl rfl rfl)|(apply X4 68;apply Xn;exact T9 rfl rfl;exact rfl)|refine Xe ?_|refine Xb ?_|refine Xc ?_|(apply Xn;(first|exact Xf rfl|exact Xm rfl|exact Ybb|exact Yaj);exact rfl)|refine Xo ?_|refine Xx rfl ?_|refine Xy rfl ?_))
     all_goals (try (exact rfl))
     refine Ws (fun z:Nat×Option Addr×Nat=>([(0,ex (.pointer (some ⟨b,0,none⟩))),(15,isl (Tf k) l),(16,exI .i64 l.length),(17,exI .i64 (q:Int)),(71,isl eI m),(72,exI .i64 m.length),(73,exI .i64 (z.1:Int))],Vt b z.2.1 z.2.2 (A++commaT (m.take z.1)))) (fun z=>z.1≤m.length) (fun z=>m.length-z.1) (0,oa1,c1) ?_ (Nat.zero_le _) fun z hz=>?_
     · exact Xg (by repeat (first|exact Xr|refine Xl rfl ?_)) (by show List.Sublist (Vt b oa1 c1 (A++[])) _;rw [List.append_nil];exact List.Sublist.refl _)
     obtain ⟨j,oa3,c3⟩:=z
     simp only at hz
     by_cases hj:j<m.length
     · have hct:=commaT_take m j hj
       have hcl:(commaT (m.take (j+1))).length≤(commaT m).length:=commaT_mono m (j+1)
       have hmj: ∀(oa:Option Addr) (c:Nat) (acc2:List TokD),acc2.length+1≤70000→FnC Tryz.prog 104 [ex (.pointer (some ⟨b,0,none⟩)),isl (Tf k) [.i m[j]]] (Vt b oa c acc2) (fun _ loc=> ∃oa' c',loc=Vt b oa' c' (acc2++[tkN m[j]])):=fun oa c acc2 h2=>hput [.i m[j]] Yb9 (by intro y hy;rw [List.mem_singleton.1 hy];exact hn1) b oa c acc2 h2
       have hce: ∀(oa:Option Addr) (c:Nat) (acc2:List TokD),acc2.length+1≤70000→FnC Tryz.prog 104 [ex (.pointer (some ⟨b,0,none⟩)),isl (Tf k) [.s sComma]] (Vt b oa c acc2) (fun _ loc=> ∃oa' c',loc=Vt b oa' c' (acc2++[tkS sComma])):=fun oa c acc2 h2=>hput [.s sComma] Yb9 (by intro y hy;rw [List.mem_singleton.1 hy];exact hn1) b oa c acc2 h2
       by_cases hj0:j=0
       · rw [if_pos hj0,List.nil_append] at hct
         have hp:=hmj oa3 c3 (A++commaT (m.take j)) (by rw [hct,List.length_append,List.length_singleton] at hcl;rw [List.length_append];omega)
         rw [List.append_assoc,←hct] at hp
         (repeat' (first|(apply X4 86;apply Xn;exact Ra rfl rfl;exact rfl)|(apply X4 88;refine Wj (k:=0) (E:=Tf k) (t:=87) [.i m[j]] rfl rfl rfl rfl ?_ (hc:=by decide) (hby:=by show _ * 16≤140737488355328;decide))|refine Xe ?_|refine Xb ?_|refine Xc ?_|(apply Xn;(first|exact Xf rfl|exact Xm rfl|exact Yag|exact Ybw|exact Yah);exact rfl)|refine Xo ?_|refine Xs ?_|(apply Xh;exact rfl;first|(apply Xi;(refine Xk (.one 0 rfl (.one 0 rfl .nil)) Tryz.func104 rfl hp rfl ?_;rintro _ _ ⟨oa4,c4,rfl⟩))|(apply X5;(refine X6 rfl rfl ?_);intro _))|(refine Xp rfl (fun hb=>?_) (fun hb=>?_)<;>(repeat (first|replace hb:=Xz hb|replace hb:=X0 hb))<;>(try (exfalso;omega)))))
         all_goals (try (exfalso;omega))
         exact ⟨(j+1,oa4,c4),by show j+1≤m.length;omega,by show m.length-(j+1)<m.length-j;omega,Xg (by repeat (first|exact Xr|refine Xl rfl ?_)) (List.sublist_append_left _ _)⟩
       · rw [if_neg hj0] at hct
         have hl2:(A++commaT (m.take j)).length+2≤70000:=by rw [hct,List.length_append,List.length_append,List.length_singleton,List.length_singleton] at hcl;rw [List.length_append];omega
         have hp1:=hce oa3 c3 (A++commaT (m.take j)) Yan
         have hp2:=fun oa c=>hmj oa c (A++commaT (m.take j)++[tkS sComma]) (by rw [List.length_append,List.length_singleton];omega)
         rw [show A++commaT (m.take j)++[tkS sComma]++[tkN m[j]]=A++commaT (m.take (j+1)) by rw [hct];simp only [List.append_assoc]] at hp2
         (repeat' (first|(apply X4 81;apply Xn;exact Ra rfl rfl;exact rfl)|(apply X4 86;apply Xn;exact Ra rfl rfl;exact rfl)|(apply X4 83;refine Wj (k:=0) (E:=Tf k) (t:=82) [.s sComma] rfl rfl rfl rfl ?_ (hc:=by decide) (hby:=by show _ * 16≤140737488355328;decide))|(apply X4 88;refine Wj (k:=0) (E:=Tf k) (t:=87) [.i m[j]] rfl rfl rfl rfl ?_ (hc:=by decide) (hby:=by show _ * 16≤140737488355328;decide))|refine Xe ?_|refine Xb ?_|refine Xc ?_|(apply Xn;(first|exact Xf rfl|exact Xm rfl|exact Yag|exact Ybw|exact Yah);exact rfl)|refine Xo ?_|refine Xs ?_|(apply Xh;exact rfl;first|(apply Xi;first|(refine Xk (.one 0 rfl (.one 0 rfl .nil)) Tryz.func104 rfl hp1 rfl ?_;rintro _ _ ⟨oa4,c4,rfl⟩)|(refine Xk (.one 0 rfl (.one 0 rfl .nil)) Tryz.func104 rfl (hp2 _ _) rfl ?_;rintro _ _ ⟨oa5,c5,rfl⟩))|(apply X5;(refine X6 rfl rfl ?_);intro _))|(refine Xp rfl (fun hb=>?_) (fun hb=>?_)<;>(repeat (first|replace hb:=Xz hb|replace hb:=X0 hb))<;>(try (exfalso;omega)))))
         all_goals (try (exfalso;omega))
         exact ⟨(j+1,oa5,c5),by show j+1≤m.length;omega,by show m.length-(j+1)<m.length-j;omega,Xg (by repeat (first|exact Xr|refine Xl rfl ?_)) (List.sublist_append_left _ _)⟩
     · (repeat' (first|refine Xe ?_|refine Xb ?_|refine Xc ?_|(apply Xn;(first|exact Xf rfl|exact Ybc);exact rfl)|refine Wm ?_|(refine Xp rfl (fun hb=>?_) (fun hb=>?_)<;>(repeat (first|replace hb:=Xz hb|replace hb:=X0 hb))<;>(try (exfalso;omega)))))
       have hq:j=m.length:=by omega
       subst hq
       exact ⟨(q+1,oa3,c3),by show q+1≤l.length;omega,by show l.length-(q+1)<l.length-q;omega,Xg (by repeat (first|exact Xr|refine Xl rfl ?_)) (by show List.Sublist (Vt b oa3 c3 (acc++(l.take (q+1)).flatMap PutV.toks)) (Vt b oa3 c3 (A++commaT (m.take m.length)));rw [hT,hxx,List.take_length];exact List.Sublist.refl _)⟩
 · (repeat' (first|refine Xe ?_|refine Xb ?_|refine Xc ?_|(apply Xn;(exact Yam);exact rfl)|refine Wm ?_|(refine Xp rfl (fun hb=>?_) (fun hb=>?_)<;>(repeat (first|replace hb:=Xz hb|replace hb:=X0 hb))<;>(try (exfalso;omega)))))
   have hq:q=l.length:=by omega
   subst hq
   refine ⟨.inl rfl,Rk (loc':=Vt b oa1 c1 (acc++l.flatMap PutV.toks)) rfl (by show List.Sublist _ (Vt b oa1 c1 (acc++(l.take l.length).flatMap PutV.toks));rw [List.take_length];exact List.Sublist.refl _) ⟨oa1,c1,rfl⟩⟩
end Go.Proofs.YthdldeenpgeemaaGreatDoor
namespace Go.Fr
open Go.RowKit Go.Kx
def Xkl (C:Cx) (env:Env) (loc:List Ent) (env':Env) (loc':List Ent):Prop:= ∀F a w,Rel C F env loc a w→ ∃F':Nat→Prop,(∀b,F b→F' b)∧Rel C F' env' loc' a w
theorem Xjf {C:Cx} {H:Nat→Prop} {n:Nat} {ops:Array Oper} {Q:Post} {fuel:Nat} {listed:Array Bool} {env env':Env} {loc loc':List Ent} (hl:Xkl C env loc env' loc') (h:WPY C H n ops Q fuel listed env' loc'):WPY C H n ops Q fuel listed env loc:=
 ⟨fun F a w hR=>let ⟨F',hF,hR'⟩:=hl F a w hR;Sn (fun _ hs b hb hx=>hs b hb (hx.imp (hF b) id)) _ _ _ _ (h.out F' a w hR')⟩
theorem Xeg {C:Cx} {env:Env} {l1 l2:List Ent} {b T tot:Nat} {ps:List SP} {α:Type} {E:Enc α} {fs:α→List SP} {l:List α} {n c:Nat} (hE:Fits E fs) (h0: ∀a,(fs a).length=E.size) (hps:ps=l.flatMap fs) (hn:l.length=n) (htot:tot=c * E.size) (hpos:0<E.size) (hc:c≤maxLen) (hby:n * E.bytes≤140737488355328) {t:Nat} (ht:look t env=some (ex (.slice (some ⟨b,0,none⟩) n c))):
   Xkl C env (l1++row b T tot ps::l2) ((t,isl E l)::env) (l1++l2):=by
 intro F a w hR
 have hmem:row b T tot ps∈(l1++row b T tot ps::l2)++C.out:=by simp
 obtain ⟨cur,h1,h2,h3⟩:=hR.good.rel _ hmem
 have hb:=hR.good.lt _ hmem b Ye2
 have hm: ∀k,F k→k<w.heap.size→(F k∨k=b)∧w.heap[k]?=w.heap[k]?:=fun k hk _=>⟨.inl hk,rfl⟩
 have hsub:(l1++l2++C.out).Sublist ((l1++row b T tot ps::l2)++C.out):=((List.Sublist.refl l1).append (List.sublist_cons_self _ _)).append (List.Sublist.refl _)
 have hdis: ∀e∈l1++l2++C.out,b∉e.foot:=by
   intro e he hbe
   have hd:=hR.good.disj
   rw [List.append_assoc,List.cons_append] at hd
   rw [List.append_assoc] at he
   have hd2:=List.pairwise_append.1 hd
   rcases List.mem_append.1 he with he|he
   · exact hd2.2.2 e he _ List.mem_cons_self b hbe Ye2
   · exact (List.pairwise_cons.1 hd2.2.1).1 e he b Ye2 hbe
 have hle:n≤c:=by
   rcases Nat.eq_zero_or_pos n with h|h
   · omega
   · have hpl:ps.length=n * E.size:=by
       rw [hps,Xap h0,hn]
     have:0<ps.length:=by rw [hpl];exact Nat.mul_pos h hpos
     obtain ⟨v,h4,_⟩:=h3 (ps.length-1) ps[ps.length-1] (List.getElem?_eq_getElem Yan)
     have h5:=(Array.getElem?_eq_some_iff.1 h4).1
     have h6:n * E.size≤c * E.size:=by omega
     exact Nat.le_of_mul_le_mul_right h6 hpos
 have hcells: ∀i (hi:i<l.length),CellsR (fun k=>F k∨k=b) w (fs l[i]) ((cur.toList.drop (i * E.size)).take E.size):=by
   intro i hi
   have key: ∀j,j<E.size→ps[i * E.size+j]?=(fs l[i])[j]?:=by
     intro j hj
     rw [hps]
     clear hps hn ht hmem h1 h2 h3 hm hsub hdis
     induction l generalizing i with
     | nil=>simp at hi
     | cons x xs ih=>
       rw [List.flatMap_cons]
       cases i with
       | zero=>simp only [Nat.zero_mul,Nat.zero_add,List.getElem_cons_zero];rw [List.getElem?_append_left (by rw [h0];exact hj)]
       | succ i=>
         rw [List.getElem?_append_right (by rw [h0,Nat.succ_mul];omega),h0,List.getElem_cons_succ]
         rw [←ih i (by simpa using hi)]
         congr 1
         rw [Nat.succ_mul];omega
   have hall: ∀j,j<E.size→ ∃v p,(fs l[i])[j]?=some p∧cur[i * E.size+j]?=some v∧p.rel F w v:=fun j hj=>by
     have hp:(fs l[i])[j]?=some ((fs l[i])[j]'(by rw [h0];exact hj)):=List.getElem?_eq_getElem _
     obtain ⟨v,h4,h5⟩:=h3 _ _ ((key j hj).trans hp)
     exact ⟨v,_,hp,h4,h5⟩
   refine ⟨?_,fun j p hp=>?_⟩
   · rw [List.length_take,List.length_drop,Array.length_toList,h0]
     rcases Nat.eq_zero_or_pos E.size with h|h
     · omega
     · obtain ⟨v,p,_,h4,_⟩:=hall (E.size-1) Yan
       have:=(Array.getElem?_eq_some_iff.1 h4).1
       omega
   · have hj:j<E.size:=by rw [←h0 l[i]];exact (List.getElem?_eq_some_iff.1 hp).1
     obtain ⟨v,q,h4,h5,h6⟩:=hall j hj
     rw [hp] at h4;cases h4
     exact ⟨v,by rw [List.getElem?_take,if_pos hj,List.getElem?_drop,Array.getElem?_toList];exact h5,p.mono h6 hm⟩
 have hsl:Sl E (fun k=>F k∨k=b) w (some ⟨b,0,none⟩) n c l:=by
   refine ⟨hn,hle,hc,hby,(fun h=>by cases h),fun i hi=>⟨b,0,_,rfl,.inr rfl,hb.1,?_,fun j hj=>?_,hE.inn (hcells i hi)⟩⟩
   · rw [(hcells i hi).len,h0]
   · rw [List.getElem?_take,if_pos hj,List.getElem?_drop,Array.getElem?_toList]
     simp [World.cell?,h1]
 refine ⟨fun k=>F k∨k=b,fun _ h=> .inl h,⟨fun e he=>e.mono (hR.good.rel e (hsub.subset he)) hm fun _ _=>rfl,fun e he k hk=>⟨(hR.good.lt e (hsub.subset he) k hk).1,?_⟩,hR.good.disj.sublist hsub⟩,fun t' q hq=>?_,hR.size,hR.defers,hR.ch,fun e he=>hR.own e ?_,fun k hk hlt=> .inl (hR.grow k hk hlt)⟩
 · rintro (h|rfl)
   · exact (hR.good.lt e (hsub.subset he) k hk).2 h
   · exact hdis e he hk
 · rw [Uf] at hq
   split at hq
   · rename_i e;cases hq;subst e
     have hv:a.tmps.getD t' undef= .slice (some ⟨b,0,none⟩) n c:=hR.env _ _ ht
     rw [hv]
     exact ⟨_,_,_,rfl,hsl⟩
   · exact q.mono (hR.env t' q hq) hm
 · rcases List.mem_append.1 he with h|h
   · exact List.mem_append_left _ h
   · exact List.mem_append_right _ (List.mem_cons_of_mem _ h)
theorem Xg6 {C:Cx} {env:Env} {loc:List Ent} {k b T n c t tot:Nat} {ps:List SP} {α:Type} {E:Enc α} {fs:α→List SP} (l:List α) (ht:look t env=some (ex (.slice (some ⟨b,0,none⟩) n c))) (he:loc[k]?=some (row b T tot ps)) [hE:Fits E fs] (hps:ps=l.flatMap fs) (hn:l.length=n) (htot:tot=c * E.size) (hc:c≤maxLen) (hf0: ∀a,(fs a).length=E.size) (hpos:0<E.size) (hby:n * E.bytes≤140737488355328):Xkl C env loc ((t,isl E l)::env) (loc.eraseIdx k):=by
 have hk:=List.getElem?_eq_some_iff.1 he
 have e1:loc=loc.take k++row b T tot ps::loc.drop (k+1):=by
   conv=>lhs;rw [←List.take_append_drop k loc]
   rw [List.drop_eq_getElem_cons hk.1,hk.2]
 have e2:loc.eraseIdx k=loc.take k++loc.drop (k+1):=List.eraseIdx_eq_take_drop_succ _ _
 rw [e2]
 conv=>arg 3;rw [e1]
 exact Xeg hE hf0 hps hn htot hpos hc hby ht
theorem Xax {C:Cx} {H:Nat→Prop} {n0:Nat} {ops:Array Oper} {Q:Post} {fuel:Nat} {listed:Array Bool} {env:Env} {loc:List Ent} {k b T n c t tot:Nat} {ps:List SP} {α:Type} {E:Enc α} {fs:α→List SP} (l:List α) (ht:look t env=some (ex (.slice (some ⟨b,0,none⟩) n c))) (he:loc[k]?=some (row b T tot ps)) [hE:Fits E fs] (hps:ps=l.flatMap fs) (hn:l.length=n) (h:WPY C H n0 ops Q fuel listed ((t,isl E l)::env) (loc.eraseIdx k)) (htot:tot=c * E.size:=by first|rfl|omega) (hc:c≤maxLen:=by first|assumption|omega|(simp only [maxLen];omega)) (hf0: ∀a,(fs a).length=E.size:=by exact fun _=>rfl) (hpos:0<E.size:=by first|decide|exact Nat.zero_lt_succ _) (hby:n * E.bytes≤140737488355328:=by first|omega|(simp only [eSl,eByte];omega)):WPY C H n0 ops Q fuel listed env loc:=
 Xjf (Xg6 l ht he hps hn htot hc hf0 hpos hby) h
section
variable {C:Cx} {H:Nat→Prop} {env:Env} {loc:List Ent} {dst:Option Tmp} {ty:TypeId} {pos:String} {af:Array Edge} {g:Option (Nat×Bool)}
theorem Xkm {κ:Type} [DecidableEq κ] [MK κ] {m:List (κ×SP)} {k:κ} {p:SP} {t kt et:TypeId} {dk:TypeDesc} {x y:Operand} (hx:ev env x=some (Xpu m)) (hy:ev env y=some (ex (MK.val k))) (hl:Qd m k=some p) (ht:C.P.underlying t=some (.map kt et)) (hk:C.P.underlying kt=some dk) (hok:MK.ok κ dk):WT C (Xc2 H) ⟨dst,.lookup t x y false,ty,pos,af,g⟩ p env loc:=by
 constructor
 intro F a w hR
 obtain ⟨b,hv,h1,h2,h3⟩:=We hR hx
 have hvy:a.eval y=MK.val k:=We hR hy
 obtain ⟨es,clock,h4,h5,h6⟩:=h3
 obtain ⟨i,v,h7,h8,_⟩:=Rc hok m es.toList 0 (by simpa using h5) (fun i k p hp=>by simpa using h6 i k p hp) hl
 refine ⟨v,h8,fun w' hs=>?_⟩
 have hf:=S0 (P:=C.P) hk h7
 have hb:=hs b h2 (.inl h1)
 generalize a.eval=ρ at hv hvy ⊢
 simp [execOp,hv,hvy,Instr.lookup,Vs ht,go_sem,Go.MapKept.run_getObj_map (hb.trans h4),MK.check hk hok,hf]
theorem Xjg {κ:Type} [DecidableEq κ] [MK κ] {m:List (κ×SP)} {k:κ} {t kt et:TypeId} {dk:TypeDesc} {x y:Operand} {sz bt:Nat} {z:Value} (hx:ev env x=some (Xpu m)) (hy:ev env y=some (ex (MK.val k))) (hl:Qd m k=none) (ht:C.P.underlying t=some (.map kt et)) (hk:C.P.underlying kt=some dk) (hok:MK.ok κ dk) [hT:TI C.P et sz bt z]:WT C (Xc2 H) ⟨dst,.lookup t x y false,ty,pos,af,g⟩ (ex z) env loc:=by
 constructor
 intro F a w hR
 obtain ⟨b,hv,h1,h2,h3⟩:=We hR hx
 have hvy:a.eval y=MK.val k:=We hR hy
 refine ⟨z,rfl,fun w' hs=>?_⟩
 have hr:=Xcq (w':=w') (hT:=hT) ht hk hok h3 (hs b h2 (.inl h1)) hl false
 generalize a.eval=ρ at hv hvy ⊢
 simp [execOp,hv,hvy,hr,go_sem]
end
end Go.Fr
namespace Go.Sx
open Go.Lx Go.Fr
def partsM:List (Int×SP):=[(6,exI .i64 2),(7,exI .i64 2),(9,exI .i64 2),(10,exI .i64 2),(8,exI .i64 1),(11,exI .i64 4)]
theorem Xid (k:Int):k=6∨k=7∨k=9∨k=10∨k=8∨k=11∨(T1 k=0∧Qd partsM k=none):=by
 by_cases h:k=6∨k=7∨k=9∨k=10∨k=8∨k=11
 · omega
 · refine .inr (.inr (.inr (.inr (.inr (.inr ⟨?_,?_⟩)))))
   · unfold T1;rw [if_neg Yan,if_neg Yan,if_neg Yan]
   · simp only [partsM,Qd]
     rw [if_neg Yan,if_neg Yan,if_neg Yan,if_neg Yan,if_neg Yan,if_neg Yan]
theorem Xjh (k:Int) (h:T1 k≠0):Qd partsM k=some (exI .i64 (T1 k)):=by
 rcases Xid k with rfl|rfl|rfl|rfl|rfl|rfl|⟨h0,_⟩
 all_goals first|rfl|exact absurd h0 h
theorem Xji (k:Int) (h:T1 k=0):Qd partsM k=none:=by
 rcases Xid k with rfl|rfl|rfl|rfl|rfl|rfl|⟨_,h0⟩
 all_goals first|exact h0|exact absurd h Yao
section
variable {C:Cx} {H:Nat→Prop} {env:Env} {loc:List Ent} {dst:Option Tmp} {ty:TypeId} {pos:String} {af:Array Edge} {g:Option (Nat×Bool)}
theorem Xm2 {kd:Int} {t kt et:TypeId} {dk:TypeDesc} {x y:Operand} {bt:Nat} (hx:ev env x=some (Xpu partsM)) (hy:ev env y=some (exI .i64 kd)) (ht:C.P.underlying t=some (.map kt et)) (hk:C.P.underlying kt=some dk) (hok:MK.ok Int dk) [hT:TI C.P et 1 bt (.int .i64 0)]:WT C (Xc2 H) ⟨dst,.lookup t x y false,ty,pos,af,g⟩ (exI .i64 (T1 kd:Nat)) env loc:=by
 by_cases h:T1 kd=0
 · rw [h];exact Xjg (κ:=Int) hx hy (Xji kd h) ht hk hok
 · exact Xkm (κ:=Int) hx hy (Xjh kd h) ht hk hok
end
theorem Xn7 {k:Int} {s:List UInt8} {n d:Int} {ps:List (Int×List TokD)} (h:ps.length≠T1 k):Xas k s n d ps=[]:=by unfold Xas;rw [if_pos h]
theorem Xkn {k:Int} {s:List UInt8} {n d:Int} {ps:List (Int×List TokD)} (h:k<1∨11<k):Xas k s n d ps=[]:=by
 unfold Xas
 simp only [show ¬k=1 by omega,show ¬k=2 by omega,show ¬k=3 by omega,show ¬k=4 by omega,show ¬k=5 by omega,show ¬k=6 by omega,show ¬k=7 by omega,show ¬k=8 by omega,show ¬k=9 by omega,show ¬k=10 by omega,show ¬k=11 by omega,if_false,ite_self]
end Go.Sx
namespace Go.Proofs.YthdldeenpgeemaaGreatDoor
open Go Go.RowKit Go.Kx Go.Fr Go.Lx Go.Sx
theorem Xko (k:Nat) (hexp: ∀x,Xic k x) (l:List PutV):Xg5 k l:=by
 have p0: ∀l:List PutV,(∀x∈l,x.lvl≤0)→Xg5 k l:=fun l hl=>Xch k 0 Yao (fun m hm hx=>by
   cases m with
   | nil=>exact absurd rfl hm
   | cons y m=>exact absurd (hx y Yb9) (Nat.not_lt_zero _)) (fun h=>absurd h Yao) l hl
 have p1: ∀l:List PutV,(∀x∈l,x.lvl≤1)→Xg5 k l:=fun l hl=>Xch k 1 Yao (fun m _ hx=>p0 m fun y hy=>Nat.le_of_lt_succ (hx y hy)) (fun _=>hexp) l hl
 exact Xch k 2 Yao (fun m _ hx=>p1 m fun y hy=>Nat.le_of_lt_succ (hx y hy)) (fun _=>hexp) l fun y _=>by cases y<;>simp [PutV.lvl]
theorem nparts13_any:FnC Tryz.prog 194 [] [] (fun p loc=>p=Xpu partsM∧loc=[]):=by
 refine X3 Tryz.func194 rfl Tryz.ntmps194 rfl fun w0 F0 out=>?_
 (repeat' (first|(apply Xh;exact rfl;apply Xlh;refine Xij (κ:=Int) ?_;intro _)|(apply Xh;exact rfl;apply Xih;refine Xf4 (κ:=Int) (j:=0) (.inr rfl) rfl rfl rfl rfl rfl rfl ⟨_,rfl⟩ ?_)|refine Xe ?_|refine Xb ?_|refine Xc ?_|(apply Xn;exact Yba;exact rfl)|refine Xw ?_))
 apply Tk
 apply Xjr (k:=0) (t:=0) (m:=partsM)
 · simp only [List.set_cons_zero,List.getElem?_cons_zero,Xlg,partsM,Int.reduceEq,if_false];rfl
 · rfl
 exact ⟨.inr rfl,Vd rfl (.tmp rfl) (List.nil_sublist _) ⟨rfl,rfl⟩⟩
end Go.Proofs.YthdldeenpgeemaaGreatDoor
namespace Go.Proofs.YthdldeenpgeemaaGreatDoor
open Go Go.RowKit Go.Kx Go.Fr Go.Lx Go.Sx
theorem Xg7 (k:Nat) (hput: ∀l,Xg5 k l): ∀x,Xic (k+1) x:=by
 rintro ⟨kd,s,n,d,l⟩ b oa c acc hlen
 have hE:exT' (.mk kd s n d l)=Xas kd s n d (l.map fun y=>(y.kind,exT' y)):=by rw [Xef];rfl
 rw [hE] at hlen ⊢
 refine Wp (i:=1) rfl (Vo (i:=4) (p:=isl (eEx k) l) rfl Wu) fun hl=>?_
 obtain ⟨hl,-⟩:=hl
 simp only [maxLen] at hl
 show FnC Tryz.prog 167 [ex (.pointer (some ⟨b,0,none⟩)),agg [exI .i64 kd,exT s,exI .i64 n,exI .i64 d,isl (eEx k) l]] (Vt b oa c acc) _
 refine X3 Tryz.func167 rfl Tryz.ntmps167 rfl fun w0 F0 out=>?_
 (repeat' (first|(apply W2 1;refine StopW.out ?_)|refine Xe ?_|refine Xb ?_|refine Xc ?_|(apply Xh;exact rfl;(apply Vp;refine W4 rfl ?_;intro _))))
 refine ⟨?_⟩
 rename_i b3
 refine X7 ((Vq (k:=0) (t:=3) rfl rfl).trans (Xg (env':=[(0,ex (.pointer (some ⟨b,0,none⟩))),(3,fp [exI .i64 kd,exT s,exI .i64 n,exI .i64 d,isl (eEx k) l])]) (loc':=Vt b oa c acc) (by repeat (first|exact Xr|refine Xl rfl ?_)) (List.Sublist.refl _))) ?_
 refine Xe ?_
 (refine Vh ([]) 8 rfl ?_)
 all_goals ((apply Xd 0 rfl Yaa rfl Yab Xa;(exact Yae);exact rfl))
 all_goals ((apply Xv 1 rfl Yaa rfl Yaa Yab Xa;(exact Yag);exact rfl))
 all_goals ((apply Xd 2 rfl Yaa rfl Yab Xa;(exact Yaj);exact rfl))
 all_goals ((apply Xd 4 rfl Yaa rfl Yab Xa;(exact Yae);exact rfl))
 all_goals ((apply Xv 5 rfl Yaa rfl Yaa Yab Xa;(exact Yag);exact rfl))
 all_goals ((apply Xu 3;exact Yaa;exact rfl;exact Xa;exact (fun _ _ h=>h);(apply Xi;(refine Xq Tryz.func194 rfl nparts13_any rfl ?_;rintro _ _ ⟨rfl,rfl⟩))))
 all_goals ((apply Xu 6;exact Yaa;exact rfl;exact Xa;exact (fun _ _ h=>h);(apply Tm;(apply Xb5;exact Xm2 rfl rfl rfl rfl ⟨_,rfl⟩);exact rfl)))
 all_goals ((apply Xd 7 rfl Yaa rfl Yab Xa;(exact Ybo);exact rfl))
 all_goals (refine X9 Yaa ?_)
 (repeat' (first|(apply W2 2;refine StopW.out ?_)|refine Xs ?_|refine Xw ?_|(refine Xp rfl (fun hb=>?_) (fun hb=>?_)<;>(repeat (first|replace hb:=Xz hb|replace hb:=X0 hb|replace hb:=W5 hb|replace hb:=W6 hb))<;>(try (exfalso;fail)))))
 · exact ⟨.inr rfl,Rk (loc':=Vt b oa c acc) rfl (List.Sublist.refl _) ⟨oa,c,by rw [Xn7 (by rw [List.length_map];omega),List.append_nil]⟩⟩
 refine ⟨?_⟩
 have hla:l.length=T1 kd:=by omega
 refine X7 (Xg (env':=[(0,ex (.pointer (some ⟨b,0,none⟩))),(3,fp [exI .i64 kd,exT s,exI .i64 n,exI .i64 d,isl (eEx k) l])]) (loc':=Vt b oa c acc) (by repeat (first|exact Xr|refine Xl rfl ?_)) (List.Sublist.refl _)) ?_
 by_cases k1:kd=1
 · subst k1
   obtain rfl:l=[]:=List.length_eq_zero_iff.1 hla
   by_cases hd:d=1
   · subst hd
     have hT:Xas 1 s n 1 ([].map fun y=>(y.kind,exT' y))=[.i n].flatMap PutV.toks:=by
       simp only [List.flatMap_cons,List.flatMap_nil,List.append_nil,List.nil_append,List.append_assoc]
       rfl
     rw [hT] at hlen
     simp only [List.flatMap_cons,List.flatMap_nil,List.length_append,List.length_nil] at hlen
     (repeat' (first|(apply X4 22;refine Wj (k:=0) (E:=Tf k) (t:=21) [.i n] rfl rfl rfl rfl ?_ (hc:=by decide) (hby:=by show _ * 16≤140737488355328;decide))|refine Xe ?_|refine Xb ?_|refine Xc ?_|(apply Xn;(first|exact Xf rfl|exact Xm rfl|exact Yag|exact Yae|exact Yd5|exact Yax);exact rfl)|refine Xo ?_|refine Xs ?_|refine Xx rfl ?_|refine Xy rfl ?_|(apply Xh;exact rfl;first|(apply Xi;(refine Xk (.one 0 rfl (.one 0 rfl .nil)) Tryz.func104 rfl (hput _ b _ _ _ Ybf) rfl ?_;rintro _ _ ⟨_,_,rfl⟩))|(apply X5;(refine X6 rfl rfl ?_);intro _))))
     all_goals (try (exfalso;omega))
     all_goals (exact ⟨.inl rfl,Rk (loc':=Vt b _ _ _) rfl (List.sublist_append_left _ _) ⟨_,_,congrArg (Vt b _ _) Ya4⟩⟩)
   · have hT:Xas 1 s n d ([].map fun y=>(y.kind,exT' y))=[.i n,.s [47],.i d].flatMap PutV.toks:=by
       simp only [List.flatMap_cons,List.flatMap_nil,List.append_nil,List.nil_append,List.append_assoc]
       simp only [Xas,Xcg,if_neg hd];rfl
     rw [hT] at hlen
     simp only [List.flatMap_cons,List.flatMap_nil,List.length_append,List.length_nil] at hlen
     (repeat' (first|(apply X4 22;refine Wj (k:=0) (E:=Tf k) (t:=21) [.i n] rfl rfl rfl rfl ?_ (hc:=by decide) (hby:=by show _ * 16≤140737488355328;decide))|(apply X4 32;refine Wj (k:=0) (E:=Tf k) (t:=31) [.s [47],.i d] rfl rfl rfl rfl ?_ (hc:=by decide) (hby:=by show _ * 16≤140737488355328;decide))|refine Xe ?_|refine Xb ?_|refine Xc ?_|(apply Xn;(first|exact Xf rfl|exact Xm rfl|exact Yag|exact Yae|exact Yd5|exact Yax);exact rfl)|refine Xo ?_|refine Xs ?_|refine Xx rfl ?_|refine Xy rfl ?_|(apply Xh;exact rfl;first|(apply Xi;(refine Xk (.one 0 rfl (.one 0 rfl .nil)) Tryz.func104 rfl (hput _ b _ _ _ Ybf) rfl ?_;rintro _ _ ⟨_,_,rfl⟩))|(apply X5;(first|refine X6 rfl rfl ?_|refine Wi rfl Yac ?_);intro _))|(refine Xp rfl (fun hb=>?_) (fun hb=>?_)<;>(repeat (first|replace hb:=Xz hb|replace hb:=X0 hb|replace hb:=W5 hb|replace hb:=W6 hb))<;>(try (exfalso;contradiction)))))
     all_goals (try (exfalso;omega))
     all_goals (exact ⟨.inl rfl,Rk (loc':=Vt b _ _ _) rfl (List.sublist_append_left _ _) ⟨_,_,congrArg (Vt b _ _) Ya4⟩⟩)
 by_cases k2:kd=2
 · subst k2
   obtain rfl:l=[]:=List.length_eq_zero_iff.1 hla
   have hT:Xas 2 s n d ([].map fun y=>(y.kind,exT' y))=[.nm s].flatMap PutV.toks:=by
     simp only [List.flatMap_cons,List.flatMap_nil,List.append_nil,List.nil_append,List.append_assoc]
     rfl
   rw [hT] at hlen
   simp only [List.flatMap_cons,List.flatMap_nil,List.length_append,List.length_nil] at hlen
   (repeat' (first|(apply X4 52;refine Wj (k:=0) (E:=Tf k) (t:=51) [.nm s] rfl rfl rfl rfl ?_ (hc:=by decide) (hby:=by show _ * 16≤140737488355328;decide))|refine Xe ?_|refine Xb ?_|refine Xc ?_|(apply Xn;exact Ybi;exact rfl)|refine Xo ?_|refine Xx rfl ?_|refine Xy rfl ?_|(apply Xh;exact rfl;first|(apply Xi;(refine Xk (.one 0 rfl (.one 0 rfl .nil)) Tryz.func104 rfl (hput _ b _ _ _ Ybf) rfl ?_;rintro _ _ ⟨_,_,rfl⟩))|(apply X5;(refine X6 rfl rfl ?_);intro _))))
   all_goals (try (exfalso;omega))
   all_goals (exact ⟨.inl rfl,Rk (loc':=Vt b _ _ _) rfl (List.sublist_append_left _ _) ⟨_,_,congrArg (Vt b _ _) Ya4⟩⟩)
 by_cases k3:kd=3
 · subst k3
   obtain rfl:l=[]:=List.length_eq_zero_iff.1 hla
   have hT:Xas 3 s n d ([].map fun y=>(y.kind,exT' y))=[.s [98,111,110,117,115]].flatMap PutV.toks:=by
     simp only [List.flatMap_cons,List.flatMap_nil,List.append_nil,List.nil_append,List.append_assoc]
     rfl
   rw [hT] at hlen
   simp only [List.flatMap_cons,List.flatMap_nil,List.length_append,List.length_nil] at hlen
   (repeat' (first|(apply X4 58;refine Wj (k:=0) (E:=Tf k) (t:=57) [.s [98,111,110,117,115]] rfl rfl rfl rfl ?_ (hc:=by decide) (hby:=by show _ * 16≤140737488355328;decide))|refine Xe ?_|refine Xb ?_|refine Xc ?_|(apply Xn;exact Ybi;exact rfl)|refine Xo ?_|refine Xx rfl ?_|refine Xy rfl ?_|(apply Xh;exact rfl;first|(apply Xi;(refine Xk (.one 0 rfl (.one 0 rfl .nil)) Tryz.func104 rfl (hput _ b _ _ _ Ybf) rfl ?_;rintro _ _ ⟨_,_,rfl⟩))|(apply X5;(refine X6 rfl rfl ?_);intro _))))
   all_goals (try (exfalso;omega))
   all_goals (exact ⟨.inl rfl,Rk (loc':=Vt b _ _ _) rfl (List.sublist_append_left _ _) ⟨_,_,congrArg (Vt b _ _) Ya4⟩⟩)
 by_cases k4:kd=4
 · subst k4
   obtain rfl:l=[]:=List.length_eq_zero_iff.1 hla
   have hT:Xas 4 s n d ([].map fun y=>(y.kind,exT' y))=[.s [109,97,108,117,115]].flatMap PutV.toks:=by
     simp only [List.flatMap_cons,List.flatMap_nil,List.append_nil,List.nil_append,List.append_assoc]
     rfl
   rw [hT] at hlen
   simp only [List.flatMap_cons,List.flatMap_nil,List.length_append,List.length_nil] at hlen
   (repeat' (first|(apply X4 64;refine Wj (k:=0) (E:=Tf k) (t:=63) [.s [109,97,108,117,115]] rfl rfl rfl rfl ?_ (hc:=by decide) (hby:=by show _ * 16≤140737488355328;decide))|refine Xe ?_|refine Xb ?_|refine Xc ?_|(apply Xn;exact Ybi;exact rfl)|refine Xo ?_|refine Xx rfl ?_|refine Xy rfl ?_|(apply Xh;exact rfl;first|(apply Xi;(refine Xk (.one 0 rfl (.one 0 rfl .nil)) Tryz.func104 rfl (hput _ b _ _ _ Ybf) rfl ?_;rintro _ _ ⟨_,_,rfl⟩))|(apply X5;(refine X6 rfl rfl ?_);intro _))))
   all_goals (try (exfalso;omega))
   all_goals (exact ⟨.inl rfl,Rk (loc':=Vt b _ _ _) rfl (List.sublist_append_left _ _) ⟨_,_,congrArg (Vt b _ _) Ya4⟩⟩)
 by_cases k5:kd=5
 · subst k5
   obtain rfl:l=[]:=List.length_eq_zero_iff.1 hla
   have hT:Xas 5 s n d ([].map fun y=>(y.kind,exT' y))=[.s [114,111,117,110,100],.nm s].flatMap PutV.toks:=by
     simp only [List.flatMap_cons,List.flatMap_nil,List.append_nil,List.nil_append,List.append_assoc]
     rfl
   rw [hT] at hlen
   simp only [List.flatMap_cons,List.flatMap_nil,List.length_append,List.length_nil] at hlen
   (repeat' (first|(apply X4 73;refine Wj (k:=0) (E:=Tf k) (t:=72) [.s [114,111,117,110,100],.nm s] rfl rfl rfl rfl ?_ (hc:=by decide) (hby:=by show _ * 16≤140737488355328;decide))|refine Xe ?_|refine Xb ?_|refine Xc ?_|(apply Xn;exact Ybi;exact rfl)|refine Xo ?_|refine Xx rfl ?_|refine Xy rfl ?_|(apply Xh;exact rfl;first|(apply Xi;(refine Xk (.one 0 rfl (.one 0 rfl .nil)) Tryz.func104 rfl (hput _ b _ _ _ Ybf) rfl ?_;rintro _ _ ⟨_,_,rfl⟩))|(apply X5;(refine Wi rfl Yac ?_);intro _))))
   all_goals (try (exfalso;omega))
   all_goals (exact ⟨.inl rfl,Rk (loc':=Vt b _ _ _) rfl (List.sublist_append_left _ _) ⟨_,_,congrArg (Vt b _ _) Ya4⟩⟩)
 by_cases k6:kd=6
 · subst k6
   obtain ⟨e0,l,rfl⟩: ∃e t,l=e::t:=by cases l with|nil=>exact absurd hla Yao|cons e t=>exact ⟨e,t,rfl⟩
   obtain ⟨e1,l,rfl⟩: ∃e t,l=e::t:=by cases l with|nil=>exact absurd hla Yds|cons e t=>exact ⟨e,t,rfl⟩
   obtain rfl:l=[]:=by cases l with|nil=>rfl|cons e t=>exact absurd hla Yds
   have hT:Xas 6 s n d ([e0,e1].map fun y=>(y.kind,exT' y))=[.xx e0,.s [43],.pt e1].flatMap PutV.toks:=by
     simp only [List.flatMap_cons,List.flatMap_nil,List.append_nil,List.nil_append,List.append_assoc]
     rfl
   rw [hT] at hlen
   simp only [List.flatMap_cons,List.flatMap_nil,List.length_append,List.length_nil] at hlen
   (repeat' (first|refine Xe ?_|refine Xb ?_|refine Xc ?_|(apply Xn;exact Ybu;exact rfl)|refine Xo ?_|refine Xx rfl ?_|refine Xy rfl ?_))
   (refine Vh ([]) 14 rfl ?_)
   all_goals ((apply Xd 0 rfl Yaa rfl Yab Xa;(exact Xf rfl);exact rfl))
   all_goals ((apply Xd 1 rfl Yaa rfl Yab Xa;(exact Yae);exact rfl))
   all_goals ((apply Xv 2 rfl Yaa rfl Yaa Yab Xa;(exact Yag);exact rfl))
   all_goals ((apply Xd 3 rfl Yaa rfl Yab Xa;(exact Yah);exact rfl))
   all_goals ((apply Xv 4 rfl Yaa rfl Yaa Yab Xa;(exact Yav);exact rfl))
   all_goals ((apply Xd 5 rfl Yaa rfl Yab Xa;(exact Yax);exact rfl))
   all_goals ((apply Xd 6 rfl Yaa rfl Yab Xa;(exact Yax);exact rfl))
   all_goals ((apply Xd 7 rfl Yaa rfl Yab Xa;(exact Yae);exact rfl))
   all_goals ((apply Xv 8 rfl Yaa rfl Yaa Yab Xa;(exact Yag);exact rfl))
   all_goals ((apply Xd 9 rfl Yaa rfl Yab Xa;(exact Yah);exact rfl))
   all_goals ((apply Xv 10 rfl Yaa rfl Yaa Yab Xa;(exact Yav);exact rfl))
   all_goals ((apply Xd 11 rfl Yaa rfl Yab Xa;(exact Yax);exact rfl))
   all_goals ((apply Xu 12;exact Yaa;exact rfl;exact Xa;exact (fun _ _ h=>h);(apply X5;(refine Wi rfl Yac ?_);intro _)))
   all_goals ((refine Xax (k:=0) (E:=Tf k) (t:=88) [.xx e0,.s [43],.pt e1] rfl rfl rfl rfl ?_ (hc:=by decide) (hby:=by show _ * 16≤140737488355328;decide)))
   all_goals ((apply Xu 13;exact Yaa;exact rfl;exact Xa;exact (fun _ _ h=>h);(apply Xi;(refine Xk (.one 0 rfl (.one 0 rfl .nil)) Tryz.func104 rfl (hput _ b _ _ _ Ybf) rfl ?_;rintro _ _ ⟨_,_,rfl⟩))))
   all_goals (refine X9 Yaa ?_)
   all_goals ((repeat' (fail)))
   all_goals (try (exfalso;omega))
   all_goals (exact ⟨.inl rfl,Rk (loc':=Vt b _ _ _) rfl (List.sublist_append_left _ _) ⟨_,_,congrArg (Vt b _ _) Ya4⟩⟩)
 by_cases k7:kd=7
 · subst k7
   obtain ⟨e0,l,rfl⟩: ∃e t,l=e::t:=by cases l with|nil=>exact absurd hla Yao|cons e t=>exact ⟨e,t,rfl⟩
   obtain ⟨e1,l,rfl⟩: ∃e t,l=e::t:=by cases l with|nil=>exact absurd hla Yds|cons e t=>exact ⟨e,t,rfl⟩
   obtain rfl:l=[]:=by cases l with|nil=>rfl|cons e t=>exact absurd hla Yds
   have hT:Xas 7 s n d ([e0,e1].map fun y=>(y.kind,exT' y))=[.xx e0,.s [45],.pt e1].flatMap PutV.toks:=by
     simp only [List.flatMap_cons,List.flatMap_nil,List.append_nil,List.nil_append,List.append_assoc]
     rfl
   rw [hT] at hlen
   simp only [List.flatMap_cons,List.flatMap_nil,List.length_append,List.length_nil] at hlen
   (repeat' (first|refine Xe ?_|refine Xb ?_|refine Xc ?_|(apply Xn;exact Ybu;exact rfl)|refine Xo ?_|refine Xx rfl ?_|refine Xy rfl ?_))
   (refine Vh ([]) 14 rfl ?_)
   all_goals ((apply Xd 0 rfl Yaa rfl Yab Xa;(exact Xf rfl);exact rfl))
   all_goals ((apply Xd 1 rfl Yaa rfl Yab Xa;(exact Yae);exact rfl))
   all_goals ((apply Xv 2 rfl Yaa rfl Yaa Yab Xa;(exact Yag);exact rfl))
   all_goals ((apply Xd 3 rfl Yaa rfl Yab Xa;(exact Yah);exact rfl))
   all_goals ((apply Xv 4 rfl Yaa rfl Yaa Yab Xa;(exact Yav);exact rfl))
   all_goals ((apply Xd 5 rfl Yaa rfl Yab Xa;(exact Yax);exact rfl))
   all_goals ((apply Xd 6 rfl Yaa rfl Yab Xa;(exact Yax);exact rfl))
   all_goals ((apply Xd 7 rfl Yaa rfl Yab Xa;(exact Yae);exact rfl))
   all_goals ((apply Xv 8 rfl Yaa rfl Yaa Yab Xa;(exact Yag);exact rfl))
   all_goals ((apply Xd 9 rfl Yaa rfl Yab Xa;(exact Yah);exact rfl))
   all_goals ((apply Xv 10 rfl Yaa rfl Yaa Yab Xa;(exact Yav);exact rfl))
   all_goals ((apply Xd 11 rfl Yaa rfl Yab Xa;(exact Yax);exact rfl))
   all_goals ((apply Xu 12;exact Yaa;exact rfl;exact Xa;exact (fun _ _ h=>h);(apply X5;(refine Wi rfl Yac ?_);intro _)))
   all_goals ((refine Xax (k:=0) (E:=Tf k) (t:=104) [.xx e0,.s [45],.pt e1] rfl rfl rfl rfl ?_ (hc:=by decide) (hby:=by show _ * 16≤140737488355328;decide)))
   all_goals ((apply Xu 13;exact Yaa;exact rfl;exact Xa;exact (fun _ _ h=>h);(apply Xi;(refine Xk (.one 0 rfl (.one 0 rfl .nil)) Tryz.func104 rfl (hput _ b _ _ _ Ybf) rfl ?_;rintro _ _ ⟨_,_,rfl⟩))))
   all_goals (refine X9 Yaa ?_)
   all_goals ((repeat' (fail)))
   all_goals (try (exfalso;omega))
   all_goals (exact ⟨.inl rfl,Rk (loc':=Vt b _ _ _) rfl (List.sublist_append_left _ _) ⟨_,_,congrArg (Vt b _ _) Ya4⟩⟩)
 by_cases k8:kd=8
 · subst k8
   obtain ⟨e0,l,rfl⟩: ∃e t,l=e::t:=by cases l with|nil=>exact absurd hla Yao|cons e t=>exact ⟨e,t,rfl⟩
   obtain rfl:l=[]:=by cases l with|nil=>rfl|cons e t=>exact absurd hla Yds
   by_cases hd:d=1
   · subst hd
     have hT:Xas 8 s n 1 ([e0].map fun y=>(y.kind,exT' y))=[.i n,.s [42],.pt e0].flatMap PutV.toks:=by
       simp only [List.flatMap_cons,List.flatMap_nil,List.append_nil,List.nil_append,List.append_assoc]
       rfl
     rw [hT] at hlen
     simp only [List.flatMap_cons,List.flatMap_nil,List.length_append,List.length_nil] at hlen
     (repeat' (first|(apply X4 22;refine Wj (k:=0) (E:=Tf k) (t:=21) [.i n] rfl rfl rfl rfl ?_ (hc:=by decide) (hby:=by show _ * 16≤140737488355328;decide))|(apply X4 44;refine Wj (k:=0) (E:=Tf k) (t:=43) [.s [42],.pt e0] rfl rfl rfl rfl ?_ (hc:=by decide) (hby:=by show _ * 16≤140737488355328;decide))|refine Xe ?_|refine Xb ?_|refine Xc ?_|(apply Xn;(first|exact Xf rfl|exact Xm rfl|exact Ybj|exact Yae|exact Yd5|exact Yah|exact Yax);exact rfl)|refine Xo ?_|refine Xs ?_|refine Xx rfl ?_|refine Xy rfl ?_|(apply Xh;exact rfl;first|(apply Xi;(refine Xk (.one 0 rfl (.one 0 rfl .nil)) Tryz.func104 rfl (hput _ b _ _ _ Ybf) rfl ?_;rintro _ _ ⟨_,_,rfl⟩))|(apply X5;(first|refine X6 rfl rfl ?_|refine Wi rfl Yac ?_);intro _))))
     all_goals (try (exfalso;omega))
     all_goals (exact ⟨.inl rfl,Rk (loc':=Vt b _ _ _) rfl (List.sublist_append_left _ _) ⟨_,_,congrArg (Vt b _ _) Ya4⟩⟩)
   · have hT:Xas 8 s n d ([e0].map fun y=>(y.kind,exT' y))=[.i n,.s [47],.i d,.s [42],.pt e0].flatMap PutV.toks:=by
       simp only [List.flatMap_cons,List.flatMap_nil,List.append_nil,List.nil_append,List.append_assoc]
       simp only [Xas,Xcg,if_neg hd];rfl
     rw [hT] at hlen
     simp only [List.flatMap_cons,List.flatMap_nil,List.length_append,List.length_nil] at hlen
     (repeat' (first|(apply X4 22;refine Wj (k:=0) (E:=Tf k) (t:=21) [.i n] rfl rfl rfl rfl ?_ (hc:=by decide) (hby:=by show _ * 16≤140737488355328;decide))|(apply X4 32;refine Wj (k:=0) (E:=Tf k) (t:=31) [.s [47],.i d] rfl rfl rfl rfl ?_ (hc:=by decide) (hby:=by show _ * 16≤140737488355328;decide))|(apply X4 44;refine Wj (k:=0) (E:=Tf k) (t:=43) [.s [42],.pt e0] rfl rfl rfl rfl ?_ (hc:=by decide) (hby:=by show _ * 16≤140737488355328;decide))|refine Xe ?_|refine Xb ?_|refine Xc ?_|(apply Xn;(first|exact Xf rfl|exact Xm rfl|exact Ybj|exact Yae|exact Yd5|exact Yah|exact Yax);exact rfl)|refine Xo ?_|refine Xx rfl ?_|refine Xy rfl ?_|(apply Xh;exact rfl;first|(apply Xi;(refine Xk (.one 0 rfl (.one 0 rfl .nil)) Tryz.func104 rfl (hput _ b _ _ _ Ybf) rfl ?_;rintro _ _ ⟨_,_,rfl⟩))|(apply X5;(first|refine X6 rfl rfl ?_|refine Wi rfl Yac ?_);intro _))|(refine Xp rfl (fun hb=>?_) (fun hb=>?_)<;>(repeat (first|replace hb:=Xz hb|replace hb:=X0 hb|replace hb:=W5 hb|replace hb:=W6 hb))<;>(try (exfalso;contradiction)))))
     all_goals (try (exfalso;omega))
     all_goals (exact ⟨.inl rfl,Rk (loc':=Vt b _ _ _) rfl (List.sublist_append_left _ _) ⟨_,_,congrArg (Vt b _ _) Ya4⟩⟩)
 by_cases k9:kd=9
 · subst k9
   obtain ⟨e0,l,rfl⟩: ∃e t,l=e::t:=by cases l with|nil=>exact absurd hla Yao|cons e t=>exact ⟨e,t,rfl⟩
   obtain ⟨e1,l,rfl⟩: ∃e t,l=e::t:=by cases l with|nil=>exact absurd hla Yds|cons e t=>exact ⟨e,t,rfl⟩
   obtain rfl:l=[]:=by cases l with|nil=>rfl|cons e t=>exact absurd hla Yds
   have hT:Xas 9 s n d ([e0,e1].map fun y=>(y.kind,exT' y))=[.s [108,101,97,115,116],.s [40],.xx e0,.s [44],.xx e1,.s [41]].flatMap PutV.toks:=by
     have hA:Xas 9 s n d ([e0,e1].map fun y=>(y.kind,exT' y))=tkW wLeast::tkS sOpen::exT' e0++tkS sComma::exT' e1++[tkS sClose]:=rfl
     rw [hA]
     simp only [List.flatMap_cons,List.flatMap_nil,List.append_nil,List.nil_append,List.append_assoc,List.cons_append]
     rfl
   rw [hT] at hlen
   simp only [List.flatMap_cons,List.flatMap_nil,List.length_append,List.length_nil] at hlen
   (repeat' (first|refine Xe ?_|refine Xb ?_|refine Xc ?_|(apply Xn;exact Ybu;exact rfl)|refine Xo ?_|refine Xx rfl ?_|refine Xy rfl ?_))
   (refine Vh ([]) 17 rfl ?_)
   all_goals ((apply Xd 0 rfl Yaa rfl Yab Xa;(exact Xf rfl);exact rfl))
   all_goals ((apply Xd 1 rfl Yaa rfl Yab Xa;(exact Yax);exact rfl))
   all_goals ((apply Xd 2 rfl Yaa rfl Yab Xa;(exact Yax);exact rfl))
   all_goals ((apply Xd 3 rfl Yaa rfl Yab Xa;(exact Yae);exact rfl))
   all_goals ((apply Xv 4 rfl Yaa rfl Yaa Yab Xa;(exact Yag);exact rfl))
   all_goals ((apply Xd 5 rfl Yaa rfl Yab Xa;(exact Yah);exact rfl))
   all_goals ((apply Xv 6 rfl Yaa rfl Yaa Yab Xa;(exact Yav);exact rfl))
   all_goals ((apply Xd 7 rfl Yaa rfl Yab Xa;(exact Yax);exact rfl))
   all_goals ((apply Xd 8 rfl Yaa rfl Yab Xa;(exact Yax);exact rfl))
   all_goals ((apply Xd 9 rfl Yaa rfl Yab Xa;(exact Yae);exact rfl))
   all_goals ((apply Xv 10 rfl Yaa rfl Yaa Yab Xa;(exact Yag);exact rfl))
   all_goals ((apply Xd 11 rfl Yaa rfl Yab Xa;(exact Yah);exact rfl))
   all_goals ((apply Xv 12 rfl Yaa rfl Yaa Yab Xa;(exact Yav);exact rfl))
   all_goals ((apply Xd 13 rfl Yaa rfl Yab Xa;(exact Yax);exact rfl))
   all_goals ((apply Xd 14 rfl Yaa rfl Yab Xa;(exact Yax);exact rfl))
   all_goals ((apply Xu 15;exact Yaa;exact rfl;exact Xa;exact (fun _ _ h=>h);(apply X5;(refine Wi rfl Yac ?_);intro _)))
   all_goals ((refine Xax (k:=0) (E:=Tf k) (t:=123) [.s [108,101,97,115,116],.s [40],.xx e0,.s [44],.xx e1,.s [41]] rfl rfl rfl rfl ?_ (hc:=by decide) (hby:=by show _ * 16≤140737488355328;decide)))
   all_goals ((apply Xu 16;exact Yaa;exact rfl;exact Xa;exact (fun _ _ h=>h);(apply Xi;(refine Xk (.one 0 rfl (.one 0 rfl .nil)) Tryz.func104 rfl (hput _ b _ _ _ Ybf) rfl ?_;rintro _ _ ⟨_,_,rfl⟩))))
   all_goals (refine X9 Yaa ?_)
   all_goals ((repeat' (fail)))
   all_goals (try (exfalso;omega))
   all_goals (exact ⟨.inl rfl,Rk (loc':=Vt b _ _ _) rfl (List.sublist_append_left _ _) ⟨_,_,congrArg (Vt b _ _) Ya4⟩⟩)
 by_cases k10:kd=10
 · subst k10
   obtain ⟨e0,l,rfl⟩: ∃e t,l=e::t:=by cases l with|nil=>exact absurd hla Yao|cons e t=>exact ⟨e,t,rfl⟩
   obtain ⟨e1,l,rfl⟩: ∃e t,l=e::t:=by cases l with|nil=>exact absurd hla Yds|cons e t=>exact ⟨e,t,rfl⟩
   obtain rfl:l=[]:=by cases l with|nil=>rfl|cons e t=>exact absurd hla Yds
   have hT:Xas 10 s n d ([e0,e1].map fun y=>(y.kind,exT' y))=[.s [103,114,101,97,116,101,115,116],.s [40],.xx e0,.s [44],.xx e1,.s [41]].flatMap PutV.toks:=by
     have hA:Xas 10 s n d ([e0,e1].map fun y=>(y.kind,exT' y))=tkW wGreatest::tkS sOpen::exT' e0++tkS sComma::exT' e1++[tkS sClose]:=rfl
     rw [hA]
     simp only [List.flatMap_cons,List.flatMap_nil,List.append_nil,List.nil_append,List.append_assoc,List.cons_append]
     rfl
   rw [hT] at hlen
   simp only [List.flatMap_cons,List.flatMap_nil,List.length_append,List.length_nil] at hlen
   (repeat' (first|refine Xe ?_|refine Xb ?_|refine Xc ?_|(apply Xn;exact Ybu;exact rfl)|refine Xo ?_|refine Xx rfl ?_|refine Xy rfl ?_))
   (refine Vh ([]) 17 rfl ?_)
   all_goals ((apply Xd 0 rfl Yaa rfl Yab Xa;(exact Xf rfl);exact rfl))
   all_goals ((apply Xd 1 rfl Yaa rfl Yab Xa;(exact Yax);exact rfl))
   all_goals ((apply Xd 2 rfl Yaa rfl Yab Xa;(exact Yax);exact rfl))
   all_goals ((apply Xd 3 rfl Yaa rfl Yab Xa;(exact Yae);exact rfl))
   all_goals ((apply Xv 4 rfl Yaa rfl Yaa Yab Xa;(exact Yag);exact rfl))
   all_goals ((apply Xd 5 rfl Yaa rfl Yab Xa;(exact Yah);exact rfl))
   all_goals ((apply Xv 6 rfl Yaa rfl Yaa Yab Xa;(exact Yav);exact rfl))
   all_goals ((apply Xd 7 rfl Yaa rfl Yab Xa;(exact Yax);exact rfl))
   all_goals ((apply Xd 8 rfl Yaa rfl Yab Xa;(exact Yax);exact rfl))
   all_goals ((apply Xd 9 rfl Yaa rfl Yab Xa;(exact Yae);exact rfl))
   all_goals ((apply Xv 10 rfl Yaa rfl Yaa Yab Xa;(exact Yag);exact rfl))
   all_goals ((apply Xd 11 rfl Yaa rfl Yab Xa;(exact Yah);exact rfl))
   all_goals ((apply Xv 12 rfl Yaa rfl Yaa Yab Xa;(exact Yav);exact rfl))
   all_goals ((apply Xd 13 rfl Yaa rfl Yab Xa;(exact Yax);exact rfl))
   all_goals ((apply Xd 14 rfl Yaa rfl Yab Xa;(exact Yax);exact rfl))
   all_goals ((apply Xu 15;exact Yaa;exact rfl;exact Xa;exact (fun _ _ h=>h);(apply X5;(refine Wi rfl Yac ?_);intro _)))
   all_goals ((refine Xax (k:=0) (E:=Tf k) (t:=142) [.s [103,114,101,97,116,101,115,116],.s [40],.xx e0,.s [44],.xx e1,.s [41]] rfl rfl rfl rfl ?_ (hc:=by decide) (hby:=by show _ * 16≤140737488355328;decide)))
   all_goals ((apply Xu 16;exact Yaa;exact rfl;exact Xa;exact (fun _ _ h=>h);(apply Xi;(refine Xk (.one 0 rfl (.one 0 rfl .nil)) Tryz.func104 rfl (hput _ b _ _ _ Ybf) rfl ?_;rintro _ _ ⟨_,_,rfl⟩))))
   all_goals (refine X9 Yaa ?_)
   all_goals ((repeat' (fail)))
   all_goals (try (exfalso;omega))
   all_goals (exact ⟨.inl rfl,Rk (loc':=Vt b _ _ _) rfl (List.sublist_append_left _ _) ⟨_,_,congrArg (Vt b _ _) Ya4⟩⟩)
 by_cases k11:kd=11
 · subst k11
   obtain ⟨e0,l,rfl⟩: ∃e t,l=e::t:=by cases l with|nil=>exact absurd hla Yao|cons e t=>exact ⟨e,t,rfl⟩
   obtain ⟨e1,l,rfl⟩: ∃e t,l=e::t:=by cases l with|nil=>exact absurd hla Yds|cons e t=>exact ⟨e,t,rfl⟩
   obtain ⟨e2,l,rfl⟩: ∃e t,l=e::t:=by cases l with|nil=>exact absurd hla Yds|cons e t=>exact ⟨e,t,rfl⟩
   obtain ⟨e3,l,rfl⟩: ∃e t,l=e::t:=by cases l with|nil=>exact absurd hla Yds|cons e t=>exact ⟨e,t,rfl⟩
   obtain rfl:l=[]:=by cases l with|nil=>rfl|cons e t=>exact absurd hla Yds
   have hT:Xas 11 s n d ([e0,e1,e2,e3].map fun y=>(y.kind,exT' y))=[.s [105,102],.xx e0,.s [117,112,116,111],.xx e1,.s [116,104,101,110],.xx e2,.s [101,108,115,101],.xx e3,.s [101,110,100]].flatMap PutV.toks:=by
     have hA:Xas 11 s n d ([e0,e1,e2,e3].map fun y=>(y.kind,exT' y))=tkW wIf::exT' e0++tkW wUpto::exT' e1++tkW wThen::exT' e2++tkW wElse::exT' e3++[tkW wEnd]:=rfl
     rw [hA]
     simp only [List.flatMap_cons,List.flatMap_nil,List.append_nil,List.nil_append,List.append_assoc,List.cons_append]
     rfl
   rw [hT] at hlen
   simp only [List.flatMap_cons,List.flatMap_nil,List.length_append,List.length_nil] at hlen
   (repeat' (first|refine Xe ?_|refine Xb ?_|refine Xc ?_|(apply Xn;exact Ybu;exact rfl)|refine Xo ?_|refine Xx rfl ?_|refine Xy rfl ?_))
   (refine Vh ([]) 28 rfl ?_)
   all_goals ((apply Xd 0 rfl Yaa rfl Yab Xa;(exact Xf rfl);exact rfl))
   all_goals ((apply Xd 1 rfl Yaa rfl Yab Xa;(exact Yax);exact rfl))
   all_goals ((apply Xd 2 rfl Yaa rfl Yab Xa;(exact Yae);exact rfl))
   all_goals ((apply Xv 3 rfl Yaa rfl Yaa Yab Xa;(exact Yag);exact rfl))
   all_goals ((apply Xd 4 rfl Yaa rfl Yab Xa;(exact Yah);exact rfl))
   all_goals ((apply Xv 5 rfl Yaa rfl Yaa Yab Xa;(exact Yav);exact rfl))
   all_goals ((apply Xd 6 rfl Yaa rfl Yab Xa;(exact Yax);exact rfl))
   all_goals ((apply Xd 7 rfl Yaa rfl Yab Xa;(exact Yax);exact rfl))
   all_goals ((apply Xd 8 rfl Yaa rfl Yab Xa;(exact Yae);exact rfl))
   all_goals ((apply Xv 9 rfl Yaa rfl Yaa Yab Xa;(exact Yag);exact rfl))
   all_goals ((apply Xd 10 rfl Yaa rfl Yab Xa;(exact Yah);exact rfl))
   all_goals ((apply Xv 11 rfl Yaa rfl Yaa Yab Xa;(exact Yav);exact rfl))
   all_goals ((apply Xd 12 rfl Yaa rfl Yab Xa;(exact Yax);exact rfl))
   all_goals ((apply Xd 13 rfl Yaa rfl Yab Xa;(exact Yax);exact rfl))
   all_goals ((apply Xd 14 rfl Yaa rfl Yab Xa;(exact Yae);exact rfl))
   all_goals ((apply Xv 15 rfl Yaa rfl Yaa Yab Xa;(exact Yag);exact rfl))
   all_goals ((apply Xd 16 rfl Yaa rfl Yab Xa;(exact Yah);exact rfl))
   all_goals ((apply Xv 17 rfl Yaa rfl Yaa Yab Xa;(exact Yav);exact rfl))
   all_goals ((apply Xd 18 rfl Yaa rfl Yab Xa;(exact Yax);exact rfl))
   all_goals ((apply Xd 19 rfl Yaa rfl Yab Xa;(exact Yax);exact rfl))
   all_goals ((apply Xd 20 rfl Yaa rfl Yab Xa;(exact Yae);exact rfl))
   all_goals ((apply Xv 21 rfl Yaa rfl Yaa Yab Xa;(exact Yag);exact rfl))
   all_goals ((apply Xd 22 rfl Yaa rfl Yab Xa;(exact Yah);exact rfl))
   all_goals ((apply Xv 23 rfl Yaa rfl Yaa Yab Xa;(exact Yav);exact rfl))
   all_goals ((apply Xd 24 rfl Yaa rfl Yab Xa;(exact Yax);exact rfl))
   all_goals ((apply Xd 25 rfl Yaa rfl Yab Xa;(exact Yax);exact rfl))
   all_goals ((apply Xu 26;exact Yaa;exact rfl;exact Xa;exact (fun _ _ h=>h);(apply X5;(refine Wi rfl Yac ?_);intro _)))
   all_goals ((refine Xax (k:=0) (E:=Tf k) (t:=172) [.s [105,102],.xx e0,.s [117,112,116,111],.xx e1,.s [116,104,101,110],.xx e2,.s [101,108,115,101],.xx e3,.s [101,110,100]] rfl rfl rfl rfl ?_ (hc:=by decide) (hby:=by show _ * 16≤140737488355328;decide)))
   all_goals ((apply Xu 27;exact Yaa;exact rfl;exact Xa;exact (fun _ _ h=>h);(apply Xi;(refine Xk (.one 0 rfl (.one 0 rfl .nil)) Tryz.func104 rfl (hput _ b _ _ _ Ybf) rfl ?_;rintro _ _ ⟨_,_,rfl⟩))))
   all_goals (refine X9 Yaa ?_)
   all_goals ((repeat' (fail)))
   all_goals (try (exfalso;omega))
   all_goals (exact ⟨.inl rfl,Rk (loc':=Vt b _ _ _) rfl (List.sublist_append_left _ _) ⟨_,_,congrArg (Vt b _ _) Ya4⟩⟩)
 · rw [Xkn (by have: ¬(kd=1):=k1;omega)]
   (repeat' (first|refine Xe ?_|refine Xb ?_|refine Xc ?_|(apply Xn;exact Ybu;exact rfl)|refine Xo ?_|refine Xs ?_|(refine Xp rfl (fun hb=>?_) (fun hb=>?_)<;>(repeat (first|replace hb:=Xz hb|replace hb:=X0 hb))<;>(try (exfalso;contradiction)))))
   all_goals (try (exfalso;omega))
   all_goals (exact ⟨.inl rfl,Rk (loc':=Vt b oa c acc) rfl (List.Sublist.refl _) ⟨oa,c,by rw [List.append_nil]⟩⟩)
theorem wexpr13_all: ∀k x,Xic k x
 | 0,_=>fun _ _ _ _ _=>Wp (i:=1) rfl R4 fun h=>h.elim
 | k+1,x=>Xg7 k (Xko k (wexpr13_all k)) x
theorem T6 (k:Nat) (l:List PutV):Xg5 k l:=Xko k (wexpr13_all k) l
end Go.Proofs.YthdldeenpgeemaaGreatDoor
namespace Go.Proofs.YthdldeenpgeemaaGreatDoor
open Go Go.RowKit Go.Kx Go.Fr
end Go.Proofs.YthdldeenpgeemaaGreatDoor
namespace Go.Proofs.YthdldeenpgeemaaGreatDoor
open Go Go.RowKit Go.Kx Go.Fr
def wordsT:List UInt8:=[99,111,109,112,101,116,105,116,105,111,110,32,99,114,105,116,101,114,105,111,110,32,102,114,111,109,32,116,111,32,115,116,101,112,32,115,117,109,32,109,101,97,110,32,116,114,105,109,32,109,101,100,105,97,110,32,114,101,118,101,114,115,101,32,98,111,110,117,115,32,118,97,108,117,101,32,109,111,115,116,32,109,97,108,117,115,32,116,105,101,32,116,111,116,97,108,32,115,99,111,114,101,32,104,105,103,104,101,115,116,32,114,117,108,101,32,108,111,116,32,114,111,117,110,100,32,112,97,110,101,108,32,113,117,111,116,97,32,111,118,101,114,32,117,110,100,101,114,32,108,111,116,115,32,102,114,101,101,32,112,108,97,99,101,115,32,112,114,105,122,101,115,32,112,111,105,110,116,115,32,98,101,115,116,32,108,101,97,115,116,32,103,114,101,97,116,101,115,116,32,105,102,32,117,112,116,111,32,116,104,101,110,32,101,108,115,101,32,101,110,100]
theorem words_len:wordsT.length=221:=by decide +kernel
end Go.Proofs.YthdldeenpgeemaaGreatDoor
