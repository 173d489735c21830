/- names.Resolve: to where the maps stand. -/
import Derived.Test.YthdldeenpgeemaaGreatDoorPartE
import Derived.Test.YthdldeenpgeemaaGreatDoorPart5
import Derived.Test.YthdldeenpgeemaaGreatDoorPartC
import Derived.Test.YthdldeenpgeemaaGreatDoorPart3
import Derived.Test.YthdldeenpgeemaaGreatDoorPartA
import Derived.Test.YthdldeenpgeemaaGreatDoorPart7
import Derived.Test.YthdldeenpgeemaaGreatDoorPartD
import Derived.Test.YthdldeenpgeemaaGreatDoorPartB
set_option maxHeartbeats 8000000
set_option maxRecDepth 100000
namespace Go.Proofs.YthdldeenpgeemaaGreatDoor
open Go Go.RowKit Go.Kx Go.Fr
theorem Xfh (k:Nat):Im (agg [ex (.string .empty),ex (.slice none 0 0),ex (.slice none 0 0),ex (.slice none 0 0),ex (.slice none 0 0),ex (.slice none 0 0),ex (.slice none 0 0),ex (.slice none 0 0),ex (.int .i64 0)]) (rul k RulesD.zero):=Ims.agg (.cons (.refl _) (.cons .nil (.cons .nil (.cons .nil (.cons .nil (.cons .nil (.cons .nil (.cons .nil (.cons (.refl _) .nil)))))))))
theorem Xrn {C:Cx} {ops:Array Oper} {Q:Post} {d:Option Nat} {xs:Array Operand} {ts:Array TypeId} {ty:TypeId} {pos:String} {af:Array Edge} {g:Option (Nat×Bool)} {rest:List Oper} {env:Env} {loc:List Ent} (h:WPL C ops Q (⟨d,.call ⟨.value (.func 60),xs,ts⟩,ty,pos,af,g⟩::rest) env loc):WPL C ops Q (⟨d,.call ⟨.value (.func 60),xs,ts⟩,ty,pos,af,g⟩::rest) env loc:=h
theorem U8 (k:Nat) (r:RulesD) (hf:r.few=true):FnC Tryz.prog 23 [rul k r] [Tab] (fun p loc=>p=tup [rul k (r.resolve Vx).1,exI .i64 (r.resolve Vx).2]∧loc=[]):=by
 obtain ⟨hf1,hf2,hf3,hf4,hf5,hf6,hf7,hf8,hf9⟩:=Xay hf
 have hsma:=Xl4 k r hf
 have hL0: ∀b,FnC Tryz.prog 57 [ex (.map (some b)),isl eCrit r.crits,ex (.func (.func 58) #[] #[])] [Re b ([]:List (List UInt8×SP)),Tab] (fun p loc=>p=tup [exB (r.n0.all Vx),exB (onceF r.n0)]∧loc=[Re b (Uj r.n0 r.n0.length)]):=fun b=>by
   have h:=Xgb r.crits b Yan
   rw [show r.n0.length=r.crits.length from List.length_map ..]
   exact h
 have hL1: ∀b,FnC Tryz.prog 59 [ex (.map (some b)),isl eItem (r.bonus++r.malus),ex (.func (.func 61) #[] #[])] [Re b ([]:List (List UInt8×SP)),Tab] (fun p loc=>p=tup [exB (r.n1.all Vx),exB (onceF r.n1)]∧loc=[Re b (Uj r.n1 r.n1.length)]):=fun b=>by
   have h:=Xgc (r.bonus++r.malus) b Ybh
   rw [List.map_append] at h
   rw [show r.n1.length=(r.bonus++r.malus).length by simp [RulesD.n1]]
   exact h
 have hL2: ∀b,FnC Tryz.prog 62 [ex (.map (some b)),isl eTie r.ties,ex (.func (.func 63) #[] #[])] [Re b ([]:List (List UInt8×SP)),Tab] (fun p loc=>p=tup [exB (r.n2.all Vx),exB (onceF r.n2)]∧loc=[Re b (Uj r.n2 r.n2.length)]):=fun b=>by
   have h:=Xhx r.ties b Yan
   rw [show r.n2.length=r.ties.length from List.length_map ..]
   exact h
 have hL3: ∀b,FnC Tryz.prog 64 [ex (.map (some b)),isl (Vy k) r.rounds,ex (.func (.func 65) #[] #[])] [Re b ([]:List (List UInt8×SP)),Tab] (fun p loc=>p=tup [exB (r.n3.all Vx),exB (onceF r.n3)]∧loc=[Re b (Uj r.n3 r.n3.length)]):=fun b=>by
   have h:=Xe1 k r.rounds b Yan
   rw [show r.n3.length=r.rounds.length from List.length_map ..]
   exact h
 have hcat:FnC Tryz.prog 60 [isl (eSl eItem) [r.bonus,r.malus]] [] (fun p loc=>p=isl eItem (r.bonus++r.malus)∧loc=[]):=by
   have h:=Xdp [r.bonus,r.malus] (by simp;omega) Ybn
   have e:[r.bonus,r.malus].flatten=r.bonus++r.malus:=by simp
   rw [e] at h;exact h
 refine X4 Tryz.func23 rfl Tryz.ntmps23 rfl fun w0 F0 out=>?_
 cases hL:r.large
 case true=>
   rw [hL] at hsma
   (repeat' (first|refine Xf ?_|refine Xb ?_|refine Xd ?_|(apply Xk;(first|exact Xj rfl|exact Yc4|exact Yaw);exact rfl)|refine Xz ?_|refine Xx rfl ?_|(apply Xi;exact rfl;first|(apply Xn;(refine X9 Tryz.func56 rfl hsma rfl ?_;rintro _ _ ⟨rfl,rfl⟩))|(apply U7;refine V2 rfl ?_;intro _)|(apply Wh;refine X7 ?_;intro _)|(apply Xt;refine Xq (k:=0) (l0:=[]) rfl rfl rfl ?_))))
   (refine ⟨.inr rfl,Xer (loc':=[]) (by exact Xkw rfl (.cella (k:=0) rfl rfl rfl rfl inferInstance rfl) (.tmp rfl) (List.nil_sublist _) ⟨rfl,rfl⟩) ?_ ⟨rfl,rfl⟩⟩)
   have e:r.resolve Vx=(RulesD.zero,2):=by unfold RulesD.resolve;rw [hL];rfl
   rw [e]
   exact Ims.tup (.cons (Xfh k) (.cons (.refl _) .nil))
 rw [hL] at hsma
 (repeat' (first|(apply Xi;exact rfl;apply Xai;refine R0 (κ:=List UInt8) ?_;intro _)|(apply Xrn;refine Wj (k:=0) (E:=eSl eItem) (t:=47) [r.bonus,r.malus] rfl rfl rfl rfl ?_ (hc:=by decide))|(apply Xbp 8;refine Stop.out ?_)|refine Xf ?_|refine Xb ?_|refine Xd ?_|(apply Xk;(first|exact Xe rfl|exact Xj rfl|exact Ybw|(apply Vu;first|exact Vr (k:=1) rfl rfl rfl rfl|exact Vr (k:=3) rfl rfl rfl rfl|exact Vr (k:=7) rfl rfl rfl rfl|exact Vl (k:=1) rfl rfl rfl)|exact Yad|exact Yaw);exact rfl)|refine Xs ?_|refine X2 rfl ?_|(apply Xi;exact rfl;first|(apply Xn;first|(refine X9 Tryz.func56 rfl hsma rfl ?_;rintro _ _ ⟨rfl,rfl⟩)|(refine Xl (.one 5 rfl (.dup 7 rfl rfl .nil)) Tryz.func57 rfl (hL0 _) rfl ?_;rintro _ _ ⟨rfl,rfl⟩)|(refine Xl (.one 5 rfl (.dup 7 rfl rfl .nil)) Tryz.func59 rfl (hL1 _) rfl ?_;rintro _ _ ⟨rfl,rfl⟩)|(refine Xl (.one 5 rfl (.dup 7 rfl rfl .nil)) Tryz.func62 rfl (hL2 _) rfl ?_;rintro _ _ ⟨rfl,rfl⟩)|(refine Xl (.one 5 rfl (.dup 7 rfl rfl .nil)) Tryz.func64 rfl (hL3 _) rfl ?_;rintro _ _ ⟨rfl,rfl⟩)|(refine X9 Tryz.func60 rfl hcat rfl ?_;rintro _ _ ⟨rfl,rfl⟩))|(apply U7;refine V2 rfl ?_;intro _)|(apply Wh;refine X7 ?_;intro _)|(apply Xt;first|refine Xq (k:=0) (l0:=[]) rfl rfl rfl ?_|refine Xq (k:=1) (l0:=[]) rfl rfl rfl ?_)|(apply X5;(refine Wq rfl Yac ?_);intro _))))
 rename_i b1 b2 m0 m1 m2 m3 b4 b7 bs
 refine ⟨Wf (env':=[(1,ex (.pointer (some ⟨b1,0,none⟩))),(2,ex (.pointer (some ⟨b2,0,none⟩))),(4,ex (.pointer (some ⟨b4,0,none⟩))),(6,ex (.map (some m2))),(7,ex (.pointer (some ⟨b7,0,none⟩))),(8,exB (r.n0.all Vx)),(9,exB (onceF r.n0)),(10,exB (r.n1.all Vx)),(11,exB (onceF r.n1)),(12,exB (r.n2.all Vx)),(13,exB (onceF r.n2)),(14,exB (r.n3.all Vx)),(15,exB (onceF r.n3))]) (loc':=[Re m3 (Uj r.n3 r.n3.length),Re m2 (Uj r.n2 r.n2.length),Re m0 (Uj r.n0 r.n0.length),row b7 100 1 [ex (.map (some m3))],row b4 100 1 [ex (.map (some m0))],row b2 29 9 [ex (.string .empty),ex (.slice none 0 0),ex (.slice none 0 0),ex (.slice none 0 0),ex (.slice none 0 0),ex (.slice none 0 0),ex (.slice none 0 0),ex (.slice none 0 0),ex (.int .i64 0)],row b1 29 9 (Vc k r),Tab]) (Xg (by repeat (first|exact Xm|refine Xh rfl ?_)) (.cons_cons _ (.cons_cons _ (.cons _ (List.Sublist.refl _))))) ?_⟩
 by_cases hall:(Vx r.name&&(r.n0.all Vx&&(r.n1.all Vx&&(r.n2.all Vx&&r.n3.all Vx))))=true
 case neg=>
   have e:r.resolve Vx=(RulesD.zero,140):=by unfold RulesD.resolve;rw [hL,Bool.eq_false_iff.2 hall];rfl
   rw [e]
   (repeat' (first|(apply Xbp 10;refine Stop.out ?_)|refine Xf ?_|refine Xb ?_|refine Xd ?_|(apply Xk;exact Ycj;exact rfl)|(refine Ve rfl rfl rfl rfl rfl ?_)|(apply Vh;exact rfl;exact rfl;exact rfl;exact Ycx;exact rfl)|refine Xs ?_|refine Xz ?_|refine Xx rfl ?_|(apply Xi;exact rfl;(apply Xt;refine Xq (k:=5) (l0:=[]) rfl rfl rfl ?_))|(apply Vt;exact rfl;exact rfl;exact rfl;exact rfl;(apply Xn;(refine Xl (.dup 7 rfl rfl .nil) Tryz.func66 rfl (Sk _) rfl ?_;rintro _ _ ⟨rfl,rfl⟩)))|(refine W0 rfl rfl (fun hb=>?_) (fun hb=>?_)<;>(repeat (first|replace hb:=Vf hb|replace hb:=Vg hb))<;>(try (exfalso;fail)))|(refine Xo rfl (fun hb=>?_) (fun hb=>?_)<;>(repeat (first|replace hb:=Vf hb|replace hb:=Vg hb))<;>(try (exfalso;fail)))))
   all_goals first|((refine ⟨.inr rfl,Xer (loc':=[]) Yd4 ?_ ⟨rfl,rfl⟩⟩);exact Ims.tup (.cons (Xfh k) (.cons (.refl _) .nil)))|(exfalso;apply hall;simp only [*,Bool.and_true])
 have hall2:=hall
 simp only [Bool.and_eq_true] at hall2
 obtain ⟨ha,h0,h1,h2,h3⟩:=hall2
 rw [h0,h1,h2,h3]
 have hfre:=Sk r.name
 rw [ha] at hfre
 by_cases hon:r.once=true
 case neg=>
   have e:r.resolve Vx=(RulesD.zero,141):=by unfold RulesD.resolve;rw [hL,hall,Bool.eq_false_iff.2 hon];rfl
   rw [e]
   (repeat' (first|(apply Vs 12;refine Stop.out ?_)|refine Xf ?_|refine Xb ?_|refine Xd ?_|(apply Xk;exact Ycj;exact rfl)|(refine Ve rfl rfl rfl rfl rfl ?_)|(apply Vh;exact rfl;exact rfl;exact rfl;exact Ycx;exact rfl)|refine Xs ?_|refine Xz ?_|refine Xx rfl ?_|refine X2 rfl ?_|(apply Xi;exact rfl;(apply Xt;refine Xq (k:=5) (l0:=[]) rfl rfl rfl ?_))|(apply Vt;exact rfl;exact rfl;exact rfl;exact rfl;(apply Xn;(refine Xl (.dup 7 rfl rfl .nil) Tryz.func66 rfl hfre rfl ?_;rintro _ _ ⟨rfl,rfl⟩)))|(refine W0 rfl rfl (fun hb=>?_) (fun hb=>?_)<;>(repeat (first|replace hb:=Vf hb|replace hb:=Vg hb))<;>(try (exfalso;fail)))|(refine Xo rfl (fun hb=>?_) (fun hb=>?_)<;>(repeat (first|replace hb:=Vf hb|replace hb:=Vg hb))<;>(try (exfalso;fail)))))
   all_goals first|((refine ⟨.inr rfl,Xer (loc':=[]) Yd4 ?_ ⟨rfl,rfl⟩⟩);exact Ims.tup (.cons (Xfh k) (.cons (.refl _) .nil)))|(exfalso;apply hon;unfold RulesD.once;simp only [*,Bool.and_true])
 have hon2:=hon
 unfold RulesD.once at hon2
 simp only [Bool.and_eq_true] at hon2
 obtain ⟨o0,o1,o2,o3⟩:=hon2
 rw [o0,o1,o2,o3]
 (repeat' (first|(apply Xk;(first|exact Xbh (vs:=[_]) rfl|exact Xbh (vs:=[_,_,_,_]) rfl);exact rfl)|(apply Vs 16;refine Stop.out ?_)|refine Xf ?_|refine Xb ?_|refine Xd ?_|(apply Xk;(first|exact Xe rfl|exact Wk (b:=false) rfl (fun e=>by cases e) (fun _=>rfl)|exact Yaw);exact rfl)|(apply Vh;exact rfl;exact rfl;exact rfl;exact Ycx;exact rfl)|refine Xs ?_|refine X2 rfl ?_|(apply Xi;exact rfl;first|(apply Wh;refine X7 ?_;intro _)|(apply Xt;refine Xq (k:=0) (l0:=[]) rfl rfl rfl ?_))|(apply Vt;exact rfl;exact rfl;exact rfl;exact rfl;(apply Xn;(refine Xl (.dup 7 rfl rfl .nil) Tryz.func66 rfl hfre rfl ?_;rintro _ _ ⟨rfl,rfl⟩)))))
 rename_i bl b17 b18
 constructor
 have e:r.resolve Vx=(if !r.allOk then (RulesD.zero,(140:Int)) else (r.resolved,0)):=by unfold RulesD.resolve;rw [hL,hall,hon];rfl
 rw [e]
 refine Wf (env':=[(1,ex (.pointer (some ⟨b1,0,none⟩))),(2,ex (.pointer (some ⟨b2,0,none⟩))),(4,ex (.pointer (some ⟨b4,0,none⟩))),(6,ex (.map (some m2))),(7,ex (.pointer (some ⟨b7,0,none⟩))),(16,ex (.pointer (some ⟨bl,0,none⟩))),(17,ex (.pointer (some ⟨b17,0,none⟩))),(18,ex (.pointer (some ⟨b18,0,none⟩)))]) (loc':=[row b18 _ 1 [ex (Xbj b17 b4 b7 b18)],row b17 _ 1 [ex (Xbi bl)],row bl 4 1 [exB false],Re m3 (Uj r.n3 r.n3.length),Re m2 (Uj r.n2 r.n2.length),Re m0 (Uj r.n0 r.n0.length),row b7 _ 1 [ex (.map (some m3))],row b4 _ 1 [ex (.map (some m0))],row b2 29 9 [ex (.string .empty),ex (.slice none 0 0),ex (.slice none 0 0),ex (.slice none 0 0),ex (.slice none 0 0),ex (.slice none 0 0),ex (.slice none 0 0),ex (.slice none 0 0),ex (.int .i64 0)],row b1 29 9 (Vc k r),Tab]) (Xg (by repeat (first|exact Xm|refine Xh rfl ?_)) (List.Sublist.refl _)) ?_
 refine Wf (Xaa (j:=3) (k:=5) (i:=0) rfl rfl rfl) ?_
 refine Wf (Xaa (j:=4) (k:=5) (i:=0) rfl rfl rfl) ?_
 refine Wf (Xd7 (k:=3) (t:=6) rfl rfl) ?_
 refine Wf (Qm (k:=4) (t:=4) rfl rfl) ?_
 refine Wf (Qm (k:=3) (t:=7) rfl rfl) ?_
 refine Wf (Qm (k:=1) (t:=17) rfl rfl) ?_
 refine Wf (Qm (k:=0) (t:=18) rfl rfl) ?_
 refine Wf (env':=[(1,ex (.pointer (some ⟨b1,0,none⟩))),(2,ex (.pointer (some ⟨b2,0,none⟩))),(4,fpx b4 [U0 (Uj r.n0 r.n0.length)]),(6,U0 (Uj r.n2 r.n2.length)),(7,fpx b7 [U0 (Uj r.n3 r.n3.length)]),(16,ex (.pointer (some ⟨bl,0,none⟩))),(17,fpx b17 [ex (Xbi bl)]),(18,fpx b18 [ex (Xbj b17 b4 b7 b18)])]) (loc':=[row bl 4 1 [exB false],row b2 29 9 [ex (.string .empty),ex (.slice none 0 0),ex (.slice none 0 0),ex (.slice none 0 0),ex (.slice none 0 0),ex (.slice none 0 0),ex (.slice none 0 0),ex (.slice none 0 0),ex (.int .i64 0)],row b1 29 9 (Vc k r)]) (Xg (by repeat (first|exact Xm|refine Xh rfl ?_)) (.cons_cons _ (.cons_cons _ (.cons_cons _ (.cons _ .slnil))))) ?_
 exact Xky k r hf (Uj r.n0 r.n0.length) (Uj r.n2 r.n2.length) (Uj r.n3 r.n3.length) (Xbl _ o0) (Xbl _ o2) (Xbl _ o3) w0 F0 out b1 b2 bl b4 b7 b17 b18
end Go.Proofs.YthdldeenpgeemaaGreatDoor
namespace Go.Proofs.YthdldeenpgeemaaGreatDoor
open Go Go.RowKit Go.Kx Go.Fr
def all2 {α β:Type} (p:α→β→Bool):List α→List β→Bool
 | [],[]=>true
 | x::xs,y::ys=>p x y&&all2 p xs ys
 | _,_=>false
theorem all2_iff {α β:Type} {p:α→β→Bool}: ∀{a:List α} {b:List β},all2 p a b=true↔a.length=b.length∧ ∀i (h1:i<a.length) (h2:i<b.length),p a[i] b[i]=true
 | [],[]=>by simp [all2]
 | [],y::b=>by simp [all2]
 | x::a,[]=>by simp [all2]
 | x::a,y::b=>by
   rw [all2,Bool.and_eq_true,all2_iff]
   constructor
   · rintro ⟨h,hl,hi⟩
     refine ⟨by simp [hl],fun i h1 h2=>?_⟩
     cases i with
     | zero=>exact h
     | succ i=>exact hi i (by simpa using h1) Ydi
   · rintro ⟨hl,hi⟩
     exact ⟨hi 0 Ybn Ybn,by simpa using hl,fun i h1 h2=>hi (i+1) (by simpa using h1) Ydi⟩
theorem all2_eq {α:Type} [DecidableEq α] {a b:List α}:all2 (fun x y=>decide (x=y)) a b=decide (a=b):=by
 rw [Bool.eq_iff_iff,all2_iff,decide_eq_true_iff]
 simp only [decide_eq_true_eq]
 exact ⟨fun ⟨h,hi⟩=>List.ext_getElem h hi,fun h=>by subst h;exact ⟨rfl,fun _ _ _=>rfl⟩⟩
theorem Xnk (a b:List KeyD):FnC Tryz.prog 108 [isl eKey a,isl eKey b] [] (fun p loc=>p=exB (decide (a=b))∧loc=[]):=by
 refine Wl (i:=0) rfl Ws fun ha=>?_
 refine Wl (i:=1) rfl Ws fun hb=>?_
 obtain ⟨ha,-⟩:=ha
 obtain ⟨hb,-⟩:=hb
 simp only [maxLen] at ha hb
 refine X4 Tryz.func108 rfl Tryz.ntmps108 rfl fun w0 F0 out=>?_
 by_cases hl:a.length=b.length
 · (repeat' (first|refine Xf ?_|refine Xb ?_|refine Xd ?_|(apply Xk;exact Yai;exact rfl)|refine Xp ?_|refine Xs ?_|(refine Xo rfl (fun hb=>?_) (fun hb=>?_)<;>(repeat (first|replace hb:=X0 hb|replace hb:=X1 hb|replace hb:=Vf hb|replace hb:=Vg hb))<;>(try (exfalso;omega)))))
   all_goals (try (exfalso;omega))
   refine W1 (fun k:Nat=>([(0,isl eKey a),(1,isl eKey b),(12,exI .i64 a.length),(13,exI .i64 k)],[])) (fun k=>k≤a.length∧a.take k=b.take k) (fun k=>a.length-k) 0 ?_ ⟨Nat.zero_le _,rfl⟩ fun k hk=>?_
   · exact Xg (by repeat (first|exact Xm|refine Xh rfl ?_)) (List.Sublist.refl _)
   obtain ⟨hk,ht⟩:=hk
   by_cases hlt:k<a.length
   · by_cases he:a[k]=b[k]'Yan
     · (repeat' (first|refine Xf ?_|refine Xb ?_|refine Xd ?_|(apply Xk;exact Yba;exact rfl)|refine Xp ?_|refine Xs ?_|(refine Xo rfl (fun hb=>?_) (fun hb=>?_)<;>(repeat (first|replace hb:=X0 hb|replace hb:=X1 hb))<;>(try (exfalso;omega)))))
       (refine W9 9 rfl ?_)
       all_goals ((apply Xc 0 rfl Yaa rfl Yab Xa;(exact Xe rfl);exact rfl))
       all_goals ((apply Xc 1 rfl Yaa rfl Yab Xa;(exact Xe rfl);exact rfl))
       all_goals ((apply Xc 2 rfl Yaa rfl Yab Xa;(exact Yae);exact rfl))
       all_goals ((apply Xu 3 rfl Yaa rfl Yaa Yab Xa;(exact Yau);exact rfl))
       all_goals ((apply Xc 4 rfl Yaa rfl Yab Xa;(exact Xe rfl);exact rfl))
       all_goals ((apply Xc 5 rfl Yaa rfl Yab Xa;(exact Xe rfl);exact rfl))
       all_goals ((apply Xc 6 rfl Yaa rfl Yab Xa;(exact Yae);exact rfl))
       all_goals ((apply Xu 7 rfl Yaa rfl Yaa Yab Xa;(exact Yau);exact rfl))
       all_goals ((apply Xc 8 rfl Yaa rfl Yab Xa;(exact Ybp);exact rfl))
       all_goals (refine X3 Yaa ?_)
       all_goals ((repeat' (first|refine Xf ?_|refine Xb ?_|refine Xd ?_|(apply Xk;exact Yay;exact rfl)|refine Xs ?_|refine Xz ?_|(refine Xo rfl (fun hb=>?_) (fun hb=>?_)<;>(repeat (first|replace hb:=X0 hb|replace hb:=X1 hb|replace hb:=Vf hb|replace hb:=Vg hb))<;>(try (exfalso;fail))))))
       all_goals (try (exfalso;simp_all;done))
       exact ⟨k+1,⟨by omega,by rw [List.take_succ_eq_append_getElem hlt,List.take_succ_eq_append_getElem Yan,ht,he]⟩,by omega,Xg (by repeat (first|exact Xm|refine Xh rfl ?_)) (List.Sublist.refl _)⟩
     · (repeat' (first|refine Xf ?_|refine Xb ?_|refine Xd ?_|(apply Xk;exact Yba;exact rfl)|refine Xp ?_|refine Xs ?_|(refine Xo rfl (fun hb=>?_) (fun hb=>?_)<;>(repeat (first|replace hb:=X0 hb|replace hb:=X1 hb))<;>(try (exfalso;omega)))))
       (refine W9 9 rfl ?_)
       all_goals ((apply Xc 0 rfl Yaa rfl Yab Xa;(exact Xe rfl);exact rfl))
       all_goals ((apply Xc 1 rfl Yaa rfl Yab Xa;(exact Xe rfl);exact rfl))
       all_goals ((apply Xc 2 rfl Yaa rfl Yab Xa;(exact Yae);exact rfl))
       all_goals ((apply Xu 3 rfl Yaa rfl Yaa Yab Xa;(exact Yau);exact rfl))
       all_goals ((apply Xc 4 rfl Yaa rfl Yab Xa;(exact Xe rfl);exact rfl))
       all_goals ((apply Xc 5 rfl Yaa rfl Yab Xa;(exact Xe rfl);exact rfl))
       all_goals ((apply Xc 6 rfl Yaa rfl Yab Xa;(exact Yae);exact rfl))
       all_goals ((apply Xu 7 rfl Yaa rfl Yaa Yab Xa;(exact Yau);exact rfl))
       all_goals ((apply Xc 8 rfl Yaa rfl Yab Xa;(exact Ybp);exact rfl))
       all_goals (refine X3 Yaa ?_)
       all_goals ((repeat' (first|refine Xf ?_|refine Xb ?_|refine Xd ?_|(apply Xk;exact Yay;exact rfl)|refine Xs ?_|refine Xz ?_|(refine Xo rfl (fun hb=>?_) (fun hb=>?_)<;>(repeat (first|replace hb:=X0 hb|replace hb:=X1 hb|replace hb:=Vf hb|replace hb:=Vg hb))<;>(try (exfalso;fail))))))
       all_goals (try (exfalso;simp_all;done))
       refine ⟨.inr rfl,Vk rfl (.tmp rfl) (List.nil_sublist _) ⟨congrArg exB ?_,rfl⟩⟩
       exact (decide_eq_false fun e=>he Ydn).symm
   · have hk9:k=a.length:=by omega
     subst hk9
     rw [List.take_length,hl,List.take_length] at ht
     (repeat' (first|refine Xf ?_|refine Xb ?_|refine Xd ?_|(apply Xk;exact Ybv;exact rfl)|refine Xz ?_|refine Wy ?_|(refine Xo rfl (fun hb=>?_) (fun hb=>?_)<;>(repeat (first|replace hb:=X0 hb|replace hb:=X1 hb))<;>(try (exfalso;omega)))))
     refine ⟨.inr rfl,Vk rfl (.tmp rfl) (List.nil_sublist _) ⟨congrArg exB ?_,rfl⟩⟩
     exact (decide_eq_true ht).symm
 · (repeat' (first|refine Xf ?_|refine Xb ?_|refine Xd ?_|(apply Xk;exact Yai;exact rfl)|refine Xz ?_|(refine Xo rfl (fun hb=>?_) (fun hb=>?_)<;>(repeat (first|replace hb:=X0 hb|replace hb:=X1 hb|replace hb:=Vf hb|replace hb:=Vg hb))<;>(try (exfalso;omega)))))
   all_goals (try (exfalso;omega))
   refine ⟨.inr rfl,Vk rfl (.tmp rfl) (List.nil_sublist _) ⟨congrArg exB ?_,rfl⟩⟩
   exact (decide_eq_false fun e=>hl (by rw [e])).symm
theorem Xif (k j:Nat) (a b:List Ex) (hp: ∀x y:Ex,FnC Tryz.prog 134 [agg (exV k x),agg (exV j y)] [] (fun p loc=>p=exB (decide (x=y))∧loc=[])):FnC Tryz.prog 168 [isl (eEx k) a,isl (eEx j) b,ex (.func (.func 134) #[] #[])] [] (fun p loc=>p=exB (all2 (fun x y=>decide (x=y)) a b)∧loc=[]):=by
 refine Wl (i:=0) rfl Ws fun ha=>?_
 refine Wl (i:=1) rfl Ws fun hb=>?_
 obtain ⟨ha,-⟩:=ha
 obtain ⟨hb,-⟩:=hb
 simp only [maxLen] at ha hb
 refine X4 Tryz.func168 rfl Tryz.ntmps168 rfl fun w0 F0 out=>?_
 by_cases hl:a.length=b.length
 · (repeat' (first|refine Xf ?_|refine Xb ?_|refine Xd ?_|(apply Xk;exact Yai;exact rfl)|refine Xp ?_|refine Xs ?_|(refine Xo rfl (fun hb=>?_) (fun hb=>?_)<;>(repeat (first|replace hb:=X0 hb|replace hb:=X1 hb|replace hb:=Vf hb|replace hb:=Vg hb))<;>(try (exfalso;omega)))))
   all_goals (try (exfalso;omega))
   refine W1 (fun q:Nat=>([(1,isl (eEx j) b),(2,ex (.func (.func 134) #[] #[])),(15,isl (eEx k) a),(16,exI .i64 a.length),(17,exI .i64 q)],[])) (fun q=>q≤a.length∧ ∀i (h1:i<a.length) (h2:i<b.length),i<q→(fun x y:Ex=>decide (x=y)) a[i] b[i]=true) (fun q=>a.length-q) 0 ?_ ⟨Nat.zero_le _,fun i _ _ h=>absurd h Yan⟩ fun m hm=>?_
   · exact Xg (by repeat (first|exact Xm|refine Xh rfl ?_)) (List.Sublist.refl _)
   obtain ⟨hm,hpre⟩:=hm
   by_cases hlt:m<a.length
   · have hlt2:m<b.length:=by omega
     have hcall:=hp a[m] b[m]
     cases he:(fun x y:Ex=>decide (x=y)) a[m] b[m]
     · try simp only at he
       rw [he] at hcall
       (repeat' (first|refine Xf ?_|refine Xb ?_|refine Xd ?_|(apply Xk;exact Ybb;exact rfl)|refine Xp ?_|refine Xs ?_|refine Xz ?_|refine Xx rfl ?_|(apply Xi;exact rfl;first|(apply Xn;(refine V9 (vs:=[]) (args:=[_,_]) rfl Tryz.func134 rfl hcall rfl ?_;rintro _ _ ⟨rfl,rfl⟩))|(apply Wh;refine X7 ?_;intro _)|(apply Xt;refine Xq (k:=0) (l0:=[]) rfl rfl rfl ?_))|(refine Xo rfl (fun hb=>?_) (fun hb=>?_)<;>(repeat (first|replace hb:=X0 hb|replace hb:=X1 hb))<;>(try (exfalso;omega)))))
       all_goals (try (exfalso;first|contradiction|omega))
       refine ⟨.inr rfl,Vk rfl (.tmp rfl) (List.nil_sublist _) ⟨congrArg exB ?_,rfl⟩⟩
       symm
       rw [Bool.eq_false_iff]
       intro h
       have h3:=(all2_iff.1 h).2 m hlt hlt2
       try simp only at h3
       rw [he] at h3
       cases h3
     · have he2:=he
       try simp only at he
       rw [he] at hcall
       (repeat' (first|refine Xf ?_|refine Xb ?_|refine Xd ?_|(apply Xk;exact Ya2;exact rfl)|refine Xp ?_|refine Xs ?_|refine X2 rfl ?_|(apply Xi;exact rfl;first|(apply Xn;(refine V9 (vs:=[]) (args:=[_,_]) rfl Tryz.func134 rfl hcall rfl ?_;rintro _ _ ⟨rfl,rfl⟩))|(apply Wh;refine X7 ?_;intro _)|(apply Xt;refine Xq (k:=0) (l0:=[]) rfl rfl rfl ?_))|(refine Xo rfl (fun hb=>?_) (fun hb=>?_)<;>(repeat (first|replace hb:=X0 hb|replace hb:=X1 hb))<;>(try (exfalso;omega)))))
       all_goals (try (exfalso;first|contradiction|omega))
       refine ⟨m+1,⟨by omega,fun i h1 h2 h3=>?_⟩,by omega,Xg (by repeat (first|exact Xm|refine Xh rfl ?_)) (List.nil_sublist _)⟩
       rcases Nat.lt_or_ge i m with h|h
       · exact hpre i h1 h2 h
       · have:i=m:=by omega
         subst this
         exact he2
   · (repeat' (first|refine Xf ?_|refine Xb ?_|refine Xd ?_|(apply Xk;exact Ybv;exact rfl)|refine Xz ?_|refine Wy ?_|(refine Xo rfl (fun hb=>?_) (fun hb=>?_)<;>(repeat (first|replace hb:=X0 hb|replace hb:=X1 hb))<;>(try (exfalso;omega)))))
     all_goals (try (exfalso;omega))
     refine ⟨.inr rfl,Vk rfl (.tmp rfl) (List.nil_sublist _) ⟨congrArg exB ?_,rfl⟩⟩
     exact (all2_iff.2 ⟨hl,fun i h1 h2=>hpre i h1 h2 Yan⟩).symm
 · (repeat' (first|refine Xf ?_|refine Xb ?_|refine Xd ?_|(apply Xk;exact Yai;exact rfl)|refine Xz ?_|(refine Xo rfl (fun hb=>?_) (fun hb=>?_)<;>(repeat (first|replace hb:=X0 hb|replace hb:=X1 hb|replace hb:=Vf hb|replace hb:=Vg hb))<;>(try (exfalso;omega)))))
   all_goals (try (exfalso;omega))
   refine ⟨.inr rfl,Vk rfl (.tmp rfl) (List.nil_sublist _) ⟨congrArg exB ?_,rfl⟩⟩
   symm
   rw [Bool.eq_false_iff]
   exact fun h=>hl (all2_iff.1 h).1
theorem Xkr (a b:List TieD) (hp: ∀x y:TieD,FnC Tryz.prog 132 [agg (tieV x),agg (tieV y)] [] (fun p loc=>p=exB (decide (x.keys=y.keys))∧loc=[])):FnC Tryz.prog 113 [isl eTie a,isl eTie b,ex (.func (.func 132) #[] #[])] [] (fun p loc=>p=exB (all2 (fun x y=>decide (x.keys=y.keys)) a b)∧loc=[]):=by
 refine Wl (i:=0) rfl Ws fun ha=>?_
 refine Wl (i:=1) rfl Ws fun hb=>?_
 obtain ⟨ha,-⟩:=ha
 obtain ⟨hb,-⟩:=hb
 simp only [maxLen] at ha hb
 refine X4 Tryz.func113 rfl Tryz.ntmps113 rfl fun w0 F0 out=>?_
 by_cases hl:a.length=b.length
 · (repeat' (first|refine Xf ?_|refine Xb ?_|refine Xd ?_|(apply Xk;exact Yai;exact rfl)|refine Xp ?_|refine Xs ?_|(refine Xo rfl (fun hb=>?_) (fun hb=>?_)<;>(repeat (first|replace hb:=X0 hb|replace hb:=X1 hb|replace hb:=Vf hb|replace hb:=Vg hb))<;>(try (exfalso;omega)))))
   all_goals (try (exfalso;omega))
   refine W1 (fun q:Nat=>([(1,isl eTie b),(2,ex (.func (.func 132) #[] #[])),(15,isl eTie a),(16,exI .i64 a.length),(17,exI .i64 q)],[])) (fun q=>q≤a.length∧ ∀i (h1:i<a.length) (h2:i<b.length),i<q→(fun x y:TieD=>decide (x.keys=y.keys)) a[i] b[i]=true) (fun q=>a.length-q) 0 ?_ ⟨Nat.zero_le _,fun i _ _ h=>absurd h Yan⟩ fun m hm=>?_
   · exact Xg (by repeat (first|exact Xm|refine Xh rfl ?_)) (List.Sublist.refl _)
   obtain ⟨hm,hpre⟩:=hm
   by_cases hlt:m<a.length
   · have hlt2:m<b.length:=by omega
     have hcall:=hp a[m] b[m]
     cases he:(fun x y:TieD=>decide (x.keys=y.keys)) a[m] b[m]
     · try simp only at he
       rw [he] at hcall
       (repeat' (first|refine Xf ?_|refine Xb ?_|refine Xd ?_|(apply Xk;exact Ybb;exact rfl)|refine Xp ?_|refine Xs ?_|refine Xz ?_|refine Xx rfl ?_|(apply Xi;exact rfl;first|(apply Xn;(refine V9 (vs:=[]) (args:=[_,_]) rfl Tryz.func132 rfl hcall rfl ?_;rintro _ _ ⟨rfl,rfl⟩))|(apply Wh;refine X7 ?_;intro _)|(apply Xt;refine Xq (k:=0) (l0:=[]) rfl rfl rfl ?_))|(refine Xo rfl (fun hb=>?_) (fun hb=>?_)<;>(repeat (first|replace hb:=X0 hb|replace hb:=X1 hb))<;>(try (exfalso;omega)))))
       all_goals (try (exfalso;first|contradiction|omega))
       refine ⟨.inr rfl,Vk rfl (.tmp rfl) (List.nil_sublist _) ⟨congrArg exB ?_,rfl⟩⟩
       symm
       rw [Bool.eq_false_iff]
       intro h
       have h3:=(all2_iff.1 h).2 m hlt hlt2
       try simp only at h3
       rw [he] at h3
       cases h3
     · have he2:=he
       try simp only at he
       rw [he] at hcall
       (repeat' (first|refine Xf ?_|refine Xb ?_|refine Xd ?_|(apply Xk;exact Ya2;exact rfl)|refine Xp ?_|refine Xs ?_|refine X2 rfl ?_|(apply Xi;exact rfl;first|(apply Xn;(refine V9 (vs:=[]) (args:=[_,_]) rfl Tryz.func132 rfl hcall rfl ?_;rintro _ _ ⟨rfl,rfl⟩))|(apply Wh;refine X7 ?_;intro _)|(apply Xt;refine Xq (k:=0) (l0:=[]) rfl rfl rfl ?_))|(refine Xo rfl (fun hb=>?_) (fun hb=>?_)<;>(repeat (first|replace hb:=X0 hb|replace hb:=X1 hb))<;>(try (exfalso;omega)))))
       all_goals (try (exfalso;first|contradiction|omega))
       refine ⟨m+1,⟨by omega,fun i h1 h2 h3=>?_⟩,by omega,Xg (by repeat (first|exact Xm|refine Xh rfl ?_)) (List.nil_sublist _)⟩
       rcases Nat.lt_or_ge i m with h|h
       · exact hpre i h1 h2 h
       · have:i=m:=by omega
         subst this
         exact he2
   · (repeat' (first|refine Xf ?_|refine Xb ?_|refine Xd ?_|(apply Xk;exact Ybv;exact rfl)|refine Xz ?_|refine Wy ?_|(refine Xo rfl (fun hb=>?_) (fun hb=>?_)<;>(repeat (first|replace hb:=X0 hb|replace hb:=X1 hb))<;>(try (exfalso;omega)))))
     all_goals (try (exfalso;omega))
     refine ⟨.inr rfl,Vk rfl (.tmp rfl) (List.nil_sublist _) ⟨congrArg exB ?_,rfl⟩⟩
     exact (all2_iff.2 ⟨hl,fun i h1 h2=>hpre i h1 h2 Yan⟩).symm
 · (repeat' (first|refine Xf ?_|refine Xb ?_|refine Xd ?_|(apply Xk;exact Yai;exact rfl)|refine Xz ?_|(refine Xo rfl (fun hb=>?_) (fun hb=>?_)<;>(repeat (first|replace hb:=X0 hb|replace hb:=X1 hb|replace hb:=Vf hb|replace hb:=Vg hb))<;>(try (exfalso;omega)))))
   all_goals (try (exfalso;omega))
   refine ⟨.inr rfl,Vk rfl (.tmp rfl) (List.nil_sublist _) ⟨congrArg exB ?_,rfl⟩⟩
   symm
   rw [Bool.eq_false_iff]
   exact fun h=>hl (all2_iff.1 h).1
theorem Xgv (k j:Nat) (a b:List RoundD) (hp: ∀x y:RoundD,FnC Tryz.prog 133 [agg (W3 k x),agg (W3 j y)] [] (fun p loc=>p=exB ((decide (x.tieNo=y.tieNo)&&decide (x.score=y.score)))∧loc=[])):FnC Tryz.prog 114 [isl (Vy k) a,isl (Vy j) b,ex (.func (.func 133) #[] #[])] [] (fun p loc=>p=exB (all2 (fun x y=>(decide (x.tieNo=y.tieNo)&&decide (x.score=y.score))) a b)∧loc=[]):=by
 refine Wl (i:=0) rfl Ws fun ha=>?_
 refine Wl (i:=1) rfl Ws fun hb=>?_
 obtain ⟨ha,-⟩:=ha
 obtain ⟨hb,-⟩:=hb
 simp only [maxLen] at ha hb
 refine X4 Tryz.func114 rfl Tryz.ntmps114 rfl fun w0 F0 out=>?_
 by_cases hl:a.length=b.length
 · (repeat' (first|refine Xf ?_|refine Xb ?_|refine Xd ?_|(apply Xk;exact Yai;exact rfl)|refine Xp ?_|refine Xs ?_|(refine Xo rfl (fun hb=>?_) (fun hb=>?_)<;>(repeat (first|replace hb:=X0 hb|replace hb:=X1 hb|replace hb:=Vf hb|replace hb:=Vg hb))<;>(try (exfalso;omega)))))
   all_goals (try (exfalso;omega))
   refine W1 (fun q:Nat=>([(1,isl (Vy j) b),(2,ex (.func (.func 133) #[] #[])),(15,isl (Vy k) a),(16,exI .i64 a.length),(17,exI .i64 q)],[])) (fun q=>q≤a.length∧ ∀i (h1:i<a.length) (h2:i<b.length),i<q→(fun x y:RoundD=>(decide (x.tieNo=y.tieNo)&&decide (x.score=y.score))) a[i] b[i]=true) (fun q=>a.length-q) 0 ?_ ⟨Nat.zero_le _,fun i _ _ h=>absurd h Yan⟩ fun m hm=>?_
   · exact Xg (by repeat (first|exact Xm|refine Xh rfl ?_)) (List.Sublist.refl _)
   obtain ⟨hm,hpre⟩:=hm
   by_cases hlt:m<a.length
   · have hlt2:m<b.length:=by omega
     have hcall:=hp a[m] b[m]
     cases he:(fun x y:RoundD=>(decide (x.tieNo=y.tieNo)&&decide (x.score=y.score))) a[m] b[m]
     · try simp only at he
       rw [he] at hcall
       (repeat' (first|refine Xf ?_|refine Xb ?_|refine Xd ?_|(apply Xk;exact Ybb;exact rfl)|refine Xp ?_|refine Xs ?_|refine Xz ?_|refine Xx rfl ?_|(apply Xi;exact rfl;first|(apply Xn;(refine V9 (vs:=[]) (args:=[_,_]) rfl Tryz.func133 rfl hcall rfl ?_;rintro _ _ ⟨rfl,rfl⟩))|(apply Wh;refine X7 ?_;intro _)|(apply Xt;refine Xq (k:=0) (l0:=[]) rfl rfl rfl ?_))|(refine Xo rfl (fun hb=>?_) (fun hb=>?_)<;>(repeat (first|replace hb:=X0 hb|replace hb:=X1 hb))<;>(try (exfalso;omega)))))
       all_goals (try (exfalso;first|contradiction|omega))
       refine ⟨.inr rfl,Vk rfl (.tmp rfl) (List.nil_sublist _) ⟨congrArg exB ?_,rfl⟩⟩
       symm
       rw [Bool.eq_false_iff]
       intro h
       have h3:=(all2_iff.1 h).2 m hlt hlt2
       try simp only at h3
       rw [he] at h3
       cases h3
     · have he2:=he
       try simp only at he
       rw [he] at hcall
       (repeat' (first|refine Xf ?_|refine Xb ?_|refine Xd ?_|(apply Xk;exact Ya2;exact rfl)|refine Xp ?_|refine Xs ?_|refine X2 rfl ?_|(apply Xi;exact rfl;first|(apply Xn;(refine V9 (vs:=[]) (args:=[_,_]) rfl Tryz.func133 rfl hcall rfl ?_;rintro _ _ ⟨rfl,rfl⟩))|(apply Wh;refine X7 ?_;intro _)|(apply Xt;refine Xq (k:=0) (l0:=[]) rfl rfl rfl ?_))|(refine Xo rfl (fun hb=>?_) (fun hb=>?_)<;>(repeat (first|replace hb:=X0 hb|replace hb:=X1 hb))<;>(try (exfalso;omega)))))
       all_goals (try (exfalso;first|contradiction|omega))
       refine ⟨m+1,⟨by omega,fun i h1 h2 h3=>?_⟩,by omega,Xg (by repeat (first|exact Xm|refine Xh rfl ?_)) (List.nil_sublist _)⟩
       rcases Nat.lt_or_ge i m with h|h
       · exact hpre i h1 h2 h
       · have:i=m:=by omega
         subst this
         exact he2
   · (repeat' (first|refine Xf ?_|refine Xb ?_|refine Xd ?_|(apply Xk;exact Ybv;exact rfl)|refine Xz ?_|refine Wy ?_|(refine Xo rfl (fun hb=>?_) (fun hb=>?_)<;>(repeat (first|replace hb:=X0 hb|replace hb:=X1 hb))<;>(try (exfalso;omega)))))
     all_goals (try (exfalso;omega))
     refine ⟨.inr rfl,Vk rfl (.tmp rfl) (List.nil_sublist _) ⟨congrArg exB ?_,rfl⟩⟩
     exact (all2_iff.2 ⟨hl,fun i h1 h2=>hpre i h1 h2 Yan⟩).symm
 · (repeat' (first|refine Xf ?_|refine Xb ?_|refine Xd ?_|(apply Xk;exact Yai;exact rfl)|refine Xz ?_|(refine Xo rfl (fun hb=>?_) (fun hb=>?_)<;>(repeat (first|replace hb:=X0 hb|replace hb:=X1 hb|replace hb:=Vf hb|replace hb:=Vg hb))<;>(try (exfalso;omega)))))
   all_goals (try (exfalso;omega))
   refine ⟨.inr rfl,Vk rfl (.tmp rfl) (List.nil_sublist _) ⟨congrArg exB ?_,rfl⟩⟩
   symm
   rw [Bool.eq_false_iff]
   exact fun h=>hl (all2_iff.1 h).1
theorem nsame_any: ∀(k j:Nat) (x y:Ex),FnC Tryz.prog 134 [agg (exV k x),agg (exV j y)] [] (fun p loc=>p=exB (decide (x=y))∧loc=[]):=by
 intro k
 induction k with
 | zero=>intro j x y;exact Wl (i:=0) rfl Sm fun h=>h.elim
 | succ k ih=>
   intro j x y
   cases j with
   | zero=>exact Wl (i:=1) rfl Sm fun h=>h.elim
   | succ j=>
     show FnC Tryz.prog 134 [agg [exI .i64 x.kind,exT x.name,exI .i64 x.n,exI .i64 x.d,isl (eEx k) x.l],agg [exI .i64 y.kind,exT y.name,exI .i64 y.n,exI .i64 y.d,isl (eEx j) y.l]] [] (fun p loc=>p=exB (decide (x=y))∧loc=[])
     have hcall:=Xif k j x.l y.l (ih j)
     rw [all2_eq] at hcall
     refine X4 Tryz.func134 rfl Tryz.ntmps134 rfl fun w0 F0 out=>?_
     (repeat' (first|refine Xf ?_|refine Xb ?_|refine Xd ?_|(apply Xk;exact Yby;exact rfl)|(refine Ve rfl rfl rfl rfl rfl ?_)|(apply Vh;exact rfl;exact rfl;exact rfl;(first|exact Yap|exact Yad|exact Yd9);exact rfl)|refine Xz ?_|(apply Xi;exact rfl;(apply U7;refine V2 rfl ?_;intro _))|(apply Vt;exact rfl;exact rfl;exact rfl;exact rfl;(apply Xn;(refine X9 Tryz.func168 rfl hcall rfl ?_;rintro _ _ ⟨rfl,rfl⟩)))|(refine W0 rfl rfl (fun hb=>?_) (fun hb=>?_)<;>(repeat (first|replace hb:=X0 hb|replace hb:=X1 hb))<;>(try (exfalso;fail)))))
     all_goals (refine ⟨.inr rfl,Vk rfl (.tmp rfl) (List.nil_sublist _) ⟨congrArg exB ?_,rfl⟩⟩)
     all_goals (rw [Bool.eq_iff_iff];simp only [decide_eq_true_eq,Ex.ext_iff' x y,Bool.false_eq_true,false_iff, *])
     all_goals simp
theorem Xqp (x y:TieD):FnC Tryz.prog 132 [agg (tieV x),agg (tieV y)] [] (fun p loc=>p=exB (decide (x.keys=y.keys))∧loc=[]):=by
 refine X4 Tryz.func132 rfl Tryz.ntmps132 rfl fun w0 F0 out=>?_
 (repeat' (first|refine Xf ?_|refine Xb ?_|refine Xd ?_|(apply Xk;(first|exact Xj rfl|exact Yap|exact Yad);exact rfl)|refine Xz ?_|(apply Xi;exact rfl;first|(apply Xn;(refine X9 Tryz.func108 rfl (Xnk _ _) rfl ?_;rintro _ _ ⟨rfl,rfl⟩))|(apply U7;refine V2 rfl ?_;intro _))))
 exact ⟨.inr rfl,Vk rfl (.tmp rfl) (List.nil_sublist _) ⟨rfl,rfl⟩⟩
theorem Xqq (k j:Nat) (x y:RoundD):FnC Tryz.prog 133 [agg (W3 k x),agg (W3 j y)] [] (fun p loc=>p=exB (decide (x.tieNo=y.tieNo)&&decide (x.score=y.score))∧loc=[]):=by
 refine X4 Tryz.func133 rfl Tryz.ntmps133 rfl fun w0 F0 out=>?_
 (repeat' (first|refine Xf ?_|refine Xb ?_|refine Xd ?_|(apply Xk;exact Yby;exact rfl)|(refine Ve rfl rfl rfl rfl rfl ?_)|(apply Vh;exact rfl;exact rfl;exact rfl;(first|exact Yc4|exact Yad);exact rfl)|refine Xz ?_|(apply Xi;exact rfl;(apply U7;refine V2 rfl ?_;intro _))|(apply Vt;exact rfl;exact rfl;exact rfl;exact rfl;(apply Xn;(refine X9 Tryz.func134 rfl (nsame_any _ _ _ _) rfl ?_;rintro _ _ ⟨rfl,rfl⟩)))|(refine W0 rfl rfl (fun hb=>?_) (fun hb=>?_)<;>(repeat (first|replace hb:=X0 hb|replace hb:=X1 hb))<;>(try (exfalso;fail)))))
 all_goals (refine ⟨.inr rfl,Vk rfl (.tmp rfl) (List.nil_sublist _) ⟨congrArg exB ?_,rfl⟩⟩)
 all_goals simp [*]
end Go.Proofs.YthdldeenpgeemaaGreatDoor
namespace Go.Proofs.YthdldeenpgeemaaGreatDoor
open Go Go.RowKit Go.Kx Go.Fr
theorem Xks {fr:List UInt8→Bool} {r:RulesD} (h:(r.resolve fr).2=0):(r.resolve fr).1=r.resolved:=by
 revert h
 unfold RulesD.resolve
 split
 · exact fun h=>absurd h Yar
 split
 · exact fun h=>absurd h Yar
 split
 · exact fun h=>absurd h Yar
 split
 · exact fun h=>absurd h Yar
 exact fun _=>rfl
theorem Xnl (r:RulesD):all2 (fun x y:TieD=>decide (x.keys=y.keys)) (r.ties.map r.tieN) r.ties=decide (r.ties.map r.tieN=r.ties):=by
 rw [Bool.eq_iff_iff,all2_iff,decide_eq_true_iff]
 simp only [decide_eq_true_eq]
 refine ⟨fun ⟨h,hi⟩=>List.ext_getElem h fun i h1 h2=>?_,fun h=>⟨by rw [h],fun i h1 h2=>?_⟩⟩
 · have h3:=hi i h1 h2
   rw [List.getElem_map] at h3 ⊢
   have hn:(r.tieN r.ties[i]).name=r.ties[i].name:=rfl
   generalize r.tieN r.ties[i]=x at h3 hn ⊢
   generalize r.ties[i]=y at h3 hn ⊢
   cases x;cases y;simp_all
 · simp only [h]
theorem Xig (r:RulesD):all2 (fun x y:RoundD=>(decide (x.tieNo=y.tieNo)&&decide (x.score=y.score))) (r.rounds.map r.roundN) r.rounds=decide (r.rounds.map r.roundN=r.rounds):=by
 rw [Bool.eq_iff_iff,all2_iff,decide_eq_true_iff]
 simp only [decide_eq_true_eq,Bool.and_eq_true]
 refine ⟨fun ⟨h,hi⟩=>List.ext_getElem h fun i h1 h2=>?_,fun h=>⟨by rw [h],fun i h1 h2=>?_⟩⟩
 · have h3:=hi i h1 h2
   rw [List.getElem_map] at h3 ⊢
   exact (Xfs _ _).2 ⟨rfl,rfl,rfl,rfl,rfl,rfl,rfl,h3.1,h3.2⟩
 · simp only [h,and_self]
theorem Xo1 (r:RulesD):(decide (r.ties.map r.tieN=r.ties)&&decide (r.rounds.map r.roundN=r.rounds))=decide (r.resolved=r):=by
 rw [Bool.eq_iff_iff]
 simp only [Bool.and_eq_true,decide_eq_true_eq]
 unfold RulesD.resolved
 constructor
 · rintro ⟨h1,h2⟩;rw [h1,h2]
 · intro h;exact ⟨congrArg RulesD.ties h,congrArg RulesD.rounds h⟩
theorem Xbx (k:Nat) (r:RulesD) (hf:r.few=true):FnC Tryz.prog 54 [rul k r] [Tab] (fun p loc=>p=exI .i64 (r.check Vx)∧loc=[]):=by
 have hres:=U8 k r hf
 have hck:r.check Vx=if (r.resolve Vx).2≠0 then (r.resolve Vx).2 else if (r.resolve Vx).1=r then 0 else 140:=rfl
 have hok:=@Xks Vx r
 generalize r.resolve Vx=z at hres hck hok
 obtain ⟨x,c⟩:=z
 simp only at hres hck hok
 refine X4 Tryz.func54 rfl Tryz.ntmps54 rfl fun w0 F0 out=>?_
 by_cases hc:c=0
 · subst hc
   have hx:=hok rfl
   rw [if_neg Ybn] at hck
   subst hx
   have e1:r.resolved.ties=r.ties.map r.tieN:=rfl
   have e2:r.resolved.rounds=r.rounds.map r.roundN:=rfl
   have hce:=Xo1 r
   rw [←Xnl,←Xig,←e1,←e2] at hce
   (repeat' (first|refine Xf ?_|refine Xb ?_|refine Xd ?_|(apply Xk;(first|exact Xe rfl|exact Xj rfl|exact Wk (b:=true) rfl (fun _=>rfl) (fun e=>by cases e)|exact Wk (b:=false) rfl (fun e=>by cases e) (fun _=>rfl)|exact Ybw|(apply Vu;first|exact Vr (k:=0) rfl rfl rfl rfl|exact Vr (k:=1) rfl rfl rfl rfl|exact Vl (k:=0) rfl rfl rfl)|exact Yad|exact Ybi|exact Yaw);exact rfl)|(refine Ve rfl rfl rfl rfl rfl ?_)|(apply Vh;exact rfl;exact rfl;exact rfl;exact Ybt;exact rfl)|refine Xs ?_|refine Xz ?_|refine Xx rfl ?_|refine X2 rfl ?_|(apply Xi;exact rfl;first|(apply Xn;first|(refine Xl (.dup 1 rfl rfl .nil) Tryz.func23 rfl hres rfl ?_;rintro _ _ ⟨rfl,rfl⟩)|(refine X9 Tryz.func113 rfl (Xkr _ _ Xqp) rfl ?_;rintro _ _ ⟨rfl,rfl⟩)|(refine X9 Tryz.func114 rfl (Xgv k k _ _ (Xqq k k)) rfl ?_;rintro _ _ ⟨rfl,rfl⟩))|(apply U7;refine V2 rfl ?_;intro _)|(apply Wh;refine X7 ?_;intro _)|(apply Xt;refine Xq (k:=0) (l0:=[]) rfl rfl rfl ?_))|(refine W0 rfl rfl (fun hb=>?_) (fun hb=>?_)<;>(repeat (first|replace hb:=Vf hb|replace hb:=Vg hb))<;>(try (exfalso;fail)))|(refine Xo rfl (fun hb=>?_) (fun hb=>?_)<;>(repeat (first|replace hb:=Vf hb|replace hb:=Vg hb))<;>(try (exfalso;fail)))))
   all_goals (try (exfalso;first|contradiction|omega))
   all_goals (refine ⟨.inr rfl,Vk rfl (.tmp rfl) (List.nil_sublist _) ⟨congrArg (exI .i64) ?_,rfl⟩⟩)
   all_goals (rw [hck];by_cases hr:r.resolved=r)
   all_goals first|rw [if_pos hr]|rw [if_neg hr]
   all_goals first|rfl|skip
   all_goals exfalso
   all_goals first|rw [decide_eq_true hr] at hce|rw [decide_eq_false hr] at hce
   all_goals first|(rw [hb] at hce;cases hce;done)|(rename_i ha;rw [ha,hb] at hce;cases hce;done)|skip
 · rw [if_pos hc] at hck
   rw [hck]
   (repeat' (first|refine Xf ?_|refine Xb ?_|refine Xd ?_|(apply Xk;(first|exact Xe rfl|exact Xj rfl|exact Ybw|exact Ych|exact Ybi);exact rfl)|refine Xz ?_|(apply Xi;exact rfl;first|(apply Xn;(refine Xl (.dup 1 rfl rfl .nil) Tryz.func23 rfl hres rfl ?_;rintro _ _ ⟨rfl,rfl⟩))|(apply U7;refine V2 rfl ?_;intro _)|(apply Wh;refine X7 ?_;intro _)|(apply Xt;refine Xq (k:=0) (l0:=[]) rfl rfl rfl ?_))|(refine Xo rfl (fun hb=>?_) (fun hb=>?_)<;>(repeat (first|replace hb:=X0 hb|replace hb:=X1 hb|replace hb:=Vf hb|replace hb:=Vg hb))<;>(try (exfalso;omega)))))
   all_goals (try (exfalso;first|contradiction|omega))
   all_goals (exact ⟨.inr rfl,Vk rfl (.tmp rfl) (List.nil_sublist _) ⟨rfl,rfl⟩⟩)
end Go.Proofs.YthdldeenpgeemaaGreatDoor
namespace Go.Proofs.YthdldeenpgeemaaGreatDoor
open Go Go.RowKit Go.Kx Go.Fr
theorem Xih (z:RulesD) (hzf:z.few=true) (hzc:z.check Vx=0) (w0:World) (F0:Nat→Prop) (out:List Ent) (b1 b6 b7 b8:Nat):
   WP ⟨Tryz.prog,w0,F0,T8 [Tab],out,Tryz.f21.ntmps,[]⟩ (rights 7 (Tryz.f21.body.getD .skip)) (Xjk ⟨Tryz.prog,w0,F0,T8 [Tab],out,Tryz.f21.ntmps,[]⟩ Tryz.f21 (fun p loc=>p=exB true∧loc=[]))
     [(1,ex (.pointer (some ⟨b1,0,none⟩))),(3,exB true),(5,exI .i64 140),(6,ex (.pointer (some ⟨b6,0,none⟩))),(7,ex (.pointer (some ⟨b7,0,none⟩))),(8,ex (.pointer (some ⟨b8,0,none⟩)))]
     [row b8 29 9 [exT [99,117,112],isl eCrit RulesD.layC,ex (.slice none 0 0),ex (.slice none 0 0),isl eTie RulesD.layT,isl (Vy 2) RulesD.layD.rounds,ex (.slice none 0 0),ex (.slice none 0 0),exI .i64 0],row b7 29 9 [exT [99,117,112],isl eCrit RulesD.layC,ex (.slice none 0 0),ex (.slice none 0 0),isl eTie RulesD.layT,isl (Vy 2) RulesD.layB.rounds,ex (.slice none 0 0),ex (.slice none 0 0),exI .i64 0],row b6 29 9 [exT [99,117,112],isl eCrit RulesD.layA.crits,ex (.slice none 0 0),ex (.slice none 0 0),isl eTie RulesD.layT,isl (Vy 2) RulesD.layR,ex (.slice none 0 0),ex (.slice none 0 0),exI .i64 0],row b1 29 9 (Vc 2 z),Tab]:=by
 have hA:FnC Tryz.prog 23 [agg [exT [99,117,112],isl eCrit RulesD.layA.crits,ex (.slice none 0 0),ex (.slice none 0 0),isl eTie RulesD.layT,isl (Vy 2) RulesD.layR,ex (.slice none 0 0),ex (.slice none 0 0),exI .i64 0]] [Tab] (fun p loc=>p=tup [rul 2 RulesD.zero,exI .i64 140]∧loc=[]):=by
   have h:=U8 2 RulesD.layA RulesD.few_lay.2.2.2.2.1
   rw [RulesD.res_lay.2.2.1] at h
   exact Qx h (.cons (Ims.agg (by repeat (first|exact Ims.nil|refine Ims.cons Im.nil ?_|refine Ims.cons (Im.refl _) ?_))) .nil)
 have hB:FnC Tryz.prog 23 [agg [exT [99,117,112],isl eCrit RulesD.layC,ex (.slice none 0 0),ex (.slice none 0 0),isl eTie RulesD.layT,isl (Vy 2) RulesD.layB.rounds,ex (.slice none 0 0),ex (.slice none 0 0),exI .i64 0]] [Tab] (fun p loc=>p=tup [rul 2 RulesD.zero,exI .i64 140]∧loc=[]):=by
   have h:=U8 2 RulesD.layB RulesD.few_lay.2.2.2.2.2.1
   rw [RulesD.res_lay.2.2.2.1] at h
   exact Qx h (.cons (Ims.agg (by repeat (first|exact Ims.nil|refine Ims.cons Im.nil ?_|refine Ims.cons (Im.refl _) ?_))) .nil)
 have hD:FnC Tryz.prog 23 [agg [exT [99,117,112],isl eCrit RulesD.layC,ex (.slice none 0 0),ex (.slice none 0 0),isl eTie RulesD.layT,isl (Vy 2) RulesD.layD.rounds,ex (.slice none 0 0),ex (.slice none 0 0),exI .i64 0]] [Tab] (fun p loc=>p=tup [rul 2 RulesD.zero,exI .i64 141]∧loc=[]):=by
   have h:=U8 2 RulesD.layD RulesD.few_lay.2.2.2.2.2.2.1
   rw [RulesD.res_lay.2.2.2.2.1] at h
   exact Qx h (.cons (Ims.agg (by repeat (first|exact Ims.nil|refine Ims.cons Im.nil ?_|refine Ims.cons (Im.refl _) ?_))) .nil)
 have h65:FnC Tryz.prog 23 [agg [exT [99,117,112],ex (.slice none 0 0),ex (.slice none 0 0),ex (.slice none 0 0),ex (.slice none 0 0),ex (.slice none 0 0),isl eI (List.replicate 65 0),ex (.slice none 0 0),exI .i64 0]] [Tab] (fun p loc=>p=tup [rul 2 RulesD.zero,exI .i64 2]∧loc=[]):=by
   have h:=U8 2 RulesD.lay65 RulesD.few_lay.2.2.2.1
   rw [RulesD.res_lay.2.2.2.2.2] at h
   exact Qx h (.cons (Ims.agg (by repeat (first|exact Ims.nil|refine Ims.cons Im.nil ?_|refine Ims.cons (Im.refl _) ?_))) .nil)
 have hF:FnC Tryz.prog 54 [agg [exT [99,117,112],ex (.slice none 0 0),ex (.slice none 0 0),ex (.slice none 0 0),ex (.slice none 0 0),ex (.slice none 0 0),ex (.slice none 0 0),ex (.slice none 0 0),exI .i64 0]] [Tab] (fun p loc=>p=exI .i64 0∧loc=[]):=by
   have h:=Xbx 2 RulesD.layF RulesD.few_lay.2.2.1
   rw [RulesD.chk_lay.1] at h
   exact Qx h (.cons (Ims.agg (by repeat (first|exact Ims.nil|refine Ims.cons Im.nil ?_|refine Ims.cons (Im.refl _) ?_))) .nil)
 have hZ:=Xbx 2 z hzf
 rw [hzc] at hZ
 have hL:=Xbx 2 RulesD.lay RulesD.few_lay.1
 rw [RulesD.chk_lay.2.2] at hL
 have hps:List.replicate 65 (ex (.int .i64 0))=(List.replicate 65 (0:Int)).flatMap intV:=rfl
 (repeat' (first|(apply Vs 12;refine Stop.out ?_)|(apply Xy 181;refine Wj (k:=0) (E:=eI) (t:=180) (List.replicate 65 (0:Int)) rfl rfl hps rfl ?_ (hc:=by decide) (hby:=by decide))|refine Xf ?_|refine Xb ?_|refine Xd ?_|(apply Xk;(first|exact Xe rfl|exact Xj rfl|exact Ybw|exact Yc6|exact Ya7);exact rfl)|(apply Xi;exact rfl;first|(apply Xn;first|(refine Xl (.dup 4 rfl rfl .nil) Tryz.func23 rfl hA rfl ?_;rintro _ _ ⟨rfl,rfl⟩)|(refine Xl (.dup 5 rfl rfl .nil) Tryz.func23 rfl hB rfl ?_;rintro _ _ ⟨rfl,rfl⟩)|(refine Xl (.dup 6 rfl rfl .nil) Tryz.func23 rfl hD rfl ?_;rintro _ _ ⟨rfl,rfl⟩)|(refine Xl (.dup 7 rfl rfl .nil) Tryz.func23 rfl h65 rfl ?_;rintro _ _ ⟨rfl,rfl⟩))|(apply Wh;refine X7 ?_;intro _)|(apply Xt;refine Xq (k:=0) (l0:=[]) rfl rfl rfl ?_)|(apply Xpo;refine Xlm rfl rfl rfl ?_;intro _))))
 constructor
 refine Wf (env':=[(1,ex (.pointer (some ⟨b1,0,none⟩))),(3,exB true),(5,exI .i64 140),(10,exI .i64 140),(12,exI .i64 140),(14,exI .i64 141),(16,exI .i64 2)]) (loc':=[row b1 29 9 (Vc 2 z),Tab]) (Wu 7 (by repeat (first|exact Xm|refine Xh rfl ?_)) rfl) ?_
 (repeat' (first|refine Xf ?_|refine Xb ?_|refine Xd ?_|(apply Xk;(first|exact Xe rfl|exact Xj rfl|exact Wk (b:=true) rfl (fun _=>rfl) (fun e=>by cases e));exact rfl)|(apply Vh;exact rfl;exact rfl;exact rfl;(first|exact Xe rfl|exact Ych|exact Ybc|exact Ya7);exact rfl)|refine Xz ?_|(apply Vt;exact rfl;exact rfl;exact rfl;exact rfl;(apply Xn;first|(refine Xl (.dup 1 rfl rfl .nil) Tryz.func54 rfl hF rfl ?_;rintro _ _ ⟨rfl,rfl⟩)|(refine Xl (.dup 1 rfl rfl .nil) Tryz.func54 rfl hZ rfl ?_;rintro _ _ ⟨rfl,rfl⟩)|(refine Xl (.dup 1 rfl rfl .nil) Tryz.func54 rfl hL rfl ?_;rintro _ _ ⟨rfl,rfl⟩)|(refine X9 Tryz.func53 rfl rules14_any rfl ?_;rintro _ _ ⟨rfl,rfl⟩)))))
 exact ⟨.inr rfl,Vk rfl (.tmp rfl) (List.nil_sublist _) ⟨rfl,rfl⟩⟩
end Go.Proofs.YthdldeenpgeemaaGreatDoor
namespace Go.Proofs.YthdldeenpgeemaaGreatDoor
open Go Go.RowKit Go.Kx Go.Fr
theorem Xjj {C:Cx} {ops:Array Oper} {Q:Post} {l:List Oper} {env:Env} {loc:List Ent} {t:Nat} {p q:SP} (ht:Fr.look t env=some p) (hi:Im p q) (h:WPL C ops Q l ((t,q)::env) loc):WPL C ops Q l env loc:=
 ⟨fun F a w hR=>h.out F a w ⟨hR.good,fun t' p' h'=>by
   unfold Fr.look at h'
   split at h'
   · rename_i e
     cases h'
     have e':t=t':=by have:=Nat.eq_of_beq_eq_true e;omega
     subst e'
     exact hi _ _ _ (hR.env _ _ ht)
   · exact hR.env _ _ h',hR.size,hR.defers,hR.ch,hR.own,hR.grow⟩⟩
theorem Xkt (z:RulesD) (hzf:z.few=true) (hzc:z.check Vx=0) (w0:World) (F0:Nat→Prop) (out:List Ent) (b1 b6 b7 b8:Nat) (oa1 oa2 a1 a2 d1 d2:Option Addr) (c1 c2 ca1 ca2 cd1 cd2:Nat):
   WP ⟨Tryz.prog,w0,F0,T8 [Tab],out,Tryz.f21.ntmps,[]⟩ (rights 6 (Tryz.f21.body.getD .skip)) (Xjk ⟨Tryz.prog,w0,F0,T8 [Tab],out,Tryz.f21.ntmps,[]⟩ Tryz.f21 (fun p loc=>p=exB true∧loc=[]))
     [(1,ex (.pointer (some ⟨b1,0,none⟩))),(3,exB true),(5,exI .i64 140),(6,ex (.pointer (some ⟨b6,0,none⟩))),(7,ex (.pointer (some ⟨b7,0,none⟩))),(8,ex (.pointer (some ⟨b8,0,none⟩)))]
     [row b8 29 9 [exT [99,117,112],ex (.slice oa1 2 c1),ex (.slice none 0 0),ex (.slice none 0 0),isl eTie RulesD.layT,ex (.slice oa2 2 c2),ex (.slice none 0 0),ex (.slice none 0 0),exI .i64 0],row b7 29 9 [exT [99,117,112],ex (.slice d1 2 cd1),ex (.slice none 0 0),ex (.slice none 0 0),isl eTie RulesD.layT,ex (.slice d2 2 cd2),ex (.slice none 0 0),ex (.slice none 0 0),exI .i64 0],row b6 29 9 [exT [99,117,112],ex (.slice a1 2 ca1),ex (.slice none 0 0),ex (.slice none 0 0),isl eTie RulesD.layT,ex (.slice a2 2 ca2),ex (.slice none 0 0),ex (.slice none 0 0),exI .i64 0],vec (.slice oa2 2 c2) 54 13 2 (RulesD.layR.flatMap (W3 2)),vec (.slice oa1 2 c1) 70 7 2 (RulesD.layC.flatMap critV),vec (.slice d2 2 cd2) 54 13 2 (RulesD.layR.flatMap (W3 2)),vec (.slice d1 2 cd1) 70 7 2 (RulesD.layC.flatMap critV),vec (.slice a2 2 ca2) 54 13 2 (RulesD.layR.flatMap (W3 2)),vec (.slice a1 2 ca1) 70 7 2 (RulesD.layC.flatMap critV),row b1 29 9 (Vc 2 z),Tab]:=by
 refine Wf (Vo (j:=7) (k:=2) (i:=5) (E:=Vy 2) (fs:=W3 2) RulesD.layR rfl rfl rfl rfl rfl rfl (hby:=by decide)) ?_
 refine Wf (Vo (j:=6) (k:=1) (i:=1) (E:=eCrit) (fs:=critV) RulesD.layC rfl rfl rfl rfl rfl rfl (hby:=by decide)) ?_
 refine Wf (Vo (j:=4) (k:=0) (i:=1) (E:=eCrit) (fs:=critV) RulesD.layC rfl rfl rfl rfl rfl rfl (hby:=by decide)) ?_
 refine Xag (k:=3) rfl Yan fun b8r k8 hv hn8 hm8=>?_
 cases hv
 refine Xag (k:=4) rfl Yan fun b7r k7 hv hn7 hm7=>?_
 cases hv
 refine Xag (k:=5) rfl Yan fun b6c k6 hv hn6 hm6=>?_
 cases hv
 generalize hp8:RulesD.layR.flatMap (W3 2)=p8
 generalize hp6:RulesD.layC.flatMap critV=p6
 have l8:p8.length=26:=by rw [←hp8];rfl
 have l6:p6.length=14:=by rw [←hp6];rfl
 refine Rc 7 (fun _:Unit=>([(1,ex (.pointer (some ⟨b1,0,none⟩))),(3,exB true),(5,exI .i64 140),(6,ex (.pointer (some ⟨b6,0,none⟩))),(7,ex (.pointer (some ⟨b7,0,none⟩))),(8,ex (.pointer (some ⟨b8,0,none⟩)))],[row b8 29 9 [exT [99,117,112],isl eCrit RulesD.layC,ex (.slice none 0 0),ex (.slice none 0 0),isl eTie RulesD.layT,ex (.slice (some ⟨b8r,0,none⟩) 2 c2),ex (.slice none 0 0),ex (.slice none 0 0),exI .i64 0],row b7 29 9 [exT [99,117,112],isl eCrit RulesD.layC,ex (.slice none 0 0),ex (.slice none 0 0),isl eTie RulesD.layT,ex (.slice (some ⟨b7r,0,none⟩) 2 cd2),ex (.slice none 0 0),ex (.slice none 0 0),exI .i64 0],row b6 29 9 [exT [99,117,112],ex (.slice (some ⟨b6c,0,none⟩) 2 ca1),ex (.slice none 0 0),ex (.slice none 0 0),isl eTie RulesD.layT,isl (Vy 2) RulesD.layR,ex (.slice none 0 0),ex (.slice none 0 0),exI .i64 0],row b8r 54 (c2 * 13) (p8.set 0 (exT [102,105,110,97,108])),row b7r 54 (cd2 * 13) (p8.set 11 (exT [110,111,110,101])),row b6c 70 (ca1 * 7) (p6.set 0 (exT [109,101,97,110])),row b1 29 9 (Vc 2 z),Tab])) (fun _=>True) ?_ fun _ _=>?_
 · skip
   (refine Ue ([row b8 29 9 [exT [99,117,112],isl eCrit RulesD.layC,ex (.slice none 0 0),ex (.slice none 0 0),isl eTie RulesD.layT,ex (.slice (some ⟨b8r,0,none⟩) 2 c2),ex (.slice none 0 0),ex (.slice none 0 0),exI .i64 0],row b7 29 9 [exT [99,117,112],isl eCrit RulesD.layC,ex (.slice none 0 0),ex (.slice none 0 0),isl eTie RulesD.layT,ex (.slice (some ⟨b7r,0,none⟩) 2 cd2),ex (.slice none 0 0),ex (.slice none 0 0),exI .i64 0],row b6 29 9 [exT [99,117,112],ex (.slice (some ⟨b6c,0,none⟩) 2 ca1),ex (.slice none 0 0),ex (.slice none 0 0),isl eTie RulesD.layT,isl (Vy 2) RulesD.layR,ex (.slice none 0 0),ex (.slice none 0 0),exI .i64 0]]) 15 rfl ?_)
   all_goals ((apply Xc 0 rfl Yaa rfl Yab Xa;(exact Yad);exact rfl))
   all_goals ((apply Xu 1 rfl Yaa rfl Yaa Yab Xa;(exact Yb3);exact rfl))
   all_goals ((apply Xc 2 rfl Yaa rfl Yab Xa;(exact Yad);exact rfl))
   all_goals ((apply Xu 3 rfl Yaa rfl Yaa Yab Xa;(exact Ya1);exact rfl))
   all_goals ((apply Xc 4 rfl Yaa rfl Yab Xa;(exact Yad);exact rfl))
   all_goals ((apply Xu 5 rfl Yaa rfl Yaa Yab Xa;(exact Yaf);exact rfl))
   all_goals ((apply Xc 6 rfl Yaa rfl Yab Xa;(exact Ya6);exact rfl))
   all_goals ((apply Xc 7 rfl Yaa rfl Yab Xa;(exact Yad);exact rfl))
   all_goals ((apply Xr 8;exact Yaa;exact rfl;exact Xa;exact (fun _ _ h=>h);(apply Xt;refine Uu (k:=5) (hH:=Ybq) rfl rfl rfl ?_)))
   all_goals ((apply Xc 9 rfl Yaa rfl Yab Xa;(exact Ya6);exact rfl))
   all_goals ((apply Xc 10 rfl Yaa rfl Yab Xa;(exact Yad);exact rfl))
   all_goals ((apply Xr 11;exact Yaa;exact rfl;exact Xa;exact (fun _ _ h=>h);(apply Xt;refine Uu (k:=4) (hH:=Ybq) rfl rfl rfl ?_)))
   all_goals ((apply Xc 12 rfl Yaa rfl Yab Xa;(exact Ya6);exact rfl))
   all_goals ((apply Xc 13 rfl Yaa rfl Yab Xa;(exact Yad);exact rfl))
   all_goals ((apply Xr 14;exact Yaa;exact rfl;exact Xa;exact (fun _ _ h=>h);(apply Xt;refine Uu (k:=3) (hH:=Ybq) rfl rfl rfl ?_)))
   all_goals (refine X3 Yaa ?_)
   exact Wc () trivial (Xg (by repeat (first|exact Xm|refine Xh rfl ?_)) (List.Sublist.refl _))
 rw [show p8.set 0 (exT [102,105,110,97,108])=RulesD.layD.rounds.flatMap (W3 2) by rw [←hp8];rfl,show p8.set 11 (exT [110,111,110,101])=RulesD.layB.rounds.flatMap (W3 2) by rw [←hp8];rfl,show p6.set 0 (exT [109,101,97,110])=RulesD.layA.crits.flatMap critV by rw [←hp6];rfl]
 clear hp8 hp6 l8 l6 p8 p6
 refine Wf (Vi (k:=3) (sz:=13) (n:=2) (c:=c2) rfl rfl rfl Yar hm8 (Vi (k:=4) (sz:=13) (n:=2) (c:=cd2) rfl rfl rfl Yar hm7 (Vi (k:=5) (sz:=7) (n:=2) (c:=ca1) rfl rfl rfl Yar hm6 Leads.refl))) ?_
 refine Wf (Vo (j:=5) (k:=2) (i:=1) (E:=eCrit) (fs:=critV) RulesD.layA.crits rfl rfl rfl rfl rfl rfl (hby:=by decide)) ?_
 refine Wf (Vo (j:=4) (k:=1) (i:=5) (E:=Vy 2) (fs:=W3 2) RulesD.layB.rounds rfl rfl rfl rfl rfl rfl (hby:=by decide)) ?_
 refine Wf (Vo (j:=3) (k:=0) (i:=5) (E:=Vy 2) (fs:=W3 2) RulesD.layD.rounds rfl rfl rfl rfl rfl rfl (hby:=by decide)) ?_
 exact Xih z hzf hzc w0 F0 out b1 b6 b7 b8
end Go.Proofs.YthdldeenpgeemaaGreatDoor
namespace Go.Proofs.YthdldeenpgeemaaGreatDoor
open Go Go.RowKit Go.Kx Go.Fr
theorem sane_facts: ∃z:RulesD,RulesD.lay.resolve Vx=(z,0)∧z.few=true∧z.check Vx=0∧ ∃(e1:z.ties.length=2) (e2:z.rounds.length=2) (e3:(z.ties[0]'Yan).keys.length=3) (e4:(z.ties[1]'Yan).keys.length=1) (e5:(z.rounds[1]'Yan).score.l.length=2),((z.ties[0]'Yan).keys[0]'Yan).n=1∧((z.ties[0]'Yan).keys[1]'Yan).n=0∧((z.ties[1]'Yan).keys[0]'Yan).n=0∧(z.rounds[0]'Yan).score.n=1∧(z.rounds[0]'Yan).tieNo= -1∧(z.rounds[1]'Yan).tieNo=1∧((z.rounds[1]'Yan).score.l[0]'Yan).n=0∧((z.rounds[1]'Yan).score.l[1]'Yan).n=0:=
 ⟨RulesD.lay.resolved,RulesD.res_lay.1,RulesD.few_lay.2.2.2.2.2.2.2,RulesD.chk_lay.2.1,by decide +kernel,by decide +kernel,by decide +kernel,by decide +kernel,by decide +kernel,by decide +kernel,by decide +kernel,by decide +kernel,by decide +kernel,by decide +kernel,by decide +kernel,by decide +kernel,by decide +kernel⟩
theorem sane14_any:FnC Tryz.prog 21 [] [Tab] (fun p loc=>p=exB true∧loc=[]):=by
 have h1:=U8 2 RulesD.lay RulesD.few_lay.1
 obtain ⟨z,hz,hzf,hzc,e1,e2,e3,e4,e5,f1,f2,f3,f4,f5,f6,f7,f8⟩:=sane_facts
 rw [hz] at h1
 simp only at h1
 have h2:FnC Tryz.prog 23 [agg [ex (.string .empty),ex (.slice none 0 0),ex (.slice none 0 0),ex (.slice none 0 0),ex (.slice none 0 0),ex (.slice none 0 0),ex (.slice none 0 0),ex (.slice none 0 0),exI .i64 0]] [Tab] (fun p loc=>p=tup [rul 2 RulesD.zero,exI .i64 140]∧loc=[]):=by
   have h:=U8 2 RulesD.zero RulesD.few_lay.2.1
   rw [RulesD.res_lay.2.1] at h
   exact Qx h (.cons (Ims.agg (by repeat (first|exact Ims.nil|refine Ims.cons Im.nil ?_|refine Ims.cons (Im.refl _) ?_))) .nil)
 refine X4 Tryz.func21 rfl Tryz.ntmps21 rfl fun w0 F0 out=>?_
 (repeat' (first|(apply Vs 4;refine Stop.out ?_)|refine Xf ?_|refine Xb ?_|refine Xd ?_|(apply Xk;(first|exact Xe rfl|exact Xj rfl|exact Wk (b:=false) rfl (fun e=>by cases e) (fun _=>rfl)|exact Ybw|exact Ybi);exact rfl)|(apply Vh;exact rfl;exact rfl;exact rfl;(first|exact Ybd|exact Ya9|exact Ybi|exact Yae|exact Yaq);exact rfl)|refine Xs ?_|(apply Xi;exact rfl;first|(apply Xn;first|(refine X9 Tryz.func53 rfl rules14_any rfl ?_;rintro _ _ ⟨rfl,rfl⟩)|(refine Xl (.dup 0 rfl rfl .nil) Tryz.func23 rfl h1 rfl ?_;rintro _ _ ⟨rfl,rfl⟩))|(apply Wh;refine X7 ?_;intro _)|(apply Xt;refine Xq (k:=0) (l0:=[]) rfl rfl rfl ?_))|(refine W0 rfl rfl (fun hb=>?_) (fun hb=>?_)<;>(repeat (first|replace hb:=X0 hb|replace hb:=X1 hb|replace hb:=Vf hb|replace hb:=Vg hb))<;>(try (exfalso;omega)))|(refine Xo rfl (fun hb=>?_) (fun hb=>?_)<;>(repeat (first|replace hb:=X0 hb|replace hb:=X1 hb|replace hb:=Vf hb|replace hb:=Vg hb))<;>(try (exfalso;omega)))))
 rename_i b1 _ _ _ _
 constructor
 refine Wf (env':=[(1,ex (.pointer (some ⟨b1,0,none⟩))),(2,exI .i64 0)]) (loc':=[row b1 29 9 (Vc 2 z),Tab]) (Xg (by repeat (first|exact Xm|refine Xh rfl ?_)) (List.Sublist.refl _)) ?_
 (repeat' (first|(apply Xy 127;refine Stop.out ?_)|refine Xf ?_|refine Xb ?_|(apply Xk;(first|exact Xe rfl|exact Wk (b:=true) rfl (fun _=>rfl) (fun e=>by cases e)|exact Ybd|exact Ya9|exact Ybc|exact Yae);exact rfl)|(apply Vh;exact rfl;exact rfl;exact rfl;(first|exact Ybd|exact Ya9|exact Ybc|exact Yae);exact rfl)|(refine W0 rfl rfl (fun hb=>?_) (fun hb=>?_)<;>(repeat (first|replace hb:=X0 hb|replace hb:=X1 hb))<;>(try (exfalso;omega)))))
 constructor
 refine Xjj (t:=126) (q:=isl (eEx 1) (z.rounds[1]'Yan).score.l) rfl (Im.refl _) ?_
 (repeat' (first|(apply Xy 139;refine Stop.out ?_)|(apply Xk;(first|exact Xe rfl|exact Wk (b:=true) rfl (fun _=>rfl) (fun e=>by cases e));exact rfl)|(apply Vh;exact rfl;exact rfl;exact rfl;(first|exact Ybd|exact Ya9|exact Ybc|exact Yae);exact rfl)|(refine W0 rfl rfl (fun hb=>?_) (fun hb=>?_)<;>(repeat (first|replace hb:=X0 hb|replace hb:=X1 hb))<;>(try (exfalso;omega)))))
 constructor
 refine Xjj (t:=138) (q:=isl (eEx 1) (z.rounds[1]'Yan).score.l) rfl (Im.refl _) ?_
 (repeat' (first|(apply Vs 5;refine Stop.out ?_)|refine Xd ?_|(apply Xk;(first|exact Xj rfl|exact Wk (b:=true) rfl (fun _=>rfl) (fun e=>by cases e));exact rfl)|(apply Vh;exact rfl;exact rfl;exact rfl;(first|exact Yag|exact Yaj|exact Ybc|exact Yae);exact rfl)))
 constructor
 refine Wf (env':=[(1,ex (.pointer (some ⟨b1,0,none⟩))),(2,exI .i64 0),(3,exB true)]) (loc':=[row b1 29 9 (Vc 2 z),Tab]) (Xg (Xh rfl (Xh rfl (Xh (congrArg (fun b=>some (exB b)) (decide_eq_true f8)) Xm))) (List.Sublist.refl _)) ?_
 (repeat' (first|(apply Vs 6;refine Stop.out ?_)|refine Xf ?_|refine Xb ?_|refine Xd ?_|(apply Xk;(first|exact Xe rfl|exact Xj rfl|exact Ybw|exact Yca);exact rfl)|(apply Xi;exact rfl;first|(apply Xn;(refine Xl (.dup 1 rfl rfl .nil) Tryz.func23 rfl h2 rfl ?_;rintro _ _ ⟨rfl,rfl⟩))|(apply Wh;refine X7 ?_;intro _)|(apply Xt;refine Xq (k:=0) (l0:=[]) rfl rfl rfl ?_))))
 constructor
 refine Wf (env':=[(1,ex (.pointer (some ⟨b1,0,none⟩))),(3,exB true),(5,exI .i64 140)]) (loc':=[row b1 29 9 (Vc 2 z),Tab]) (Xg (by repeat (first|exact Xm|refine Xh rfl ?_)) (.cons _ (List.Sublist.refl _))) ?_
 (repeat' (first|(apply Vs 7;refine Stop.out ?_)|refine Xf ?_|refine Xb ?_|refine Xd ?_|(apply Xi;exact rfl;first|(apply Xn;(refine X9 Tryz.func53 rfl rules14_own rfl ?_;rintro _ _ ⟨oa1,c1,oa2,c2,rfl,rfl⟩))|(apply Wh;refine X7 ?_;intro _)|(apply Xt;first|refine Xq (k:=0) (l0:=[]) rfl rfl rfl ?_|refine Xq (k:=1) (l0:=[]) rfl rfl rfl ?_|refine Xq (k:=2) (l0:=[]) rfl rfl rfl ?_))))
 rename_i a1 ca1 a2 ca2 d1 cd1 d2 cd2 b6 b7 b8
 constructor
 refine Wf (env':=[(1,ex (.pointer (some ⟨b1,0,none⟩))),(3,exB true),(5,exI .i64 140),(6,ex (.pointer (some ⟨b6,0,none⟩))),(7,ex (.pointer (some ⟨b7,0,none⟩))),(8,ex (.pointer (some ⟨b8,0,none⟩)))]) (loc':=[row b8 29 9 [exT [99,117,112],ex (.slice oa1 2 c1),ex (.slice none 0 0),ex (.slice none 0 0),isl eTie RulesD.layT,ex (.slice oa2 2 c2),ex (.slice none 0 0),ex (.slice none 0 0),exI .i64 0],row b7 29 9 [exT [99,117,112],ex (.slice d1 2 cd1),ex (.slice none 0 0),ex (.slice none 0 0),isl eTie RulesD.layT,ex (.slice d2 2 cd2),ex (.slice none 0 0),ex (.slice none 0 0),exI .i64 0],row b6 29 9 [exT [99,117,112],ex (.slice a1 2 ca1),ex (.slice none 0 0),ex (.slice none 0 0),isl eTie RulesD.layT,ex (.slice a2 2 ca2),ex (.slice none 0 0),ex (.slice none 0 0),exI .i64 0],vec (.slice oa2 2 c2) 54 13 2 (RulesD.layR.flatMap (W3 2)),vec (.slice oa1 2 c1) 70 7 2 (RulesD.layC.flatMap critV),vec (.slice d2 2 cd2) 54 13 2 (RulesD.layR.flatMap (W3 2)),vec (.slice d1 2 cd1) 70 7 2 (RulesD.layC.flatMap critV),vec (.slice a2 2 ca2) 54 13 2 (RulesD.layR.flatMap (W3 2)),vec (.slice a1 2 ca1) 70 7 2 (RulesD.layC.flatMap critV),row b1 29 9 (Vc 2 z),Tab]) (Xg (by repeat (first|exact Xm|refine Xh rfl ?_)) (List.Sublist.refl _)) ?_
 exact Xkt z hzf hzc w0 F0 out b1 b6 b7 b8 oa1 oa2 a1 a2 d1 d2 c1 c2 ca1 ca2 cd1 cd2
end Go.Proofs.YthdldeenpgeemaaGreatDoor
namespace Go.Proofs.YthdldeenpgeemaaGreatDoor
open Go Go.RowKit Go.Kx Go.Fr Go.Lx Go.Sx
theorem Xde (k:Nat) (r:RulesD):FnC Tryz.prog 9 [rul k r] [Lab,Tab] (fun p loc=>p=exB true∧loc=[]):=by
 have h0:=Xmc k r
 refine X4 Tryz.func9 rfl Tryz.ntmps9 rfl fun w0 F0 out=>?_
 (repeat' (first|(apply Vs 3;refine StopW.out ?_)|refine Xf ?_|refine Xb ?_|refine Xd ?_|(apply Xk;(first|exact Xj rfl|exact Yaw);exact rfl)|refine Xs ?_|refine X2 rfl ?_|(apply Xi;exact rfl;first|(apply Xn;(refine Xl (.dup 2 rfl rfl .nil) Tryz.func21 rfl sane14_any rfl ?_;rintro _ _ ⟨rfl,rfl⟩))|(apply U7;refine V2 rfl ?_;intro _))))
 all_goals (try (exfalso;first|contradiction|omega))
 refine ⟨?_⟩
 refine Wf (Tw (k:=0) (t:=1) rfl rfl) ?_
 refine Wf (env':=[(1,fp (Vc k r))]) (loc':=[Lab,Tab]) (Xg (by repeat (first|exact Xm|refine Xh rfl ?_)) (List.Sublist.refl _)) ?_
 cases hf:r.few
 · rw [hf] at h0
   (repeat' (first|refine Xf ?_|refine Xb ?_|refine Xd ?_|(apply Xk;(first|exact Xj rfl|exact Yau|exact Yaw);exact rfl)|refine Xz ?_|refine Xx rfl ?_|(apply Xi;exact rfl;(apply Xn;(refine X9 Tryz.func22 rfl h0 rfl ?_;rintro _ _ ⟨rfl,rfl⟩)))))
   all_goals (try (exfalso;first|contradiction|omega))
   all_goals (refine ⟨.inr rfl,Vk rfl (.tmp rfl) (List.nil_sublist _) ⟨congrArg exB ?_,rfl⟩⟩)
   all_goals (first|rfl|(simp;done))
 · rw [hf] at h0
   have h1:=fun j=>U8 j r hf
   generalize r.resolve Vx=z at h1
   obtain ⟨x,e⟩:=z
   dsimp only at h1
   have hpr:=fun k=>Xg2 k r (Xmf hf)
   rcases Xhz r with hpo|⟨hpo,hva,hrl⟩
   · rw [hpo] at hpr
     unfold Xmq at hpr
     dsimp only at hpr
     (repeat' (first|refine Xf ?_|refine Xb ?_|refine Xd ?_|(apply Xk;(first|exact Xe rfl|exact Xj rfl|exact Wk (b:=true) rfl (fun _=>rfl) (fun e=>by cases e)|exact Ybw|exact Yau|exact Ybi|exact Yaw);exact rfl)|(refine Ve rfl rfl rfl rfl rfl ?_)|refine Xs ?_|refine Xz ?_|refine Xx rfl ?_|refine X2 rfl ?_|(apply Xi;exact rfl;(apply Xn;first|(refine X9 Tryz.func22 rfl h0 rfl ?_;rintro _ _ ⟨rfl,rfl⟩)|(refine Xl (.dup 0 rfl rfl .nil) Tryz.func15 rfl (hpr _) rfl ?_;rintro _ _ ⟨rfl,rfl⟩)))))
     all_goals (try (exfalso;first|contradiction|omega))
     all_goals (refine ⟨.inr rfl,Vk rfl (.tmp rfl) (List.nil_sublist _) ⟨congrArg exB ?_,rfl⟩⟩)
     all_goals (first|rfl|(simp;done))
   · rw [hpo] at hpr
     unfold Xmq at hpr
     dsimp only at hpr
     have hpb:=Xhv (joinF ((Uh r).map word))
     by_cases hj:(joinF ((Uh r).map word)).length≤65536
     · rw [Xkp hva hj] at hpb
       have hrd:Qg (placed 0 (Uh r)) (joinF ((Uh r).map word)).length=(r,0,0):=by
         unfold Qg
         rw [(Xgp 0).1 hrl]
       rw [hrd] at hpb
       unfold Xod at hpb
       dsimp only at hpb
       generalize joinF ((Uh r).map word)=J at *
       (repeat' (first|refine Xf ?_|refine Xb ?_|refine Xd ?_|(apply Xk;(first|exact Xe rfl|exact Xj rfl|exact Wk (b:=true) rfl (fun _=>rfl) (fun e=>by cases e)|exact Wk (b:=false) rfl (fun e=>by cases e) (fun _=>rfl)|exact Ybw|(apply Vu;first|exact Tm rfl rfl|exact Vl (k:=1) rfl rfl rfl)|exact Ycq|exact Yaw);exact rfl)|(apply Vh;exact rfl;exact rfl;exact rfl;(first|exact Xe rfl|exact Yc4|(apply V1;first|exact Qf rfl rfl|exact Xdg rfl rfl)|exact Ybm);exact rfl)|refine Xs ?_|refine Xz ?_|refine X2 rfl ?_|(apply Xi;exact rfl;first|(apply Xn;first|(refine X9 Tryz.func22 rfl h0 rfl ?_;rintro _ _ ⟨rfl,rfl⟩)|(refine Xl (.dup 0 rfl rfl .nil) Tryz.func15 rfl (hpr _) rfl ?_;rintro _ _ ⟨rfl,rfl⟩)|(refine Xl (.dup 0 rfl rfl .nil) Tryz.func11 rfl hpb rfl ?_;rintro _ _ ⟨⟨k2,rfl⟩,rfl⟩)|(refine Xl (.dup 2 rfl rfl .nil) Tryz.func23 rfl (h1 k) rfl ?_;rintro _ _ ⟨rfl,rfl⟩)|(refine Xl (.dup 3 rfl rfl .nil) Tryz.func23 rfl (h1 k2) rfl ?_;rintro _ _ ⟨rfl,rfl⟩))|(apply Wh;refine X7 ?_;intro _)|(apply Xt;refine Xq (k:=0) (l0:=[]) rfl rfl rfl ?_))|(apply Vt;exact rfl;exact rfl;exact rfl;exact rfl;(apply Xn;(refine X9 Tryz.func24 rfl (Xjp _ _ _ _) rfl ?_;rintro _ _ ⟨rfl,rfl⟩)))|(refine W0 rfl rfl (fun hb=>?_) (fun hb=>?_)<;>(repeat (first|replace hb:=X0 hb|replace hb:=X1 hb))<;>(try (exfalso;contradiction)))|(refine Xo rfl (fun hb=>?_) (fun hb=>?_)<;>(repeat (first|replace hb:=X0 hb|replace hb:=X1 hb))<;>(try (exfalso;omega)))))
       all_goals (try (exfalso;first|contradiction|omega))
       all_goals (refine ⟨.inr rfl,Vk rfl (.tmp rfl) (List.nil_sublist _) ⟨congrArg exB ?_,rfl⟩⟩)
       all_goals (first|rfl|(simp;done))
     · generalize joinF ((Uh r).map word)=J at *
       (repeat' (first|refine Xf ?_|refine Xb ?_|refine Xd ?_|(apply Xk;(first|exact Xe rfl|exact Xj rfl|exact Wk (b:=false) rfl (fun e=>by cases e) (fun _=>rfl)|exact Ybw|exact Yau|exact Ybi|exact Yaw);exact rfl)|(apply Vh;exact rfl;exact rfl;exact rfl;exact Yd1;exact rfl)|refine Xs ?_|refine Xz ?_|refine X2 rfl ?_|(apply Xi;exact rfl;(apply Xn;first|(refine X9 Tryz.func22 rfl h0 rfl ?_;rintro _ _ ⟨rfl,rfl⟩)|(refine Xl (.dup 0 rfl rfl .nil) Tryz.func15 rfl (hpr _) rfl ?_;rintro _ _ ⟨rfl,rfl⟩)))|(refine Xo rfl (fun hb=>?_) (fun hb=>?_)<;>(repeat (first|replace hb:=X0 hb|replace hb:=X1 hb))<;>(try (exfalso;omega)))))
       all_goals (try (exfalso;first|contradiction|omega))
       all_goals (refine ⟨.inr rfl,Vk rfl (.tmp rfl) (List.nil_sublist _) ⟨congrArg exB ?_,rfl⟩⟩)
       all_goals (first|rfl|(simp;done))
end Go.Proofs.YthdldeenpgeemaaGreatDoor
