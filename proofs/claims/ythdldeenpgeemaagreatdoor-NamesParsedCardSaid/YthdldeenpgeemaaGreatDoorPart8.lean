/- Chapter 13: the parser reads expressions: how deep, and sums of terms. -/
import Derived.Test.YthdldeenpgeemaaGreatDoorPart7
import Derived.Test.YthdldeenpgeemaaGreatDoorPart5
import Derived.Test.YthdldeenpgeemaaGreatDoorPart6
set_option maxHeartbeats 8000000
set_option maxRecDepth 100000
namespace Go.Proofs.YthdldeenpgeemaaGreatDoor
open Go Go.RowKit Go.Kx Go.Fr Go.Lx Go.Sx
abbrev zeroC:List SP:=[exI .i64 0,exT [],exI .i64 0,exI .i64 0,ex (.slice none 0 0)]
def Xbr (f:FuncId) (g:Nat→List TokD→Res Ex) (n:Nat):Prop:= ∀(b:Nat) (ts:List TokD) (en:Nat) (qs:List SP),ts.length≤70000→FnP Tryz.prog f [ex (.pointer (some ⟨b,0,none⟩)),exI .i64 ((16-n:Nat):Int)] [Ug b ts en qs] (fun p loc=> ∃(k:Nat) (x:Ex) (r:List TokD),g n ts= .ok (x,r)∧p=agg (exV k x)∧loc=[Ug b r en qs]) (fun ch loc=> ∃e,g n ts= .error e∧Ua en e ch loc)
theorem Ty (b:Nat) (ts:List TokD) (en:Nat) (qs:List SP) (n:Nat) (hn:n+1≤16):FnC Tryz.prog 228 [ex (.pointer (some ⟨b,0,none⟩)),exI .i64 ((16-(n+1):Nat):Int)] [Ug b ts en qs] (fun p loc=>p=exI .i64 ((16-n:Nat):Int)∧loc=[Ug b ts en qs]):=by
 have h1:((16-n:Nat):Int)=((16-(n+1):Nat):Int)+1:=by omega
 rw [h1]
 refine X4 Tryz.func228 rfl Tryz.ntmps228 rfl fun w0 F0 out=>?_
 (repeat' (first|refine Xf ?_|refine Xb ?_|refine Xd ?_|(apply Xk;(first|exact Xe rfl|exact Xj rfl|(apply V1;first|exact Xdh rfl rfl|exact Sv rfl rfl));exact rfl)|refine Xs ?_|refine Xz ?_|(refine Xo rfl (fun hb=>?_) (fun hb=>?_)<;>(repeat (first|replace hb:=X0 hb|replace hb:=X1 hb))<;>(try (exfalso;omega)))))
 all_goals (try (exfalso;first|contradiction|omega))
 exact ⟨.inr rfl,Vk rfl (.tmp rfl) (List.Sublist.refl _) ⟨rfl,rfl⟩⟩
theorem Sf (b:Nat) (ts:List TokD) (en:Nat) (qs:List SP):FnP Tryz.prog 228 [ex (.pointer (some ⟨b,0,none⟩)),exI .i64 16] [Ug b ts en qs] (fun _ _=>False) (Ua en ts):=by
 have hfa:=Sd b ts en qs
 refine Ww Tryz.func228 rfl Tryz.ntmps228 rfl fun w0 F0 out=>?_
 (repeat' (first|(apply Xy 8;refine X6 (.one 0 rfl .nil) Tryz.func87 rfl hfa rfl ?_ ?_)|refine Xf ?_|refine Xb ?_|refine Xd ?_|(apply Xk;exact Ycm;exact rfl)|refine Xx rfl ?_))
 all_goals (try (exfalso;first|contradiction|omega))
 · rintro _ _ h;exact h.elim
 · rintro ch loc ⟨rfl,rfl⟩
   ((repeat (first|(with_reducible refine Wd ?_)|(with_reducible refine Wn ?_)));refine Xv (loc':=[]) (List.nil_sublist _) ?_)
   exact And.intro rfl rfl
theorem Xd1 (n:Nat) (hn:n≤16) (ht:Xbr 212 termN n):Xbr 189 T4 n:=by
 intro b ts en qs hts
 have k1:=ht b ts en qs hts
 refine Ww Tryz.func189 rfl Tryz.ntmps189 rfl fun w0 F0 out=>?_
 generalize hres:T4 n ts=res
 unfold T4 Xb5 at hres
 (repeat' (first|(apply Xy 9;refine X6 (.one 1 rfl .nil) Tryz.func212 rfl k1 rfl ?_ ?_)|refine Xf ?_|refine Xb ?_|refine Xd ?_|(apply Xk;(exact Xe rfl);exact rfl)|(apply Xi;exact rfl;(apply Wh;refine X7 ?_;intro _))))
 rotate_left
 · rintro ch loc ⟨e,g1,rfl,rfl⟩;((repeat (first|(with_reducible refine Wd ?_)|(with_reducible refine Wn ?_)));refine Xv (loc':=[]) (List.nil_sublist _) ?_);exact ⟨e,hres.symm.trans (Xw g1),rfl,rfl⟩
 rintro _ loc ⟨k0,x0,t0,g1,rfl,rfl⟩
 have hl0:=(R7 n).len g1
 rw [We g1] at hres
 rename_i b4
 (repeat' (first|refine Xd ?_|refine Xp ?_|(apply Xi;exact rfl;first|(apply Wh;refine X7 ?_;intro _)|(apply Xt;refine Xq (k:=0) (l0:=[]) rfl rfl rfl ?_))))
 rename_i b5
 refine W1 (fun x:Nat×Ex×List TokD=>([(0,ex (.pointer (some ⟨b,0,none⟩))),(1,exI .i64 ((16-n:Nat):Int)),(4,ex (.pointer (some ⟨b4,0,none⟩))),(5,ex (.pointer (some ⟨b5,0,none⟩)))],[Ug b x.2.2 en qs,row b5 52 5 (exV x.1 x.2.1),row b4 52 5 zeroC])) (fun x=>Xcl addT (Tt (termN n)) x.2.1 x.2.2=res∧x.2.2.length≤ts.length) (fun x=>x.2.2.length) (k0,x0,t0) ?_ ⟨hres,hl0⟩ fun x hx=>?_
 · refine Leads.trans (Vj (.swap _ _ _)) ?_
   exact Xg (by repeat (first|exact Xm|refine Xh rfl ?_)) (List.Sublist.refl _)
 obtain ⟨k,x,t⟩:=x
 obtain ⟨hinv,hle⟩:=hx
 simp only at hinv hle ⊢
 clear hres
 rw [Sr rfl (Ss (R7 n))] at hinv
 have htk:=Wv b t en qs sPlus
 cases hT:isT sPlus t
 · rw [hT,if_neg Ybn] at htk
   have htm:=Wv b t en qs sMinus
   cases hM:isT sMinus t
   · rw [hM,if_neg Ybn] at htm
     rw [show addT t=false by unfold addT;rw [hT,hM];rfl,if_neg Ybn] at hinv
     (repeat' (first|refine Xf ?_|refine Xb ?_|refine Xd ?_|(apply Xk;(first|exact Xe rfl|exact Xj rfl|exact Ybg);exact rfl)|refine Xp ?_|refine Xz ?_|refine X2 rfl ?_|(apply Xi;exact rfl;first|(apply Xn;first|(refine Xl (.one 0 rfl .nil) Tryz.func155 rfl htk rfl ?_;rintro _ _ ⟨rfl,rfl⟩)|(refine Xl (.one 0 rfl .nil) Tryz.func155 rfl htm rfl ?_;rintro _ _ ⟨rfl,rfl⟩))|(apply Xt;refine Xq (k:=2) (l0:=[]) rfl rfl rfl ?_))))
     all_goals (try (exfalso;first|contradiction|omega))
     exact ⟨.inr rfl,Vk rfl (.cella (k:=2) rfl rfl rfl rfl inferInstance rfl) Ya3 ⟨_,_,_,hinv.symm,rfl,rfl⟩⟩
   rw [hM,if_pos rfl] at htm
   obtain ⟨t1,t2,rfl,-,-⟩:=R6 hM
   have k2:=ht b t2 en qs (by simp only [List.length_cons] at hle;omega)
   have hw:Tt (termN n) x (t1::t2)=bnd (termN n) (fun y=>ret (.mk 7 [] 0 0 [x,y])) t2:=by
     unfold Tt;rw [if_neg (by rw [hT];simp)];exact We (Tn hM)
   simp only [List.length_cons] at hle
   rw [show addT (t1::t2)=true by unfold addT;rw [hT,hM];rfl,if_pos rfl] at hinv
   (repeat' (first|(apply W2 8;refine Stop.out ?_)|refine Xf ?_|refine Xb ?_|refine Xd ?_|(apply Xk;exact Ya0;exact rfl)|refine Xp ?_|refine Xx rfl ?_|refine X2 rfl ?_|(apply Xi;exact rfl;(apply Xn;first|(refine Xl (.one 0 rfl .nil) Tryz.func155 rfl htk rfl ?_;rintro _ _ ⟨rfl,rfl⟩)|(refine Xl (.one 0 rfl .nil) Tryz.func155 rfl htm rfl ?_;rintro _ _ ⟨rfl,rfl⟩)))))
   all_goals (try (exfalso;first|contradiction|omega))
   refine ⟨?_⟩
   refine Q5 (K:=Xap en res) (fun ch env loc ⟨e,h1,h2⟩=>?_) ?_
   · ((repeat (first|(with_reducible refine Wd ?_)|(with_reducible refine Wn ?_)));refine Xv (loc':=[]) (List.nil_sublist _) ?_)
     exact ⟨e,h1,h2,rfl⟩
   refine Wf (env':=[(0,ex (.pointer (some ⟨b,0,none⟩))),(1,exI .i64 ((16-n:Nat):Int)),(4,ex (.pointer (some ⟨b4,0,none⟩))),(5,ex (.pointer (some ⟨b5,0,none⟩))),(6,exI .i64 7)]) (loc':=[Ug b t2 en qs,row b5 52 5 (exV k x),row b4 52 5 zeroC]) (Xg (by repeat (first|exact Xm|refine Xh rfl ?_)) (List.Sublist.refl _)) ?_
   (refine Ue ([row b5 52 5 (exV k x)]) 7 rfl ?_)
   all_goals ((apply Wz 0 rfl Yaa rfl Vm Xa;(exact Xe rfl);exact rfl))
   all_goals ((apply Un 1 rfl Yaa rfl Yaa Vm Xa;(exact Ybg);exact rfl))
   all_goals ((apply Wz 2 rfl Yaa rfl Vm Xa;(exact Xe rfl);exact rfl))
   all_goals ((apply Wz 3 rfl Yaa rfl Vm Xa;(exact Xe rfl);exact rfl))
   all_goals ((apply T1 4;exact Yaa;exact rfl;exact Xa;exact (fun _ _ h=>h);(refine U3 (.one 0 rfl .nil) Tryz.func212 rfl k2 Ya3 rfl ?_ ?_;rotate_left;(rintro ch loc ⟨e,g1,rfl,rfl⟩;exact ⟨e,hinv.symm.trans (Xw (hw.trans (Xw g1))),rfl⟩);rintro _ loc ⟨k',y,t3,g1,rfl,rfl⟩;rw [We (hw.trans (We g1))] at hinv)))
   all_goals ((apply Xr 5;exact Yaa;exact rfl;exact Xa;exact (fun _ _ h=>h);(apply X5;(refine Wq rfl Yac ?_);intro _)))
   all_goals ((apply Wz 6 rfl Yaa rfl Vm Xa;(exact Ya7);exact rfl))
   all_goals ((apply Xr 7;exact Yaa;exact rfl;exact Xa;exact (fun h=>absurd h Yar);(apply Xt;refine Xq (k:=2) (hH:=Ycr) rfl rfl rfl ?_)))
   all_goals (refine X3 Yaa ?_)
   rename_i b22
   have hl3:=(R7 n).len g1
   refine ⟨(max k k'+1,.mk 7 [] 0 0 [x,y],t3),⟨hinv,by show t3.length≤_;omega⟩,by show t3.length<(t1::t2).length;simp only [List.length_cons];omega,?_⟩
   refine Leads.trans (Tz (k:=0) (b:=b22) (T:=52) (tot:=10) (ps:=exV k x++exV k' y) rfl (Qh (Xab (Nat.le_max_left k k') x) (Xab (Nat.le_max_right k k') y))) ?_
   refine Vi (k:=0) (sz:=5) (n:=2) (c:=2) rfl rfl rfl Yar Yar ?_
   refine Leads.trans (Vo (j:=0) (k:=1) (i:=4) (E:=eEx (max k k')) [x,y] rfl rfl rfl rfl rfl rfl (hby:=by show 2 * 64≤_;decide)) ?_
   exact Xg (by repeat (first|exact Xm|refine Xh rfl ?_)) (List.Sublist.refl _)
 · rw [hT,if_pos rfl] at htk
   obtain ⟨t1,t2,rfl,-,-⟩:=R6 hT
   have k2:=ht b t2 en qs (by simp only [List.length_cons] at hle;omega)
   have hw:Tt (termN n) x (t1::t2)=bnd (termN n) (fun y=>ret (.mk 6 [] 0 0 [x,y])) t2:=by
     unfold Tt;rw [if_pos hT];exact We (Tn hT)
   simp only [List.length_cons] at hle
   rw [show addT (t1::t2)=true by unfold addT;rw [hT];rfl,if_pos rfl] at hinv
   (repeat' (first|(apply W2 8;refine Stop.out ?_)|refine Xf ?_|refine Xb ?_|refine Xd ?_|(apply Xk;exact Ya0;exact rfl)|refine Xp ?_|refine Xx rfl ?_|(apply Xi;exact rfl;(apply Xn;(refine Xl (.one 0 rfl .nil) Tryz.func155 rfl htk rfl ?_;rintro _ _ ⟨rfl,rfl⟩)))))
   all_goals (try (exfalso;first|contradiction|omega))
   refine ⟨?_⟩
   refine Q5 (K:=Xap en res) (fun ch env loc ⟨e,h1,h2⟩=>?_) ?_
   · ((repeat (first|(with_reducible refine Wd ?_)|(with_reducible refine Wn ?_)));refine Xv (loc':=[]) (List.nil_sublist _) ?_)
     exact ⟨e,h1,h2,rfl⟩
   refine Wf (env':=[(0,ex (.pointer (some ⟨b,0,none⟩))),(1,exI .i64 ((16-n:Nat):Int)),(4,ex (.pointer (some ⟨b4,0,none⟩))),(5,ex (.pointer (some ⟨b5,0,none⟩))),(6,exI .i64 6)]) (loc':=[Ug b t2 en qs,row b5 52 5 (exV k x),row b4 52 5 zeroC]) (Xg (by repeat (first|exact Xm|refine Xh rfl ?_)) (List.Sublist.refl _)) ?_
   (refine Ue ([row b5 52 5 (exV k x)]) 7 rfl ?_)
   all_goals ((apply Wz 0 rfl Yaa rfl Vm Xa;(exact Xe rfl);exact rfl))
   all_goals ((apply Un 1 rfl Yaa rfl Yaa Vm Xa;(exact Ybg);exact rfl))
   all_goals ((apply Wz 2 rfl Yaa rfl Vm Xa;(exact Xe rfl);exact rfl))
   all_goals ((apply Wz 3 rfl Yaa rfl Vm Xa;(exact Xe rfl);exact rfl))
   all_goals ((apply T1 4;exact Yaa;exact rfl;exact Xa;exact (fun _ _ h=>h);(refine U3 (.one 0 rfl .nil) Tryz.func212 rfl k2 Ya3 rfl ?_ ?_;rotate_left;(rintro ch loc ⟨e,g1,rfl,rfl⟩;exact ⟨e,hinv.symm.trans (Xw (hw.trans (Xw g1))),rfl⟩);rintro _ loc ⟨k',y,t3,g1,rfl,rfl⟩;rw [We (hw.trans (We g1))] at hinv)))
   all_goals ((apply Xr 5;exact Yaa;exact rfl;exact Xa;exact (fun _ _ h=>h);(apply X5;(refine Wq rfl Yac ?_);intro _)))
   all_goals ((apply Wz 6 rfl Yaa rfl Vm Xa;(exact Ya7);exact rfl))
   all_goals ((apply Xr 7;exact Yaa;exact rfl;exact Xa;exact (fun h=>absurd h Yar);(apply Xt;refine Xq (k:=2) (hH:=Ycr) rfl rfl rfl ?_)))
   all_goals (refine X3 Yaa ?_)
   rename_i b22
   have hl3:=(R7 n).len g1
   refine ⟨(max k k'+1,.mk 6 [] 0 0 [x,y],t3),⟨hinv,by show t3.length≤_;omega⟩,by show t3.length<(t1::t2).length;simp only [List.length_cons];omega,?_⟩
   refine Leads.trans (Tz (k:=0) (b:=b22) (T:=52) (tot:=10) (ps:=exV k x++exV k' y) rfl (Qh (Xab (Nat.le_max_left k k') x) (Xab (Nat.le_max_right k k') y))) ?_
   refine Vi (k:=0) (sz:=5) (n:=2) (c:=2) rfl rfl rfl Yar Yar ?_
   refine Leads.trans (Vo (j:=0) (k:=1) (i:=4) (E:=eEx (max k k')) [x,y] rfl rfl rfl rfl rfl rfl (hby:=by show 2 * 64≤_;decide)) ?_
   exact Xg (by repeat (first|exact Xm|refine Xh rfl ?_)) (List.Sublist.refl _)
end Go.Proofs.YthdldeenpgeemaaGreatDoor
namespace Go.Fr
open Go.RowKit Go.Kx
theorem Xj9 (k:Int) (nm:List UInt8) (n d:Int):Ims [exI .i64 k,exT nm,exI .i64 n,exI .i64 d,ex (.slice none 0 0)] (exV 1 (.mk k nm n d [])):= .cons (Im.refl _) (.cons (Im.refl _) (.cons (Im.refl _) (.cons (Im.refl _) (.cons Im.nil .nil))))
end Go.Fr
namespace Go.Proofs.YthdldeenpgeemaaGreatDoor
open Go Go.RowKit Go.Kx Go.Fr Go.Lx Go.Sx
def facN:Nat→List TokD→Res Ex
 | 0=>Vp false (fun ts=> .error ts)
 | n+1=>Vp true (T4 n)
theorem Xhp (n:Nat) (hn:n≤16) (b:Nat) (ts:List TokD) (en:Nat) (qs:List SP) (hts:ts.length≤70000) (h0:Sx.isName ts=true):FnP Tryz.prog 227 [ex (.pointer (some ⟨b,0,none⟩)),exI .i64 ((16-n:Nat):Int)] [Ug b ts en qs] (fun p loc=> ∃(k:Nat) (x:Ex) (r:List TokD),facN n ts= .ok (x,r)∧p=agg (exV k x)∧loc=[Ug b r en qs]) (fun ch loc=> ∃e,facN n ts= .error e∧Ua en e ch loc):=by
 have hnm:=Vw b ts en qs
 rw [h0] at hnm
 have hf:facN n ts=bnd nameP (fun nm=>ret (.mk 2 nm 0 0 [])) ts:=by cases n<;>exact if_pos h0
 rw [hf]
 cases ts with
 | nil=>cases h0
 | cons t r=>
   have hl:(t::r).length=r.length+1:=rfl
   have hres:bnd nameP (fun nm=>ret (Ex.mk 2 nm 0 0 [])) (t::r)= .ok (.mk 2 t.text 0 0 [],r):=We (Xiv h0)
   rw [hres]
   replace hres:(Except.ok (.mk 2 t.text 0 0 [],r):Res Ex)= .ok (.mk 2 t.text 0 0 [],r):=rfl
   refine Ww Tryz.func227 rfl Tryz.ntmps227 rfl fun w0 F0 out=>?_
   (repeat' (first|(apply W2 7;refine Stop.out ?_)|refine Xf ?_|refine Xb ?_|refine Xd ?_|(apply Xk;exact Ya0;exact rfl)|refine Xp ?_|refine Xx rfl ?_|(apply Xi;exact rfl;first|(apply Xn;(refine Xl (.one 1 rfl .nil) Tryz.func183 rfl hnm rfl ?_;rintro _ _ ⟨rfl,rfl⟩))|(apply Wh;refine X7 ?_;intro _))))
   all_goals (try (exfalso;first|contradiction|omega))
   refine ⟨?_⟩
   refine Q5 (K:=fun _ _=>False) (fun _ _ _ h=>h.elim) ?_
   (refine Ue ([Ug b (t::r) en qs]) 11 rfl ?_)
   all_goals ((apply Wz 0 rfl Yaa rfl Vm Xa;(exact Xe rfl);exact rfl))
   all_goals ((apply Wz 1 rfl Yaa rfl Vm Xa;(exact Yam);exact rfl))
   all_goals ((apply Wz 2 rfl Yaa rfl Vm Xa;(exact Yad);exact rfl))
   all_goals ((apply Un 3 rfl Yaa rfl Yaa Vm Xa;(exact Yaf);exact rfl))
   all_goals ((apply Wz 4 rfl Yaa rfl Vm Xa;(exact Yae);exact rfl))
   all_goals ((apply Wz 5 rfl Yaa rfl Vm Xa;(exact Yaj);exact rfl))
   all_goals ((apply Un 6 rfl Yaa rfl Yaa Vm Xa;(exact Yag);exact rfl))
   all_goals ((apply Wz 7 rfl Yaa rfl Vm Xa;(exact Yad);exact rfl))
   all_goals ((apply Xr 8;exact Yaa;exact rfl;exact Xa;exact (fun _ _ h=>h);(apply Xt;refine Xq (k:=1) (hH:=Ybq) rfl rfl rfl ?_)))
   all_goals ((apply Wz 9 rfl Yaa rfl Vm Xa;(exact Yad);exact rfl))
   all_goals ((apply Xr 10;exact Yaa;exact rfl;exact Xa;exact (fun _ _ h=>h);(apply Xt;refine Xq (k:=1) (hH:=Ybq) rfl rfl rfl ?_)))
   all_goals (refine X3 Yaa ?_)
   all_goals ((repeat' (first|refine Xf ?_|refine Xb ?_|refine Xd ?_|(apply Xk;(first|exact Xe rfl|(apply Vu;first|exact Vr (k:=0) rfl rfl rfl rfl|exact Vl (k:=1) rfl rfl rfl)|exact Yad|(apply Rm;exact Xil rfl rfl rfl)|exact Yam);exact rfl)|refine Xz ?_|(apply Xi;exact rfl;(apply Xt;first|refine Xq (k:=0) (l0:=[]) rfl rfl rfl ?_|refine Xq (k:=1) (l0:=[]) rfl rfl rfl ?_)))))
   all_goals (try (exfalso;first|contradiction|omega))
   exact ⟨.inr rfl,Xer (Vk rfl (.cella (k:=1) rfl rfl rfl rfl inferInstance rfl) Ya3 ⟨rfl,rfl⟩) (Ims.agg (Xj9 _ _ _ _)) ⟨1,_,_,hres.symm,rfl,rfl⟩⟩
theorem Xf1 (n:Nat) (hn:n≤16) (b:Nat) (ts:List TokD) (en:Nat) (qs:List SP) (hts:ts.length≤70000) (h0:Sx.isName ts=false) (h1:isT wBonus ts=true):FnP Tryz.prog 227 [ex (.pointer (some ⟨b,0,none⟩)),exI .i64 ((16-n:Nat):Int)] [Ug b ts en qs] (fun p loc=> ∃(k:Nat) (x:Ex) (r:List TokD),facN n ts= .ok (x,r)∧p=agg (exV k x)∧loc=[Ug b r en qs]) (fun ch loc=> ∃e,facN n ts= .error e∧Ua en e ch loc):=by
 have hnm:=Vw b ts en qs
 rw [h0] at hnm
 have htb:=Wv b ts en qs wBonus
 rw [h1] at htb
 rw [if_pos rfl] at htb
 have hres:facN n ts= .ok (.mk 3 [] 0 0 [],ts.tail):=by
   have hf:facN n ts=bnd (want wBonus) (fun _=>ret (.mk 3 [] 0 0 [])) ts:=by
     cases n
     · show Vp false _ ts=_
       unfold Vp;rw [if_neg Ycb,if_pos h1]
     · show Vp true _ ts=_
       unfold Vp;rw [if_neg Ycb,if_pos h1]
   exact hf.trans (We (Tn h1))
 rw [hres]
 replace hres:(Except.ok (.mk 3 [] 0 0 [],ts.tail):Res Ex)= .ok (.mk 3 [] 0 0 [],ts.tail):=rfl
 refine Ww Tryz.func227 rfl Tryz.ntmps227 rfl fun w0 F0 out=>?_
 (repeat' (first|refine Xf ?_|refine Xb ?_|refine Xd ?_|(apply Xk;(first|exact Xe rfl|exact Xj rfl|exact Ybg|exact Yad);exact rfl)|refine Xp ?_|refine Xz ?_|refine Xx rfl ?_|refine X2 rfl ?_|(apply Xi;exact rfl;first|(apply Xn;first|(refine Xl (.one 1 rfl .nil) Tryz.func183 rfl hnm rfl ?_;rintro _ _ ⟨rfl,rfl⟩)|(refine Xl (.one 0 rfl .nil) Tryz.func155 rfl htb rfl ?_;rintro _ _ ⟨rfl,rfl⟩))|(apply Wh;refine X7 ?_;intro _)|(apply Xt;refine Xq (k:=1) (l0:=[]) rfl rfl rfl ?_))))
 all_goals (try (exfalso;first|contradiction|omega))
 exact ⟨.inr rfl,Xer (Vk rfl (.cella (k:=1) rfl rfl rfl rfl inferInstance rfl) Ya3 ⟨rfl,rfl⟩) (Ims.agg (Xj9 _ _ _ _)) ⟨1,_,_,hres.symm,rfl,rfl⟩⟩
theorem Xf2 (n:Nat) (hn:n≤16) (b:Nat) (ts:List TokD) (en:Nat) (qs:List SP) (hts:ts.length≤70000) (h0:Sx.isName ts=false) (h1:isT wBonus ts=false) (h2:isT wMalus ts=true):FnP Tryz.prog 227 [ex (.pointer (some ⟨b,0,none⟩)),exI .i64 ((16-n:Nat):Int)] [Ug b ts en qs] (fun p loc=> ∃(k:Nat) (x:Ex) (r:List TokD),facN n ts= .ok (x,r)∧p=agg (exV k x)∧loc=[Ug b r en qs]) (fun ch loc=> ∃e,facN n ts= .error e∧Ua en e ch loc):=by
 have hnm:=Vw b ts en qs
 rw [h0] at hnm
 have htb:=Wv b ts en qs wBonus
 rw [h1] at htb
 rw [if_neg Ybn] at htb
 have htm:=Wv b ts en qs wMalus
 rw [h2] at htm
 rw [if_pos rfl] at htm
 have hres:facN n ts= .ok (.mk 4 [] 0 0 [],ts.tail):=by
   have hf:facN n ts=bnd (want wMalus) (fun _=>ret (.mk 4 [] 0 0 [])) ts:=by
     cases n
     · show Vp false _ ts=_
       unfold Vp;rw [if_neg Ycb,if_neg Ycg,if_pos h2]
     · show Vp true _ ts=_
       unfold Vp;rw [if_neg Ycb,if_neg Ycg,if_pos h2]
   exact hf.trans (We (Tn h2))
 rw [hres]
 replace hres:(Except.ok (.mk 4 [] 0 0 [],ts.tail):Res Ex)= .ok (.mk 4 [] 0 0 [],ts.tail):=rfl
 refine Ww Tryz.func227 rfl Tryz.ntmps227 rfl fun w0 F0 out=>?_
 (repeat' (first|refine Xf ?_|refine Xb ?_|refine Xd ?_|(apply Xk;(first|exact Xe rfl|exact Xj rfl|exact Ybg|exact Yad);exact rfl)|refine Xp ?_|refine Xz ?_|refine Xx rfl ?_|refine X2 rfl ?_|(apply Xi;exact rfl;first|(apply Xn;first|(refine Xl (.one 1 rfl .nil) Tryz.func183 rfl hnm rfl ?_;rintro _ _ ⟨rfl,rfl⟩)|(refine Xl (.one 0 rfl .nil) Tryz.func155 rfl htb rfl ?_;rintro _ _ ⟨rfl,rfl⟩)|(refine Xl (.one 0 rfl .nil) Tryz.func155 rfl htm rfl ?_;rintro _ _ ⟨rfl,rfl⟩))|(apply Wh;refine X7 ?_;intro _)|(apply Xt;refine Xq (k:=1) (l0:=[]) rfl rfl rfl ?_))))
 all_goals (try (exfalso;first|contradiction|omega))
 exact ⟨.inr rfl,Xer (Vk rfl (.cella (k:=1) rfl rfl rfl rfl inferInstance rfl) Ya3 ⟨rfl,rfl⟩) (Ims.agg (Xj9 _ _ _ _)) ⟨1,_,_,hres.symm,rfl,rfl⟩⟩
theorem Xf3 (n:Nat) (hn:n≤16) (b:Nat) (ts:List TokD) (en:Nat) (qs:List SP) (hts:ts.length≤70000) (h0:Sx.isName ts=false) (h1:isT wBonus ts=false) (h2:isT wMalus ts=false) (h3:isT wRound ts=true):FnP Tryz.prog 227 [ex (.pointer (some ⟨b,0,none⟩)),exI .i64 ((16-n:Nat):Int)] [Ug b ts en qs] (fun p loc=> ∃(k:Nat) (x:Ex) (r:List TokD),facN n ts= .ok (x,r)∧p=agg (exV k x)∧loc=[Ug b r en qs]) (fun ch loc=> ∃e,facN n ts= .error e∧Ua en e ch loc):=by
 have hnm:=Vw b ts en qs
 rw [h0] at hnm
 have htb:=Wv b ts en qs wBonus
 rw [h1] at htb
 rw [if_neg Ybn] at htb
 have htm:=Wv b ts en qs wMalus
 rw [h2] at htm
 rw [if_neg Ybn] at htm
 have hir:=W4 b ts en qs wRound
 rw [h3] at hir
 have hf:facN n ts=bnd (Rl wRound) (fun nm=>ret (.mk 5 nm 0 0 [])) ts:=by
   cases n
   · show Vp false _ ts=_
     unfold Vp;rw [if_neg Ycb,if_neg Ycg,if_neg Yc0,if_pos h3]
   · show Vp true _ ts=_
     unfold Vp;rw [if_neg Ycb,if_neg Ycg,if_neg Yc0,if_pos h3]
 rw [hf]
 generalize hres:bnd (Rl wRound) (fun nm=>ret (Ex.mk 5 nm 0 0 [])) ts=res
 have k1:=To b ts en qs wRound
 refine Ww Tryz.func227 rfl Tryz.ntmps227 rfl fun w0 F0 out=>?_
 (repeat' (first|(apply Xy 51;refine X6 (.one 0 rfl .nil) Tryz.func145 rfl k1 rfl ?_ ?_)|refine Xf ?_|refine Xb ?_|refine Xd ?_|(apply Xk;exact Ya0;exact rfl)|refine Xp ?_|refine Xx rfl ?_|refine X2 rfl ?_|(apply Xi;exact rfl;first|(apply Xn;first|(refine Xl (.one 1 rfl .nil) Tryz.func183 rfl hnm rfl ?_;rintro _ _ ⟨rfl,rfl⟩)|(refine Xl (.one 0 rfl .nil) Tryz.func155 rfl htb rfl ?_;rintro _ _ ⟨rfl,rfl⟩)|(refine Xl (.one 0 rfl .nil) Tryz.func155 rfl htm rfl ?_;rintro _ _ ⟨rfl,rfl⟩)|(refine Xl (.one 0 rfl .nil) Tryz.func184 rfl hir rfl ?_;rintro _ _ ⟨rfl,rfl⟩))|(apply Wh;refine X7 ?_;intro _))))
 all_goals (try (exfalso;first|contradiction|omega))
 rotate_left
 · rintro ch loc ⟨e,g1,rfl,rfl⟩;((repeat (first|(with_reducible refine Wd ?_)|(with_reducible refine Wn ?_)));refine Xv (loc':=[]) (List.nil_sublist _) ?_);exact ⟨e,hres.symm.trans (Xw g1),rfl,rfl⟩
 rintro _ loc ⟨nm,t1,g1,rfl,rfl⟩
 rw [We g1] at hres
 (repeat' (first|refine Xf ?_|refine Xb ?_|refine Xd ?_|(apply Xk;(first|exact Ybg|exact Yad);exact rfl)|refine Xz ?_|(apply Xi;exact rfl;(apply Xt;refine Xq (k:=1) (l0:=[]) rfl rfl rfl ?_))))
 exact ⟨.inr rfl,Xer (Vk rfl (.cella (k:=1) rfl rfl rfl rfl inferInstance rfl) Ya3 ⟨rfl,rfl⟩) (Ims.agg (Xj9 _ _ _ _)) ⟨1,_,_,hres.symm,rfl,rfl⟩⟩
end Go.Proofs.YthdldeenpgeemaaGreatDoor
namespace Go.Proofs.YthdldeenpgeemaaGreatDoor
open Go Go.RowKit Go.Kx Go.Fr Go.Lx Go.Sx
theorem Xex (b:Nat) (ts:List TokD) (en:Nat) (qs:List SP) (hts:ts.length≤70000) (h0:Sx.isName ts=false) (h1:isT wBonus ts=false) (h2:isT wMalus ts=false) (h3:isT wRound ts=false) (h4:isT wLeast ts=true):FnP Tryz.prog 227 [ex (.pointer (some ⟨b,0,none⟩)),exI .i64 16] [Ug b ts en qs] (fun p loc=> ∃(k:Nat) (x:Ex) (r:List TokD),facN 0 ts= .ok (x,r)∧p=agg (exV k x)∧loc=[Ug b r en qs]) (fun ch loc=> ∃e,facN 0 ts= .error e∧Ua en e ch loc):=by
 have hnm:=Vw b ts en qs
 rw [h0] at hnm
 have htb:=Wv b ts en qs wBonus
 rw [h1] at htb
 rw [if_neg Ybn] at htb
 have htm:=Wv b ts en qs wMalus
 rw [h2] at htm
 rw [if_neg Ybn] at htm
 have hir:=W4 b ts en qs wRound
 rw [h3] at hir
 have hil:=W4 b ts en qs wLeast
 rw [h4] at hil
 have hf:facN 0 ts= .error ts:=by
   show Vp false _ ts=_
   unfold Vp;rw [if_neg Ycb,if_neg Ycg,if_neg Yc0,if_neg Yde,if_pos h4];rfl
 have k1:=Sf b ts en qs
 refine Ww Tryz.func227 rfl Tryz.ntmps227 rfl fun w0 F0 out=>?_
 (repeat' (first|(apply Xy 61;refine X6 (.one 0 rfl .nil) Tryz.func228 rfl k1 rfl ?_ ?_)|refine Xf ?_|refine Xb ?_|refine Xd ?_|(apply Xk;exact Ya0;exact rfl)|refine Xp ?_|refine Xs ?_|refine Xx rfl ?_|refine X2 rfl ?_|(apply Xi;exact rfl;first|(apply Xn;first|(refine Xl (.one 1 rfl .nil) Tryz.func183 rfl hnm rfl ?_;rintro _ _ ⟨rfl,rfl⟩)|(refine Xl (.one 0 rfl .nil) Tryz.func155 rfl htb rfl ?_;rintro _ _ ⟨rfl,rfl⟩)|(refine Xl (.one 0 rfl .nil) Tryz.func155 rfl htm rfl ?_;rintro _ _ ⟨rfl,rfl⟩)|(refine Xl (.one 0 rfl .nil) Tryz.func184 rfl hir rfl ?_;rintro _ _ ⟨rfl,rfl⟩)|(refine Xl (.one 0 rfl .nil) Tryz.func184 rfl hil rfl ?_;rintro _ _ ⟨rfl,rfl⟩))|(apply Wh;refine X7 ?_;intro _))))
 all_goals (try (exfalso;first|contradiction|omega))
 · rintro _ _ h;exact h.elim
 · rintro ch loc ⟨rfl,rfl⟩;((repeat (first|(with_reducible refine Wd ?_)|(with_reducible refine Wn ?_)));refine Xv (loc':=[]) (List.nil_sublist _) ?_);exact ⟨ts,hf,rfl,rfl⟩
theorem Xey (n:Nat) (hn:n+1≤16) (b:Nat) (ts:List TokD) (en:Nat) (qs:List SP) (hts:ts.length≤70000) (h0:Sx.isName ts=false) (h1:isT wBonus ts=false) (h2:isT wMalus ts=false) (h3:isT wRound ts=false) (h4:isT wLeast ts=true) (hx:Xbr 189 T4 n):FnP Tryz.prog 227 [ex (.pointer (some ⟨b,0,none⟩)),exI .i64 ((16-(n+1):Nat):Int)] [Ug b ts en qs] (fun p loc=> ∃(k:Nat) (x:Ex) (r:List TokD),facN (n+1) ts= .ok (x,r)∧p=agg (exV k x)∧loc=[Ug b r en qs]) (fun ch loc=> ∃e,facN (n+1) ts= .error e∧Ua en e ch loc):=by
 have hnm:=Vw b ts en qs
 rw [h0] at hnm
 have htb:=Wv b ts en qs wBonus
 rw [h1] at htb
 rw [if_neg Ybn] at htb
 have htm:=Wv b ts en qs wMalus
 rw [h2] at htm
 rw [if_neg Ybn] at htm
 have hir:=W4 b ts en qs wRound
 rw [h3] at hir
 have hil:=W4 b ts en qs wLeast
 rw [h4] at hil
 have hf:facN (n+1) ts=Xcg (T4 n) 9 ts.tail:=by
   show Vp true _ ts=_
   unfold Vp;rw [if_neg Ycb,if_neg Ycg,if_neg Yc0,if_neg Yde,if_pos h4]
   exact We (Tn h4)
 rw [hf]
 generalize hres:Xcg (T4 n) 9 ts.tail=res
 unfold Xcg at hres
 have htl:ts.tail.length≤ts.length:=by rw [List.length_tail];omega
 have k1:=Ty b ts en qs n hn
 have g0:oneP [wLeast,wGreatest] 0 ts= .ok (1,ts.tail):=by rw [oneP,if_pos h4]
 have k2:=Qi b ts en qs [wLeast,wGreatest] Yar
 rw [g0] at k2
 have k3:=Vn b ts.tail en qs sOpen
 refine Ww Tryz.func227 rfl Tryz.ntmps227 rfl fun w0 F0 out=>?_
 (repeat' (first|(apply Xy 65;refine Wj (k:=0) (E:=eStr) (t:=64) [wLeast,wGreatest] rfl rfl rfl rfl ?_ (hc:=by decide) (hby:=by decide);refine Wj (k:=0) (E:=eI) (t:=62) [9,10] rfl rfl rfl rfl ?_ (hc:=by decide) (hby:=by decide);refine X6 (.one 0 rfl .nil) Tryz.func185 rfl k2 rfl ?_ ?_)|refine Xf ?_|refine Xb ?_|refine Xd ?_|(apply Xk;exact Ya0;exact rfl)|refine Xp ?_|refine Xs ?_|refine Xx rfl ?_|refine X2 rfl ?_|(apply Xi;exact rfl;first|(apply Xn;first|(refine Xl (.one 1 rfl .nil) Tryz.func183 rfl hnm rfl ?_;rintro _ _ ⟨rfl,rfl⟩)|(refine Xl (.one 0 rfl .nil) Tryz.func155 rfl htb rfl ?_;rintro _ _ ⟨rfl,rfl⟩)|(refine Xl (.one 0 rfl .nil) Tryz.func155 rfl htm rfl ?_;rintro _ _ ⟨rfl,rfl⟩)|(refine Xl (.one 0 rfl .nil) Tryz.func184 rfl hir rfl ?_;rintro _ _ ⟨rfl,rfl⟩)|(refine Xl (.one 0 rfl .nil) Tryz.func184 rfl hil rfl ?_;rintro _ _ ⟨rfl,rfl⟩)|(refine Xl (.one 0 rfl .nil) Tryz.func228 rfl k1 rfl ?_;rintro _ _ ⟨rfl,rfl⟩))|(apply Wh;refine X7 ?_;intro _)|(apply X5;(refine Wq rfl Yac ?_);intro _))))
 all_goals (try (exfalso;first|contradiction|omega))
 rotate_left
 · rintro ch loc ⟨e,g1,_⟩;cases g1
 rintro _ loc ⟨i,t1,g1,rfl,rfl⟩
 injection g1 with g1;injection g1 with g1 g2;subst g1 g2
 rename_i b4 _ _
 (repeat' (first|(apply Xy 71;refine X6 (.one 0 rfl .nil) Tryz.func146 rfl k3 rfl ?_ ?_)|refine Xf ?_|refine Xb ?_|refine Xd ?_|(apply Xk;exact Yd0;exact rfl)|(apply Xi;exact rfl;(apply Xt;refine Xq (k:=1) (l0:=[]) rfl rfl rfl ?_))))
 rotate_left
 · rintro ch loc ⟨e,g1,rfl,rfl⟩;((repeat (first|(with_reducible refine Wd ?_)|(with_reducible refine Wn ?_)));refine Xv (loc':=[]) (List.nil_sublist _) ?_);exact ⟨e,hres.symm.trans (Xw g1),rfl,rfl⟩
 rintro _ loc ⟨t1,g1,rfl⟩
 have hl1:=(W8 (Q:=TT) (Ra sOpen)).len g1
 rw [We g1] at hres
 have k4:=hx b t1 en qs Yan
 (repeat' (first|(apply W2 20;refine Stop.out ?_)|refine Xf ?_|refine Xd ?_))
 refine ⟨?_⟩
 refine Q5 (K:=Xap en res) (fun ch env loc ⟨e,h1,h2⟩=>?_) ?_
 · ((repeat (first|(with_reducible refine Wd ?_)|(with_reducible refine Wn ?_)));refine Xv (loc':=[]) (List.nil_sublist _) ?_)
   exact ⟨e,h1,h2,rfl⟩
 refine Wf (env':=[(0,ex (.pointer (some ⟨b,0,none⟩))),(1,exI .i64 ((16-n:Nat):Int)),(4,ex (.pointer (some ⟨b4,0,none⟩)))]) (loc':=[Ug b t1 en qs,row b4 52 5 [exI .i64 9,exT [],exI .i64 0,exI .i64 0,ex (.slice none 0 0)]]) (Xg (by repeat (first|exact Xm|refine Xh rfl ?_)) (List.Sublist.refl _)) ?_
 (refine Ue ([row b4 52 5 [exI .i64 9,exT [],exI .i64 0,exI .i64 0,ex (.slice none 0 0)]]) 8 rfl ?_)
 all_goals ((apply Wz 0 rfl Yaa rfl Vm Xa;(exact Yad);exact rfl))
 all_goals ((apply Un 1 rfl Yaa rfl Yaa Vm Xa;(exact Ya1);exact rfl))
 all_goals ((apply Wz 2 rfl Yaa rfl Vm Xa;(exact Xe rfl);exact rfl))
 all_goals ((apply Wz 3 rfl Yaa rfl Vm Xa;(exact Xe rfl);exact rfl))
 all_goals ((apply T1 4;exact Yaa;exact rfl;exact Xa;exact (fun _ _ h=>h);(refine U3 (.one 0 rfl .nil) Tryz.func189 rfl k4 Ya3 rfl ?_ ?_;rotate_left;(rintro ch loc ⟨e,g2,rfl,rfl⟩;exact ⟨e,hres.symm.trans (Xw g2),rfl⟩);rintro _ loc ⟨kx,x,t2,g2,rfl,rfl⟩;rw [We g2] at hres)))
 all_goals ((apply Xr 5;exact Yaa;exact rfl;exact Xa;exact (fun _ _ h=>h);(apply X5;(refine Wb rfl rfl ?_);intro _)))
 all_goals ((apply Xr 6;exact Yaa;exact rfl;exact Xa;exact (fun _ _ h=>h);(apply V4;((refine Xat (hH:=Ybs) rfl Yb4 rfl ?_));intro _)))
 all_goals ((apply Wz 7 rfl Yaa rfl Vm Xa;(exact Yad);exact rfl))
 all_goals ((apply Xr 8;exact Yaa;exact rfl;exact Xa;exact (fun h=>absurd h Yar);(apply Xt;refine Xfx (H:=U6 []) (k:=0) rfl ?_;intro _ _ hv;subst hv;refine Xq (k:=3) (hH:=Ycr) rfl rfl rfl ?_)))
 all_goals (refine X3 Yaa ?_)
 rename_i b77 oa c
 have hl2:=(Xcn n).len g2
 have k5:=Vn b t2 en qs sComma
 (repeat' (first|(apply Xy 81;refine X6 (.one 2 rfl .nil) Tryz.func146 rfl k5 rfl ?_ ?_)|refine Xf ?_|refine Xb ?_|(apply Xk;(exact Xe rfl);exact rfl)))
 rotate_left
 · rintro ch loc ⟨e,g3,rfl,rfl⟩;((repeat (first|(with_reducible refine Wd ?_)|(with_reducible refine Wn ?_)));refine Xv (loc':=[]) (List.nil_sublist _) ?_);exact ⟨e,hres.symm.trans (Xw g3),rfl,rfl⟩
 rintro _ loc ⟨t3,g3,rfl⟩
 have hl3:=(W8 (Q:=TT) (Ra sComma)).len g3
 rw [We g3] at hres
 have k6:=hx b t3 en qs Yan
 (repeat' (first|(apply W2 22;refine Stop.out ?_)|refine Xf ?_|refine Xd ?_))
 refine ⟨?_⟩
 refine Q5 (K:=Xap en res) (fun ch env loc ⟨e,h1,h2⟩=>?_) ?_
 · ((repeat (first|(with_reducible refine Wd ?_)|(with_reducible refine Wn ?_)));refine Xv (loc':=[]) (List.nil_sublist _) ?_)
   exact ⟨e,h1,h2,rfl⟩
 refine Wf (env':=[(0,ex (.pointer (some ⟨b,0,none⟩))),(1,exI .i64 ((16-n:Nat):Int)),(4,ex (.pointer (some ⟨b4,0,none⟩)))]) (loc':=[Ug b t3 en qs,vec (.slice oa 1 c) 52 5 1 (exV kx x),row b4 52 5 [exI .i64 9,exT [],exI .i64 0,exI .i64 0,ex (.slice oa 1 c)]]) (Xg (by repeat (first|exact Xm|refine Xh rfl ?_)) (by exact .cons_cons _ (.cons_cons _ (.cons _ (.refl _))))) ?_
 (refine Ue ([row b4 52 5 [exI .i64 9,exT [],exI .i64 0,exI .i64 0,ex (.slice oa 1 c)]]) 8 rfl ?_)
 all_goals ((apply Wz 0 rfl Yaa rfl Vm Xa;(exact Yad);exact rfl))
 all_goals ((apply Un 1 rfl Yaa rfl Yaa Vm Xa;(exact Yb3);exact rfl))
 all_goals ((apply Wz 2 rfl Yaa rfl Vm Xa;(exact Xe rfl);exact rfl))
 all_goals ((apply Wz 3 rfl Yaa rfl Vm Xa;(exact Xe rfl);exact rfl))
 all_goals ((apply T1 4;exact Yaa;exact rfl;exact Xa;exact (fun _ _ h=>h);(refine U3 (.one 0 rfl .nil) Tryz.func189 rfl k6 Yec rfl ?_ ?_;rotate_left;(rintro ch loc ⟨e,g4,rfl,rfl⟩;exact ⟨e,hres.symm.trans (Xw g4),rfl⟩);rintro _ loc ⟨ky,y,t4,g4,rfl,rfl⟩;rw [We g4] at hres)))
 all_goals ((apply Xr 5;exact Yaa;exact rfl;exact Xa;exact (fun _ _ h=>h);(apply X5;(refine Wb rfl rfl ?_);intro _)))
 all_goals ((apply Xr 6;exact Yaa;exact rfl;exact Xa;exact (fun _ _ h=>h);(apply V4;((refine V5 (k:=2) (hH:=Ybs) rfl rfl Yb4 rfl ?_));intro _)))
 all_goals ((apply Wz 7 rfl Yaa rfl Vm Xa;(exact Yad);exact rfl))
 all_goals ((apply Xr 8;exact Yaa;exact rfl;exact Xa;exact (fun h=>absurd h Yar);(apply Xt;refine Xfx (H:=U6 []) (k:=2) rfl ?_;intro _ _ hv;subst hv;refine Xq (k:=3) (hH:=Ycr) rfl rfl rfl ?_)))
 all_goals (refine X3 Yaa ?_)
 rename_i b87 oa2 c2
 have k7:=Vn b t4 en qs sClose
 (repeat' (first|(apply Xy 91;refine X6 (.one 1 rfl .nil) Tryz.func146 rfl k7 rfl ?_ ?_)|refine Xb ?_|(apply Xk;(exact Xe rfl);exact rfl)))
 rotate_left
 · rintro ch loc ⟨e,g5,rfl,rfl⟩;((repeat (first|(with_reducible refine Wd ?_)|(with_reducible refine Wn ?_)));refine Xv (loc':=[]) (List.nil_sublist _) ?_);exact ⟨e,hres.symm.trans (Xw g5),rfl,rfl⟩
 rintro _ loc ⟨t5,g5,rfl⟩
 rw [We g5] at hres
 (repeat' (first|(apply Vs 34;refine Stop.out ?_)|refine Xd ?_))
 refine ⟨Wf (Leads.trans (Rf (k:=2) (ps:=exV kx x++exV ky y) rfl (Qh (Xab (Nat.le_max_left kx ky) x) (Xab (Nat.le_max_right kx ky) y))) (Vo (j:=2) (k:=2) (i:=4) (E:=eEx (max kx ky)) [x,y] rfl rfl rfl rfl rfl rfl (hby:=by show 2 * 64≤_;decide))) ?_⟩
 (repeat' (first|refine Xf ?_|refine Xb ?_|refine Xd ?_|(apply Xk;(exact Yc6);exact rfl)|refine Xz ?_|(apply Xi;exact rfl;(apply Xt;refine Xq (k:=2) (l0:=[]) rfl rfl rfl ?_))))
 exact ⟨.inr rfl,Vk rfl (.cella (k:=2) rfl rfl rfl rfl inferInstance rfl) Ya3 ⟨max kx ky+1,_,_,hres.symm,rfl,rfl⟩⟩
theorem Xce (b:Nat) (ts:List TokD) (en:Nat) (qs:List SP) (hts:ts.length≤70000) (h0:Sx.isName ts=false) (h1:isT wBonus ts=false) (h2:isT wMalus ts=false) (h3:isT wRound ts=false) (h4:isT wLeast ts=false) (h5:isT wGreatest ts=true):FnP Tryz.prog 227 [ex (.pointer (some ⟨b,0,none⟩)),exI .i64 16] [Ug b ts en qs] (fun p loc=> ∃(k:Nat) (x:Ex) (r:List TokD),facN 0 ts= .ok (x,r)∧p=agg (exV k x)∧loc=[Ug b r en qs]) (fun ch loc=> ∃e,facN 0 ts= .error e∧Ua en e ch loc):=by
 have hnm:=Vw b ts en qs
 rw [h0] at hnm
 have htb:=Wv b ts en qs wBonus
 rw [h1] at htb
 rw [if_neg Ybn] at htb
 have htm:=Wv b ts en qs wMalus
 rw [h2] at htm
 rw [if_neg Ybn] at htm
 have hir:=W4 b ts en qs wRound
 rw [h3] at hir
 have hil:=W4 b ts en qs wLeast
 rw [h4] at hil
 have hig:=W4 b ts en qs wGreatest
 rw [h5] at hig
 have hf:facN 0 ts= .error ts:=by
   show Vp false _ ts=_
   unfold Vp;rw [if_neg Ycb,if_neg Ycg,if_neg Yc0,if_neg Yde,if_neg Ydq,if_pos h5];rfl
 have k1:=Sf b ts en qs
 refine Ww Tryz.func227 rfl Tryz.ntmps227 rfl fun w0 F0 out=>?_
 (repeat' (first|(apply Xy 61;refine X6 (.one 0 rfl .nil) Tryz.func228 rfl k1 rfl ?_ ?_)|refine Xf ?_|refine Xb ?_|refine Xd ?_|(apply Xk;exact Ya0;exact rfl)|refine Xp ?_|refine Xx rfl ?_|refine X2 rfl ?_|(apply Xi;exact rfl;first|(apply Xn;first|(refine Xl (.one 1 rfl .nil) Tryz.func183 rfl hnm rfl ?_;rintro _ _ ⟨rfl,rfl⟩)|(refine Xl (.one 0 rfl .nil) Tryz.func155 rfl htb rfl ?_;rintro _ _ ⟨rfl,rfl⟩)|(refine Xl (.one 0 rfl .nil) Tryz.func155 rfl htm rfl ?_;rintro _ _ ⟨rfl,rfl⟩)|(refine Xl (.one 0 rfl .nil) Tryz.func184 rfl hir rfl ?_;rintro _ _ ⟨rfl,rfl⟩)|(refine Xl (.one 0 rfl .nil) Tryz.func184 rfl hil rfl ?_;rintro _ _ ⟨rfl,rfl⟩)|(refine Xl (.one 0 rfl .nil) Tryz.func184 rfl hig rfl ?_;rintro _ _ ⟨rfl,rfl⟩))|(apply Wh;refine X7 ?_;intro _))))
 all_goals (try (exfalso;first|contradiction|omega))
 · rintro _ _ h;exact h.elim
 · rintro ch loc ⟨rfl,rfl⟩;((repeat (first|(with_reducible refine Wd ?_)|(with_reducible refine Wn ?_)));refine Xv (loc':=[]) (List.nil_sublist _) ?_);exact ⟨ts,hf,rfl,rfl⟩
theorem Xcf (n:Nat) (hn:n+1≤16) (b:Nat) (ts:List TokD) (en:Nat) (qs:List SP) (hts:ts.length≤70000) (h0:Sx.isName ts=false) (h1:isT wBonus ts=false) (h2:isT wMalus ts=false) (h3:isT wRound ts=false) (h4:isT wLeast ts=false) (h5:isT wGreatest ts=true) (hx:Xbr 189 T4 n):FnP Tryz.prog 227 [ex (.pointer (some ⟨b,0,none⟩)),exI .i64 ((16-(n+1):Nat):Int)] [Ug b ts en qs] (fun p loc=> ∃(k:Nat) (x:Ex) (r:List TokD),facN (n+1) ts= .ok (x,r)∧p=agg (exV k x)∧loc=[Ug b r en qs]) (fun ch loc=> ∃e,facN (n+1) ts= .error e∧Ua en e ch loc):=by
 have hnm:=Vw b ts en qs
 rw [h0] at hnm
 have htb:=Wv b ts en qs wBonus
 rw [h1] at htb
 rw [if_neg Ybn] at htb
 have htm:=Wv b ts en qs wMalus
 rw [h2] at htm
 rw [if_neg Ybn] at htm
 have hir:=W4 b ts en qs wRound
 rw [h3] at hir
 have hil:=W4 b ts en qs wLeast
 rw [h4] at hil
 have hig:=W4 b ts en qs wGreatest
 rw [h5] at hig
 have hf:facN (n+1) ts=Xcg (T4 n) 10 ts.tail:=by
   show Vp true _ ts=_
   unfold Vp;rw [if_neg Ycb,if_neg Ycg,if_neg Yc0,if_neg Yde,if_neg Ydq,if_pos h5]
   exact We (Tn h5)
 rw [hf]
 generalize hres:Xcg (T4 n) 10 ts.tail=res
 unfold Xcg at hres
 have htl:ts.tail.length≤ts.length:=by rw [List.length_tail];omega
 have k1:=Ty b ts en qs n hn
 have g0:oneP [wLeast,wGreatest] 0 ts= .ok (2,ts.tail):=by rw [oneP,if_neg Ydq,oneP,if_pos h5]
 have k2:=Qi b ts en qs [wLeast,wGreatest] Yar
 rw [g0] at k2
 have k3:=Vn b ts.tail en qs sOpen
 refine Ww Tryz.func227 rfl Tryz.ntmps227 rfl fun w0 F0 out=>?_
 (repeat' (first|(apply Xy 65;refine Wj (k:=0) (E:=eStr) (t:=64) [wLeast,wGreatest] rfl rfl rfl rfl ?_ (hc:=by decide) (hby:=by decide);refine Wj (k:=0) (E:=eI) (t:=62) [9,10] rfl rfl rfl rfl ?_ (hc:=by decide) (hby:=by decide);refine X6 (.one 0 rfl .nil) Tryz.func185 rfl k2 rfl ?_ ?_)|refine Xf ?_|refine Xb ?_|refine Xd ?_|(apply Xk;exact Ya0;exact rfl)|refine Xp ?_|refine Xx rfl ?_|refine X2 rfl ?_|(apply Xi;exact rfl;first|(apply Xn;first|(refine Xl (.one 1 rfl .nil) Tryz.func183 rfl hnm rfl ?_;rintro _ _ ⟨rfl,rfl⟩)|(refine Xl (.one 0 rfl .nil) Tryz.func155 rfl htb rfl ?_;rintro _ _ ⟨rfl,rfl⟩)|(refine Xl (.one 0 rfl .nil) Tryz.func155 rfl htm rfl ?_;rintro _ _ ⟨rfl,rfl⟩)|(refine Xl (.one 0 rfl .nil) Tryz.func184 rfl hir rfl ?_;rintro _ _ ⟨rfl,rfl⟩)|(refine Xl (.one 0 rfl .nil) Tryz.func184 rfl hil rfl ?_;rintro _ _ ⟨rfl,rfl⟩)|(refine Xl (.one 0 rfl .nil) Tryz.func184 rfl hig rfl ?_;rintro _ _ ⟨rfl,rfl⟩)|(refine Xl (.one 0 rfl .nil) Tryz.func228 rfl k1 rfl ?_;rintro _ _ ⟨rfl,rfl⟩))|(apply Wh;refine X7 ?_;intro _)|(apply X5;(refine Wq rfl Yac ?_);intro _))))
 all_goals (try (exfalso;first|contradiction|omega))
 rotate_left
 · rintro ch loc ⟨e,g1,_⟩;cases g1
 rintro _ loc ⟨i,t1,g1,rfl,rfl⟩
 injection g1 with g1;injection g1 with g1 g2;subst g1 g2
 rename_i b4 _ _
 (repeat' (first|(apply Xy 71;refine X6 (.one 0 rfl .nil) Tryz.func146 rfl k3 rfl ?_ ?_)|refine Xf ?_|refine Xb ?_|refine Xd ?_|(apply Xk;exact Yd0;exact rfl)|(apply Xi;exact rfl;(apply Xt;refine Xq (k:=1) (l0:=[]) rfl rfl rfl ?_))))
 rotate_left
 · rintro ch loc ⟨e,g1,rfl,rfl⟩;((repeat (first|(with_reducible refine Wd ?_)|(with_reducible refine Wn ?_)));refine Xv (loc':=[]) (List.nil_sublist _) ?_);exact ⟨e,hres.symm.trans (Xw g1),rfl,rfl⟩
 rintro _ loc ⟨t1,g1,rfl⟩
 have hl1:=(W8 (Q:=TT) (Ra sOpen)).len g1
 rw [We g1] at hres
 have k4:=hx b t1 en qs Yan
 (repeat' (first|(apply W2 20;refine Stop.out ?_)|refine Xf ?_|refine Xd ?_))
 refine ⟨?_⟩
 refine Q5 (K:=Xap en res) (fun ch env loc ⟨e,h1,h2⟩=>?_) ?_
 · ((repeat (first|(with_reducible refine Wd ?_)|(with_reducible refine Wn ?_)));refine Xv (loc':=[]) (List.nil_sublist _) ?_)
   exact ⟨e,h1,h2,rfl⟩
 refine Wf (env':=[(0,ex (.pointer (some ⟨b,0,none⟩))),(1,exI .i64 ((16-n:Nat):Int)),(4,ex (.pointer (some ⟨b4,0,none⟩)))]) (loc':=[Ug b t1 en qs,row b4 52 5 [exI .i64 10,exT [],exI .i64 0,exI .i64 0,ex (.slice none 0 0)]]) (Xg (by repeat (first|exact Xm|refine Xh rfl ?_)) (List.Sublist.refl _)) ?_
 (refine Ue ([row b4 52 5 [exI .i64 10,exT [],exI .i64 0,exI .i64 0,ex (.slice none 0 0)]]) 8 rfl ?_)
 all_goals ((apply Wz 0 rfl Yaa rfl Vm Xa;(exact Yad);exact rfl))
 all_goals ((apply Un 1 rfl Yaa rfl Yaa Vm Xa;(exact Ya1);exact rfl))
 all_goals ((apply Wz 2 rfl Yaa rfl Vm Xa;(exact Xe rfl);exact rfl))
 all_goals ((apply Wz 3 rfl Yaa rfl Vm Xa;(exact Xe rfl);exact rfl))
 all_goals ((apply T1 4;exact Yaa;exact rfl;exact Xa;exact (fun _ _ h=>h);(refine U3 (.one 0 rfl .nil) Tryz.func189 rfl k4 Ya3 rfl ?_ ?_;rotate_left;(rintro ch loc ⟨e,g2,rfl,rfl⟩;exact ⟨e,hres.symm.trans (Xw g2),rfl⟩);rintro _ loc ⟨kx,x,t2,g2,rfl,rfl⟩;rw [We g2] at hres)))
 all_goals ((apply Xr 5;exact Yaa;exact rfl;exact Xa;exact (fun _ _ h=>h);(apply X5;(refine Wb rfl rfl ?_);intro _)))
 all_goals ((apply Xr 6;exact Yaa;exact rfl;exact Xa;exact (fun _ _ h=>h);(apply V4;((refine Xat (hH:=Ybs) rfl Yb4 rfl ?_));intro _)))
 all_goals ((apply Wz 7 rfl Yaa rfl Vm Xa;(exact Yad);exact rfl))
 all_goals ((apply Xr 8;exact Yaa;exact rfl;exact Xa;exact (fun h=>absurd h Yar);(apply Xt;refine Xfx (H:=U6 []) (k:=0) rfl ?_;intro _ _ hv;subst hv;refine Xq (k:=3) (hH:=Ycr) rfl rfl rfl ?_)))
 all_goals (refine X3 Yaa ?_)
 rename_i b77 oa c
 have hl2:=(Xcn n).len g2
 have k5:=Vn b t2 en qs sComma
 (repeat' (first|(apply Xy 81;refine X6 (.one 2 rfl .nil) Tryz.func146 rfl k5 rfl ?_ ?_)|refine Xf ?_|refine Xb ?_|(apply Xk;(exact Xe rfl);exact rfl)))
 rotate_left
 · rintro ch loc ⟨e,g3,rfl,rfl⟩;((repeat (first|(with_reducible refine Wd ?_)|(with_reducible refine Wn ?_)));refine Xv (loc':=[]) (List.nil_sublist _) ?_);exact ⟨e,hres.symm.trans (Xw g3),rfl,rfl⟩
 rintro _ loc ⟨t3,g3,rfl⟩
 have hl3:=(W8 (Q:=TT) (Ra sComma)).len g3
 rw [We g3] at hres
 have k6:=hx b t3 en qs Yan
 (repeat' (first|(apply W2 22;refine Stop.out ?_)|refine Xf ?_|refine Xd ?_))
 refine ⟨?_⟩
 refine Q5 (K:=Xap en res) (fun ch env loc ⟨e,h1,h2⟩=>?_) ?_
 · ((repeat (first|(with_reducible refine Wd ?_)|(with_reducible refine Wn ?_)));refine Xv (loc':=[]) (List.nil_sublist _) ?_)
   exact ⟨e,h1,h2,rfl⟩
 refine Wf (env':=[(0,ex (.pointer (some ⟨b,0,none⟩))),(1,exI .i64 ((16-n:Nat):Int)),(4,ex (.pointer (some ⟨b4,0,none⟩)))]) (loc':=[Ug b t3 en qs,vec (.slice oa 1 c) 52 5 1 (exV kx x),row b4 52 5 [exI .i64 10,exT [],exI .i64 0,exI .i64 0,ex (.slice oa 1 c)]]) (Xg (by repeat (first|exact Xm|refine Xh rfl ?_)) (by exact .cons_cons _ (.cons_cons _ (.cons _ (.refl _))))) ?_
 (refine Ue ([row b4 52 5 [exI .i64 10,exT [],exI .i64 0,exI .i64 0,ex (.slice oa 1 c)]]) 8 rfl ?_)
 all_goals ((apply Wz 0 rfl Yaa rfl Vm Xa;(exact Yad);exact rfl))
 all_goals ((apply Un 1 rfl Yaa rfl Yaa Vm Xa;(exact Yb3);exact rfl))
 all_goals ((apply Wz 2 rfl Yaa rfl Vm Xa;(exact Xe rfl);exact rfl))
 all_goals ((apply Wz 3 rfl Yaa rfl Vm Xa;(exact Xe rfl);exact rfl))
 all_goals ((apply T1 4;exact Yaa;exact rfl;exact Xa;exact (fun _ _ h=>h);(refine U3 (.one 0 rfl .nil) Tryz.func189 rfl k6 Yec rfl ?_ ?_;rotate_left;(rintro ch loc ⟨e,g4,rfl,rfl⟩;exact ⟨e,hres.symm.trans (Xw g4),rfl⟩);rintro _ loc ⟨ky,y,t4,g4,rfl,rfl⟩;rw [We g4] at hres)))
 all_goals ((apply Xr 5;exact Yaa;exact rfl;exact Xa;exact (fun _ _ h=>h);(apply X5;(refine Wb rfl rfl ?_);intro _)))
 all_goals ((apply Xr 6;exact Yaa;exact rfl;exact Xa;exact (fun _ _ h=>h);(apply V4;((refine V5 (k:=2) (hH:=Ybs) rfl rfl Yb4 rfl ?_));intro _)))
 all_goals ((apply Wz 7 rfl Yaa rfl Vm Xa;(exact Yad);exact rfl))
 all_goals ((apply Xr 8;exact Yaa;exact rfl;exact Xa;exact (fun h=>absurd h Yar);(apply Xt;refine Xfx (H:=U6 []) (k:=2) rfl ?_;intro _ _ hv;subst hv;refine Xq (k:=3) (hH:=Ycr) rfl rfl rfl ?_)))
 all_goals (refine X3 Yaa ?_)
 rename_i b87 oa2 c2
 have k7:=Vn b t4 en qs sClose
 (repeat' (first|(apply Xy 91;refine X6 (.one 1 rfl .nil) Tryz.func146 rfl k7 rfl ?_ ?_)|refine Xb ?_|(apply Xk;(exact Xe rfl);exact rfl)))
 rotate_left
 · rintro ch loc ⟨e,g5,rfl,rfl⟩;((repeat (first|(with_reducible refine Wd ?_)|(with_reducible refine Wn ?_)));refine Xv (loc':=[]) (List.nil_sublist _) ?_);exact ⟨e,hres.symm.trans (Xw g5),rfl,rfl⟩
 rintro _ loc ⟨t5,g5,rfl⟩
 rw [We g5] at hres
 (repeat' (first|(apply Vs 34;refine Stop.out ?_)|refine Xd ?_))
 refine ⟨Wf (Leads.trans (Rf (k:=2) (ps:=exV kx x++exV ky y) rfl (Qh (Xab (Nat.le_max_left kx ky) x) (Xab (Nat.le_max_right kx ky) y))) (Vo (j:=2) (k:=2) (i:=4) (E:=eEx (max kx ky)) [x,y] rfl rfl rfl rfl rfl rfl (hby:=by show 2 * 64≤_;decide))) ?_⟩
 (repeat' (first|refine Xf ?_|refine Xb ?_|refine Xd ?_|(apply Xk;(exact Yc6);exact rfl)|refine Xz ?_|(apply Xi;exact rfl;(apply Xt;refine Xq (k:=2) (l0:=[]) rfl rfl rfl ?_))))
 exact ⟨.inr rfl,Vk rfl (.cella (k:=2) rfl rfl rfl rfl inferInstance rfl) Ya3 ⟨max kx ky+1,_,_,hres.symm,rfl,rfl⟩⟩
theorem Xez (b:Nat) (ts:List TokD) (en:Nat) (qs:List SP) (hts:ts.length≤70000) (h0:Sx.isName ts=false) (h1:isT wBonus ts=false) (h2:isT wMalus ts=false) (h3:isT wRound ts=false) (h4:isT wLeast ts=false) (h5:isT wGreatest ts=false) (h6:isT wIf ts=false) (h7:isT sOpen ts=true):FnP Tryz.prog 227 [ex (.pointer (some ⟨b,0,none⟩)),exI .i64 16] [Ug b ts en qs] (fun p loc=> ∃(k:Nat) (x:Ex) (r:List TokD),facN 0 ts= .ok (x,r)∧p=agg (exV k x)∧loc=[Ug b r en qs]) (fun ch loc=> ∃e,facN 0 ts= .error e∧Ua en e ch loc):=by
 have hnm:=Vw b ts en qs
 rw [h0] at hnm
 have htb:=Wv b ts en qs wBonus
 rw [h1] at htb
 rw [if_neg Ybn] at htb
 have htm:=Wv b ts en qs wMalus
 rw [h2] at htm
 rw [if_neg Ybn] at htm
 have hir:=W4 b ts en qs wRound
 rw [h3] at hir
 have hil:=W4 b ts en qs wLeast
 rw [h4] at hil
 have hig:=W4 b ts en qs wGreatest
 rw [h5] at hig
 have hii:=W4 b ts en qs wIf
 rw [h6] at hii
 have hio:=W4 b ts en qs sOpen
 rw [h7] at hio
 have hf:facN 0 ts= .error ts:=by
   show Vp false _ ts=_
   unfold Vp;rw [if_neg Ycb,if_neg Ycg,if_neg Yc0,if_neg Yde,if_neg Ydq,if_neg (by rw [h5];simp),if_neg (by rw [h6];simp),if_pos h7];rfl
 have k1:=Sf b ts en qs
 refine Ww Tryz.func227 rfl Tryz.ntmps227 rfl fun w0 F0 out=>?_
 (repeat' (first|(apply Xy 11;refine X6 (.one 0 rfl .nil) Tryz.func228 rfl k1 rfl ?_ ?_)|refine Xf ?_|refine Xb ?_|refine Xd ?_|(apply Xk;exact Ya0;exact rfl)|refine Xp ?_|refine Xx rfl ?_|refine X2 rfl ?_|(apply Xi;exact rfl;first|(apply Xn;first|(refine Xl (.one 1 rfl .nil) Tryz.func183 rfl hnm rfl ?_;rintro _ _ ⟨rfl,rfl⟩)|(refine Xl (.one 0 rfl .nil) Tryz.func155 rfl htb rfl ?_;rintro _ _ ⟨rfl,rfl⟩)|(refine Xl (.one 0 rfl .nil) Tryz.func155 rfl htm rfl ?_;rintro _ _ ⟨rfl,rfl⟩)|(refine Xl (.one 0 rfl .nil) Tryz.func184 rfl hir rfl ?_;rintro _ _ ⟨rfl,rfl⟩)|(refine Xl (.one 0 rfl .nil) Tryz.func184 rfl hil rfl ?_;rintro _ _ ⟨rfl,rfl⟩)|(refine Xl (.one 0 rfl .nil) Tryz.func184 rfl hig rfl ?_;rintro _ _ ⟨rfl,rfl⟩)|(refine Xl (.one 0 rfl .nil) Tryz.func184 rfl hii rfl ?_;rintro _ _ ⟨rfl,rfl⟩)|(refine Xl (.one 0 rfl .nil) Tryz.func184 rfl hio rfl ?_;rintro _ _ ⟨rfl,rfl⟩))|(apply Wh;refine X7 ?_;intro _))))
 all_goals (try (exfalso;first|contradiction|omega))
 · rintro _ _ h;exact h.elim
 · rintro ch loc ⟨rfl,rfl⟩;((repeat (first|(with_reducible refine Wd ?_)|(with_reducible refine Wn ?_)));refine Xv (loc':=[]) (List.nil_sublist _) ?_);exact ⟨ts,hf,rfl,rfl⟩
theorem Xe0 (n:Nat) (hn:n+1≤16) (b:Nat) (ts:List TokD) (en:Nat) (qs:List SP) (hts:ts.length≤70000) (h0:Sx.isName ts=false) (h1:isT wBonus ts=false) (h2:isT wMalus ts=false) (h3:isT wRound ts=false) (h4:isT wLeast ts=false) (h5:isT wGreatest ts=false) (h6:isT wIf ts=false) (h7:isT sOpen ts=true) (hx:Xbr 189 T4 n):FnP Tryz.prog 227 [ex (.pointer (some ⟨b,0,none⟩)),exI .i64 ((16-(n+1):Nat):Int)] [Ug b ts en qs] (fun p loc=> ∃(k:Nat) (x:Ex) (r:List TokD),facN (n+1) ts= .ok (x,r)∧p=agg (exV k x)∧loc=[Ug b r en qs]) (fun ch loc=> ∃e,facN (n+1) ts= .error e∧Ua en e ch loc):=by
 have hnm:=Vw b ts en qs
 rw [h0] at hnm
 have htb:=Wv b ts en qs wBonus
 rw [h1] at htb
 rw [if_neg Ybn] at htb
 have htm:=Wv b ts en qs wMalus
 rw [h2] at htm
 rw [if_neg Ybn] at htm
 have hir:=W4 b ts en qs wRound
 rw [h3] at hir
 have hil:=W4 b ts en qs wLeast
 rw [h4] at hil
 have hig:=W4 b ts en qs wGreatest
 rw [h5] at hig
 have hii:=W4 b ts en qs wIf
 rw [h6] at hii
 have hio:=W4 b ts en qs sOpen
 rw [h7] at hio
 have hf:facN (n+1) ts=bnd (want sOpen) (fun _=>bnd (T4 n) fun x=>bnd (want sClose) fun _=>ret x) ts:=by
   show Vp true _ ts=_
   unfold Vp;rw [if_neg Ycb,if_neg Ycg,if_neg Yc0,if_neg Yde,if_neg Ydq,if_neg (by rw [h5];simp),if_neg (by rw [h6];simp),if_pos h7];rfl
 rw [hf]
 generalize hres:bnd (want sOpen) (fun _=>bnd (T4 n) fun x=>bnd (want sClose) fun _=>ret x) ts=res
 have k1:=Ty b ts en qs n hn
 have k2:=Vn b ts en qs sOpen
 refine Ww Tryz.func227 rfl Tryz.ntmps227 rfl fun w0 F0 out=>?_
 (repeat' (first|(apply Xy 13;refine X6 (.one 0 rfl .nil) Tryz.func146 rfl k2 rfl ?_ ?_)|refine Xf ?_|refine Xb ?_|refine Xd ?_|(apply Xk;exact Ya0;exact rfl)|refine Xp ?_|refine Xx rfl ?_|refine X2 rfl ?_|(apply Xi;exact rfl;first|(apply Xn;first|(refine Xl (.one 1 rfl .nil) Tryz.func183 rfl hnm rfl ?_;rintro _ _ ⟨rfl,rfl⟩)|(refine Xl (.one 0 rfl .nil) Tryz.func155 rfl htb rfl ?_;rintro _ _ ⟨rfl,rfl⟩)|(refine Xl (.one 0 rfl .nil) Tryz.func155 rfl htm rfl ?_;rintro _ _ ⟨rfl,rfl⟩)|(refine Xl (.one 0 rfl .nil) Tryz.func184 rfl hir rfl ?_;rintro _ _ ⟨rfl,rfl⟩)|(refine Xl (.one 0 rfl .nil) Tryz.func184 rfl hil rfl ?_;rintro _ _ ⟨rfl,rfl⟩)|(refine Xl (.one 0 rfl .nil) Tryz.func184 rfl hig rfl ?_;rintro _ _ ⟨rfl,rfl⟩)|(refine Xl (.one 0 rfl .nil) Tryz.func184 rfl hii rfl ?_;rintro _ _ ⟨rfl,rfl⟩)|(refine Xl (.one 0 rfl .nil) Tryz.func184 rfl hio rfl ?_;rintro _ _ ⟨rfl,rfl⟩)|(refine Xl (.one 0 rfl .nil) Tryz.func228 rfl k1 rfl ?_;rintro _ _ ⟨rfl,rfl⟩))|(apply Wh;refine X7 ?_;intro _))))
 all_goals (try (exfalso;first|contradiction|omega))
 rotate_left
 · rintro ch loc ⟨e,g1,rfl,rfl⟩;((repeat (first|(with_reducible refine Wd ?_)|(with_reducible refine Wn ?_)));refine Xv (loc':=[]) (List.nil_sublist _) ?_);exact ⟨e,hres.symm.trans (Xw g1),rfl,rfl⟩
 rintro pw loc ⟨t1,g1,rfl⟩
 rename_i b4
 have hl1:=(W8 (Q:=TT) (Ra sOpen)).len g1
 rw [We g1] at hres
 have k4:=hx b t1 en qs Yan
 (repeat' (first|(apply Xy 16;refine X6 (.one 0 rfl .nil) Tryz.func189 rfl k4 rfl ?_ ?_)|refine Xf ?_|refine Xb ?_|refine Xd ?_|(apply Xk;(exact Xe rfl);exact rfl)))
 rotate_left
 · rintro ch loc ⟨e,g2,rfl,rfl⟩;((repeat (first|(with_reducible refine Wd ?_)|(with_reducible refine Wn ?_)));refine Xv (loc':=[]) (List.nil_sublist _) ?_);exact ⟨e,hres.symm.trans (Xw g2),rfl,rfl⟩
 rintro _ loc ⟨kx,x,t2,g2,rfl,rfl⟩
 rw [We g2] at hres
 have k5:=Vn b t2 en qs sClose
 (repeat' (first|(apply Xy 18;refine X6 (.one 0 rfl .nil) Tryz.func146 rfl k5 rfl ?_ ?_)|refine Xb ?_|refine Xd ?_|(apply Xk;(exact Xe rfl);exact rfl)|(apply Xi;exact rfl;(apply Xt;refine Xq (k:=1) (l0:=[]) rfl rfl rfl ?_))))
 rotate_left
 · rintro ch loc ⟨e,g3,rfl,rfl⟩;((repeat (first|(with_reducible refine Wd ?_)|(with_reducible refine Wn ?_)));refine Xv (loc':=[]) (List.nil_sublist _) ?_);exact ⟨e,hres.symm.trans (Xw g3),rfl,rfl⟩
 rintro _ loc ⟨t3,g3,rfl⟩
 rw [We g3] at hres
 (repeat' (first|(apply Vs 34;refine Stop.out ?_)|refine Xd ?_))
 refine ⟨Wf (env':=[(0,ex (.pointer (some ⟨b,0,none⟩))),(4,ex (.pointer (some ⟨b4,0,none⟩)))]) (loc':=[Ug b t3 en qs,row b4 52 5 (exV kx x)]) (Xg (by repeat (first|exact Xm|refine Xh rfl ?_)) (List.Sublist.refl _)) ?_⟩
 (repeat' (first|refine Xf ?_|refine Xb ?_|refine Xd ?_|(apply Xk;(exact Ybg);exact rfl)|refine Xz ?_|(apply Xi;exact rfl;(apply Xt;refine Xq (k:=1) (l0:=[]) rfl rfl rfl ?_))))
 exact ⟨.inr rfl,Vk rfl (.cella (k:=1) rfl rfl rfl rfl inferInstance rfl) Ya3 ⟨kx,_,_,hres.symm,rfl,rfl⟩⟩
theorem Xka (n:Nat) (hn:n≤16) (b:Nat) (ts:List TokD) (en:Nat) (qs:List SP) (hts:ts.length≤70000) (h0:Sx.isName ts=false) (h1:isT wBonus ts=false) (h2:isT wMalus ts=false) (h3:isT wRound ts=false) (h4:isT wLeast ts=false) (h5:isT wGreatest ts=false) (h6:isT wIf ts=false) (h7:isT sOpen ts=false):FnP Tryz.prog 227 [ex (.pointer (some ⟨b,0,none⟩)),exI .i64 ((16-n:Nat):Int)] [Ug b ts en qs] (fun p loc=> ∃(k:Nat) (x:Ex) (r:List TokD),facN n ts= .ok (x,r)∧p=agg (exV k x)∧loc=[Ug b r en qs]) (fun ch loc=> ∃e,facN n ts= .error e∧Ua en e ch loc):=by
 have hnm:=Vw b ts en qs
 rw [h0] at hnm
 have htb:=Wv b ts en qs wBonus
 rw [h1] at htb
 rw [if_neg Ybn] at htb
 have htm:=Wv b ts en qs wMalus
 rw [h2] at htm
 rw [if_neg Ybn] at htm
 have hir:=W4 b ts en qs wRound
 rw [h3] at hir
 have hil:=W4 b ts en qs wLeast
 rw [h4] at hil
 have hig:=W4 b ts en qs wGreatest
 rw [h5] at hig
 have hii:=W4 b ts en qs wIf
 rw [h6] at hii
 have hio:=W4 b ts en qs sOpen
 rw [h7] at hio
 have hf:facN n ts= .error ts:=by
   cases n
   · show Vp false _ ts=_
     unfold Vp;rw [if_neg Ycb,if_neg Ycg,if_neg Yc0,if_neg Yde,if_neg Ydq,if_neg (by rw [h5];simp),if_neg (by rw [h6];simp),if_neg (by rw [h7];simp)]
   · show Vp true _ ts=_
     unfold Vp;rw [if_neg Ycb,if_neg Ycg,if_neg Yc0,if_neg Yde,if_neg Ydq,if_neg (by rw [h5];simp),if_neg (by rw [h6];simp),if_neg (by rw [h7];simp)]
 have k2:=Vn b ts en qs sOpen
 refine Ww Tryz.func227 rfl Tryz.ntmps227 rfl fun w0 F0 out=>?_
 (repeat' (first|(apply Xy 13;refine X6 (.one 0 rfl .nil) Tryz.func146 rfl k2 rfl ?_ ?_)|refine Xf ?_|refine Xb ?_|refine Xd ?_|(apply Xk;exact Ya0;exact rfl)|refine Xp ?_|refine Xs ?_|refine X2 rfl ?_|(apply Xi;exact rfl;first|(apply Xn;first|(refine Xl (.one 1 rfl .nil) Tryz.func183 rfl hnm rfl ?_;rintro _ _ ⟨rfl,rfl⟩)|(refine Xl (.one 0 rfl .nil) Tryz.func155 rfl htb rfl ?_;rintro _ _ ⟨rfl,rfl⟩)|(refine Xl (.one 0 rfl .nil) Tryz.func155 rfl htm rfl ?_;rintro _ _ ⟨rfl,rfl⟩)|(refine Xl (.one 0 rfl .nil) Tryz.func184 rfl hir rfl ?_;rintro _ _ ⟨rfl,rfl⟩)|(refine Xl (.one 0 rfl .nil) Tryz.func184 rfl hil rfl ?_;rintro _ _ ⟨rfl,rfl⟩)|(refine Xl (.one 0 rfl .nil) Tryz.func184 rfl hig rfl ?_;rintro _ _ ⟨rfl,rfl⟩)|(refine Xl (.one 0 rfl .nil) Tryz.func184 rfl hii rfl ?_;rintro _ _ ⟨rfl,rfl⟩)|(refine Xl (.one 0 rfl .nil) Tryz.func184 rfl hio rfl ?_;rintro _ _ ⟨rfl,rfl⟩))|(apply Wh;refine X7 ?_;intro _))))
 all_goals (try (exfalso;first|contradiction|omega))
 rotate_left
 · rintro ch loc ⟨e,g1,rfl,rfl⟩;((repeat (first|(with_reducible refine Wd ?_)|(with_reducible refine Wn ?_)));refine Xv (loc':=[]) (List.nil_sublist _) ?_)
   rw [Xg8 h7] at g1;injection g1 with g1;subst g1
   exact ⟨_,hf,rfl,rfl⟩
 rintro _ loc ⟨t1,g1,rfl⟩
 rw [Xg8 h7] at g1;cases g1
end Go.Proofs.YthdldeenpgeemaaGreatDoor
namespace Go.Sx
open Go.Lx Go.Fr
def ifF (ex:List TokD→Res Ex):List (List UInt8)→List Ex→List TokD→Res Ex
 | [],acc=>bnd (want wEnd) fun _=>ret (.mk 11 [] 0 0 acc)
 | w::ws,acc=>bnd (want w) fun _=>bnd ex fun y=>ifF ex ws (acc++[y])
abbrev ifW:List (List UInt8):=[wIf,wUpto,wThen,wElse]
end Go.Sx
namespace Go.Proofs.YthdldeenpgeemaaGreatDoor
open Go Go.RowKit Go.Kx Go.Fr Go.Lx Go.Sx
theorem Xkb (b:Nat) (ts:List TokD) (en:Nat) (qs:List SP) (hts:ts.length≤70000) (h0:Sx.isName ts=false) (h1:isT wBonus ts=false) (h2:isT wMalus ts=false) (h3:isT wRound ts=false) (h4:isT wLeast ts=false) (h5:isT wGreatest ts=false) (h6:isT wIf ts=true):FnP Tryz.prog 227 [ex (.pointer (some ⟨b,0,none⟩)),exI .i64 16] [Ug b ts en qs] (fun p loc=> ∃(k:Nat) (x:Ex) (r:List TokD),facN 0 ts= .ok (x,r)∧p=agg (exV k x)∧loc=[Ug b r en qs]) (fun ch loc=> ∃e,facN 0 ts= .error e∧Ua en e ch loc):=by
 have hnm:=Vw b ts en qs
 rw [h0] at hnm
 have htb:=Wv b ts en qs wBonus
 rw [h1] at htb
 rw [if_neg Ybn] at htb
 have htm:=Wv b ts en qs wMalus
 rw [h2] at htm
 rw [if_neg Ybn] at htm
 have hir:=W4 b ts en qs wRound
 rw [h3] at hir
 have hil:=W4 b ts en qs wLeast
 rw [h4] at hil
 have hig:=W4 b ts en qs wGreatest
 rw [h5] at hig
 have hii:=W4 b ts en qs wIf
 rw [h6] at hii
 have hf:facN 0 ts= .error ts:=by
   show Vp false _ ts=_
   unfold Vp;rw [if_neg Ycb,if_neg Ycg,if_neg Yc0,if_neg Yde,if_neg Ydq,if_neg (by rw [h5];simp),if_pos h6];rfl
 have k1:=Sf b ts en qs
 refine Ww Tryz.func227 rfl Tryz.ntmps227 rfl fun w0 F0 out=>?_
 (repeat' (first|(apply Xy 97;refine X6 (.one 0 rfl .nil) Tryz.func228 rfl k1 rfl ?_ ?_)|refine Xf ?_|refine Xb ?_|refine Xd ?_|(apply Xk;exact Ya0;exact rfl)|refine Xp ?_|refine Xx rfl ?_|refine X2 rfl ?_|(apply Xi;exact rfl;first|(apply Xn;first|(refine Xl (.one 1 rfl .nil) Tryz.func183 rfl hnm rfl ?_;rintro _ _ ⟨rfl,rfl⟩)|(refine Xl (.one 0 rfl .nil) Tryz.func155 rfl htb rfl ?_;rintro _ _ ⟨rfl,rfl⟩)|(refine Xl (.one 0 rfl .nil) Tryz.func155 rfl htm rfl ?_;rintro _ _ ⟨rfl,rfl⟩)|(refine Xl (.one 0 rfl .nil) Tryz.func184 rfl hir rfl ?_;rintro _ _ ⟨rfl,rfl⟩)|(refine Xl (.one 0 rfl .nil) Tryz.func184 rfl hil rfl ?_;rintro _ _ ⟨rfl,rfl⟩)|(refine Xl (.one 0 rfl .nil) Tryz.func184 rfl hig rfl ?_;rintro _ _ ⟨rfl,rfl⟩)|(refine Xl (.one 0 rfl .nil) Tryz.func184 rfl hii rfl ?_;rintro _ _ ⟨rfl,rfl⟩))|(apply Wh;refine X7 ?_;intro _))))
 all_goals (try (exfalso;first|contradiction|omega))
 · rintro _ _ h;exact h.elim
 · rintro ch loc ⟨rfl,rfl⟩;((repeat (first|(with_reducible refine Wd ?_)|(with_reducible refine Wn ?_)));refine Xv (loc':=[]) (List.nil_sublist _) ?_);exact ⟨ts,hf,rfl,rfl⟩
theorem Xkc (n:Nat) (hn:n+1≤16) (b:Nat) (ts:List TokD) (en:Nat) (qs:List SP) (hts:ts.length≤70000) (h0:Sx.isName ts=false) (h1:isT wBonus ts=false) (h2:isT wMalus ts=false) (h3:isT wRound ts=false) (h4:isT wLeast ts=false) (h5:isT wGreatest ts=false) (h6:isT wIf ts=true) (hx:Xbr 189 T4 n):FnP Tryz.prog 227 [ex (.pointer (some ⟨b,0,none⟩)),exI .i64 ((16-(n+1):Nat):Int)] [Ug b ts en qs] (fun p loc=> ∃(k:Nat) (x:Ex) (r:List TokD),facN (n+1) ts= .ok (x,r)∧p=agg (exV k x)∧loc=[Ug b r en qs]) (fun ch loc=> ∃e,facN (n+1) ts= .error e∧Ua en e ch loc):=by
 have hnm:=Vw b ts en qs
 rw [h0] at hnm
 have htb:=Wv b ts en qs wBonus
 rw [h1] at htb
 rw [if_neg Ybn] at htb
 have htm:=Wv b ts en qs wMalus
 rw [h2] at htm
 rw [if_neg Ybn] at htm
 have hir:=W4 b ts en qs wRound
 rw [h3] at hir
 have hil:=W4 b ts en qs wLeast
 rw [h4] at hil
 have hig:=W4 b ts en qs wGreatest
 rw [h5] at hig
 have hii:=W4 b ts en qs wIf
 rw [h6] at hii
 have hf:facN (n+1) ts=ifF (T4 n) ifW [] ts:=by
   show Vp true _ ts=_
   unfold Vp;rw [if_neg Ycb,if_neg Ycg,if_neg Yc0,if_neg Yde,if_neg Ydq,if_neg (by rw [h5];simp),if_pos h6];rfl
 rw [hf]
 generalize hres:ifF (T4 n) ifW [] ts=res
 have k1:=Ty b ts en qs n hn
 refine Ww Tryz.func227 rfl Tryz.ntmps227 rfl fun w0 F0 out=>?_
 (repeat' (first|(apply Xy 100;refine Wj (k:=0) (E:=eStr) (t:=99) ifW rfl rfl rfl rfl ?_ (hc:=by decide) (hby:=by decide))|refine Xf ?_|refine Xb ?_|refine Xd ?_|(apply Xk;(first|exact Xe rfl|exact Xj rfl|exact Yad|exact Yaq);exact rfl)|refine Xp ?_|refine Xx rfl ?_|refine X2 rfl ?_|(apply Xi;exact rfl;first|(apply Xn;first|(refine Xl (.one 1 rfl .nil) Tryz.func183 rfl hnm rfl ?_;rintro _ _ ⟨rfl,rfl⟩)|(refine Xl (.one 0 rfl .nil) Tryz.func155 rfl htb rfl ?_;rintro _ _ ⟨rfl,rfl⟩)|(refine Xl (.one 0 rfl .nil) Tryz.func155 rfl htm rfl ?_;rintro _ _ ⟨rfl,rfl⟩)|(refine Xl (.one 0 rfl .nil) Tryz.func184 rfl hir rfl ?_;rintro _ _ ⟨rfl,rfl⟩)|(refine Xl (.one 0 rfl .nil) Tryz.func184 rfl hil rfl ?_;rintro _ _ ⟨rfl,rfl⟩)|(refine Xl (.one 0 rfl .nil) Tryz.func184 rfl hig rfl ?_;rintro _ _ ⟨rfl,rfl⟩)|(refine Xl (.one 0 rfl .nil) Tryz.func184 rfl hii rfl ?_;rintro _ _ ⟨rfl,rfl⟩)|(refine Xl (.one 0 rfl .nil) Tryz.func228 rfl k1 rfl ?_;rintro _ _ ⟨rfl,rfl⟩))|(apply Wh;refine X7 ?_;intro _)|(apply Xt;refine Xq (k:=1) (l0:=[]) rfl rfl rfl ?_)|(apply X5;(refine Wq rfl Yac ?_);intro _))))
 all_goals (try (exfalso;first|contradiction|omega))
 rename_i b4 _
 have hl4:ifW.length=4:=rfl
 refine W1 (fun x:List Ex×Nat×(Option Addr×Nat)×List TokD=>([(0,ex (.pointer (some ⟨b,0,none⟩))),(1,exI .i64 ((16-n:Nat):Int)),(4,ex (.pointer (some ⟨b4,0,none⟩))),(99,isl eStr ifW),(100,exI .i64 (ifW.length:Int)),(101,exI .i64 (x.1.length:Int))],[Ug b x.2.2.2 en qs,vec (.slice x.2.2.1.1 x.1.length x.2.2.1.2) 52 5 x.1.length (x.1.flatMap (exV x.2.1)),row b4 52 5 [exI .i64 11,exT [],exI .i64 0,exI .i64 0,ex (.slice x.2.2.1.1 x.1.length x.2.2.1.2)]])) (fun x=>x.1.length≤4∧ifF (T4 n) (ifW.drop x.1.length) x.1 x.2.2.2=res∧x.2.2.2.length≤ts.length) (fun x=>4-x.1.length) ([],0,(none,0),ts) ?_ ⟨Nat.zero_le _,hres,Nat.le_refl _⟩ fun x hx=>?_
 · refine Tc 52 5 ?_
   refine Leads.trans (Vj (.swap _ _ _)) ?_
   exact Xg (by repeat (first|exact Xm|refine Xh rfl ?_)) (List.Sublist.refl _)
 obtain ⟨acc,K,⟨oa,c⟩,t⟩:=x
 obtain ⟨hlen,hinv,hle⟩:=hx
 simp only at hlen hinv hle ⊢
 clear hres
 have hres:=hinv
 clear hinv
 by_cases hlt:acc.length<ifW.length
 · rw [List.drop_eq_getElem_cons hlt,ifF] at hres
   have k2:=Vn b t en qs ifW[acc.length]
   (repeat' (first|(apply Xy 107;refine X6 (.one 0 rfl .nil) Tryz.func146 rfl k2 rfl ?_ ?_)|refine Xf ?_|refine Xb ?_|refine Xd ?_|(apply Xk;(first|exact Xe rfl|exact Xj rfl|exact Yag|exact Yak|exact Yae);exact rfl)|refine Xp ?_|refine Xs ?_|(refine Xo rfl (fun hb=>?_) (fun hb=>?_)<;>(repeat (first|replace hb:=X0 hb|replace hb:=X1 hb))<;>(try (exfalso;omega)))))
   all_goals (try (exfalso;first|contradiction|omega))
   rotate_left
   · rintro ch loc ⟨e,g1,rfl,rfl⟩;((repeat (first|(with_reducible refine Wd ?_)|(with_reducible refine Wn ?_)));refine Xv (loc':=[]) (List.nil_sublist _) ?_);exact ⟨e,hres.symm.trans (Xw g1),rfl,rfl⟩
   rintro _ loc ⟨t1,g1,rfl⟩
   have hl1:=(W8 (Q:=TT) (Ra ifW[acc.length])).len g1
   rw [We g1] at hres
   have k4:=hx b t1 en qs Yan
   (repeat' (first|(apply W2 31;refine Stop.out ?_)|refine Xd ?_))
   refine ⟨?_⟩
   refine Q5 (K:=Xap en res) (fun ch env loc ⟨e,h1,h2⟩=>?_) ?_
   · ((repeat (first|(with_reducible refine Wd ?_)|(with_reducible refine Wn ?_)));refine Xv (loc':=[]) (List.nil_sublist _) ?_)
     exact ⟨e,h1,h2,rfl⟩
   refine Wf (env':=[(0,ex (.pointer (some ⟨b,0,none⟩))),(1,exI .i64 ((16-n:Nat):Int)),(4,ex (.pointer (some ⟨b4,0,none⟩))),(99,isl eStr ifW),(100,exI .i64 (ifW.length:Int)),(101,exI .i64 (acc.length:Int))]) (loc':=[Ug b t1 en qs,vec (.slice oa acc.length c) 52 5 acc.length (acc.flatMap (exV K)),row b4 52 5 [exI .i64 11,exT [],exI .i64 0,exI .i64 0,ex (.slice oa acc.length c)]]) (Xg (by repeat (first|exact Xm|refine Xh rfl ?_)) (List.Sublist.refl _)) ?_
   (refine Ue ([row b4 52 5 [exI .i64 11,exT [],exI .i64 0,exI .i64 0,ex (.slice oa acc.length c)]]) 8 rfl ?_)
   all_goals ((apply Wz 0 rfl Yaa rfl Vm Xa;(exact Yad);exact rfl))
   all_goals ((apply Un 1 rfl Yaa rfl Yaa Vm Xa;(exact Yb3);exact rfl))
   all_goals ((apply Wz 2 rfl Yaa rfl Vm Xa;(exact Xe rfl);exact rfl))
   all_goals ((apply Wz 3 rfl Yaa rfl Vm Xa;(exact Xe rfl);exact rfl))
   all_goals ((apply T1 4;exact Yaa;exact rfl;exact Xa;exact (fun _ _ h=>h);(refine U3 (.one 0 rfl .nil) Tryz.func189 rfl k4 Yec rfl ?_ ?_;rotate_left;(rintro ch loc ⟨e,g4,rfl,rfl⟩;exact ⟨e,hres.symm.trans (Xw g4),rfl⟩);rintro _ loc ⟨ky,y,t4,g4,rfl,rfl⟩;rw [We g4] at hres)))
   all_goals ((apply Xr 5;exact Yaa;exact rfl;exact Xa;exact (fun _ _ h=>h);(apply X5;(refine Wb rfl rfl ?_);intro _)))
   all_goals ((apply Xr 6;exact Yaa;exact rfl;exact Xa;exact (fun _ _ h=>h);(apply V4;((refine V5 (k:=2) (hH:=Ybs) rfl rfl Yb4 rfl ?_));intro _)))
   all_goals ((apply Wz 7 rfl Yaa rfl Vm Xa;(exact Yad);exact rfl))
   all_goals ((apply Xr 8;exact Yaa;exact rfl;exact Xa;exact (fun h=>absurd h Yar);(apply Xt;refine Xfx (H:=U6 []) (k:=2) rfl ?_;intro _ _ hv;subst hv;refine Xq (k:=3) (hH:=Ycr) rfl rfl rfl ?_)))
   all_goals (refine X3 Yaa ?_)
   rename_i b113 oa2 c2
   have hl2:=(Xcn n).len g4
   (repeat' (first|refine Xb ?_|refine Xd ?_|(apply Xk;exact Ya5;exact rfl)))
   refine ⟨(acc++[y],max K ky,(oa2,c2),t4),⟨by simp only [List.length_append,List.length_cons,List.length_nil];omega,by rw [List.length_append];exact hres,by show t4.length≤_;omega⟩,by show 4-(acc++[y]).length<4-acc.length;simp only [List.length_append,List.length_cons,List.length_nil];omega,?_⟩
   refine Leads.trans (Rf (k:=2) (ps:=acc.flatMap (exV K)++exV ky y) rfl (Qh (Xit (Nat.le_max_left K ky) acc) (Xab (Nat.le_max_right K ky) y))) ?_
   simp only [List.length_append,List.flatMap_append,List.length_cons,List.length_nil,List.flatMap_cons,List.flatMap_nil,List.append_nil]
   exact Xg (by repeat (first|exact Xm|refine Xh rfl ?_)) (by exact .cons _ (.refl _))
 · rw [show acc.length=4 by omega] at hres
   have hacc4:acc.length=4:=by omega
   have hres:bnd (want wEnd) (fun _=>ret (Ex.mk 11 [] 0 0 acc)) t=res:=hres
   have k2:=Vn b t en qs wEnd
   (repeat' (first|(apply Xy 118;refine X6 (.one 0 rfl .nil) Tryz.func146 rfl k2 rfl ?_ ?_)|refine Xf ?_|refine Xb ?_|refine Xd ?_|(apply Xk;(first|exact Xe rfl|exact Yak);exact rfl)|refine Wy ?_|(refine Xo rfl (fun hb=>?_) (fun hb=>?_)<;>(repeat (first|replace hb:=X0 hb|replace hb:=X1 hb))<;>(try (exfalso;omega)))))
   all_goals (try (exfalso;first|contradiction|omega))
   rotate_left
   · rintro ch loc ⟨e,g1,rfl,rfl⟩;((repeat (first|(with_reducible refine Wd ?_)|(with_reducible refine Wn ?_)));refine Xv (loc':=[]) (List.nil_sublist _) ?_);exact ⟨e,hres.symm.trans (Xw g1),rfl,rfl⟩
   rintro _ loc ⟨t1,g1,rfl⟩
   rw [We g1] at hres
   (repeat' (first|(apply Vs 34;refine Stop.out ?_)|refine Xd ?_))
   refine ⟨Wf (Vo (j:=1) (k:=1) (i:=4) (E:=eEx K) acc rfl rfl rfl rfl rfl rfl (hby:=by show acc.length * 64≤_;omega)) ?_⟩
   (repeat' (first|refine Xf ?_|refine Xb ?_|refine Xd ?_|(apply Xk;(exact Ybg);exact rfl)|refine Xz ?_|(apply Xi;exact rfl;(apply Xt;refine Xq (k:=1) (l0:=[]) rfl rfl rfl ?_))))
   exact ⟨.inr rfl,Vk rfl (.cella (k:=1) rfl rfl rfl rfl inferInstance rfl) Ya3 ⟨K+1,_,_,hres.symm,rfl,rfl⟩⟩
theorem Xb3 (n:Nat) (hn:n≤16) (hx: ∀m,n=m+1→Xbr 189 T4 m):Xbr 227 facN n:=by
 intro b ts en qs hts
 cases h0:Sx.isName ts with
 | true=>exact Xhp n hn b ts en qs hts h0
 | false=>
 cases h1:isT wBonus ts with
 | true=>exact Xf1 n hn b ts en qs hts h0 h1
 | false=>
 cases h2:isT wMalus ts with
 | true=>exact Xf2 n hn b ts en qs hts h0 h1 h2
 | false=>
 cases h3:isT wRound ts with
 | true=>exact Xf3 n hn b ts en qs hts h0 h1 h2 h3
 | false=>
 cases h4:isT wLeast ts with
 | true=>
   cases n with
   | zero=>exact Xex b ts en qs hts h0 h1 h2 h3 h4
   | succ m=>exact Xey m hn b ts en qs hts h0 h1 h2 h3 h4 (hx m rfl)
 | false=>
 cases h5:isT wGreatest ts with
 | true=>
   cases n with
   | zero=>exact Xce b ts en qs hts h0 h1 h2 h3 h4 h5
   | succ m=>exact Xcf m hn b ts en qs hts h0 h1 h2 h3 h4 h5 (hx m rfl)
 | false=>
 cases h6:isT wIf ts with
 | true=>
   cases n with
   | zero=>exact Xkb b ts en qs hts h0 h1 h2 h3 h4 h5 h6
   | succ m=>exact Xkc m hn b ts en qs hts h0 h1 h2 h3 h4 h5 h6 (hx m rfl)
 | false=>
 cases h7:isT sOpen ts with
 | true=>
   cases n with
   | zero=>exact Xez b ts en qs hts h0 h1 h2 h3 h4 h5 h6 h7
   | succ m=>exact Xe0 m hn b ts en qs hts h0 h1 h2 h3 h4 h5 h6 h7 (hx m rfl)
 | false=>exact Xka n hn b ts en qs hts h0 h1 h2 h3 h4 h5 h6 h7
theorem Xd2 (n:Nat) (hn:n≤16) (hf:Xbr 227 facN n) (htm: ∀m,n=m+1→Xbr 212 termN m):Xbr 212 termN n:=by
 intro b ts en qs hts
 have hin:=Rj b ts en qs
 refine Ww Tryz.func212 rfl Tryz.ntmps212 rfl fun w0 F0 out=>?_
 generalize hres:termN n ts=res
 cases hN:isNum ts
 · rw [hN] at hin
   have k1:=hf b ts en qs hts
   have hq:termN n ts=facN n ts:=by cases n<;>exact if_neg (by rw [hN];simp)
   rw [hq] at hres
   (repeat' (first|(apply Xy 11;refine X6 (.one 0 rfl .nil) Tryz.func227 rfl k1 rfl ?_ ?_)|refine Xf ?_|refine Xb ?_|refine Xd ?_|(apply Xk;exact Ybt;exact rfl)|refine Xx rfl ?_|(apply Xi;exact rfl;first|(apply Xn;(refine Xl (.one 1 rfl .nil) Tryz.func190 rfl hin rfl ?_;rintro _ _ ⟨rfl,rfl⟩))|(apply Wh;refine X7 ?_;intro _))))
   all_goals (try (exfalso;first|contradiction|omega))
   rotate_left
   · rintro ch loc ⟨e,g1,rfl,rfl⟩;((repeat (first|(with_reducible refine Wd ?_)|(with_reducible refine Wn ?_)));refine Xv (loc':=[]) (List.nil_sublist _) ?_);exact ⟨e,hres.symm.trans g1,rfl,rfl⟩
   rintro _ loc ⟨kx,x,t1,g1,rfl,rfl⟩
   (repeat' (first|refine Xd ?_|refine Xz ?_|(apply Xi;exact rfl;(apply Xt;refine Xq (k:=1) (l0:=[]) rfl rfl rfl ?_))))
   exact ⟨.inr rfl,Vk rfl (.cella (k:=1) rfl rfl rfl rfl inferInstance rfl) Ya3 ⟨kx,_,_,hres.symm.trans g1,rfl,rfl⟩⟩
 rw [hN] at hin
 have hq0:termN n ts=bnd fracP (fun q ts=>if isT sStar ts then Xnv (decide (0<n)) (bnd (want sStar) fun _=>bnd (match n with|0=>fun ts=> .error ts|m+1=>termN m) fun x=>ret (Ex.mk 8 [] q.1 q.2 [x])) ts else ret (Ex.mk 1 [] q.1 q.2 []) ts) ts:=by cases n<;>exact if_pos hN
 rw [hq0] at hres
 clear hq0
 cases ts with
 | nil=>cases hN
 | cons t0 t1=>
 have g1:=Xha hN
 have k1:=Qt b (t0::t1) en qs
 rw [g1] at k1
 simp only [List.length_cons] at hts
 have htk:=Wv b t1 en qs sSlash
 cases hS0:isT sSlash t1
 · rw [hS0,if_neg Ybn] at htk
   have g2:fracP (t0::t1)= .ok ((t0.n,1),t1):=by
     unfold fracP;rw [We g1,if_neg (by rw [hS0];simp)];rfl
   have hq:=hres
   rw [We g2] at hq
   clear hres
   (repeat' (first|(apply Xy 13;refine X6 (.one 0 rfl .nil) Tryz.func157 rfl k1 rfl ?_ ?_)|refine Xf ?_|refine Xb ?_|refine Xd ?_|(apply Xk;exact Ybt;exact rfl)|refine Xs ?_|refine X2 rfl ?_|(apply Xi;exact rfl;first|(apply Xn;(refine Xl (.one 1 rfl .nil) Tryz.func190 rfl hin rfl ?_;rintro _ _ ⟨rfl,rfl⟩))|(apply Wh;refine X7 ?_;intro _))))
   all_goals (try (exfalso;first|contradiction|omega))
   rotate_left
   · rintro ch loc ⟨e,g9,rfl,rfl⟩;cases g9
   rintro _ loc ⟨x0,r0,g9,rfl,rfl⟩
   injection g9 with g9;injection g9 with g9 g8;subst g9 g8
   cases hS:isT sStar t1
   · have his:=W4 b t1 en qs sStar
     rw [hS] at his
     have hres:=hq.symm.trans (if_neg (by rw [hS];simp))
     (repeat' (first|refine Xf ?_|refine Xb ?_|refine Xd ?_|(apply Xk;(first|exact Xe rfl|exact Ybg|exact Ya7);exact rfl)|refine Xs ?_|refine Xz ?_|refine X2 rfl ?_|(apply Xi;exact rfl;first|(apply Xn;first|(refine Xl (.one 1 rfl .nil) Tryz.func155 rfl htk rfl ?_;rintro _ _ ⟨rfl,rfl⟩)|(refine Xl (.one 0 rfl .nil) Tryz.func184 rfl his rfl ?_;rintro _ _ ⟨rfl,rfl⟩))|(apply Wh;refine X7 ?_;intro _)|(apply Xt;first|refine Xq (k:=0) (l0:=[]) rfl rfl rfl ?_|refine Xq (k:=2) (l0:=[]) rfl rfl rfl ?_))))
     all_goals (try (exfalso;first|contradiction|omega))
     exact ⟨.inr rfl,Xer (Vk rfl (.cella (k:=2) rfl rfl rfl rfl inferInstance rfl) Ya3 ⟨rfl,rfl⟩) (Ims.agg (Xj9 _ _ _ _)) ⟨1,_,_,hres,rfl,rfl⟩⟩
   have his:=W4 b t1 en qs sStar
   rw [hS] at his
   have hq:=hq.symm.trans (if_pos hS)
   cases n with
   | zero=>
     have hd:=Sf b t1 en qs
     (repeat' (first|(apply Xy 38;refine X6 (.one 0 rfl .nil) Tryz.func228 rfl hd rfl ?_ ?_)|refine Xf ?_|refine Xb ?_|refine Xd ?_|(apply Xk;(first|exact Xe rfl|exact Ya7);exact rfl)|refine Xs ?_|refine Xx rfl ?_|refine X2 rfl ?_|(apply Xi;exact rfl;first|(apply Xn;first|(refine Xl (.one 1 rfl .nil) Tryz.func155 rfl htk rfl ?_;rintro _ _ ⟨rfl,rfl⟩)|(refine Xl (.one 0 rfl .nil) Tryz.func184 rfl his rfl ?_;rintro _ _ ⟨rfl,rfl⟩))|(apply Wh;refine X7 ?_;intro _)|(apply Xt;refine Xq (k:=0) (l0:=[]) rfl rfl rfl ?_))))
     all_goals (try (exfalso;first|contradiction|omega))
     · rintro _ _ h;exact h.elim
     · rintro ch loc ⟨rfl,rfl⟩;((repeat (first|(with_reducible refine Wd ?_)|(with_reducible refine Wn ?_)));refine Xv (loc':=[]) (List.nil_sublist _) ?_);exact ⟨_,hq,rfl,rfl⟩
   | succ m=>
     have hd:=Ty b t1 en qs m hn
     have kw:=Vn b t1 en qs sStar
     replace hq:res=bnd (want sStar) (fun _=>bnd (termN m) fun x=>ret (Ex.mk 8 [] t0.n 1 [x])) t1:=hq
     (repeat' (first|(apply Xy 40;refine X6 (.one 0 rfl .nil) Tryz.func146 rfl kw rfl ?_ ?_)|refine Xf ?_|refine Xb ?_|refine Xd ?_|(apply Xk;(first|exact Xe rfl|exact Xj rfl|exact Ya7);exact rfl)|refine Xs ?_|refine Xx rfl ?_|refine X2 rfl ?_|(apply Xi;exact rfl;first|(apply Xn;first|(refine Xl (.one 1 rfl .nil) Tryz.func155 rfl htk rfl ?_;rintro _ _ ⟨rfl,rfl⟩)|(refine Xl (.one 0 rfl .nil) Tryz.func184 rfl his rfl ?_;rintro _ _ ⟨rfl,rfl⟩)|(refine Xl (.one 0 rfl .nil) Tryz.func228 rfl hd rfl ?_;rintro _ _ ⟨rfl,rfl⟩))|(apply Wh;refine X7 ?_;intro _)|(apply Xt;refine Xq (k:=0) (l0:=[]) rfl rfl rfl ?_))))
     all_goals (try (exfalso;first|contradiction|omega))
     rotate_left
     · rintro ch loc ⟨e,g5,rfl,rfl⟩;((repeat (first|(with_reducible refine Wd ?_)|(with_reducible refine Wn ?_)));refine Xv (loc':=[]) (List.nil_sublist _) ?_);exact ⟨e,hq.trans (Xw g5),rfl,rfl⟩
     rintro pw loc ⟨t5,g5,rfl⟩
     have hl5:=(W8 (Q:=TT) (Ra sStar)).len g5
     rw [We g5] at hq
     have kt:=htm m rfl b t5 en qs Yan
     (repeat' (first|(apply Xy 43;refine X6 (.one 0 rfl .nil) Tryz.func212 rfl kt rfl ?_ ?_)|refine Xb ?_|refine Xd ?_|(apply Xk;(exact Xe rfl);exact rfl)))
     rotate_left
     · rintro ch loc ⟨e,g6,rfl,rfl⟩;((repeat (first|(with_reducible refine Wd ?_)|(with_reducible refine Wn ?_)));refine Xv (loc':=[]) (List.nil_sublist _) ?_);exact ⟨e,hq.trans (Xw g6),rfl,rfl⟩
     rintro _ loc ⟨kx,x,t6,g6,rfl,rfl⟩
     rw [We g6] at hq
     (repeat' (first|(apply Vs 12;refine Stop.out ?_)|refine Xd ?_|(apply Xk;(exact Yad);exact rfl)|(apply Xi;exact rfl;first|(apply Xt;refine Xq (k:=2) (l0:=[]) rfl rfl rfl ?_)|(apply X5;(refine Wb rfl rfl ?_);intro _))))
     rename_i b44
     refine ⟨Wf (Vi (k:=0) (sz:=5) (n:=1) (c:=1) rfl rfl rfl Yar Yar (Vo (j:=0) (k:=1) (i:=4) (E:=eEx kx) [x] rfl rfl rfl rfl rfl rfl (hby:=by show 1 * 64≤_;decide))) ?_⟩
     (repeat' (first|refine Xf ?_|refine Xb ?_|refine Xd ?_|(apply Xk;(exact Ybg);exact rfl)|refine Xz ?_|(apply Xi;exact rfl;(apply Xt;refine Xq (k:=2) (l0:=[]) rfl rfl rfl ?_))))
     exact ⟨.inr rfl,Vk rfl (.cella (k:=2) rfl rfl rfl rfl inferInstance rfl) Ya3 ⟨kx+1,_,_,hq,rfl,rfl⟩⟩
 · rw [hS0,if_pos rfl] at htk
   obtain ⟨t2,t3,rfl,-,-⟩:=R6 hS0
   simp only [List.length_cons] at hts
   have hin2:=Rj b t3 en qs
   have g2:fracP (t0::t2::t3)=if zeroHere t3 then .error t3 else bnd numP (fun d=>ret (t0.n,d)) t3:=by
     unfold fracP;rw [We g1,if_pos hS0,We (Tn hS0)];rfl
   (repeat' (first|(apply Xy 13;refine X6 (.one 0 rfl .nil) Tryz.func157 rfl k1 rfl ?_ ?_)|refine Xf ?_|refine Xb ?_|refine Xd ?_|(apply Xk;exact Ybt;exact rfl)|refine Xs ?_|refine X2 rfl ?_|(apply Xi;exact rfl;first|(apply Xn;(refine Xl (.one 1 rfl .nil) Tryz.func190 rfl hin rfl ?_;rintro _ _ ⟨rfl,rfl⟩))|(apply Wh;refine X7 ?_;intro _))))
   all_goals (try (exfalso;first|contradiction|omega))
   rotate_left
   · rintro ch loc ⟨e,g9,rfl,rfl⟩;cases g9
   rintro _ loc ⟨x0,r0,g9,rfl,rfl⟩
   injection g9 with g9;injection g9 with g9 g8;subst g9 g8
   have k3:=Qt b t3 en qs
   have kf:=Sd b t3 en qs
   cases hN3:isNum t3
   · rw [hN3] at hin2
     have g4:numP t3= .error t3:=Xo8 hN3
     have hz:zeroHere t3=false:=by
       cases t3 with
       | nil=>rfl
       | cons u v=>rw [Xdw] at hN3;show (decide (u.kind=2)&&decide (u.n=0))=false;rw [hN3];rfl
     rw [hz,if_neg Ybn,Xw g4] at g2
     rw [Xw g2] at hres
     rw [g4] at k3
     (repeat' (first|(apply Xy 32;refine X6 (.one 0 rfl .nil) Tryz.func157 rfl k3 rfl ?_ ?_)|refine Xf ?_|refine Xb ?_|refine Xd ?_|(apply Xk;(first|exact Xe rfl|exact Wk (b:=false) rfl (fun e=>by cases e) (fun _=>rfl)|exact Ya7);exact rfl)|(refine Ve rfl rfl rfl rfl rfl ?_)|refine Xs ?_|refine Xx rfl ?_|refine X2 rfl ?_|(apply Xi;exact rfl;first|(apply Xn;first|(refine Xl (.one 1 rfl .nil) Tryz.func155 rfl htk rfl ?_;rintro _ _ ⟨rfl,rfl⟩)|(refine Xl (.one 0 rfl .nil) Tryz.func190 rfl hin2 rfl ?_;rintro _ _ ⟨rfl,rfl⟩))|(apply Wh;refine X7 ?_;intro _)|(apply Xt;refine Xq (k:=0) (l0:=[]) rfl rfl rfl ?_))))
     all_goals (try (exfalso;first|contradiction|omega))
     rotate_left
     · rintro ch loc ⟨e,g9,rfl,rfl⟩;injection g9 with g9;subst g9;((repeat (first|(with_reducible refine Wd ?_)|(with_reducible refine Wn ?_)));refine Xv (loc':=[]) (List.nil_sublist _) ?_);exact ⟨_,hres.symm,rfl,rfl⟩
     rintro _ loc ⟨x1,r1,g9,_⟩;cases g9
   rw [hN3] at hin2
   cases t3 with
   | nil=>cases hN3
   | cons u v=>
   have hlu:(u::v).length=v.length+1:=rfl
   have hN3':u.kind=2:=of_decide_eq_true hN3
   have g4:=Xha hN3
   rw [g4] at k3
   by_cases hz0:(u::v)[0].n=0
   · have hz:zeroHere (u::v)=true:=by show (decide (u.kind=2)&&decide (u.n=0))=true;rw [decide_eq_true hN3',decide_eq_true (show u.n=0 from hz0)];rfl
     rw [if_pos hz] at g2
     rw [Xw g2] at hres
     (repeat' (first|(apply Xy 30;refine X6 (.one 0 rfl .nil) Tryz.func87 rfl kf rfl ?_ ?_)|refine Xf ?_|refine Xb ?_|refine Xd ?_|(apply Xk;(first|exact Xe rfl|exact Wk (b:=true) rfl (fun _=>rfl) (fun e=>by cases e)|exact Ya7);exact rfl)|(apply Vh;exact rfl;exact rfl;exact rfl;exact Ydh;exact rfl)|refine Xx rfl ?_|(apply Xi;exact rfl;first|(apply Xn;first|(refine Xl (.one 1 rfl .nil) Tryz.func155 rfl htk rfl ?_;rintro _ _ ⟨rfl,rfl⟩)|(refine Xl (.one 0 rfl .nil) Tryz.func190 rfl hin2 rfl ?_;rintro _ _ ⟨rfl,rfl⟩))|(apply Wh;refine X7 ?_;intro _)|(apply Xt;refine Xq (k:=0) (l0:=[]) rfl rfl rfl ?_))|(refine Xo rfl (fun hb=>?_) (fun hb=>?_)<;>(repeat (first|replace hb:=X0 hb|replace hb:=X1 hb))<;>(try (exfalso;contradiction)))))
     all_goals (try (exfalso;first|contradiction|omega))
     · rintro _ _ h;exact h.elim
     · rintro ch loc ⟨rfl,rfl⟩;((repeat (first|(with_reducible refine Wd ?_)|(with_reducible refine Wn ?_)));refine Xv (loc':=[]) (List.nil_sublist _) ?_);exact ⟨_,hres.symm,rfl,rfl⟩
   · have hz:zeroHere (u::v)=false:=by show (decide (u.kind=2)&&decide (u.n=0))=false;rw [decide_eq_true hN3',decide_eq_false (show ¬u.n=0 from hz0)];rfl
     rw [if_neg (by rw [hz];simp),We g4] at g2
     have hq:=hres
     rw [We g2] at hq
     clear hres
     (repeat' (first|(apply Xy 32;refine X6 (.one 0 rfl .nil) Tryz.func157 rfl k3 rfl ?_ ?_)|refine Xf ?_|refine Xb ?_|refine Xd ?_|(apply Xk;(first|exact Xe rfl|exact Wk (b:=true) rfl (fun _=>rfl) (fun e=>by cases e)|exact Ya7);exact rfl)|(apply Vh;exact rfl;exact rfl;exact rfl;exact Ydh;exact rfl)|refine Xs ?_|refine Xx rfl ?_|(apply Xi;exact rfl;first|(apply Xn;first|(refine Xl (.one 1 rfl .nil) Tryz.func155 rfl htk rfl ?_;rintro _ _ ⟨rfl,rfl⟩)|(refine Xl (.one 0 rfl .nil) Tryz.func190 rfl hin2 rfl ?_;rintro _ _ ⟨rfl,rfl⟩))|(apply Wh;refine X7 ?_;intro _)|(apply Xt;refine Xq (k:=0) (l0:=[]) rfl rfl rfl ?_))|(refine Xo rfl (fun hb=>?_) (fun hb=>?_)<;>(repeat (first|replace hb:=X0 hb|replace hb:=X1 hb))<;>(try (exfalso;contradiction)))))
     all_goals (try (exfalso;first|contradiction|omega))
     rotate_left
     · rintro ch loc ⟨e,g9,rfl,rfl⟩;cases g9
     rintro _ loc ⟨x1,r1,g9,rfl,rfl⟩
     injection g9 with g9;injection g9 with g9 g8;subst g9 g8
     cases hS:isT sStar v
     · have his:=W4 b v en qs sStar
       rw [hS] at his
       have hres:=hq.symm.trans (if_neg (by rw [hS];simp))
       (repeat' (first|refine Xf ?_|refine Xb ?_|refine Xd ?_|(apply Xk;exact Yd2;exact rfl)|refine Xs ?_|refine Xz ?_|refine X2 rfl ?_|(apply Xi;exact rfl;first|(apply Xn;(refine Xl (.one 0 rfl .nil) Tryz.func184 rfl his rfl ?_;rintro _ _ ⟨rfl,rfl⟩))|(apply Xt;first|refine Xq (k:=1) (l0:=[]) rfl rfl rfl ?_|refine Xq (k:=2) (l0:=[]) rfl rfl rfl ?_))))
       all_goals (try (exfalso;first|contradiction|omega))
       exact ⟨.inr rfl,Xer (Vk rfl (.cella (k:=2) rfl rfl rfl rfl inferInstance rfl) Ya3 ⟨rfl,rfl⟩) (Ims.agg (Xj9 _ _ _ _)) ⟨1,_,_,hres,rfl,rfl⟩⟩
     have his:=W4 b v en qs sStar
     rw [hS] at his
     have hq:=hq.symm.trans (if_pos hS)
     cases n with
     | zero=>
       have hd:=Sf b v en qs
       (repeat' (first|(apply Xy 38;refine X6 (.one 0 rfl .nil) Tryz.func228 rfl hd rfl ?_ ?_)|refine Xf ?_|refine Xb ?_|refine Xd ?_|(apply Xk;exact Ydo;exact rfl)|refine Xx rfl ?_|(apply Xi;exact rfl;first|(apply Xn;(refine Xl (.one 0 rfl .nil) Tryz.func184 rfl his rfl ?_;rintro _ _ ⟨rfl,rfl⟩))|(apply Xt;refine Xq (k:=1) (l0:=[]) rfl rfl rfl ?_))))
       all_goals (try (exfalso;first|contradiction|omega))
       · rintro _ _ h;exact h.elim
       · rintro ch loc ⟨rfl,rfl⟩;((repeat (first|(with_reducible refine Wd ?_)|(with_reducible refine Wn ?_)));refine Xv (loc':=[]) (List.nil_sublist _) ?_);exact ⟨_,hq,rfl,rfl⟩
     | succ m=>
       have hd:=Ty b v en qs m hn
       have kw:=Vn b v en qs sStar
       replace hq:res=bnd (want sStar) (fun _=>bnd (termN m) fun x=>ret (Ex.mk 8 [] t0.n u.n [x])) v:=hq
       (repeat' (first|(apply Xy 40;refine X6 (.one 0 rfl .nil) Tryz.func146 rfl kw rfl ?_ ?_)|refine Xf ?_|refine Xb ?_|refine Xd ?_|(apply Xk;(first|exact Xe rfl|exact Xj rfl|exact Yad);exact rfl)|refine Xx rfl ?_|(apply Xi;exact rfl;first|(apply Xn;first|(refine Xl (.one 0 rfl .nil) Tryz.func184 rfl his rfl ?_;rintro _ _ ⟨rfl,rfl⟩)|(refine Xl (.one 0 rfl .nil) Tryz.func228 rfl hd rfl ?_;rintro _ _ ⟨rfl,rfl⟩))|(apply Xt;refine Xq (k:=1) (l0:=[]) rfl rfl rfl ?_))))
       all_goals (try (exfalso;first|contradiction|omega))
       rotate_left
       · rintro ch loc ⟨e,g5,rfl,rfl⟩;((repeat (first|(with_reducible refine Wd ?_)|(with_reducible refine Wn ?_)));refine Xv (loc':=[]) (List.nil_sublist _) ?_);exact ⟨e,hq.trans (Xw g5),rfl,rfl⟩
       rintro pw loc ⟨t5,g5,rfl⟩
       have hl5:=(W8 (Q:=TT) (Ra sStar)).len g5
       rw [We g5] at hq
       have kt:=htm m rfl b t5 en qs Yan
       (repeat' (first|(apply Xy 43;refine X6 (.one 0 rfl .nil) Tryz.func212 rfl kt rfl ?_ ?_)|refine Xb ?_|refine Xd ?_|(apply Xk;(exact Xe rfl);exact rfl)))
       rotate_left
       · rintro ch loc ⟨e,g6,rfl,rfl⟩;((repeat (first|(with_reducible refine Wd ?_)|(with_reducible refine Wn ?_)));refine Xv (loc':=[]) (List.nil_sublist _) ?_);exact ⟨e,hq.trans (Xw g6),rfl,rfl⟩
       rintro _ loc ⟨kx,x,t6,g6,rfl,rfl⟩
       rw [We g6] at hq
       (repeat' (first|(apply Vs 12;refine Stop.out ?_)|refine Xd ?_|(apply Xk;(exact Yad);exact rfl)|(apply Xi;exact rfl;first|(apply Xt;refine Xq (k:=2) (l0:=[]) rfl rfl rfl ?_)|(apply X5;(refine Wb rfl rfl ?_);intro _))))
       rename_i b44
       refine ⟨Wf (Vi (k:=0) (sz:=5) (n:=1) (c:=1) rfl rfl rfl Yar Yar (Vo (j:=0) (k:=1) (i:=4) (E:=eEx kx) [x] rfl rfl rfl rfl rfl rfl (hby:=by show 1 * 64≤_;decide))) ?_⟩
       (repeat' (first|refine Xf ?_|refine Xb ?_|refine Xd ?_|(apply Xk;(exact Ybg);exact rfl)|refine Xz ?_|(apply Xi;exact rfl;(apply Xt;refine Xq (k:=2) (l0:=[]) rfl rfl rfl ?_))))
       exact ⟨.inr rfl,Vk rfl (.cella (k:=2) rfl rfl rfl rfl inferInstance rfl) Ya3 ⟨kx+1,_,_,hq,rfl,rfl⟩⟩
theorem exprs13_any: ∀n,n≤16→Xbr 212 termN n∧Xbr 189 T4 n
 | 0,h=>by
   have hf:=Xb3 0 h fun m e=>by cases e
   have ht:=Xd2 0 h hf fun m e=>by cases e
   exact ⟨ht,Xd1 0 h ht⟩
 | n+1,h=>by
   obtain ⟨h1,h2⟩:=exprs13_any n Yan
   have hf:=Xb3 (n+1) h fun m e=>by cases e;exact h2
   have ht:=Xd2 (n+1) h hf fun m e=>by cases e;exact h1
   exact ⟨ht,Xd1 (n+1) h ht⟩
end Go.Proofs.YthdldeenpgeemaaGreatDoor
namespace Go.Fr
open Go.RowKit Go.Kx
theorem Xd3 (nm:List UInt8) (pn qt ct:Int) (fr:Bool) (ti:List UInt8) (tn:Int) (p:Bool):Ims [exT nm,exI .i64 pn,exI .i64 qt,exI .i64 ct,exB p,exB fr,exI .i64 0,exT [],exI .i64 0,exI .i64 0,ex (.slice none 0 0),exT ti,exI .i64 tn] (W3 1 ⟨nm,pn,qt,ct,p,fr,.mk 0 [] 0 0 [],ti,tn⟩):=
 .cons (Im.refl _) (.cons (Im.refl _) (.cons (Im.refl _) (.cons (Im.refl _) (.cons (Im.refl _) (.cons (Im.refl _) (.cons (Im.refl _) (.cons (Im.refl _) (.cons (Im.refl _) (.cons (Im.refl _) (.cons Im.nil (.cons (Im.refl _) (.cons (Im.refl _) .nil))))))))))))
theorem Xf4 {k k':Nat} (h:k≤k') (x:RoundD):Ims (W3 k x) (W3 k' x):=
 .cons (Im.refl _) (.cons (Im.refl _) (.cons (Im.refl _) (.cons (Im.refl _) (.cons (Im.refl _) (.cons (Im.refl _) (.cons (Im.refl _) (.cons (Im.refl _) (.cons (Im.refl _) (.cons (Im.refl _) (.cons (Xpg h _) (.cons (Im.refl _) (.cons (Im.refl _) .nil))))))))))))
theorem Xf5 {k k':Nat} (h:k≤k'): ∀l:List RoundD,Ims (l.flatMap (W3 k)) (l.flatMap (W3 k'))
 | []=> .nil
 | x::l=>by
   rw [List.flatMap_cons,List.flatMap_cons]
   exact Qh (Xf4 h x) (Xf5 h l)
end Go.Fr
namespace Go.Proofs.YthdldeenpgeemaaGreatDoor
open Go Go.RowKit Go.Kx Go.Fr Go.Lx Go.Sx
theorem Xlu {ts:List TokD} (h:isT wPlaces ts=true):scoreP ts= .ok ((true,.mk 0 [] 0 0 []),ts.tail):=(if_pos h).trans (We (Tn h))
theorem Xob {ts:List TokD} (h:isT wPlaces ts=false):scoreP ts=bnd (want wScore) (fun _=>bnd (T4 16) fun x=>ret (false,x)) ts:=if_neg (by rw [h];simp)
theorem Xi5 {ts:List TokD} (h:isT wTie ts=true):tieRefP ts=bnd (Rl wTie) (fun nm=>ret (nm,0)) ts:=if_pos h
theorem Xlv {ts:List TokD} (h:isT wTie ts=false):tieRefP ts= .ok (([],-1),ts):=if_neg (by rw [h];simp)
theorem Xkd (b:Nat) (ts:List TokD) (en:Nat) (qs:List SP) (hts:ts.length≤70000):FnP Tryz.prog 189 [ex (.pointer (some ⟨b,0,none⟩)),exI .i64 0] [Ug b ts en qs] (fun p loc=> ∃(k:Nat) (x:Ex) (r:List TokD),T4 16 ts= .ok (x,r)∧p=agg (exV k x)∧loc=[Ug b r en qs]) (fun ch loc=> ∃e,T4 16 ts= .error e∧Ua en e ch loc):=(exprs13_any 16 (Nat.le_refl _)).2 b ts en qs hts
theorem Xhq (b:Nat) (ts:List TokD) (en:Nat) (qs:List SP) (hts:ts.length≤70000):FnP Tryz.prog 154 [ex (.pointer (some ⟨b,0,none⟩))] [Ug b ts en qs] (fun p loc=> ∃(k:Nat) (x:RoundD) (r:List TokD),roundB ts= .ok (x,r)∧p=agg (W3 k x)∧loc=[Ug b r en qs]) (fun ch loc=> ∃e,roundB ts= .error e∧Ua en e ch loc):=by
 refine Ww Tryz.func154 rfl Tryz.ntmps154 rfl fun w0 F0 out=>?_
 generalize hres:roundB ts=res
 unfold roundB at hres
 have kg1:=To b ts en qs wRound
 (repeat' (first|(apply Xy 4;refine X6 (.one 1 rfl .nil) Tryz.func145 rfl kg1 rfl ?_ ?_)|refine Xf ?_|refine Xb ?_|refine Xd ?_|(apply Xk;(exact Xe rfl);exact rfl)|(apply Xi;exact rfl;(apply Wh;refine X7 ?_;intro _))))
 all_goals (try (exfalso;first|contradiction|omega))
 rotate_left
 · rintro ch loc ⟨e,g1,rfl,rfl⟩;((repeat (first|(with_reducible refine Wd ?_)|(with_reducible refine Wn ?_)));refine Xv (loc':=[]) (List.nil_sublist _) ?_);exact ⟨e,hres.symm.trans (Xw g1),rfl,rfl⟩
 rintro _ loc ⟨nm,t1,g1,rfl,rfl⟩
 rw [We g1] at hres
 rename_i b2
 have kg2:=Us b t1 en qs wPanel
 (repeat' (first|(apply Xy 6;refine X6 (.one 0 rfl .nil) Tryz.func158 rfl kg2 rfl ?_ ?_)|(apply Xk;(exact Xe rfl);exact rfl)))
 all_goals (try (exfalso;first|contradiction|omega))
 rotate_left
 · rintro ch loc ⟨e,g2,rfl,rfl⟩;((repeat (first|(with_reducible refine Wd ?_)|(with_reducible refine Wn ?_)));refine Xv (loc':=[]) (List.nil_sublist _) ?_);exact ⟨e,hres.symm.trans (Xw g2),rfl,rfl⟩
 rintro _ loc ⟨pn,t2,g2,rfl,rfl⟩
 rw [We g2] at hres
 have kg3:=Us b t2 en qs wQuota
 (repeat' (first|(apply Xy 8;refine X6 (.one 0 rfl .nil) Tryz.func158 rfl kg3 rfl ?_ ?_)|(apply Xk;(exact Xe rfl);exact rfl)))
 all_goals (try (exfalso;first|contradiction|omega))
 rotate_left
 · rintro ch loc ⟨e,g3,rfl,rfl⟩;((repeat (first|(with_reducible refine Wd ?_)|(with_reducible refine Wn ?_)));refine Xv (loc':=[]) (List.nil_sublist _) ?_);exact ⟨e,hres.symm.trans (Xw g3),rfl,rfl⟩
 rintro _ loc ⟨qt,t3,g3,rfl,rfl⟩
 rw [We g3] at hres
 have hl1:=(Tv (Q:=TT) (Ra wRound) fun _ _ _=>trivial).len g1
 have hl2:=(Ub (Q:=TT) (Ra wPanel) fun _ _=>trivial).len g2
 have hl3:=(Ub (Q:=TT) (Ra wQuota) fun _ _=>trivial).len g3
 have kg5:=Qi b t3 en qs [wOver,wUnder,wLots] Yar
 (repeat' (first|(apply Xy 14;refine Wj (k:=0) (E:=eStr) (t:=13) [wOver,wUnder,wLots] rfl rfl rfl rfl ?_ (hc:=by decide) (hby:=by decide);refine X6 (.one 0 rfl .nil) Tryz.func185 rfl kg5 rfl ?_ ?_)|refine Xf ?_|refine Xb ?_|refine Xd ?_|(apply Xk;exact Ydo;exact rfl)|(apply Xi;exact rfl;first|(apply Xt;refine Xq (k:=1) (l0:=[]) rfl rfl rfl ?_)|(apply X5;(refine Wq rfl Yac ?_);intro _))))
 rotate_left
 · rintro ch loc ⟨e,g5,rfl,rfl⟩;((repeat (first|(with_reducible refine Wd ?_)|(with_reducible refine Wn ?_)));refine Xv (loc':=[]) (List.nil_sublist _) ?_);exact ⟨e,hres.symm.trans (Xw ((Xld t3).trans (Xw g5))),rfl,rfl⟩
 rintro _ loc ⟨ct,t4,g5,rfl,rfl⟩
 have g6:=(Xld t3).trans (We g5)
 have hl4:=(Xmz (Q:=TT) fun w _=>Ra w).len g6
 rw [We g6,We (Xhb _ _)] at hres
 have hfr:=Wv b t4 en qs wFree
 obtain ⟨t5,ht5⟩: ∃t5,t5=if isT wFree t4 then t4.tail else t4:=⟨_,rfl⟩
 have hl5:t5.length≤t4.length:=by rw [ht5];split<;>simp
 rw [←ht5] at hfr hres
 clear ht5
 generalize isT wFree t4=fr at hfr hres
 have hpl:=Wv b t5 en qs wPlaces
 have hcl:=fun t=>W4 b t en qs wTie
 cases hP:isT wPlaces t5
 · rw [hP,if_neg Ybn] at hpl
   have kw:=Vn b t5 en qs wScore
   have hsc:=Xob hP
   (repeat' (first|(apply Xy 26;refine X6 (.one 0 rfl .nil) Tryz.func146 rfl kw rfl ?_ ?_)|refine Xf ?_|refine Xb ?_|refine Xd ?_|(apply Xk;(first|exact Xe rfl|exact Ya1|exact Yad|exact Yaw);exact rfl)|refine Xx rfl ?_|(apply Xi;exact rfl;first|(apply Xn;first|(refine Xl (.one 0 rfl .nil) Tryz.func155 rfl hfr rfl ?_;rintro _ _ ⟨rfl,rfl⟩)|(refine Xl (.one 0 rfl .nil) Tryz.func155 rfl hpl rfl ?_;rintro _ _ ⟨rfl,rfl⟩))|(apply Xt;refine Xq (k:=1) (l0:=[]) rfl rfl rfl ?_))))
   all_goals (try (exfalso;first|contradiction|omega))
   rotate_left
   · rintro ch loc ⟨e,g7,rfl,rfl⟩;((repeat (first|(with_reducible refine Wd ?_)|(with_reducible refine Wn ?_)));refine Xv (loc':=[]) (List.nil_sublist _) ?_);exact ⟨e,hres.symm.trans (Xw (hsc.trans (Xw g7))),rfl,rfl⟩
   rintro pw loc ⟨t6,g7,rfl⟩
   have hl6:=(W8 (Q:=TT) (Ra wScore)).len g7
   have kx:=Xkd b t6 en qs Yan
   (repeat' (first|(apply Xy 28;refine X6 (.one 0 rfl .nil) Tryz.func189 rfl kx rfl ?_ ?_)|refine Xb ?_|refine Xd ?_|(apply Xk;(exact Xe rfl);exact rfl)))
   all_goals (try (exfalso;first|contradiction|omega))
   rotate_left
   · rintro ch loc ⟨e,g8,rfl,rfl⟩;((repeat (first|(with_reducible refine Wd ?_)|(with_reducible refine Wn ?_)));refine Xv (loc':=[]) (List.nil_sublist _) ?_);exact ⟨e,hres.symm.trans (Xw (hsc.trans ((We g7).trans (Xw g8)))),rfl,rfl⟩
   rintro _ loc ⟨k,x,t7,g8,rfl,rfl⟩
   have hl7:=(Xcn 16).len g8
   rw [We (hsc.trans ((We g7).trans (We g8)))] at hres
   (repeat' (first|(apply Vs 8;refine Stop.out ?_)|refine Xf ?_|refine Xd ?_|(apply Xk;(exact Yad);exact rfl)|(apply Xi;exact rfl;(apply Xt;refine Xq (k:=1) (l0:=[]) rfl rfl rfl ?_))))
   refine ⟨Wf (env':=[(0,ex (.pointer (some ⟨b,0,none⟩))),(2,ex (.pointer (some ⟨b2,0,none⟩)))]) (loc':=[Ug b t7 en qs,row b2 54 13 [exT nm,exI .i64 pn,exI .i64 qt,exI .i64 (ct:Int),exB false,exB fr,exI .i64 x.kind,exT x.name,exI .i64 x.n,exI .i64 x.d,exL k x.l,exT [],exI .i64 0]]) (Xg (by repeat (first|exact Xm|refine Xh rfl ?_)) (by first|exact .refl _|exact .cons_cons _ (.cons _ (.refl _)))) ?_⟩
   have hcl:=hcl t7
   cases hT:isT wTie t7
   · rw [hT] at hcl
     rw [We (Xlv hT)] at hres
     (repeat' (first|refine Xf ?_|refine Xb ?_|refine Xd ?_|(apply Xk;exact Yd2;exact rfl)|refine Xs ?_|refine Xz ?_|refine X2 rfl ?_|(apply Xi;exact rfl;first|(apply Xn;(refine Xl (.one 0 rfl .nil) Tryz.func184 rfl hcl rfl ?_;rintro _ _ ⟨rfl,rfl⟩))|(apply Xt;refine Xq (k:=1) (l0:=[]) rfl rfl rfl ?_))))
     all_goals (try (exfalso;first|contradiction|omega))
     exact ⟨.inr rfl,Vk rfl (.cella (k:=1) rfl rfl rfl rfl inferInstance rfl) Ya3 ⟨k,_,_,hres.symm,rfl,rfl⟩⟩
   · rw [hT] at hcl
     have htr:=Xi5 hT
     have kn:=To b t7 en qs wTie
     (repeat' (first|(apply Xy 34;refine X6 (.one 0 rfl .nil) Tryz.func145 rfl kn rfl ?_ ?_)|refine Xf ?_|refine Xb ?_|refine Xd ?_|(apply Xk;exact Ydo;exact rfl)|refine Xx rfl ?_|(apply Xi;exact rfl;first|(apply Xn;(refine Xl (.one 0 rfl .nil) Tryz.func184 rfl hcl rfl ?_;rintro _ _ ⟨rfl,rfl⟩))|(apply Xt;refine Xq (k:=1) (l0:=[]) rfl rfl rfl ?_))))
     all_goals (try (exfalso;first|contradiction|omega))
     rotate_left
     · rintro ch loc ⟨e,g9,rfl,rfl⟩;((repeat (first|(with_reducible refine Wd ?_)|(with_reducible refine Wn ?_)));refine Xv (loc':=[]) (List.nil_sublist _) ?_);exact ⟨e,hres.symm.trans (Xw (htr.trans (Xw g9))),rfl,rfl⟩
     rintro _ loc ⟨ti,t8,g9,rfl,rfl⟩
     rw [We (htr.trans (We g9))] at hres
     (repeat' (first|refine Xf ?_|refine Xb ?_|refine Xd ?_|(apply Xk;(first|exact Ybg|exact Yad);exact rfl)|refine Xz ?_|(apply Xi;exact rfl;(apply Xt;refine Xq (k:=1) (l0:=[]) rfl rfl rfl ?_))))
     exact ⟨.inr rfl,Vk rfl (.cella (k:=1) rfl rfl rfl rfl inferInstance rfl) Ya3 ⟨k,_,_,hres.symm,rfl,rfl⟩⟩
 · rw [hP,if_pos rfl] at hpl
   rw [We (Xlu hP)] at hres
   (repeat' (first|(apply Vs 8;refine Stop.out ?_)|refine Xf ?_|refine Xb ?_|refine Xd ?_|(apply Xk;(first|exact Xe rfl|exact Ya1|exact Yad|exact Yaw);exact rfl)|refine Xs ?_|refine X2 rfl ?_|(apply Xi;exact rfl;first|(apply Xn;first|(refine Xl (.one 0 rfl .nil) Tryz.func155 rfl hfr rfl ?_;rintro _ _ ⟨rfl,rfl⟩)|(refine Xl (.one 0 rfl .nil) Tryz.func155 rfl hpl rfl ?_;rintro _ _ ⟨rfl,rfl⟩))|(apply Xt;refine Xq (k:=1) (l0:=[]) rfl rfl rfl ?_))))
   refine ⟨Wf (env':=[(0,ex (.pointer (some ⟨b,0,none⟩))),(2,ex (.pointer (some ⟨b2,0,none⟩)))]) (loc':=[Ug b t5.tail en qs,row b2 54 13 [exT nm,exI .i64 pn,exI .i64 qt,exI .i64 (ct:Int),exB true,exB fr,exI .i64 0,exT [],exI .i64 0,exI .i64 0,ex (.slice none 0 0),exT [],exI .i64 0]]) (Xg (by repeat (first|exact Xm|refine Xh rfl ?_)) (by first|exact .refl _|exact .cons_cons _ (.cons _ (.refl _)))) ?_⟩
   have hcl:=hcl t5.tail
   cases hT:isT wTie t5.tail
   · rw [hT] at hcl
     rw [We (Xlv hT)] at hres
     (repeat' (first|refine Xf ?_|refine Xb ?_|refine Xd ?_|(apply Xk;exact Yd2;exact rfl)|refine Xs ?_|refine Xz ?_|refine X2 rfl ?_|(apply Xi;exact rfl;first|(apply Xn;(refine Xl (.one 0 rfl .nil) Tryz.func184 rfl hcl rfl ?_;rintro _ _ ⟨rfl,rfl⟩))|(apply Xt;refine Xq (k:=1) (l0:=[]) rfl rfl rfl ?_))))
     all_goals (try (exfalso;first|contradiction|omega))
     exact ⟨.inr rfl,Xer (Vk rfl (.cella (k:=1) rfl rfl rfl rfl inferInstance rfl) Ya3 ⟨rfl,rfl⟩) (Ims.agg (Xd3 _ _ _ _ _ _ _ _)) ⟨1,_,_,hres.symm,rfl,rfl⟩⟩
   · rw [hT] at hcl
     have htr:=Xi5 hT
     have kn:=To b t5.tail en qs wTie
     (repeat' (first|(apply Xy 34;refine X6 (.one 0 rfl .nil) Tryz.func145 rfl kn rfl ?_ ?_)|refine Xf ?_|refine Xb ?_|refine Xd ?_|(apply Xk;exact Ydo;exact rfl)|refine Xx rfl ?_|(apply Xi;exact rfl;first|(apply Xn;(refine Xl (.one 0 rfl .nil) Tryz.func184 rfl hcl rfl ?_;rintro _ _ ⟨rfl,rfl⟩))|(apply Xt;refine Xq (k:=1) (l0:=[]) rfl rfl rfl ?_))))
     all_goals (try (exfalso;first|contradiction|omega))
     rotate_left
     · rintro ch loc ⟨e,g9,rfl,rfl⟩;((repeat (first|(with_reducible refine Wd ?_)|(with_reducible refine Wn ?_)));refine Xv (loc':=[]) (List.nil_sublist _) ?_);exact ⟨e,hres.symm.trans (Xw (htr.trans (Xw g9))),rfl,rfl⟩
     rintro _ loc ⟨ti,t8,g9,rfl,rfl⟩
     rw [We (htr.trans (We g9))] at hres
     (repeat' (first|refine Xf ?_|refine Xb ?_|refine Xd ?_|(apply Xk;(first|exact Ybg|exact Yad);exact rfl)|refine Xz ?_|(apply Xi;exact rfl;(apply Xt;refine Xq (k:=1) (l0:=[]) rfl rfl rfl ?_))))
     exact ⟨.inr rfl,Xer (Vk rfl (.cella (k:=1) rfl rfl rfl rfl inferInstance rfl) Ya3 ⟨rfl,rfl⟩) (Ims.agg (Xd3 _ _ _ _ _ _ _ _)) ⟨1,_,_,hres.symm,rfl,rfl⟩⟩
end Go.Proofs.YthdldeenpgeemaaGreatDoor
namespace Go.Sx
open Go.Lx Go.Fr
def beginP:List TokD→Res (List UInt8):=bnd (Rl wCompetition) fun nm=>bnd (want sSemi) fun _=>ret nm
def partsP:List TokD→Res (List Crit×List ItemD×List ItemD×List TieD×List RoundD):=bnd (Sa wCriterion critB) fun cs=>bnd (Sa wBonus (R5 wBonus)) fun bs=>bnd (Sa wMalus (R5 wMalus)) fun ms=>bnd (Sa wTie tieB) fun tis=>bnd (Sa wRound roundB) fun rs=>ret (cs,bs,ms,tis,rs)
theorem Xlw {α β γ:Type} (f:List TokD→Res α) (g:α→List TokD→Res β) (h:β→List TokD→Res γ):bnd (bnd f g) h=bnd f fun x=>bnd (g x) h:=by
 funext ts
 unfold bnd
 cases f ts<;>rfl
theorem Xp2 {α β:Type} (x:α) (g:α→List TokD→Res β):bnd (ret x) g=g x:=rfl
def restP:Nat→RulesD→List TokD→Res RulesD
 | 0,r=>bnd beginP fun nm=>restP 1 { r with name:=nm }
 | 1,r=>bnd partsP fun p=>restP 2 { r with crits:=p.1,bonus:=p.2.1,malus:=p.2.2.1,ties:=p.2.2.2.1,rounds:=p.2.2.2.2 }
 | 2,r=>bnd prizesP fun x=>restP 3 { r with prizes:=x }
 | 3,r=>bnd pointsP fun x=>restP 4 { r with points:=x.1,best:=x.2 }
 | _,r=>bnd endP fun _=>ret r
termination_by i=>4-i
theorem rules_rest:rulesP=restP 0 zeroR:=by
 simp only [restP,beginP,partsP,Xlw,Xp2]
 rfl
end Go.Sx
namespace Go.Proofs.YthdldeenpgeemaaGreatDoor
open Go Go.RowKit Go.Kx Go.Fr Go.Lx Go.Sx
theorem Xf6 (b:Nat) (w:List UInt8):FnC Tryz.prog 150 [ex (.pointer (some ⟨b,0,none⟩)),exT w] [] (fun p loc=>p=Xdv (.func 186) [] [fp [ex (.pointer (some ⟨b,0,none⟩))],fp [exT w]]∧loc=[]):=by
 refine X4 Tryz.func150 rfl Tryz.ntmps150 rfl fun w0 F0 out=>?_
 (repeat' (first|(apply Xy 5;refine Xbg ((Tw (k:=0) (t:=3) rfl rfl).trans (Tw (k:=0) (t:=2) rfl rfl)) ?_;apply Xk;exact Tg (ps:=[]) (qs:=[fp [ex (.pointer (some ⟨b,0,none⟩))],fp [exT w]]) rfl rfl;exact rfl)|refine Xf ?_|refine Xb ?_|refine Xd ?_|(apply Xk;(exact Xj rfl);exact rfl)|refine Xz ?_|(apply Xi;exact rfl;(apply U7;refine V2 rfl ?_;intro _))))
 exact ⟨.inr rfl,Vk rfl (.tmp rfl) (List.nil_sublist _) ⟨rfl,rfl⟩⟩
theorem Xcy (b:Nat) (ts:List TokD) (en:Nat) (qs:List SP) (w:List UInt8) (hts:ts.length≤70000):FnP Tryz.prog 153 [ex (.pointer (some ⟨b,0,none⟩)),exT w,Xdv (.func 154) [ex (.pointer (some ⟨b,0,none⟩))] []] [Ug b ts en qs] (fun p loc=> ∃(K:Nat) (x:List RoundD) (r:List TokD),Sa w roundB ts= .ok (x,r)∧p=isl (Vy K) x∧loc=[Ug b r en qs]) (fun ch loc=> ∃e,Sa w roundB ts= .error e∧Ua en e ch loc):=by
 have k0:=fun (ts:List TokD) (hts:ts.length≤70000)=>Xhq b ts en qs hts
 have hlw:Lw TT roundB:=lw_roundT
 have hls:Less roundB:=less_round
 refine Ww Tryz.func153 rfl Tryz.ntmps153 rfl fun w0 F0 out=>?_
 generalize hres:Sa w roundB ts=res
 unfold Sa at hres
 (repeat' (first|refine Xf ?_|refine Xb ?_|refine Xd ?_|(apply Xk;(exact Xj rfl);exact rfl)|refine Xp ?_))
 refine W1 (fun x:Nat×Value×List RoundD×List TokD=>([(0,ex (.pointer (some ⟨b,0,none⟩))),(1,exT w),(2,Xdv (.func 154) [ex (.pointer (some ⟨b,0,none⟩))] []),(6,ex x.2.1)],[Ug b x.2.2.2 en qs,vec x.2.1 54 13 x.2.2.1.length (x.2.2.1.flatMap (W3 x.1))])) (fun x=>Xcl (isT w) (Uv roundB) x.2.2.1 x.2.2.2=res∧x.2.2.1.length+x.2.2.2.length≤ts.length) (fun x=>x.2.2.2.length) (0,.slice none 0 0,[],ts) ?_ ⟨hres,by show 0+ts.length≤_;omega⟩ fun x hx=>?_
 · refine Tc 54 13 ?_
   refine Leads.trans (Vj (.swap _ _ _)) ?_
   exact Xg (by repeat (first|exact Xm|refine Xh rfl ?_)) (List.Sublist.refl _)
 obtain ⟨K,v,acc,t⟩:=x
 obtain ⟨hinv,hacc⟩:=hx
 simp only at hinv hacc ⊢
 clear hres
 rw [Sr rfl (T5 hls)] at hinv
 have his:=W4 b t en qs w
 cases hT:isT w t
 · rw [hT] at his hinv
   rw [if_neg Ybn] at hinv
   (repeat' (first|(apply Xy 17;refine Qw (k:=1) (t:=6) (E:=(Vy K)) acc rfl rfl rfl rfl ?_ (hby:=by show acc.length * 136≤_;omega))|refine Xf ?_|refine Xb ?_|refine Xd ?_|(apply Xk;exact Ya0;exact rfl)|refine Xz ?_|refine Wy ?_|refine X2 rfl ?_|(apply Xi;exact rfl;(apply Xn;(refine Xl (.one 0 rfl .nil) Tryz.func184 rfl his rfl ?_;rintro _ _ ⟨rfl,rfl⟩)))))
   all_goals (try (exfalso;first|contradiction|omega))
   exact ⟨.inr rfl,Vk rfl (.tmp rfl) (List.Sublist.refl _) ⟨K,_,_,hinv.symm,rfl,rfl⟩⟩
 · rw [hT] at his hinv
   rw [if_pos rfl] at hinv
   have k1:=k0 t Yan
   (repeat' (first|(apply Xy 12;refine U9 (args:=[]) rfl (.one 0 rfl .nil) Tryz.func154 rfl k1 rfl ?_ ?_)|refine Xf ?_|refine Xb ?_|refine Xd ?_|(apply Xk;(exact Xe rfl);exact rfl)|refine Xp ?_|refine Xs ?_|refine Xx rfl ?_|(apply Xi;exact rfl;(apply Xn;(refine Xl (.one 0 rfl .nil) Tryz.func184 rfl his rfl ?_;rintro _ _ ⟨rfl,rfl⟩)))))
   all_goals (try (exfalso;first|contradiction|omega))
   rotate_left
   · rintro ch loc ⟨e,g1,rfl,rfl⟩;((repeat (first|(with_reducible refine Wd ?_)|(with_reducible refine Wn ?_)));refine Xv (loc':=[]) (List.nil_sublist _) ?_);exact ⟨e,hinv.symm.trans (Xw (Xw g1)),rfl,rfl⟩
   rintro _ loc ⟨ky,y,t2,g1,rfl,rfl⟩
   have hl2:=hls.lt g1
   have hw: ∀r,want sSemi t2= .ok ((),r)→Uv roundB acc t=ret (acc++[y]) r:=fun r g=>(We g1).trans (We g)
   have k2:=Vn b t2 en qs sSemi
   (repeat' (first|(apply Xy 16;refine X6 (.one 1 rfl .nil) Tryz.func146 rfl k2 rfl ?_ ?_)|refine Xb ?_|refine Xd ?_|(apply Xk;exact Ya0;exact rfl)|(apply Xi;exact rfl;first|(apply V4;((refine V5 (k:=2) (l0:=[]) rfl rfl Yb4 rfl ?_));intro _)|(apply X5;(refine Wb rfl rfl ?_);intro _))))
   rotate_left
   · rintro ch loc ⟨e,g2,rfl,rfl⟩;((repeat (first|(with_reducible refine Wd ?_)|(with_reducible refine Wn ?_)));refine Xv (loc':=[]) (List.nil_sublist _) ?_);exact ⟨e,hinv.symm.trans (Xw (show Uv roundB acc t= .error e from (We g1).trans (Xw g2))),rfl,rfl⟩
   rintro pw loc ⟨t3,g2,rfl⟩
   have hl3:=(W8 (Q:=TT) (Ra sSemi)).len g2
   rw [We (hw t3 g2)] at hinv
   (repeat' (refine Xd ?_))
   rename_i b13 v2
   refine ⟨(max K ky,v2,acc++[y],t3),⟨hinv,by simp only [List.length_append,List.length_cons,List.length_nil];omega⟩,by show t3.length<t.length;omega,?_⟩
   refine Leads.trans (Rf (k:=2) (ps:=acc.flatMap (W3 K)++W3 ky y) rfl (Qh (Xf5 (Nat.le_max_left K ky) acc) (Xf4 (Nat.le_max_right K ky) y))) ?_
   simp only [List.length_append,List.flatMap_append,List.length_cons,List.length_nil,List.flatMap_cons,List.flatMap_nil,List.append_nil]
   exact Xg (by repeat (first|exact Xm|refine Xh rfl ?_)) Yc8
theorem Xhr (b:Nat) (ts:List TokD) (en:Nat) (q0 q1 q2 q3 q4 q5 q6 q7 q8:SP) (hts:ts.length≤70000):FnP Tryz.prog 83 [ex (.pointer (some ⟨b,0,none⟩))] [Ug b ts en [q0,q1,q2,q3,q4,q5,q6,q7,q8]] (fun _ loc=> ∃x r,beginP ts= .ok (x,r)∧loc=[Ug b r en [exT x,q1,q2,q3,q4,q5,q6,q7,q8]]) (fun ch loc=> ∃e,beginP ts= .error e∧Ua en e ch loc):=by
 refine Ww Tryz.func83 rfl Tryz.ntmps83 rfl fun w0 F0 out=>?_
 generalize hres:beginP ts=res
 unfold beginP at hres
 have k1:=To b ts en [q0,q1,q2,q3,q4,q5,q6,q7,q8] wCompetition
 (repeat' (first|(apply Xy 4;refine X6 (.one 0 rfl .nil) Tryz.func145 rfl k1 rfl ?_ ?_)|refine Xf ?_|refine Xb ?_|(apply Xk;(exact Xe rfl);exact rfl)))
 all_goals (try (exfalso;first|contradiction|omega))
 rotate_left
 · rintro ch loc ⟨e,g1,rfl,rfl⟩;((repeat (first|(with_reducible refine Wd ?_)|(with_reducible refine Wn ?_)));refine Xv (loc':=[]) (List.nil_sublist _) ?_);exact ⟨e,hres.symm.trans (Xw g1),rfl,rfl⟩
 rintro _ loc ⟨nm,t1,g1,rfl,rfl⟩
 rw [We g1] at hres
 have k2:=Vn b t1 en [exT nm,q1,q2,q3,q4,q5,q6,q7,q8] sSemi
 (repeat' (first|(apply Xy 9;refine X6 (.one 0 rfl .nil) Tryz.func146 rfl k2 rfl ?_ ?_)|refine Xb ?_|refine Xd ?_|(apply Xk;exact Ycc;exact rfl)|(apply Xi;exact rfl;(apply Xt;refine Xq (k:=0) (l0:=[]) rfl rfl rfl ?_))))
 all_goals (try (exfalso;first|contradiction|omega))
 rotate_left
 · rintro ch loc ⟨e,g2,rfl,rfl⟩;((repeat (first|(with_reducible refine Wd ?_)|(with_reducible refine Wn ?_)));refine Xv (loc':=[]) (List.nil_sublist _) ?_);exact ⟨e,hres.symm.trans (Xw g2),rfl,rfl⟩
 rintro pw loc ⟨t2,g2,rfl⟩
 rw [We g2] at hres
 (repeat' (refine Xd ?_))
 exact ⟨.inl rfl,Rn rfl (List.Sublist.refl _) ⟨_,_,hres.symm,rfl⟩⟩
theorem Xhs (b:Nat) (ts:List TokD) (en:Nat) (q0 q1 q2 q3 q4 q5 q6 q7 q8:SP) (hts:ts.length≤70000):FnP Tryz.prog 84 [ex (.pointer (some ⟨b,0,none⟩))] [Ug b ts en [q0,q1,q2,q3,q4,q5,q6,q7,q8]] (fun _ loc=> ∃K x r,partsP ts= .ok (x,r)∧loc=[Ug b r en [q0,isl eCrit x.1,isl eItem x.2.1,isl eItem x.2.2.1,isl eTie x.2.2.2.1,isl (Vy K) x.2.2.2.2,q6,q7,q8]]) (fun ch loc=> ∃e,partsP ts= .error e∧Ua en e ch loc):=by
 refine Ww Tryz.func84 rfl Tryz.ntmps84 rfl fun w0 F0 out=>?_
 generalize hres:partsP ts=res
 unfold partsP at hres
 have lc:=Qp (Q:=TT) wCriterion (Ra _) (Xh7 (fun _ _ _=>trivial) (fun _ _=>trivial) fun w _=>Ra w) less_crit
 have li:=fun w=>Qp (Q:=TT) w (Ra _) (Xfc (w:=w) (fun _ _ _=>trivial) (fun _ _=>trivial) fun w _=>Ra w) (Xa9 w)
 have lt:=Qp (Q:=TT) wTie (Ra _) (Xmw (fun _ _ _=>trivial) (Ra _) (Ra _) fun w _=>Ra w) less_tie
 have hi1:=Xf6 b wBonus
 have hi2:=Xf6 b wMalus
 have k1:=Xdm b ts en [q0,q1,q2,q3,q4,q5,q6,q7,q8] wCriterion hts
 (repeat' (first|(apply Xy 5;apply Xk;exact Tg (ps:=[ex (.pointer (some ⟨b,0,none⟩))]) (qs:=[]) rfl rfl;exact rfl)|(apply Xy 6;refine X6 (.one 0 rfl .nil) Tryz.func147 rfl k1 rfl ?_ ?_)|refine Xf ?_|refine Xb ?_|(apply Xk;(exact Xe rfl);exact rfl)))
 all_goals (try (exfalso;first|contradiction|omega))
 rotate_left
 · rintro ch loc ⟨e,g1,rfl,rfl⟩;((repeat (first|(with_reducible refine Wd ?_)|(with_reducible refine Wn ?_)));refine Xv (loc':=[]) (List.nil_sublist _) ?_);exact ⟨e,hres.symm.trans (Xw g1),rfl,rfl⟩
 rintro _ loc ⟨cs,t1,g1,rfl,rfl⟩
 rw [We g1] at hres
 have h1:=lc.len g1
 have k2:=Q6 b t1 en [q0,isl eCrit cs,q2,q3,q4,q5,q6,q7,q8] wBonus Yan
 (repeat' (first|(apply Xy 14;refine X6 (.one 0 rfl .nil) Tryz.func149 rfl k2 rfl ?_ ?_)|refine Xf ?_|refine Xb ?_|refine Xd ?_|(apply Xk;exact Ycc;exact rfl)|(apply Xi;exact rfl;first|(apply Xn;(refine X9 Tryz.func150 rfl hi1 rfl ?_;rintro _ _ ⟨rfl,rfl⟩))|(apply Xt;refine Xq (k:=0) (l0:=[]) rfl rfl rfl ?_))))
 all_goals (try (exfalso;first|contradiction|omega))
 rotate_left
 · rintro ch loc ⟨e,g2,rfl,rfl⟩;((repeat (first|(with_reducible refine Wd ?_)|(with_reducible refine Wn ?_)));refine Xv (loc':=[]) (List.nil_sublist _) ?_);exact ⟨e,hres.symm.trans (Xw g2),rfl,rfl⟩
 rintro _ loc ⟨bs,t2,g2,rfl,rfl⟩
 rw [We g2] at hres
 have h2:=(li wBonus).len g2
 have k3:=Q6 b t2 en [q0,isl eCrit cs,isl eItem bs,q3,q4,q5,q6,q7,q8] wMalus Yan
 (repeat' (first|(apply Xy 22;refine X6 (.one 0 rfl .nil) Tryz.func149 rfl k3 rfl ?_ ?_)|refine Xf ?_|refine Xb ?_|refine Xd ?_|(apply Xk;exact Ycc;exact rfl)|(apply Xi;exact rfl;first|(apply Xn;(refine X9 Tryz.func150 rfl hi2 rfl ?_;rintro _ _ ⟨rfl,rfl⟩))|(apply Xt;refine Xq (k:=0) (l0:=[]) rfl rfl rfl ?_))))
 all_goals (try (exfalso;first|contradiction|omega))
 rotate_left
 · rintro ch loc ⟨e,g3,rfl,rfl⟩;((repeat (first|(with_reducible refine Wd ?_)|(with_reducible refine Wn ?_)));refine Xv (loc':=[]) (List.nil_sublist _) ?_);exact ⟨e,hres.symm.trans (Xw g3),rfl,rfl⟩
 rintro _ loc ⟨ms,t3,g3,rfl,rfl⟩
 rw [We g3] at hres
 have h3:=(li wMalus).len g3
 have k4:=Xen b t3 en [q0,isl eCrit cs,isl eItem bs,isl eItem ms,q4,q5,q6,q7,q8] wTie Yan
 (repeat' (first|(apply Xy 29;apply Xk;exact Tg (ps:=[ex (.pointer (some ⟨b,0,none⟩))]) (qs:=[]) rfl rfl;exact rfl)|(apply Xy 30;refine X6 (.one 0 rfl .nil) Tryz.func151 rfl k4 rfl ?_ ?_)|refine Xf ?_|refine Xb ?_|refine Xd ?_|(apply Xk;exact Ycc;exact rfl)|(apply Xi;exact rfl;(apply Xt;refine Xq (k:=0) (l0:=[]) rfl rfl rfl ?_))))
 all_goals (try (exfalso;first|contradiction|omega))
 rotate_left
 · rintro ch loc ⟨e,g4,rfl,rfl⟩;((repeat (first|(with_reducible refine Wd ?_)|(with_reducible refine Wn ?_)));refine Xv (loc':=[]) (List.nil_sublist _) ?_);exact ⟨e,hres.symm.trans (Xw g4),rfl,rfl⟩
 rintro _ loc ⟨tis,t4,g4,rfl,rfl⟩
 rw [We g4] at hres
 have h4:=lt.len g4
 have k5:=Xcy b t4 en [q0,isl eCrit cs,isl eItem bs,isl eItem ms,isl eTie tis,q5,q6,q7,q8] wRound Yan
 (repeat' (first|(apply Xy 37;apply Xk;exact Tg (ps:=[ex (.pointer (some ⟨b,0,none⟩))]) (qs:=[]) rfl rfl;exact rfl)|(apply Xy 38;refine X6 (.one 0 rfl .nil) Tryz.func153 rfl k5 rfl ?_ ?_)|refine Xb ?_|refine Xd ?_|(apply Xk;exact Ycc;exact rfl)|(apply Xi;exact rfl;(apply Xt;refine Xq (k:=0) (l0:=[]) rfl rfl rfl ?_))))
 all_goals (try (exfalso;first|contradiction|omega))
 rotate_left
 · rintro ch loc ⟨e,g5,rfl,rfl⟩;((repeat (first|(with_reducible refine Wd ?_)|(with_reducible refine Wn ?_)));refine Xv (loc':=[]) (List.nil_sublist _) ?_);exact ⟨e,hres.symm.trans (Xw g5),rfl,rfl⟩
 rintro _ loc ⟨K,rs,t5,g5,rfl,rfl⟩
 rw [We g5] at hres
 (repeat' (first|refine Xd ?_|(apply Xk;(first|exact Yad|exact Yam);exact rfl)|(apply Xi;exact rfl;(apply Xt;refine Xq (k:=0) (l0:=[]) rfl rfl rfl ?_))))
 exact ⟨.inl rfl,Rn rfl (List.Sublist.refl _) ⟨K,(cs,bs,ms,tis,rs),_,hres.symm,rfl⟩⟩
theorem Xf7 (b:Nat) (ts:List TokD) (en:Nat) (q0 q1 q2 q3 q4 q5 q6 q7 q8:SP) (hts:ts.length≤70000):FnP Tryz.prog 85 [ex (.pointer (some ⟨b,0,none⟩))] [Ug b ts en [q0,q1,q2,q3,q4,q5,q6,q7,q8]] (fun _ loc=> ∃x r,prizesP ts= .ok (x,r)∧loc=[Ug b r en (if isT wPrizes ts then [q0,q1,q2,q3,q4,q5,isl eI x,q7,q8] else [q0,q1,q2,q3,q4,q5,q6,q7,q8])]) (fun ch loc=> ∃e,prizesP ts= .error e∧Ua en e ch loc):=by
 refine Ww Tryz.func85 rfl Tryz.ntmps85 rfl fun w0 F0 out=>?_
 generalize hres:prizesP ts=res
 have htk:=Wv b ts en [q0,q1,q2,q3,q4,q5,q6,q7,q8] wPrizes
 cases hT:isT wPrizes ts
 · have hq:prizesP ts= .ok ([],ts):=if_neg (by rw [hT];simp)
   rw [hq] at hres
   rw [hT,if_neg Ybn] at htk
   (repeat' (first|refine Xf ?_|refine Xb ?_|refine Xd ?_|(apply Xk;(exact Xe rfl);exact rfl)|refine Xs ?_|refine X2 rfl ?_|(apply Xi;exact rfl;(apply Xn;(refine Xl (.one 0 rfl .nil) Tryz.func155 rfl htk rfl ?_;rintro _ _ ⟨rfl,rfl⟩)))))
   all_goals (try (exfalso;first|contradiction|omega))
   exact ⟨.inl rfl,Rn rfl (List.Sublist.refl _) ⟨_,_,hres.symm,rfl⟩⟩
 · have hq:prizesP ts=bnd (Xak numP) (fun l=>bnd (want sSemi) fun _=>ret l) ts.tail:=(if_pos hT).trans (We (Tn hT))
   rw [hq] at hres
   rw [hT,if_pos rfl] at htk
   have hl:ts.tail.length≤ts.length:=by rw [List.length_tail];omega
   have k1:=Xaq b ts.tail en [q0,q1,q2,q3,q4,q5,q6,q7,q8] Yan
   (repeat' (first|(apply Xy 7;apply Xk;exact Tg (ps:=[ex (.pointer (some ⟨b,0,none⟩))]) (qs:=[]) rfl rfl;exact rfl)|(apply Xy 8;refine X6 (.one 0 rfl .nil) Tryz.func156 rfl k1 rfl ?_ ?_)|refine Xf ?_|refine Xb ?_|refine Xd ?_|(apply Xk;(exact Xe rfl);exact rfl)|refine Xx rfl ?_|(apply Xi;exact rfl;(apply Xn;(refine Xl (.one 0 rfl .nil) Tryz.func155 rfl htk rfl ?_;rintro _ _ ⟨rfl,rfl⟩)))))
   all_goals (try (exfalso;first|contradiction|omega))
   rotate_left
   · rintro ch loc ⟨e,g1,rfl,rfl⟩;((repeat (first|(with_reducible refine Wd ?_)|(with_reducible refine Wn ?_)));refine Xv (loc':=[]) (List.nil_sublist _) ?_);exact ⟨e,hres.symm.trans (Xw g1),rfl,rfl⟩
   rintro _ loc ⟨x,t1,g1,rfl,rfl⟩
   rw [We g1] at hres
   have k2:=Vn b t1 en [q0,q1,q2,q3,q4,q5,isl eI x,q7,q8] sSemi
   (repeat' (first|(apply Xy 13;refine X6 (.one 0 rfl .nil) Tryz.func146 rfl k2 rfl ?_ ?_)|refine Xb ?_|refine Xd ?_|(apply Xk;exact Ycc;exact rfl)|(apply Xi;exact rfl;(apply Xt;refine Xq (k:=0) (l0:=[]) rfl rfl rfl ?_))))
   all_goals (try (exfalso;first|contradiction|omega))
   rotate_left
   · rintro ch loc ⟨e,g2,rfl,rfl⟩;((repeat (first|(with_reducible refine Wd ?_)|(with_reducible refine Wn ?_)));refine Xv (loc':=[]) (List.nil_sublist _) ?_);exact ⟨e,hres.symm.trans (Xw g2),rfl,rfl⟩
   rintro pw loc ⟨t2,g2,rfl⟩
   rw [We g2] at hres
   (repeat' (refine Xd ?_))
   exact ⟨.inl rfl,Rn rfl (List.Sublist.refl _) ⟨_,_,hres.symm,rfl⟩⟩
theorem Xf8 (b:Nat) (ts:List TokD) (en:Nat) (q0 q1 q2 q3 q4 q5 q6 q7 q8:SP) (hts:ts.length≤70000):FnP Tryz.prog 86 [ex (.pointer (some ⟨b,0,none⟩))] [Ug b ts en [q0,q1,q2,q3,q4,q5,q6,q7,q8]] (fun _ loc=> ∃x r,pointsP ts= .ok (x,r)∧loc=[Ug b r en (if isT wPoints ts then [q0,q1,q2,q3,q4,q5,q6,isl eI x.1,exI .i64 x.2] else [q0,q1,q2,q3,q4,q5,q6,q7,q8])]) (fun ch loc=> ∃e,pointsP ts= .error e∧Ua en e ch loc):=by
 refine Ww Tryz.func86 rfl Tryz.ntmps86 rfl fun w0 F0 out=>?_
 generalize hres:pointsP ts=res
 have htk:=Wv b ts en [q0,q1,q2,q3,q4,q5,q6,q7,q8] wPoints
 cases hT:isT wPoints ts
 · have hq:pointsP ts= .ok (([],0),ts):=if_neg (by rw [hT];simp)
   rw [hq] at hres
   rw [hT,if_neg Ybn] at htk
   (repeat' (first|refine Xf ?_|refine Xb ?_|refine Xd ?_|(apply Xk;(exact Xe rfl);exact rfl)|refine Xs ?_|refine X2 rfl ?_|(apply Xi;exact rfl;(apply Xn;(refine Xl (.one 0 rfl .nil) Tryz.func155 rfl htk rfl ?_;rintro _ _ ⟨rfl,rfl⟩)))))
   all_goals (try (exfalso;first|contradiction|omega))
   exact ⟨.inl rfl,Rn rfl (List.Sublist.refl _) ⟨_,_,hres.symm,rfl⟩⟩
 · have hq:pointsP ts=bnd (Xak numP) (fun l=>bnd (S8 wBest) fun n=>bnd (want sSemi) fun _=>ret (l,n)) ts.tail:=(if_pos hT).trans (We (Tn hT))
   rw [hq] at hres
   rw [hT,if_pos rfl] at htk
   have hl:ts.tail.length≤ts.length:=by rw [List.length_tail];omega
   have k1:=Xaq b ts.tail en [q0,q1,q2,q3,q4,q5,q6,q7,q8] Yan
   (repeat' (first|(apply Xy 7;apply Xk;exact Tg (ps:=[ex (.pointer (some ⟨b,0,none⟩))]) (qs:=[]) rfl rfl;exact rfl)|(apply Xy 8;refine X6 (.one 0 rfl .nil) Tryz.func156 rfl k1 rfl ?_ ?_)|refine Xf ?_|refine Xb ?_|refine Xd ?_|(apply Xk;(exact Xe rfl);exact rfl)|refine Xx rfl ?_|(apply Xi;exact rfl;(apply Xn;(refine Xl (.one 0 rfl .nil) Tryz.func155 rfl htk rfl ?_;rintro _ _ ⟨rfl,rfl⟩)))))
   all_goals (try (exfalso;first|contradiction|omega))
   rotate_left
   · rintro ch loc ⟨e,g1,rfl,rfl⟩;((repeat (first|(with_reducible refine Wd ?_)|(with_reducible refine Wn ?_)));refine Xv (loc':=[]) (List.nil_sublist _) ?_);exact ⟨e,hres.symm.trans (Xw g1),rfl,rfl⟩
   rintro _ loc ⟨x,t1,g1,rfl,rfl⟩
   rw [We g1] at hres
   have k3:=Us b t1 en [q0,q1,q2,q3,q4,q5,q6,isl eI x,q8] wBest
   (repeat' (first|(apply Xy 14;refine X6 (.one 0 rfl .nil) Tryz.func158 rfl k3 rfl ?_ ?_)|refine Xf ?_|refine Xb ?_|refine Xd ?_|(apply Xk;exact Ycc;exact rfl)|(apply Xi;exact rfl;(apply Xt;refine Xq (k:=0) (l0:=[]) rfl rfl rfl ?_))))
   all_goals (try (exfalso;first|contradiction|omega))
   rotate_left
   · rintro ch loc ⟨e,g3,rfl,rfl⟩;((repeat (first|(with_reducible refine Wd ?_)|(with_reducible refine Wn ?_)));refine Xv (loc':=[]) (List.nil_sublist _) ?_);exact ⟨e,hres.symm.trans (Xw g3),rfl,rfl⟩
   rintro _ loc ⟨n,t3,g3,rfl,rfl⟩
   rw [We g3] at hres
   have k2:=Vn b t3 en [q0,q1,q2,q3,q4,q5,q6,isl eI x,exI .i64 n] sSemi
   (repeat' (first|(apply Xy 19;refine X6 (.one 0 rfl .nil) Tryz.func146 rfl k2 rfl ?_ ?_)|refine Xb ?_|refine Xd ?_|(apply Xk;exact Ycc;exact rfl)|(apply Xi;exact rfl;(apply Xt;refine Xq (k:=0) (l0:=[]) rfl rfl rfl ?_))))
   all_goals (try (exfalso;first|contradiction|omega))
   rotate_left
   · rintro ch loc ⟨e,g2,rfl,rfl⟩;((repeat (first|(with_reducible refine Wd ?_)|(with_reducible refine Wn ?_)));refine Xv (loc':=[]) (List.nil_sublist _) ?_);exact ⟨e,hres.symm.trans (Xw g2),rfl,rfl⟩
   rintro pw loc ⟨t2,g2,rfl⟩
   rw [We g2] at hres
   (repeat' (refine Xd ?_))
   exact ⟨.inl rfl,Rn rfl (List.Sublist.refl _) ⟨(x,n),_,hres.symm,rfl⟩⟩
end Go.Proofs.YthdldeenpgeemaaGreatDoor
namespace Go.Fr
theorem Xht (id:Nat) {C:Cx} {ops:Array Oper} {dr:Bool} {y:Code} {T:Exit→Act→World→Prop} {env:Env} {loc:List Ent} (h:WPR C (.seq (.region id ops dr) y) T env loc):WPR C (.seq (.region id ops dr) y) T env loc:=h
end Go.Fr
namespace Go.Proofs.YthdldeenpgeemaaGreatDoor
open Go Go.RowKit Go.Kx Go.Fr Go.Lx Go.Sx
abbrev zeroRC:List SP:=[exT [],ex (.slice none 0 0),ex (.slice none 0 0),ex (.slice none 0 0),ex (.slice none 0 0),ex (.slice none 0 0),ex (.slice none 0 0),ex (.slice none 0 0),exI .i64 0]
def Xqw (b0 b1 b2:Nat) (ps:List SP) (p1 p2:SP):List Ent:=[row b0 29 9 ps,row b1 3 1 [p1],row b2 30 1 [p2]]
theorem Xke (b0 b1 b2:Nat) (ps:List SP) (p1 p2:SP):FnD Tryz.prog 82 [ex (.pointer (some ⟨b0,0,none⟩)),ex (.pointer (some ⟨b1,0,none⟩)),ex (.pointer (some ⟨b2,0,none⟩))] (Xqw b0 b1 b2 ps p1 p2) .returning (fun u loc=>u= .returning∧loc=Xqw b0 b1 b2 ps p1 p2):=by
 unfold Xqw
 refine Xel Tryz.func82 rfl Tryz.ntmps82 Xir fun w0 F0 out=>?_
 (repeat' (first|refine Xf ?_|refine Xb ?_|refine Xd ?_|(apply Xk;(first|exact Xe rfl|(apply V1;exact Xek rfl rfl));exact rfl)|refine Xs ?_|refine X2 rfl ?_))
 exact ⟨.inl rfl,Rn rfl (List.Sublist.refl _) rfl⟩
theorem Xhu (b0 b1 b2:Nat) (p1 p2:SP) (at_:Int):FnD Tryz.prog 82 [ex (.pointer (some ⟨b0,0,none⟩)),ex (.pointer (some ⟨b1,0,none⟩)),ex (.pointer (some ⟨b2,0,none⟩))] (Xqw b0 b1 b2 zeroRC p1 p2) (.panicking [{ v:= .iface 139 (.agg #[.int .i64 at_]),recovered:=false }]) (fun u loc=>u= .panicking [{ v:= .iface 139 (.agg #[.int .i64 at_]),recovered:=true }]∧loc=Xqw b0 b1 b2 zeroRC (exI .i64 at_) (exI .i64 130)):=by
 unfold Xqw
 refine Xel Tryz.func82 rfl Tryz.ntmps82 Xfv fun w0 F0 out=>?_
 (repeat' (first|(apply Xy 11;apply Xk;exact Xj0 rfl rfl;exact rfl)|(apply W2 5;refine Stop.out ?_)|refine Xf ?_|refine Xb ?_|refine Xd ?_|(apply Xk;(first|exact Xe rfl|exact Xj rfl|exact Ybw|(apply V1;exact Xg5 rfl rfl)|exact Yaw);exact rfl)|refine Xs ?_|refine Xx rfl ?_|refine X2 rfl ?_|(apply Xi;exact rfl;first|(apply Wh;refine X7 ?_;intro _)|(apply Xt;refine Xq (k:=0) (l0:=[]) rfl rfl rfl ?_))))
 rename_i b4
 refine ⟨?_⟩
 (refine Ue ([row b4 139 1 [exI .i64 at_]]) 6 rfl ?_)
 all_goals ((apply Xc 0 rfl Yaa rfl Yab Xa;(exact Yca);exact rfl))
 all_goals ((apply Xc 1 rfl Yaa rfl Yab Xa;(exact Yad);exact rfl))
 all_goals ((apply Xu 2 rfl Yaa rfl Yaa Yab Xa;(exact Yaf);exact rfl))
 all_goals ((apply Xr 3;exact Yaa;exact rfl;exact Xa;exact (fun _ _ h=>h);(apply Xt;refine Xq (k:=1) (hH:=Ybq) rfl rfl rfl ?_)))
 all_goals ((apply Xr 4;exact Yaa;exact rfl;exact Xa;exact (fun _ _ h=>h);(apply Xt;refine Xq (k:=2) (hH:=Ybq) rfl rfl rfl ?_)))
 all_goals ((apply Xr 5;exact Yaa;exact rfl;exact Xa;exact (fun _ _ h=>h);(apply Xt;refine Xq (k:=3) (hH:=Ybq) rfl rfl rfl ?_)))
 all_goals (refine X3 Yaa ?_)
 all_goals ((repeat' (fail)))
 exact ⟨.inl rfl,Rn (loc':=[row b0 29 9 zeroRC,row b1 3 1 [exI .i64 at_],row b2 30 1 [exI .i64 130]]) rfl (by exact .cons _ (.refl _)) rfl⟩
end Go.Proofs.YthdldeenpgeemaaGreatDoor
namespace Go.Sx
open Go.Lx Go.Fr
theorem Xr2 (r:RulesD):restP 0 r=bnd beginP fun nm=>restP 1 { r with name:=nm }:=by rw [restP]
theorem Xr3 (r:RulesD):restP 1 r=bnd partsP fun p=>restP 2 { r with crits:=p.1,bonus:=p.2.1,malus:=p.2.2.1,ties:=p.2.2.2.1,rounds:=p.2.2.2.2 }:=by rw [restP]
theorem Xr4 (r:RulesD):restP 2 r=bnd prizesP fun x=>restP 3 { r with prizes:=x }:=by rw [restP]
theorem Xr5 (r:RulesD):restP 3 r=bnd pointsP fun x=>restP 4 { r with points:=x.1,best:=x.2 }:=by rw [restP]
theorem Xr6 (r:RulesD):restP 4 r=bnd endP fun _=>ret r:=by rw [restP]<;>(intro h;omega)
theorem Xp3 {ts:List TokD} {en:Nat} {r:RulesD} {u:List TokD} (h:restP 0 zeroR ts= .ok (r,u)):Qg ts en=(r,0,0):=by unfold Qg;rw [rules_rest,h]
theorem Xoc {ts e:List TokD} {en:Nat} (h:restP 0 zeroR ts= .error e):Qg ts en=(zeroR,Xgq en e,130):=by unfold Qg;rw [rules_rest,h]
end Go.Sx
namespace Go.Fr
open Go.RowKit Go.Kx Go.Sx
theorem zero_im:Ims [exT [],ex (.slice none 0 0),ex (.slice none 0 0),ex (.slice none 0 0),ex (.slice none 0 0),ex (.slice none 0 0),ex (.slice none 0 0),ex (.slice none 0 0),exI .i64 0] (Vc 1 zeroR):=
 .cons (Im.refl _) (.cons Im.nil (.cons Im.nil (.cons Im.nil (.cons Im.nil (.cons Im.nil (.cons Im.nil (.cons Im.nil (.cons (Im.refl _) .nil))))))))
end Go.Fr
namespace Go.Proofs.YthdldeenpgeemaaGreatDoor
open Go Go.RowKit Go.Kx Go.Fr Go.Lx Go.Sx
def Xod (z:RulesD×Int×Int) (p:SP) (loc:List Ent):Prop:=(∃k,p=tup [agg (Vc k z.1),exI .i64 z.2.1,exI .i64 z.2.2])∧loc=[]
theorem Xd4 (ts:List TokD) (en:Nat) (hts:ts.length≤70000):FnC Tryz.prog 28 [isl eTok ts,exI .i64 (en:Int)] [] (Xod (Qg ts en)):=by
 generalize hz:Qg ts en=z
 refine Xbu Tryz.func28 rfl Tryz.ntmps28 rfl fun w0 F0 out=>?_
 (repeat' (first|(apply Xht 1;refine Stop.out ?_)|refine Xhf ?_|refine Xb ?_|refine Xd ?_|(apply Xi;exact rfl;(apply Wh;refine X7 ?_;intro _))))
 rename_i b4 b5 b6
 refine ⟨?_⟩
 refine Xec ?_
 refine Xph (Xbh (vs:=[.pointer (some ⟨b4,0,none⟩),.pointer (some ⟨b5,0,none⟩),.pointer (some ⟨b6,0,none⟩)]) rfl) rfl ?_
 refine Xdb rfl ?_ rfl
 refine Xpi ?_
 (repeat' (first|(apply Xy 16;apply Xk;exact Tg (ps:=[_]) (qs:=[]) rfl rfl;exact rfl)|(apply Xy 18;apply Xk;exact Tg (ps:=[_]) (qs:=[]) rfl rfl;exact rfl)|(apply Xy 20;apply Xk;exact Tg (ps:=[_]) (qs:=[]) rfl rfl;exact rfl)|(apply Xy 22;apply Xk;exact Tg (ps:=[_]) (qs:=[]) rfl rfl;exact rfl)|refine Xf ?_|refine Xb ?_|refine Xd ?_|(apply Xk;(first|exact Xe rfl|exact Xj rfl|exact Yed|exact Ya7);exact rfl)|refine Xp ?_|(apply Xi;exact rfl;first|(apply U7;refine V2 rfl ?_;intro _)|(apply X5;(refine Wq rfl Yac ?_);intro _))))
 rename_i b7 b23
 refine W1 (fun x:Nat×Nat×RulesD×List TokD=>([(4,ex (.pointer (some ⟨b4,0,none⟩))),(5,ex (.pointer (some ⟨b5,0,none⟩))),(6,ex (.pointer (some ⟨b6,0,none⟩))),(7,ex (.pointer (some ⟨b7,0,none⟩))),(23,ex (.slice (some ⟨b23,0,none⟩) 4 4)),(24,exI .i64 4),(25,exI .i64 (x.1:Int))],[Ug b7 x.2.2.2 en (Vc x.2.1 x.2.2.1),row b23 1 4 [Xdv (.func 83) [ex (.pointer (some ⟨b7,0,none⟩))] [],Xdv (.func 84) [ex (.pointer (some ⟨b7,0,none⟩))] [],Xdv (.func 85) [ex (.pointer (some ⟨b7,0,none⟩))] [],Xdv (.func 86) [ex (.pointer (some ⟨b7,0,none⟩))] []],row b6 30 1 [exI .i64 0],row b5 3 1 [exI .i64 0],row b4 29 9 zeroRC])) (fun x=>x.1≤4∧restP 0 zeroR ts=restP x.1 x.2.2.1 x.2.2.2∧x.2.2.2.length≤ts.length∧(x.1≤2→x.2.2.1.prizes=[])∧(x.1≤3→x.2.2.1.points=[]∧x.2.2.1.best=0)) (fun x=>4-x.1) (0,1,zeroR,ts) ?_ ⟨Nat.zero_le _,rfl,Nat.le_refl _,fun _=>rfl,fun _=>⟨rfl,rfl⟩⟩ fun x hx=>?_
 · refine Leads.trans (Vj (.swap _ _ _)) ?_
   refine Leads.trans (Tz (k:=0) (b:=b7) (T:=143) (tot:=11) (ps:=isl eTok ts::exI .i64 (en:Int)::zeroRC) (qs:=isl eTok ts::exI .i64 (en:Int)::Vc 1 zeroR) rfl (.cons (Im.refl _) (.cons (Im.refl _) zero_im))) ?_
   exact Xg (by repeat (first|exact Xm|refine Xh rfl ?_)) (List.Sublist.refl _)
 obtain ⟨i,k,r,t⟩:=x
 obtain ⟨hi,hinv,hle,hp1,hp2⟩:=hx
 simp only at hi hinv hle hp1 hp2 ⊢
 have hpanic: ∀{env:Env} {e:List TokD},restP 0 zeroR ts= .error e→Fr.look 4 env=some (ex (.pointer (some ⟨b4,0,none⟩)))→Fr.look 5 env=some (ex (.pointer (some ⟨b5,0,none⟩)))→Fr.look 6 env=some (ex (.pointer (some ⟨b6,0,none⟩)))→ ∀e2:Ent,Xo9 (Cx.withD ⟨Tryz.prog,w0,F0,T8 [],out,44,[]⟩ ⟨.fn (.func 82) #[.pointer (some ⟨b4,0,none⟩),.pointer (some ⟨b5,0,none⟩),.pointer (some ⟨b6,0,none⟩)],#[]⟩) (Xqz ⟨Tryz.prog,w0,F0,T8 [],out,44,[]⟩ Tryz.f28 (Xod z)) (.panic [{ v:= .iface 139 (.agg #[.int .i64 (Xgq en e)]),recovered:=false }]) env [e2,row b6 30 1 [exI .i64 0],row b5 3 1 [exI .i64 0],row b4 29 9 zeroRC]:=by
   intro env e he g4 g5 g6 e2
   rw [Xoc he] at hz
   subst hz
   refine Xow (vs:=[.pointer (some ⟨b4,0,none⟩),.pointer (some ⟨b5,0,none⟩),.pointer (some ⟨b6,0,none⟩)]) rfl rfl (.one 3 rfl (.one 2 rfl (.one 1 rfl .nil))) Tryz.func82 rfl rfl (Xhu b4 b5 b6 _ _ _) (.ex (.ex (.ex .nil))) ?_
   rintro u' loc' ⟨rfl,rfl⟩
   refine ⟨rfl,.inr rfl,Xer (loc':=[]) (Xpp rfl (.cella (k:=0) g4 rfl rfl rfl inferInstance rfl) (.cell1 (k:=1) g5 rfl rfl rfl rfl) (.cell1 (k:=2) g6 rfl rfl rfl rfl) (List.nil_sublist _) ⟨rfl,rfl⟩) (Ims.tup (.cons (Ims.agg zero_im) (.cons (Im.refl _) (.cons (Im.refl _) .nil)))) ⟨⟨1,rfl⟩,rfl⟩⟩
 have l0:Lw TT beginP:=Wm (Tv (Ra _) fun _ _ _=>trivial) fun _=>Xsf _ _
 have l1:Lw TT partsP:=Wm (Qp _ (Ra _) (Xh7 (fun _ _ _=>trivial) (fun _ _=>trivial) fun w _=>Ra w) less_crit) fun _=>Wm (Qp _ (Ra _) (Xfc (fun _ _ _=>trivial) (fun _ _=>trivial) fun w _=>Ra w) (Xa9 _)) fun _=>Wm (Qp _ (Ra _) (Xfc (fun _ _ _=>trivial) (fun _ _=>trivial) fun w _=>Ra w) (Xa9 _)) fun _=>Wm (Qp _ (Ra _) (Xmw (fun _ _ _=>trivial) (Ra _) (Ra _) fun w _=>Ra w) less_tie) fun _=>Wm (Qp _ (Ra _) lw_roundT less_round) fun _=>Vq _
 have l2:Lw TT prizesP:=Xm0 (fun _ _=>trivial) fun w _=>Ra w
 have l3:Lw TT pointsP:=Xm1 (fun _ _=>trivial) fun w _=>Ra w
 by_cases hlt:i<4
 · rcases (show i=0∨i=1∨i=2∨i=3 by omega) with rfl|rfl|rfl|rfl
   · rw [Xr2 r] at hinv
     have kk:=Xhr b7 t en (exT r.name) (isl eCrit r.crits) (isl eItem r.bonus) (isl eItem r.malus) (isl eTie r.ties) (isl (Vy k) r.rounds) (isl eI r.prizes) (isl eI r.points) (exI .i64 r.best) Yan
     (repeat' (first|(apply Xy 30;refine U9 (args:=[]) rfl (.one 0 rfl .nil) Tryz.func83 rfl kk rfl ?_ ?_)|refine Xf ?_|refine Xb ?_|refine Xd ?_|(apply Xk;exact Ycp;exact rfl)|refine Xp ?_|refine Xs ?_|refine Xx rfl ?_))
     all_goals (try (exfalso;first|contradiction|omega))
     rotate_left
     · rintro ch loc ⟨e,g1,rfl,rfl⟩
       exact hpanic (hinv.trans (Xw g1)) rfl rfl rfl _
     rintro pw loc ⟨nm,t1,g1,rfl⟩
     have hl1:=l0.len g1
     rw [We g1] at hinv
     (repeat' (first|refine Xb ?_|refine Xd ?_|(apply Xk;exact Ya5;exact rfl)))
     exact ⟨(1,k,{ r with name:=nm },t1),⟨by omega,hinv,by show t1.length≤_;omega,fun _=>hp1 Yan,fun _=>hp2 Yan⟩,by show 4-(0+1)<4-0;omega,Xg (by repeat (first|exact Xm|refine Xh rfl ?_)) (List.Sublist.refl _)⟩
   · rw [Xr3] at hinv
     have kk:=Xhs b7 t en (exT r.name) (isl eCrit r.crits) (isl eItem r.bonus) (isl eItem r.malus) (isl eTie r.ties) (isl (Vy k) r.rounds) (isl eI r.prizes) (isl eI r.points) (exI .i64 r.best) Yan
     (repeat' (first|(apply Xy 30;refine U9 (args:=[]) rfl (.one 0 rfl .nil) Tryz.func84 rfl kk rfl ?_ ?_)|refine Xf ?_|refine Xb ?_|refine Xd ?_|(apply Xk;exact Ycp;exact rfl)|refine Xp ?_|refine Xs ?_|refine Xx rfl ?_))
     all_goals (try (exfalso;first|contradiction|omega))
     rotate_left
     · rintro ch loc ⟨e,g1,rfl,rfl⟩
       exact hpanic (hinv.trans (Xw g1)) rfl rfl rfl _
     rintro pw loc ⟨K,p,t1,g1,rfl⟩
     have hl1:=l1.len g1
     rw [We g1] at hinv
     (repeat' (first|refine Xb ?_|refine Xd ?_|(apply Xk;exact Ya5;exact rfl)))
     exact ⟨(2,K,{ r with crits:=p.1,bonus:=p.2.1,malus:=p.2.2.1,ties:=p.2.2.2.1,rounds:=p.2.2.2.2 },t1),⟨by omega,hinv,by show t1.length≤_;omega,fun _=>hp1 Yan,fun _=>hp2 Yan⟩,by show 4-(1+1)<4-1;omega,Xg (by repeat (first|exact Xm|refine Xh rfl ?_)) (List.Sublist.refl _)⟩
   · rw [Xr4] at hinv
     have kk:=Xf7 b7 t en (exT r.name) (isl eCrit r.crits) (isl eItem r.bonus) (isl eItem r.malus) (isl eTie r.ties) (isl (Vy k) r.rounds) (isl eI r.prizes) (isl eI r.points) (exI .i64 r.best) Yan
     (repeat' (first|(apply Xy 30;refine U9 (args:=[]) rfl (.one 0 rfl .nil) Tryz.func85 rfl kk rfl ?_ ?_)|refine Xf ?_|refine Xb ?_|refine Xd ?_|(apply Xk;exact Ycp;exact rfl)|refine Xp ?_|refine Xs ?_|refine Xx rfl ?_))
     all_goals (try (exfalso;first|contradiction|omega))
     rotate_left
     · rintro ch loc ⟨e,g1,rfl,rfl⟩
       exact hpanic (hinv.trans (Xw g1)) rfl rfl rfl _
     rintro pw loc ⟨x,t1,g1,rfl⟩
     have hl1:=l2.len g1
     rw [We g1] at hinv
     cases hT:isT wPrizes t
     · have hq:prizesP t= .ok ([],t):=if_neg (by rw [hT];simp)
       rw [hq] at g1
       injection g1 with g1;injection g1 with g1 g2;subst g1 g2
       have hr:{ r with prizes:=[] }=r:=by have:=hp1 Yan;cases r;simp only at this;rw [this]
       rw [hr] at hinv
       (repeat' (first|refine Xb ?_|refine Xd ?_|(apply Xk;exact Ya5;exact rfl)))
       exact ⟨(3,k,r,t),⟨by omega,hinv,hle,fun h=>absurd h (by show ¬3≤2;omega),fun _=>hp2 Yan⟩,by show 4-(2+1)<4-2;omega,Xg (by repeat (first|exact Xm|refine Xh rfl ?_)) (List.Sublist.refl _)⟩
     · (repeat' (first|refine Xb ?_|refine Xd ?_|(apply Xk;exact Ya5;exact rfl)))
       exact ⟨(3,k,{ r with prizes:=x },t1),⟨by omega,hinv,by show t1.length≤_;omega,fun h=>absurd h (by show ¬3≤2;omega),fun _=>hp2 Yan⟩,by show 4-(2+1)<4-2;omega,Xg (by repeat (first|exact Xm|refine Xh rfl ?_)) (List.Sublist.refl _)⟩
   · rw [Xr5] at hinv
     have kk:=Xf8 b7 t en (exT r.name) (isl eCrit r.crits) (isl eItem r.bonus) (isl eItem r.malus) (isl eTie r.ties) (isl (Vy k) r.rounds) (isl eI r.prizes) (isl eI r.points) (exI .i64 r.best) Yan
     (repeat' (first|(apply Xy 30;refine U9 (args:=[]) rfl (.one 0 rfl .nil) Tryz.func86 rfl kk rfl ?_ ?_)|refine Xf ?_|refine Xb ?_|refine Xd ?_|(apply Xk;exact Ycp;exact rfl)|refine Xp ?_|refine Xs ?_|refine Xx rfl ?_))
     all_goals (try (exfalso;first|contradiction|omega))
     rotate_left
     · rintro ch loc ⟨e,g1,rfl,rfl⟩
       exact hpanic (hinv.trans (Xw g1)) rfl rfl rfl _
     rintro pw loc ⟨x,t1,g1,rfl⟩
     have hl1:=l3.len g1
     rw [We g1] at hinv
     cases hT:isT wPoints t
     · have hq:pointsP t= .ok (([],0),t):=if_neg (by rw [hT];simp)
       rw [hq] at g1
       injection g1 with g1;injection g1 with g1 g2;subst g1 g2
       have hr:{ r with points:=[],best:=0 }=r:=by have:=hp2 Yan;cases r;simp only at this;rw [this.1,this.2]
       rw [hr] at hinv
       (repeat' (first|refine Xb ?_|refine Xd ?_|(apply Xk;exact Ya5;exact rfl)))
       exact ⟨(4,k,r,t),⟨by omega,hinv,hle,fun h=>absurd h (by show ¬4≤2;omega),fun h=>absurd h (by show ¬4≤3;omega)⟩,by show 4-(3+1)<4-3;omega,Xg (by repeat (first|exact Xm|refine Xh rfl ?_)) (List.Sublist.refl _)⟩
     · (repeat' (first|refine Xb ?_|refine Xd ?_|(apply Xk;exact Ya5;exact rfl)))
       exact ⟨(4,k,{ r with points:=x.1,best:=x.2 },t1),⟨by omega,hinv,by show t1.length≤_;omega,fun h=>absurd h (by show ¬4≤2;omega),fun h=>absurd h (by show ¬4≤3;omega)⟩,by show 4-(3+1)<4-3;omega,Xg (by repeat (first|exact Xm|refine Xh rfl ?_)) (List.Sublist.refl _)⟩
 · obtain rfl:i=4:=by omega
   rw [Xr6] at hinv
   have kf:=Sd b7 t en (Vc k r)
   cases t with
   | cons u v=>
     have hl:(u::v).length=v.length+1:=rfl
     have he:bnd endP (fun _=>ret r) (u::v)= .error (u::v):=Xw (if_neg Ybn)
     (repeat' (first|(apply Xy 39;refine X6 (.one 0 rfl .nil) Tryz.func87 rfl kf rfl ?_ ?_)|refine Xf ?_|refine Xb ?_|refine Xd ?_|(apply Xk;(first|exact Xe rfl|exact Yaf|exact Yad|exact Yc9|exact Yaq|exact Yam);exact rfl)|refine Wy ?_|refine X2 rfl ?_|(refine Xo rfl (fun hb=>?_) (fun hb=>?_)<;>(repeat (first|replace hb:=X0 hb|replace hb:=X1 hb))<;>(try (exfalso;omega)))))
     all_goals (try (exfalso;first|contradiction|omega))
     · rintro _ _ h;exact h.elim
     · rintro ch loc ⟨rfl,rfl⟩
       exact hpanic (hinv.trans he) rfl rfl rfl _
   | nil=>
     have he:bnd endP (fun _=>ret r) ([]:List TokD)= .ok (r,[]):=rfl
     rw [Xp3 (hinv.trans he)] at hz
     subst hz
     (repeat' (first|refine Xf ?_|refine Xb ?_|refine Xd ?_|(apply Xk;(first|exact Xe rfl|(apply Vu;first|exact Vr (k:=0) rfl rfl rfl rfl|exact Vl (k:=0) rfl rfl rfl)|exact Yad|exact Yc9|exact Yaq|exact Yam);exact rfl)|refine Xs ?_|refine Xz ?_|refine Wy ?_|refine X2 rfl ?_|(apply Xi;exact rfl;(apply Xt;first|refine Xq (k:=2) (l0:=[]) rfl rfl rfl ?_|refine Xq (k:=3) (l0:=[]) rfl rfl rfl ?_|refine Xq (k:=4) (l0:=[]) rfl rfl rfl ?_))))
     all_goals (try (exfalso;first|contradiction|omega))
     refine Xow (vs:=[.pointer (some ⟨b4,0,none⟩),.pointer (some ⟨b5,0,none⟩),.pointer (some ⟨b6,0,none⟩)]) rfl rfl (.one 4 rfl (.one 3 rfl (.one 2 rfl .nil))) Tryz.func82 rfl rfl (Xke b4 b5 b6 (Vc k r) (exI .i64 0) (exI .i64 0)) (.ex (.ex (.ex .nil))) ?_
     rintro u' loc' ⟨rfl,rfl⟩
     exact ⟨rfl,.inr rfl,Xpp rfl (.cella (k:=0) rfl rfl rfl rfl inferInstance rfl) (.cell1 (k:=1) rfl rfl rfl rfl rfl) (.cell1 (k:=2) rfl rfl rfl rfl rfl) (List.nil_sublist _) ⟨⟨k,rfl⟩,rfl⟩⟩
end Go.Proofs.YthdldeenpgeemaaGreatDoor
namespace Go.Lx
theorem Xoe {t:TokD} (h:V7 t=true):word t≠[]:=by
 obtain ⟨c,w,h1,_⟩:=Xgu h (b:=[]) (fun d r e=>by cases e)
 rw [h1];simp
theorem Xp4 {p:Nat} {s:List UInt8} {l:List TokD} (h:Sb p s= .ok l):l.length≤s.length:=by
 have h1:=lex_len p s l h
 have h2:=lex_valid p s l h
 have key: ∀m:List TokD,(∀t∈m,V7 t=true)→m.length≤(m.map fun t=>(word t).length).sum:=by
   intro m
   induction m with
   | nil=>intro _;exact Nat.zero_le _
   | cons t m ih=>
     intro hm
     have a:=ih fun x hx=>hm x (List.mem_cons_of_mem _ hx)
     have b:=List.length_pos_iff.2 (Xoe (hm t Ybn))
     simp only [List.length_cons,List.map_cons,List.sum_cons]
     omega
 exact Nat.le_trans (key l h2) h1
end Go.Lx
namespace Go.Proofs.YthdldeenpgeemaaGreatDoor
open Go Go.RowKit Go.Kx Go.Fr Go.Lx Go.Sx
theorem Xhv (s:List UInt8):FnC Tryz.prog 11 [exT s] [Lab] (Xod (Xb6 s)):=by
 have hlx:=Xon s
 unfold Xse at hlx
 by_cases hmx:65536<s.length
 · have h1:Xqo s=([],0,2):=if_pos hmx
   have h2:Xb6 s=(zeroR,0,2):=if_pos hmx
   rw [h1] at hlx
   rw [h2]
   dsimp only at hlx
   refine X4 Tryz.func11 rfl Tryz.ntmps11 rfl fun w0 F0 out=>?_
   (repeat' (first|refine Xf ?_|refine Xb ?_|refine Xd ?_|(apply Xk;(first|exact Xe rfl|exact Xj rfl|exact Ybw|exact Ybi|exact Yca);exact rfl)|refine Xz ?_|refine Xx rfl ?_|(apply Xi;exact rfl;first|(apply Xn;(refine Xl (.dup 1 rfl rfl .nil) Tryz.func17 rfl hlx rfl ?_;rintro _ _ ⟨rfl,rfl⟩))|(apply Wh;refine X7 ?_;intro _)|(apply Xt;refine Xq (k:=0) (l0:=[]) rfl rfl rfl ?_))))
   all_goals (try (exfalso;first|contradiction|omega))
   exact ⟨.inr rfl,Xer (loc':=[]) (Xpp rfl (.cella (k:=0) rfl rfl rfl rfl inferInstance rfl) (.tmp rfl) (.tmp rfl) (List.nil_sublist _) ⟨rfl,rfl⟩) (Ims.tup (.cons (Ims.agg zero_im) (.cons (Im.refl _) (.cons (Im.refl _) .nil)))) ⟨⟨1,rfl⟩,rfl⟩⟩
 rcases Xkq s Yan with ⟨l,h0,h1⟩|⟨p,h0,h1⟩
 · have h2:Xb6 s=Qg l s.length:=by unfold Xb6;rw [if_neg hmx,h0]
   rw [h1] at hlx
   rw [h2]
   dsimp only at hlx
   have hcnt:=Xp4 h0
   have hrd:=Xd4 l s.length Yan
   generalize Qg l s.length=z at hrd
   refine X4 Tryz.func11 rfl Tryz.ntmps11 rfl fun w0 F0 out=>?_
   (repeat' (first|refine Xf ?_|refine Xb ?_|refine Xd ?_|(apply Xk;(first|exact Xe rfl|exact Xj rfl|exact Ybw|exact Ybi|exact Ybm);exact rfl)|refine Xs ?_|refine Xz ?_|refine X2 rfl ?_|(apply Xi;exact rfl;first|(apply Xn;first|(refine Xl (.dup 1 rfl rfl .nil) Tryz.func17 rfl hlx rfl ?_;rintro _ _ ⟨rfl,rfl⟩)|(refine X9 Tryz.func28 rfl hrd rfl ?_;rintro _ _ ⟨⟨k,rfl⟩,rfl⟩))|(apply Wh;refine X7 ?_;intro _)|(apply Xt;refine Xq (k:=0) (l0:=[]) rfl rfl rfl ?_))))
   all_goals (try (exfalso;first|contradiction|omega))
   exact ⟨.inr rfl,Xpp rfl (.cella (k:=0) rfl rfl rfl rfl inferInstance rfl) (.tmp rfl) (.tmp rfl) (List.nil_sublist _) ⟨⟨k,rfl⟩,rfl⟩⟩
 · have h2:Xb6 s=(zeroR,(p:Int),30):=by unfold Xb6;rw [if_neg hmx,h0]
   rw [h1] at hlx
   rw [h2]
   dsimp only at hlx
   refine X4 Tryz.func11 rfl Tryz.ntmps11 rfl fun w0 F0 out=>?_
   (repeat' (first|refine Xf ?_|refine Xb ?_|refine Xd ?_|(apply Xk;(first|exact Xe rfl|exact Xj rfl|exact Ybw|exact Ybi|exact Yca);exact rfl)|refine Xz ?_|refine Xx rfl ?_|(apply Xi;exact rfl;first|(apply Xn;(refine Xl (.dup 1 rfl rfl .nil) Tryz.func17 rfl hlx rfl ?_;rintro _ _ ⟨rfl,rfl⟩))|(apply Wh;refine X7 ?_;intro _)|(apply Xt;refine Xq (k:=0) (l0:=[]) rfl rfl rfl ?_))))
   all_goals (try (exfalso;first|contradiction|omega))
   exact ⟨.inr rfl,Xer (loc':=[]) (Xpp rfl (.cella (k:=0) rfl rfl rfl rfl inferInstance rfl) (.tmp rfl) (.tmp rfl) (List.nil_sublist _) ⟨rfl,rfl⟩) (Ims.tup (.cons (Ims.agg zero_im) (.cons (Im.refl _) (.cons (Im.refl _) .nil)))) ⟨⟨1,rfl⟩,rfl⟩⟩
end Go.Proofs.YthdldeenpgeemaaGreatDoor
