/- Chapter 03: tokens in cells; Space, Sign, number of the specification. -/
import Derived.Test.YthdldeenpgeemaaGreatDoorPart3
import Derived.Test.YthdldeenpgeemaaGreatDoorPart4
import Derived.Test.YthdldeenpgeemaaGreatDoorProg
import Derived.Test.YthdldeenpgeemaaGreatDoorRows
import Derived.Test.YthdldeenpgeemaaGreatDoorCards
import Derived.Test.YthdldeenpgeemaaGreatDoorTie
import Derived.Shelf.Strings.OnBuilder
import Derived.Shelf.Small.Strs
import Derived.Shelf.LaysM
import Derived.Shelf.Strconv.Itoa3
import Derived.Shelf.LaysC
import Derived.Shelf.Strconv.AtoiAll
import Derived.Shelf.Strings.Search1
import Derived.Shelf.Strings.Prefix
import Derived.Shelf.Strings.Fields
import Derived.Lib.Join
import Derived.WideLaws
import Derived.LaidLaws
import Derived.ProofKit
set_option maxHeartbeats 4000000
set_option maxRecDepth 100000
namespace Go.Fr
open Go.RowKit Go.Kx Go.Lx
def Xch (t:TokD):List SP:=[exI .i64 t.kind,exT t.text,exI .i64 t.n,exI .i64 t.at_]
instance {t:TokD}:Scs (Xch t):=by unfold Xch;infer_instance
instance:LenS Xch 4:=⟨fun _=>rfl⟩
abbrev eTok:Enc TokD:=Xh0 Xch 4 40
end Go.Fr
namespace Go.Proofs.YthdldeenpgeemaaGreatDoor
open Go Go.RowKit Go.Kx Go.Fr Go.Lx
theorem Rw {P:UInt8→Prop} (h: ∀n:Fin 256,P (UInt8.ofNat n.val)) (c:UInt8):P c:=by
 have:=h ⟨c.toNat,c.toNat_lt⟩
 rwa [show UInt8.ofNat c.toNat=c from UInt8.ofNat_toNat] at this
theorem Xjq (c:UInt8):R3 c=V8 c:=Rw (P:=fun c=>R3 c=V8 c) Yaa c
theorem Xnw (c:UInt8):partF c=partB c:=Rw (P:=fun c=>partF c=partB c) Yaa c
theorem Xk2 (c:UInt8):Ul c=if V8 c then 2 else if digitB c then 3 else if c=95 then 5 else if spaceB c then 1 else if Su c then 4 else 0:=Rw (P:=fun c=>Ul c=if V8 c then 2 else if digitB c then 3 else if c=95 then 5 else if spaceB c then 1 else if Su c then 4 else 0) Yaa c
theorem Xnx (s:List UInt8):Xe8 s=Xbv s:=by
 unfold Xe8 Xbv
 cases s with
 | nil=>rfl
 | cons c s=>
   rw [show partF=partB from funext Xnw,Xjq]
   simp
end Go.Proofs.YthdldeenpgeemaaGreatDoor
namespace Go.Proofs.YthdldeenpgeemaaGreatDoor
open Go Go.RowKit Go.Kx Go.Fr Go.Lx
theorem Xft (t:TokD):FnC Tryz.prog 49 [agg (Xch t)] [] (fun p loc=>p=exB (V7 t)∧loc=[]):=by
 unfold Xch
 have hv:V7 t=if t.kind=1 then Xbv t.text&&decide (t.n=0) else if t.kind=2 then decide (t.text=[])&&decide (0≤t.n∧t.n≤1099511627776) else if t.kind=3 then decide (t.text.length=1)&&(((t.text.head?).map Su).getD false&&decide (t.n=0)) else false:=rfl
 rw [hv]
 clear hv
 have hnm:=Xi9 t.text
 rw [Xnx] at hnm
 refine X4 Tryz.func49 rfl Tryz.ntmps49 rfl fun w0 F0 out=>?_
 (repeat' (first|(apply Xbp 1;refine Stop.out ?_)|refine Xf ?_|refine Xb ?_|refine Xd ?_|(apply Xk;(exact Xj rfl);exact rfl)|(apply Xi;exact rfl;(apply U7;refine V2 rfl ?_;intro _))))
 refine ⟨Wf (Tw (k:=0) (t:=1) rfl rfl) ?_⟩
 by_cases h1:t.kind=1
 · rw [if_pos h1]
   generalize Xbv t.text=nb at hnm ⊢
   cases nb
   · (repeat' (first|refine Xf ?_|refine Xb ?_|refine Xd ?_|(apply Xk;(first|exact Xe rfl|exact Xj rfl|exact Wk (b:=false) rfl (fun e=>by cases e) (fun _=>rfl)|exact Yag|exact Yaj|exact Ybc);exact rfl)|(refine Ve rfl rfl rfl rfl rfl ?_)|refine Xp ?_|refine Xz ?_|(apply Xi;exact rfl;(apply Xn;(refine X9 Tryz.func130 rfl hnm rfl ?_;rintro _ _ ⟨rfl,rfl⟩)))|(refine Xo rfl (fun hb=>?_) (fun hb=>?_)<;>(repeat (first|replace hb:=X0 hb|replace hb:=X1 hb))<;>(try (exfalso;contradiction)))))
     all_goals (try (exfalso;first|contradiction|omega))
     all_goals exact ⟨.inr rfl,Vk rfl (.tmp rfl) (List.nil_sublist _) ⟨rfl,rfl⟩⟩
   · rw [Bool.true_and]
     (repeat' (first|refine Xf ?_|refine Xb ?_|refine Xd ?_|(apply Xk;(first|exact Xe rfl|exact Xj rfl|exact Wk (b:=true) rfl (fun _=>rfl) (fun e=>by cases e)|exact Yag|exact Yaj|exact Ybc);exact rfl)|(apply Vh;exact rfl;exact rfl;exact rfl;(first|exact Yag|exact Yaj|exact Ybc);exact rfl)|refine Xp ?_|refine Xz ?_|(apply Xi;exact rfl;(apply Xn;(refine X9 Tryz.func130 rfl hnm rfl ?_;rintro _ _ ⟨rfl,rfl⟩)))|(refine Xo rfl (fun hb=>?_) (fun hb=>?_)<;>(repeat (first|replace hb:=X0 hb|replace hb:=X1 hb))<;>(try (exfalso;contradiction)))))
     all_goals (try (exfalso;first|contradiction|omega))
     all_goals exact ⟨.inr rfl,Vk rfl (.tmp rfl) (List.nil_sublist _) ⟨rfl,rfl⟩⟩
 rw [if_neg h1]
 by_cases h2:t.kind=2
 · rw [if_pos h2]
   (repeat' (first|refine Xf ?_|refine Xb ?_|refine Xd ?_|(apply Xk;(first|exact Xe rfl|exact Xj rfl|exact Wk (b:=true) rfl (fun _=>rfl) (fun e=>by cases e)|exact Wk (b:=false) rfl (fun e=>by cases e) (fun _=>rfl)|exact Yag|exact Yaj|exact Yd9);exact rfl)|(refine Ve rfl rfl rfl rfl rfl ?_)|(apply Vh;exact rfl;exact rfl;exact rfl;(first|exact Yag|exact Yaj|(apply V1;first|exact Xjl rfl rfl|exact Xdh rfl rfl));exact rfl)|refine Xp ?_|refine Xz ?_|(refine W0 rfl rfl (fun hb=>?_) (fun hb=>?_)<;>(repeat (first|replace hb:=X0 hb|replace hb:=X1 hb))<;>(try (exfalso;fail)))|(refine Xo rfl (fun hb=>?_) (fun hb=>?_)<;>(repeat (first|replace hb:=X0 hb|replace hb:=X1 hb))<;>(try (exfalso;contradiction)))))
   all_goals (try (exfalso;first|contradiction|omega))
   all_goals (refine ⟨.inr rfl,Vk rfl (.tmp rfl) (List.nil_sublist _) ⟨congrArg exB ?_,rfl⟩⟩)
   all_goals (first|(rw [decide_eq_true (p:=t.text=[]) (by assumption),Bool.true_and];first|exact decide_eq_decide.2 Yan|exact (decide_eq_false Yan).symm)|(rw [decide_eq_false (p:=t.text=[]) (by assumption)];rfl))
 rw [if_neg h2]
 by_cases h3:t.kind=3
 · rw [if_pos h3]
   by_cases hl:t.text.length=1
   · rw [decide_eq_true hl,Bool.true_and]
     have hd:t.text.head?=some t.text[0]:=by rw [List.head?_eq_getElem?,List.getElem?_eq_getElem Yan]
     rw [hd]
     have hcs:=Sq t.text[0]
     have hc4:Ul t.text[0]=4↔Su t.text[0]=true:=Rw (P:=fun c=>Ul c=4↔Su c=true) Yaa _
     rw [Option.map_some,Option.getD_some]
     generalize Ul t.text[0]=cf at hcs hc4
     generalize Su t.text[0]=sb at hc4 ⊢
     cases sb
     · have hn4: ¬cf=4:=fun e=>by have:=hc4.1 e;cases this
       (repeat' (first|refine Xf ?_|refine Xb ?_|refine Xd ?_|(apply Xk;(first|exact Xe rfl|exact Xj rfl|exact Wk (b:=true) rfl (fun _=>rfl) (fun e=>by cases e)|exact Wk (b:=false) rfl (fun e=>by cases e) (fun _=>rfl)|exact Yag|exact Yaj|exact Ybc|exact Ybm);exact rfl)|(refine Ve rfl rfl rfl rfl rfl ?_)|(apply Vh;exact rfl;exact rfl;exact rfl;(first|exact Yag|exact Yaj|exact Ybc|exact Ydf);exact rfl)|refine Xp ?_|refine Xz ?_|(apply Vt;exact rfl;exact rfl;exact rfl;exact rfl;(apply Xn;(refine X9 Tryz.func46 rfl hcs rfl ?_;rintro _ _ ⟨rfl,rfl⟩)))|(refine W0 rfl rfl (fun hb=>?_) (fun hb=>?_)<;>(repeat (first|replace hb:=X0 hb|replace hb:=X1 hb))<;>(try (exfalso;first|contradiction|omega)))|(refine Xo rfl (fun hb=>?_) (fun hb=>?_)<;>(repeat (first|replace hb:=X0 hb|replace hb:=X1 hb))<;>(try (exfalso;contradiction)))))
       all_goals (try (exfalso;first|contradiction|omega))
       all_goals exact ⟨.inr rfl,Vk rfl (.tmp rfl) (List.nil_sublist _) ⟨rfl,rfl⟩⟩
     · have h4:cf=4:=hc4.2 rfl
       rw [Bool.true_and]
       (repeat' (first|refine Xf ?_|refine Xb ?_|refine Xd ?_|(apply Xk;(first|exact Xe rfl|exact Xj rfl|exact Wk (b:=true) rfl (fun _=>rfl) (fun e=>by cases e)|exact Yag|exact Yaj|exact Ybc|exact Ybm);exact rfl)|(apply Vh;exact rfl;exact rfl;exact rfl;(first|exact Yag|exact Yaj|exact Ybc|exact Ydf);exact rfl)|refine Xp ?_|refine Xz ?_|(apply Vt;exact rfl;exact rfl;exact rfl;exact rfl;(apply Xn;(refine X9 Tryz.func46 rfl hcs rfl ?_;rintro _ _ ⟨rfl,rfl⟩)))|(refine W0 rfl rfl (fun hb=>?_) (fun hb=>?_)<;>(repeat (first|replace hb:=X0 hb|replace hb:=X1 hb))<;>(try (exfalso;first|contradiction|omega)))|(refine Xo rfl (fun hb=>?_) (fun hb=>?_)<;>(repeat (first|replace hb:=X0 hb|replace hb:=X1 hb))<;>(try (exfalso;contradiction)))))
       all_goals (try (exfalso;first|contradiction|omega))
       all_goals exact ⟨.inr rfl,Vk rfl (.tmp rfl) (List.nil_sublist _) ⟨rfl,rfl⟩⟩
   · rw [decide_eq_false hl,Bool.false_and]
     (repeat' (first|refine Xf ?_|refine Xb ?_|refine Xd ?_|(apply Xk;(first|exact Xe rfl|exact Xj rfl|exact Wk (b:=false) rfl (fun e=>by cases e) (fun _=>rfl)|exact Yag|exact Yaj|exact Ybc|exact Ybm);exact rfl)|(refine Ve rfl rfl rfl rfl rfl ?_)|refine Xp ?_|refine Xz ?_|(refine W0 rfl rfl (fun hb=>?_) (fun hb=>?_)<;>(repeat (first|replace hb:=X0 hb|replace hb:=X1 hb))<;>(try (exfalso;omega)))|(refine Xo rfl (fun hb=>?_) (fun hb=>?_)<;>(repeat (first|replace hb:=X0 hb|replace hb:=X1 hb))<;>(try (exfalso;contradiction)))))
     all_goals (try (exfalso;first|contradiction|omega))
     all_goals exact ⟨.inr rfl,Vk rfl (.tmp rfl) (List.nil_sublist _) ⟨rfl,rfl⟩⟩
 · rw [if_neg h3]
   (repeat' (first|refine Xf ?_|refine Xb ?_|refine Xd ?_|(apply Xk;exact Yb5;exact rfl)|refine Xp ?_|refine Xs ?_|refine Xz ?_|(refine Xo rfl (fun hb=>?_) (fun hb=>?_)<;>(repeat (first|replace hb:=X0 hb|replace hb:=X1 hb))<;>(try (exfalso;contradiction)))))
   all_goals (try (exfalso;first|contradiction|omega))
   all_goals exact ⟨.inr rfl,Vk rfl (.tmp rfl) (List.nil_sublist _) ⟨rfl,rfl⟩⟩
end Go.Proofs.YthdldeenpgeemaaGreatDoor
namespace Go.Proofs.YthdldeenpgeemaaGreatDoor
open Go Go.RowKit Go.Kx Go.Fr Go.Lx
theorem Xjr (l:List Int) (x:Int):FnC Tryz.prog 198 [isl eI l,exI .i64 x] [] (fun p loc=>(∃n:Int,p=exI .i64 n∧(0≤n↔x∈l))∧loc=[]):=by
 refine Wl (i:=0) rfl Ws fun ha=>?_
 obtain ⟨ha,-⟩:=ha
 simp only [maxLen] at ha
 refine X4 Tryz.func198 rfl Tryz.ntmps198 rfl fun w0 F0 out=>?_
 (repeat' (first|refine Xf ?_|refine Xb ?_|refine Xd ?_|(apply Xk;exact Ybx;exact rfl)|refine Xp ?_))
 refine W1 (fun i:Nat=>([(0,isl eI l),(1,exI .i64 x),(7,exI .i64 (l.length:Int)),(8,exI .i64 (i:Int))],[])) (fun i=>i≤l.length∧x∉l.take i) (fun i=>l.length-i) 0 ?_ ⟨Nat.zero_le _,fun h=>by cases h⟩ fun i hi=>?_
 · exact Xg (by repeat (first|exact Xm|refine Xh rfl ?_)) (List.Sublist.refl _)
 obtain ⟨hi,hpre⟩:=hi
 by_cases hlt:i<l.length
 · by_cases he:x=l[i]
   · have hm:x∈l:=by rw [he];exact List.getElem_mem hlt
     clear hpre
     (repeat' (first|refine Xf ?_|refine Xb ?_|refine Xd ?_|(apply Xk;(first|exact Xe rfl|exact Xj rfl|exact Yag|(apply V1;first|exact Qe rfl rfl|exact Qf rfl rfl)|exact Yae);exact rfl)|refine Xp ?_|refine Xs ?_|refine Xz ?_|(refine Xo rfl (fun hb=>?_) (fun hb=>?_)<;>(repeat (first|replace hb:=X0 hb|replace hb:=X1 hb))<;>(try (exfalso;first|contradiction|omega)))))
     all_goals (try (exfalso;first|contradiction|omega))
     all_goals exact ⟨.inr rfl,Vk rfl (.tmp rfl) (List.nil_sublist _) ⟨⟨i,rfl,⟨fun _=>hm,fun _=>by omega⟩⟩,rfl⟩⟩
   · have hok:x∉l.take (i+1):=fun h=>by
       rw [List.take_succ_eq_append_getElem hlt] at h
       rcases List.mem_append.1 h with h|h
       · exact hpre h
       · exact he (List.mem_singleton.1 h)
     clear hpre
     (repeat' (first|refine Xf ?_|refine Xb ?_|refine Xd ?_|(apply Xk;(first|exact Xe rfl|exact Xj rfl|exact Yag|(apply V1;first|exact Qe rfl rfl|exact Qf rfl rfl|exact Sv rfl rfl)|exact Yae);exact rfl)|refine Xp ?_|refine Xs ?_|(refine Xo rfl (fun hb=>?_) (fun hb=>?_)<;>(repeat (first|replace hb:=X0 hb|replace hb:=X1 hb))<;>(try (exfalso;first|contradiction|omega)))))
     all_goals (try (exfalso;first|contradiction|omega))
     all_goals exact ⟨i+1,⟨by omega,hok⟩,by omega,Xg (by repeat (first|exact Xm|refine Xh rfl ?_)) (List.Sublist.refl _)⟩
 · rw [show i=l.length by omega,List.take_length] at hpre
   (repeat' (first|refine Xf ?_|refine Xb ?_|refine Xd ?_|(apply Xk;exact Ybv;exact rfl)|refine Xz ?_|refine Wy ?_|(refine Xo rfl (fun hb=>?_) (fun hb=>?_)<;>(repeat (first|replace hb:=X0 hb|replace hb:=X1 hb))<;>(try (exfalso;omega)))))
   all_goals (try (exfalso;omega))
   exact ⟨.inr rfl,Vk rfl (.tmp rfl) (List.nil_sublist _) ⟨⟨-1,rfl,⟨fun h=>by omega,fun h=>absurd h hpre⟩⟩,rfl⟩⟩
theorem Xfu (l:List Int) (x:Int):FnC Tryz.prog 172 [isl eI l,exI .i64 x] [] (fun p loc=>p=exB (decide (x∈l))∧loc=[]):=by
 refine X4 Tryz.func172 rfl Tryz.ntmps172 rfl fun w0 F0 out=>?_
 (repeat' (first|refine Xf ?_|refine Xb ?_|refine Xd ?_|(apply Xk;exact Ycm;exact rfl)|refine Xz ?_|(apply Xi;exact rfl;(apply Xn;(refine X9 Tryz.func198 rfl (Xjr l x) rfl ?_;rintro _ _ ⟨⟨n,rfl,hn⟩,rfl⟩)))))
 exact ⟨.inr rfl,Vk rfl (.tmp rfl) (List.nil_sublist _) ⟨congrArg exB (decide_eq_decide.2 hn),rfl⟩⟩
theorem Xdt (b at_:Nat) (s:List UInt8) (q:SP):FnP Tryz.prog 41 [ex (.pointer (some ⟨b,0,none⟩))] [row b 90 3 [exT s,exI .i64 (at_:Int),q]] (fun _ _=>False) (fun ch loc=>ch=[{ v:= .iface 83 (.int .i64 (at_:Int)),recovered:=false }]∧loc=[]):=by
 refine Ww Tryz.func41 rfl Tryz.ntmps41 rfl fun w0 F0 out=>?_
 (repeat' (first|(refine Rs rfl ?_)|refine Xb ?_|(apply Xk;(first|exact Xe rfl|exact Yaf|exact Yad|exact Yam|(apply Xdc;exact Xfd rfl rfl));exact rfl)))
 exact Xv (List.nil_sublist _) ⟨rfl,rfl⟩
def Xo6 (cls:List Int) (s:List UInt8):List UInt8:=s.takeWhile fun c=>decide (Ul c∈cls)
theorem Xeh (b at_:Nat) (s:List UInt8) (q:SP) (cls:List Int) (hat:at_≤s.length) (hmax:s.length≤65536):FnC Tryz.prog 126 [ex (.pointer (some ⟨b,0,none⟩)),isl eI cls] [row b 90 3 [exT s,exI .i64 (at_:Int),q]] (fun p loc=>p=exT (Xo6 cls (s.drop at_))∧loc=[row b 90 3 [exT s,exI .i64 (at_:Int),q]]):=by
 unfold Xo6
 have hrun:=Xpk (fun c=>decide (Ul c∈cls)) s at_ hat
 rw [←hrun.sub]
 generalize ((s.drop at_).takeWhile fun c=>decide (Ul c∈cls)).length=L at hrun ⊢
 have hLle:=hrun.le
 refine X4 Tryz.func126 rfl Tryz.ntmps126 rfl fun w0 F0 out=>?_
 (repeat' (first|refine Xf ?_|refine Xb ?_|refine Xd ?_|(apply Xk;(first|exact Xe rfl|exact Xj rfl|exact Yaf|exact Yad|exact Yam);exact rfl)|refine Xp ?_))
 refine W1 (fun j:Nat=>([(0,ex (.pointer (some ⟨b,0,none⟩))),(1,isl eI cls),(5,exI .i64 (j:Int))],[row b 90 3 [exT s,exI .i64 (at_:Int),q]])) (fun j=>at_≤j∧j≤at_+L) (fun j=>at_+L-j) at_ ?_ ⟨Nat.le_refl _,by omega⟩ fun j hj=>?_
 · exact Xg (by repeat (first|exact Xm|refine Xh rfl ?_)) (List.Sublist.refl _)
 obtain ⟨hj1,hj2⟩:=hj
 by_cases hlj:j<at_+L
 · have hjs:j<s.length:=by omega
   have hpj:=hrun.in_ j hjs hj1 hlj
   have hcs:=Sq s[j]
   have hct:=Xfu cls (Ul s[j])
   rw [hpj] at hct
   (repeat' (first|refine Xf ?_|refine Xb ?_|refine Xd ?_|(apply Xk;(first|exact Xe rfl|exact Xj rfl|exact Wk (b:=true) rfl (fun _=>rfl) (fun e=>by cases e)|exact Yaf|exact Yad|exact Ybe|exact Ybm|exact Yam);exact rfl)|(apply Vh;exact rfl;exact rfl;exact rfl;(first|exact Xe rfl|exact Yaf|exact Yad|exact Ydf|exact Yam);exact rfl)|refine Xp ?_|refine Xs ?_|refine Xx rfl ?_|(apply Vt;exact rfl;exact rfl;exact rfl;exact rfl;(apply Xn;first|(refine X9 Tryz.func46 rfl hcs rfl ?_;rintro _ _ ⟨rfl,rfl⟩)|(refine X9 Tryz.func172 rfl hct rfl ?_;rintro _ _ ⟨rfl,rfl⟩)))|(refine W0 rfl rfl (fun hb=>?_) (fun hb=>?_)<;>(repeat (first|replace hb:=X0 hb|replace hb:=X1 hb))<;>(try (exfalso;omega)))))
   all_goals (try (exfalso;first|contradiction|omega))
   exact ⟨j+1,⟨by omega,by omega⟩,by omega,Xg (by repeat (first|exact Xm|refine Xh rfl ?_)) (List.Sublist.refl _)⟩
 have hje:j=at_+L:=by omega
 subst hje
 by_cases hend:at_+L<s.length
 · have hpj:=hrun.out_ hend
   have hcs:=Sq s[at_+L]
   have hct:=Xfu cls (Ul s[at_+L])
   rw [hpj] at hct
   (repeat' (first|(apply Vs 4;refine Stop.out ?_)|refine Xf ?_|refine Xb ?_|refine Xd ?_|(apply Xk;(first|exact Xe rfl|exact Wk (b:=true) rfl (fun _=>rfl) (fun e=>by cases e)|exact Yaf|exact Yad|exact Yak|exact Ybm|exact Yam);exact rfl)|(apply Vh;exact rfl;exact rfl;exact rfl;(first|exact Xe rfl|exact Yaf|exact Yad|exact Ydf|exact Yam);exact rfl)|refine Wy ?_|refine X2 rfl ?_|(apply Vt;exact rfl;exact rfl;exact rfl;exact rfl;(apply Xn;first|(refine X9 Tryz.func46 rfl hcs rfl ?_;rintro _ _ ⟨rfl,rfl⟩)|(refine X9 Tryz.func172 rfl hct rfl ?_;rintro _ _ ⟨rfl,rfl⟩)))|(refine W0 rfl rfl (fun hb=>?_) (fun hb=>?_)<;>(repeat (first|replace hb:=X0 hb|replace hb:=X1 hb))<;>(try (exfalso;omega)))))
   all_goals (try (exfalso;first|contradiction|omega))
   refine ⟨Xf ?_⟩
   (refine Ue ([row b 90 3 [exT s,exI .i64 (at_:Int),q]]) 11 rfl ?_)
   all_goals ((apply Xc 0 rfl Yaa rfl Yab Xa;(exact Xe rfl);exact rfl))
   all_goals ((apply Xc 1 rfl Yaa rfl Yab Xa;(exact Yam);exact rfl))
   all_goals ((apply Xc 2 rfl Yaa rfl Yab Xa;(exact Yad);exact rfl))
   all_goals ((apply Xu 3 rfl Yaa rfl Yaa Yab Xa;(exact Yaf);exact rfl))
   all_goals ((apply Xc 4 rfl Yaa rfl Yab Xa;(exact Xe rfl);exact rfl))
   all_goals ((apply Xc 5 rfl Yaa rfl Yab Xa;(exact Yam);exact rfl))
   all_goals ((apply Xc 6 rfl Yaa rfl Yab Xa;(exact Yad);exact rfl))
   all_goals ((apply Xu 7 rfl Yaa rfl Yaa Yab Xa;(exact Yaf);exact rfl))
   all_goals ((apply Xc 8 rfl Yaa rfl Yab Xa;(exact Xe rfl);exact rfl))
   all_goals ((apply Xc 9 rfl Yaa rfl Yab Xa;((apply Rm;exact Xia rfl rfl rfl rfl));exact rfl))
   all_goals ((apply Xc 10 rfl Yaa rfl Yab Xa;(exact Xj rfl);exact rfl))
   all_goals (refine X3 Yaa ?_)
   all_goals ((repeat' (refine Xz ?_)))
   all_goals exact ⟨.inr rfl,Vk rfl (.tmp rfl) (List.Sublist.refl _) ⟨rfl,rfl⟩⟩
 · (repeat' (first|(apply Vs 4;refine Stop.out ?_)|refine Xf ?_|refine Xb ?_|refine Xd ?_|(apply Xk;(first|exact Xe rfl|exact Wk (b:=false) rfl (fun e=>by cases e) (fun _=>rfl)|exact Yaf|exact Yad|exact Yak|exact Ybm|exact Yam);exact rfl)|(refine Ve rfl rfl rfl rfl rfl ?_)|refine Wy ?_|refine X2 rfl ?_|(refine W0 rfl rfl (fun hb=>?_) (fun hb=>?_)<;>(repeat (first|replace hb:=X0 hb|replace hb:=X1 hb))<;>(try (exfalso;omega)))))
   all_goals (try (exfalso;first|contradiction|omega))
   refine ⟨Xf ?_⟩
   (refine Ue ([row b 90 3 [exT s,exI .i64 (at_:Int),q]]) 11 rfl ?_)
   all_goals ((apply Xc 0 rfl Yaa rfl Yab Xa;(exact Xe rfl);exact rfl))
   all_goals ((apply Xc 1 rfl Yaa rfl Yab Xa;(exact Yam);exact rfl))
   all_goals ((apply Xc 2 rfl Yaa rfl Yab Xa;(exact Yad);exact rfl))
   all_goals ((apply Xu 3 rfl Yaa rfl Yaa Yab Xa;(exact Yaf);exact rfl))
   all_goals ((apply Xc 4 rfl Yaa rfl Yab Xa;(exact Xe rfl);exact rfl))
   all_goals ((apply Xc 5 rfl Yaa rfl Yab Xa;(exact Yam);exact rfl))
   all_goals ((apply Xc 6 rfl Yaa rfl Yab Xa;(exact Yad);exact rfl))
   all_goals ((apply Xu 7 rfl Yaa rfl Yaa Yab Xa;(exact Yaf);exact rfl))
   all_goals ((apply Xc 8 rfl Yaa rfl Yab Xa;(exact Xe rfl);exact rfl))
   all_goals ((apply Xc 9 rfl Yaa rfl Yab Xa;((apply Rm;exact Xia rfl rfl rfl rfl));exact rfl))
   all_goals ((apply Xc 10 rfl Yaa rfl Yab Xa;(exact Xj rfl);exact rfl))
   all_goals (refine X3 Yaa ?_)
   all_goals ((repeat' (refine Xz ?_)))
   all_goals exact ⟨.inr rfl,Vk rfl (.tmp rfl) (List.Sublist.refl _) ⟨rfl,rfl⟩⟩
end Go.Proofs.YthdldeenpgeemaaGreatDoor
namespace Go.Fr
open Go.RowKit Go.Kx Go.Lx
def Xo7 (T:TypeId) (at_:Nat) (ch:List PanicEntry) (loc:List Ent):Prop:=ch=[{ v:= .iface T (.int .i64 (at_:Int)),recovered:=false }]∧loc=[]
theorem U1 {f:Env→List Ent→Prop} {Q:Post} {ch:List PanicEntry} {env:Env} {loc:List Ent} (h:Q (.panic ch) env loc):Xnn f Q (.panic ch) env loc:=h
end Go.Fr
namespace Go.Proofs.YthdldeenpgeemaaGreatDoor
open Go Go.RowKit Go.Kx Go.Fr Go.Lx
def scanL (b at_:Nat) (s:List UInt8) (oa:Option Addr) (c:Nat) (acc:List TokD):List Ent:=[row b 90 3 [exT s,exI .i64 (at_:Int),ex (.slice oa acc.length c)],vec (.slice oa acc.length c) 40 4 acc.length (acc.flatMap Xch)]
theorem Xei (b at_:Nat) (s text:List UInt8) (t:TokD) (oa:Option Addr) (c:Nat) (acc:List TokD) (hat:at_+text.length≤65536) (hacc:acc.length≤65536):FnP Tryz.prog 127 [ex (.pointer (some ⟨b,0,none⟩)),exT text,agg (Xch t)] (scanL b at_ s oa c acc) (fun _ loc=>V7 t=true∧ ∃oa2 c2,loc=scanL b (at_+text.length) s oa2 c2 (acc++[{ t with at_:=at_ }])) (fun ch loc=>V7 t=false∧Xo7 83 at_ ch loc):=by
 have hvl:=Xft t
 unfold scanL
 refine Ww Tryz.func127 rfl Tryz.ntmps127 rfl fun w0 F0 out=>?_
 cases hv:V7 t
 · rw [hv] at hvl
   (repeat' (first|(refine Rs rfl ?_)|refine Xf ?_|refine Xb ?_|refine Xd ?_|(apply Xk;(first|exact Xe rfl|(apply Vu;first|exact Vr (k:=1) rfl rfl rfl rfl|exact Vl (k:=0) rfl rfl rfl)|exact Yad|exact Yaw|exact Yam|(apply Xdc;exact Xfd rfl rfl));exact rfl)|refine Xx rfl ?_|(apply Xi;exact rfl;first|(apply Xn;(refine X9 Tryz.func49 rfl hvl rfl ?_;rintro _ _ ⟨rfl,rfl⟩))|(apply U7;refine V2 rfl ?_;intro _))))
   all_goals (try (exfalso;first|contradiction|omega))
   refine U1 (Xv (loc':=[]) (List.nil_sublist _) ?_)
   exact And.intro rfl (And.intro rfl rfl)
 · rw [hv] at hvl
   (repeat' (first|(apply Vs 4;refine Stop.out ?_)|refine Xf ?_|refine Xb ?_|refine Xd ?_|(apply Xk;(first|exact Xe rfl|(apply Vu;first|exact Vr (k:=1) rfl rfl rfl rfl|exact Vl (k:=0) rfl rfl rfl)|exact Yad|exact Yaw|exact Yam);exact rfl)|refine Xs ?_|refine X2 rfl ?_|(apply Xi;exact rfl;first|(apply Xn;(refine X9 Tryz.func49 rfl hvl rfl ?_;rintro _ _ ⟨rfl,rfl⟩))|(apply U7;refine V2 rfl ?_;intro _)|(apply Xt;refine Xq (k:=0) (l0:=[]) rfl rfl rfl ?_))))
   all_goals (try (exfalso;first|contradiction|omega))
   rename_i b5
   constructor
   refine Rc 4 (fun x:Option Addr×Nat=>([(0,ex (.pointer (some ⟨b,0,none⟩))),(1,exT text)],[row b 90 3 [exT s,exI .i64 (at_:Int),ex (.slice x.1 (acc.length+1) x.2)],vec (.slice x.1 (acc.length+1) x.2) 40 4 (acc.length+1) (acc.flatMap Xch++Xch { t with at_:=at_ })])) (fun _=>True) ?_ fun x _=>?_
   · refine Xh9 ?_
     refine Wf (env':=[(0,ex (.pointer (some ⟨b,0,none⟩))),(1,exT text),(5,ex (.pointer (some ⟨b5,0,none⟩)))]) (loc':=[row b5 40 4 (Xch { t with at_:=at_ }),row b 90 3 [exT s,exI .i64 (at_:Int),ex (.slice oa acc.length c)],vec (.slice oa acc.length c) 40 4 acc.length (acc.flatMap Xch)]) (Xg (by repeat (first|exact Xm|refine Xh rfl ?_)) (List.Sublist.refl _)) ?_
     (refine W9 6 rfl ?_)
     (try ((refine Ta (k:=3) rfl Yan ?_;intro _ _ hv _ _;subst hv)))
     (apply Xc 0 rfl Yaa rfl Ybj Xa;(exact Xe rfl);exact rfl)
     (try ((refine Ta (k:=3) rfl Yan ?_;intro _ _ hv _ _;subst hv)))
     (apply Xc 1 rfl Yaa rfl Ybj Xa;(exact Xe rfl);exact rfl)
     (try ((refine Ta (k:=3) rfl Yan ?_;intro _ _ hv _ _;subst hv)))
     (apply Xc 2 rfl Yaa rfl Ybj Xa;(exact Yam);exact rfl)
     (try ((refine Ta (k:=3) rfl Yan ?_;intro _ _ hv _ _;subst hv)))
     (apply Xc 3 rfl Yaa rfl Ybj Xa;(exact Yad);exact rfl)
     (try ((refine Ta (k:=3) rfl Yan ?_;intro _ _ hv _ _;subst hv)))
     (refine V3 (H1:=fun _=>True) (H2:=fun _=>True) 4 5 Yaa rfl Xa (fun _ _ _=>trivial) rfl Xa (fun _ _ _=>trivial) ?_ ?_)
     ·
       ((apply V6 (H:=fun _=>True);(exact Ya1);exact rfl))
       (try ((refine Ta (k:=3) rfl Yan ?_;intro _ _ hv _ _;subst hv)))
       (refine Xr (H':=fun _=>True) 5 Yaa rfl Xa (fun _ _ _=>trivial) ?_)
       ((apply V6 (H:=fun _=>True);(exact Ych);exact rfl))
       (try ((refine Ta (k:=3) rfl Yan ?_;intro _ _ hv _ _;subst hv)))
       (refine Xr (H':=U6 []) 6 Yaa rfl Xa (fun h=>absurd h Yar) ?_)
       ((apply X5;(first|refine Wb rfl rfl ?_|refine Wq rfl Yac ?_|refine Tp rfl ?_);intro _))
       (try ((refine Ta (k:=3) rfl Yan ?_;intro _ _ hv _ _;subst hv)))
       (refine Xr (H':=U6 []) 7 Yaa rfl Xa (fun h=>absurd h Yar) ?_)
       ((apply V4;refine V5 (k:=3) (l0:=[]) rfl rfl Ydk rfl ?_;intro _))
       (try ((refine Ta (k:=3) rfl Yan ?_;intro _ _ hv _ _;subst hv)))
       (refine Xr (H':=fun _=>True) 8 Yaa rfl Xa (fun _ _ _=>trivial) ?_)
       ((apply V6 (H:=fun _=>True);(exact Yam);exact rfl))
       (try ((refine Ta (k:=3) rfl Yan ?_;intro _ _ hv _ _;subst hv)))
       (refine Xr (H':=fun _=>True) 9 Yaa rfl Xa (fun _ _ _=>trivial) ?_)
       ((apply V6 (H:=fun _=>True);(exact Yad);exact rfl))
       (try ((refine Ta (k:=3) rfl Yan ?_;intro _ _ hv _ _;subst hv)))
       (refine Xr (H':=U6 []) 10 Yaa rfl Xa (fun h=>absurd h Yar) ?_)
       ((apply Xt;refine Xq (k:=2) (l0:=[]) rfl rfl rfl ?_))
       (try ((refine Ta (k:=3) rfl Yan ?_;intro _ _ hv _ _;subst hv)))
       refine X3 Yaa ?_
       exact ⟨rfl,Wc (_,_) trivial (Xg (by repeat (first|exact Xm|refine Xh rfl ?_)) Ydp)⟩
     ·
       ((apply V6 (H:=fun _=>True);(exact Ych);exact rfl))
       (try ((refine Ta (k:=3) rfl Yan ?_;intro _ _ hv _ _;subst hv)))
       (refine V3 (H1:=fun _=>True) (H2:=U6 []) 4 6 Yaa rfl Xa (fun _ _ _=>trivial) rfl Xa (fun h=>absurd h Yar) ?_ ?_)
       ·
         ((apply V6 (H:=fun _=>True);(exact Ya1);exact rfl))
         (try ((refine Ta (k:=3) rfl Yan ?_;intro _ _ hv _ _;subst hv)))
         (refine Xr (H':=U6 []) 6 Yaa rfl Xa (fun h=>absurd h Yar) ?_)
         ((apply X5;(first|refine Wb rfl rfl ?_|refine Wq rfl Yac ?_|refine Tp rfl ?_);intro _))
         (try ((refine Ta (k:=3) rfl Yan ?_;intro _ _ hv _ _;subst hv)))
         (refine Xr (H':=U6 []) 7 Yaa rfl Xa (fun h=>absurd h Yar) ?_)
         ((apply V4;refine V5 (k:=3) (l0:=[]) rfl rfl Ydk rfl ?_;intro _))
         (try ((refine Ta (k:=3) rfl Yan ?_;intro _ _ hv _ _;subst hv)))
         (refine Xr (H':=fun _=>True) 8 Yaa rfl Xa (fun _ _ _=>trivial) ?_)
         ((apply V6 (H:=fun _=>True);(exact Yam);exact rfl))
         (try ((refine Ta (k:=3) rfl Yan ?_;intro _ _ hv _ _;subst hv)))
         (refine Xr (H':=fun _=>True) 9 Yaa rfl Xa (fun _ _ _=>trivial) ?_)
         ((apply V6 (H:=fun _=>True);(exact Yad);exact rfl))
         (try ((refine Ta (k:=3) rfl Yan ?_;intro _ _ hv _ _;subst hv)))
         (refine Xr (H':=U6 []) 10 Yaa rfl Xa (fun h=>absurd h Yar) ?_)
         ((apply Xt;refine Xq (k:=2) (l0:=[]) rfl rfl rfl ?_))
         (try ((refine Ta (k:=3) rfl Yan ?_;intro _ _ hv _ _;subst hv)))
         refine X3 Yaa ?_
         exact ⟨rfl,Wc (_,_) trivial (Xg (by repeat (first|exact Xm|refine Xh rfl ?_)) Ydp)⟩
       ·
         ((apply X5;(first|refine Wb rfl rfl ?_|refine Wq rfl Yac ?_|refine Tp rfl ?_);intro _))
         (try ((refine Ta (k:=3) rfl Yan ?_;intro _ _ hv _ _;subst hv)))
         (refine Xr (H':=fun _=>True) 4 Yaa rfl Xa (fun _ _ _=>trivial) ?_)
         ((apply V6 (H:=fun _=>True);(exact Yb3);exact rfl))
         (try ((refine Ta (k:=3) rfl Yan ?_;intro _ _ hv _ _;subst hv)))
         (refine Xr (H':=U6 []) 7 Yaa rfl Xa (fun h=>absurd h Yar) ?_)
         ((apply V4;refine V5 (k:=3) (l0:=[]) rfl rfl Ydk rfl ?_;intro _))
         (try ((refine Ta (k:=3) rfl Yan ?_;intro _ _ hv _ _;subst hv)))
         (refine Xr (H':=fun _=>True) 8 Yaa rfl Xa (fun _ _ _=>trivial) ?_)
         ((apply V6 (H:=fun _=>True);(exact Yam);exact rfl))
         (try ((refine Ta (k:=3) rfl Yan ?_;intro _ _ hv _ _;subst hv)))
         (refine Xr (H':=fun _=>True) 9 Yaa rfl Xa (fun _ _ _=>trivial) ?_)
         ((apply V6 (H:=fun _=>True);(exact Yad);exact rfl))
         (try ((refine Ta (k:=3) rfl Yan ?_;intro _ _ hv _ _;subst hv)))
         (refine Xr (H':=U6 []) 10 Yaa rfl Xa (fun h=>absurd h Yar) ?_)
         ((apply Xt;refine Xq (k:=2) (l0:=[]) rfl rfl rfl ?_))
         (try ((refine Ta (k:=3) rfl Yan ?_;intro _ _ hv _ _;subst hv)))
         refine X3 Yaa ?_
         exact ⟨rfl,Wc (_,_) trivial (Xg (by repeat (first|exact Xm|refine Xh rfl ?_)) Ydp)⟩
   obtain ⟨oa2,c2⟩:=x
   simp only
   (repeat' (first|refine Xb ?_|refine Xd ?_|(apply Xk;(first|exact Xe rfl|exact Yaf|exact Yad|exact Ycn|exact Ybm|exact Yam);exact rfl)|(apply Xi;exact rfl;(apply Xt;refine Xq (k:=0) (l0:=[]) rfl rfl rfl ?_))))
   refine ⟨.inl rfl,Rn (loc':=[row b 90 3 [exT s,exI .i64 ((at_:Int)+(text.length:Int)),ex (.slice oa2 (acc.length+1) c2)],vec (.slice oa2 (acc.length+1) c2) 40 4 (acc.length+1) (acc.flatMap Xch++Xch { t with at_:=at_ })]) rfl (List.Sublist.refl _) ⟨by first|rfl|trivial,oa2,c2,?_⟩⟩
   simp only [List.length_append,List.length_cons,List.length_nil,Nat.zero_add,List.flatMap_append,List.flatMap_cons,List.flatMap_nil,List.append_nil,Int.natCast_add]
end Go.Proofs.YthdldeenpgeemaaGreatDoor
namespace Go.Lx
theorem Xpv {s:List UInt8} {i:Nat} (hi:i<s.length) (h:V8 s[i]=true):(Xbv ((s.drop i).takeWhile partB)=true→Sb i (s.drop i)=(Sb (i+((s.drop i).takeWhile partB).length) (s.drop (i+((s.drop i).takeWhile partB).length))).map (⟨1,(s.drop i).takeWhile partB,0,i⟩:: ·))∧(Xbv ((s.drop i).takeWhile partB)=false→Sb i (s.drop i)= .error i)∧1≤((s.drop i).takeWhile partB).length∧i+((s.drop i).takeWhile partB).length≤s.length:=by
 have hd:s.drop i=s[i]::s.drop (i+1):=List.drop_eq_getElem_cons hi
 have hle:((s.drop i).takeWhile partB).length≤s.length-i:=by rw [←List.length_drop];exact Xac _
 have hst:step (s[i]::s.drop (i+1))=if ((s.drop i).takeWhile partB).length≤32 then .tok ((s.drop i).takeWhile partB).length 1 ((s.drop i).takeWhile partB) 0 else .bad:=by
   rw [T7,if_neg (by rw [((Tx s[i]).1 h).1];simp),if_neg (fun e=>((Tx s[i]).1 h).2.2.2.1 e.1),if_pos h,hd]
 refine ⟨fun hn=>?_,fun hn=>?_,by rw [hd];exact Xb7 (Td h),by omega⟩
 · rw [hd,Xji h,←hd,decide_eq_true_iff] at hn
   rw [if_pos hn] at hst
   exact R9 hi hst
 · rw [hd,Xji h,←hd,decide_eq_false_iff_not] at hn
   rw [if_neg hn] at hst
   exact Qa hi hst
theorem Xk3 {s:List UInt8} {i:Nat} (hi:i<s.length) (h:digitB s[i]=true):(Xib ((s.drop i).takeWhile digitB)=true→Sb i (s.drop i)=(Sb (i+((s.drop i).takeWhile digitB).length) (s.drop (i+((s.drop i).takeWhile digitB).length))).map (⟨2,[],Rv ((s.drop i).takeWhile digitB),i⟩:: ·))∧(Xib ((s.drop i).takeWhile digitB)=false→Sb i (s.drop i)= .error i)∧1≤((s.drop i).takeWhile digitB).length∧i+((s.drop i).takeWhile digitB).length≤s.length:=by
 have hd:s.drop i=s[i]::s.drop (i+1):=List.drop_eq_getElem_cons hi
 have hle:((s.drop i).takeWhile digitB).length≤s.length-i:=by rw [←List.length_drop];exact Xac _
 obtain ⟨c1,c2,c3,c4,-⟩:=(Tx s[i]).2.1 h
 have hst:step (s[i]::s.drop (i+1))=if Xib ((s.drop i).takeWhile digitB) then .tok ((s.drop i).takeWhile digitB).length 2 [] (Rv ((s.drop i).takeWhile digitB)) else .bad:=by
   rw [T7,if_neg (by rw [c1];simp),if_neg (fun e=>c4 e.1),if_neg (by rw [c2];simp),if_pos h,hd]
 refine ⟨fun hn=>?_,fun hn=>?_,by rw [hd];exact Xb7 h,by omega⟩
 · rw [if_pos hn] at hst
   exact R9 hi hst
 · rw [if_neg (by rw [hn];simp)] at hst
   exact Qa hi hst
theorem Xny {s:List UInt8} {i:Nat} (hi:i<s.length) (h:spaceB s[i]=true):Sb i (s.drop i)=Sb (i+((s.drop i).takeWhile spaceB).length) (s.drop (i+((s.drop i).takeWhile spaceB).length))∧1≤((s.drop i).takeWhile spaceB).length∧i+((s.drop i).takeWhile spaceB).length≤s.length:=by
 have hd:s.drop i=s[i]::s.drop (i+1):=List.drop_eq_getElem_cons hi
 have hle:((s.drop i).takeWhile spaceB).length≤s.length-i:=by rw [←List.length_drop];exact Xac _
 have key: ∀(n k:Nat),n≤((s.drop i).takeWhile spaceB).length→k=n→Sb i (s.drop i)=Sb (i+k) (s.drop (i+k)):=by
   intro n
   induction n with
   | zero=>intro k _ e;subst e;rfl
   | succ n ih=>
     intro k hn e
     subst e
     rw [ih n Yan rfl]
     have hlt:i+n<s.length:=by omega
     have hs:spaceB s[i+n]=true:=(Xpk spaceB s i Yan).in_ (i+n) hlt Yan Yan
     rw [Xad hlt (Xbw hs _),Nat.add_assoc]
 exact ⟨key _ _ (Nat.le_refl _) rfl,by rw [hd];exact Xb7 h,by omega⟩
theorem Xjs {s:List UInt8} {i:Nat} (hi:i<s.length) (h:s[i]=47) (h2:(s.drop (i+1)).head?=some 47):Sb i (s.drop i)=Sb (i+((s.drop i).takeWhile lineB).length) (s.drop (i+((s.drop i).takeWhile lineB).length))∧1≤((s.drop i).takeWhile lineB).length∧i+((s.drop i).takeWhile lineB).length≤s.length:=by
 have hd:s.drop i=s[i]::s.drop (i+1):=List.drop_eq_getElem_cons hi
 have hle:((s.drop i).takeWhile lineB).length≤s.length-i:=by rw [←List.length_drop];exact Xac _
 have hst:step (s[i]::s.drop (i+1))= .skip ((s.drop i).takeWhile lineB).length:=by
   rw [T7,if_neg (by rw [h];decide),if_pos ⟨h,h2⟩,hd]
 exact ⟨Xad hi hst,by rw [hd];exact Xb7 (by rw [h];decide),by omega⟩
theorem Xpw {s:List UInt8} {i:Nat} (hi:i<s.length) (h:Su s[i]=true) (h2:s[i]=47→(s.drop (i+1)).head?≠some 47):Sb i (s.drop i)=(Sb (i+1) (s.drop (i+1))).map (⟨3,[s[i]],0,i⟩:: ·):=R9 hi (Xgr h h2)
theorem Xip {s:List UInt8} {i:Nat} (hi:i<s.length) (h1:spaceB s[i]=false) (h2:V8 s[i]=false) (h3:digitB s[i]=false) (h4:Su s[i]=false):Sb i (s.drop i)= .error i:=by
 refine Qa hi ?_
 rw [T7,if_neg Ycg,if_neg (fun e=>by rw [e.1,sign47] at h4;cases h4),if_neg Yc0,if_neg Yde,if_neg Ydq]
theorem Xg3 {t:List UInt8} (hd: ∀c∈t,digitB c=true) (hne:t≠[]):decF (Rv t)=t↔(t.length=1∨t.head?≠some 48):=by
 refine ⟨fun h=>?_,fun h=>val_dec t hd hne h⟩
 by_cases h0:Rv t=0
 · left;rw [←h,h0,Te Yar];rfl
 · right;rw [←h];exact decF_head _ Yan
theorem Xnz {t:List UInt8} (hd: ∀c∈t,digitB c=true) (hne:t≠[]):Xib t=(decide (Rv t≤1099511627776)&&decide (decF (Rv t)=t)):=by
 unfold Xib
 congr 1
 rw [←Bool.decide_or]
 exact decide_eq_decide.2 (Xg3 hd hne).symm
end Go.Lx
namespace Go.Proofs
open Go.Shelf
def Tryz.lays156_ren:Go.Shelf.Ren:=⟨fun|156=>51|165=>78|166=>79|169=>81|240=>143|241=>144|276=>181|277=>182|n=>n,fun|31=>93|9=>9|3=>3|4=>4|0=>0|20=>20|72=>130|76=>134|70=>127|37=>128|75=>133|127=>199|164=>236|5=>5|80=>137|n=>n,fun|n=>n⟩
theorem Tryz.lays156:Go.Proofs.Lays.n156 Tryz.prog Tryz.lays156_ren:={
 mixed:=by kernel_rfl
 f156:=Tryz.func51.trans (congrArg some Yat)
 f165:=Tryz.func78.trans (congrArg some Yat)
 f166:=Tryz.func79.trans (congrArg some Yat)
 f169:=Tryz.func81.trans (congrArg some Yat)
 f240:=Tryz.func143.trans (congrArg some Yat)
 f241:=Tryz.func144.trans (congrArg some Yat)
 f276:=Tryz.func181.trans (congrArg some Yat)
 f277:=Tryz.func182.trans (congrArg some Yat)
 t0:=Tryz.underlying0
 a0:=Tryz.isAgg0
 z0:=Tryz.sizeOf0
 v0:=Tryz.zeroValue0
 t3:=Tryz.underlying3
 a3:=Tryz.isAgg3
 z3:=Tryz.sizeOf3
 v3:=Tryz.zeroValue3
 t4:=Tryz.underlying4
 a4:=Tryz.isAgg4
 z4:=Tryz.sizeOf4
 v4:=Tryz.zeroValue4
 t9:=Tryz.underlying9
 a9:=Tryz.isAgg9
 z9:=Tryz.sizeOf9
 v9:=Tryz.zeroValue9
 t20:=Tryz.underlying20
 a20:=Tryz.isAgg20
 z20:=Tryz.sizeOf20
 v20:=Tryz.zeroValue20
 t31:=Tryz.underlying93
 a31:=Tryz.isAgg93
 z31:=Tryz.sizeOf93
 v31:=Tryz.zeroValue93
 t37:=Tryz.underlying128
 a37:=Tryz.isAgg128
 z37:=Tryz.sizeOf128
 v37:=Tryz.zeroValue128
 t70:=Tryz.underlying127
 a70:=Tryz.isAgg127
 z70:=Tryz.sizeOf127
 v70:=Tryz.zeroValue127
 t72:=Tryz.underlying130
 a72:=Tryz.isAgg130
 z72:=Tryz.sizeOf130
 v72:=Tryz.zeroValue130
 t75:=Tryz.underlying133
 a75:=Tryz.isAgg133
 z75:=Tryz.sizeOf133
 v75:=Tryz.zeroValue133
 t76:=Tryz.underlying134
 a76:=Tryz.isAgg134
 z76:=Tryz.sizeOf134
 v76:=Tryz.zeroValue134
 t127:=Tryz.underlying199
 a127:=Tryz.isAgg199
 z127:=Tryz.sizeOf199
 v127:=Tryz.zeroValue199
 t164:=Tryz.underlying236
 a164:=Tryz.isAgg236
 z164:=Tryz.sizeOf236
 v164:=Tryz.zeroValue236 }
theorem Tryz.Builder_Extra_156:Builder.Extra Tryz.prog Tryz.lays156_ren:={
 sizeBuilder:=by kernel_rfl
 liesBuilder:=by kernel_rfl
 t5:=Tryz.underlying5
 a5:=Tryz.isAgg5
 z5:=Tryz.sizeOf5
 v5:=Tryz.zeroValue5
 infoByte:=by kernel_rfl
 cellsByte:=by kernel_rfl
 sizeByte:=by kernel_rfl
 neB5:=by decide }
open Go.RowKit in
theorem Tryz.strings_Join_none (a:Option Addr) (c:Nat) (sep:ByteArray) (w:World):
   Calls Tryz.prog 51 #[.slice a 0 c,.string sep] w fun e w'=>e= .returned (.string ⟨#[]⟩)∧w'=w:=Any.strings_Join_none Tryz.lays156 Tryz.Builder_Extra_156 a c sep w
open Go.RowKit in
theorem Tryz.strings_Join (bk o c:Nat) (xs:List ByteArray) (sep:ByteArray) (w:World) (hcells: ∀(j:Nat) x,xs[j]?=some x→w.cell? ⟨bk,o+j,none⟩=some (.string x)) (hbk:bk<w.heap.size) (hN:xs.length≤140737488355328) (hcap:xs.length≤c) (hlen:(Lib.join (xs.map (·.data.toList)) sep.data.toList).length≤140737488355328):
   Calls Tryz.prog 51 #[.slice (some ⟨bk,o,none⟩) xs.length c,.string sep] w fun e w'=>e= .returned (.string ⟨(Lib.join (xs.map (·.data.toList)) sep.data.toList).toArray⟩)∧Below w.heap.size w w':=Any.strings_Join Tryz.lays156 Tryz.Builder_Extra_156 bk o c xs sep w hcells hbk hN hcap hlen
def Tryz.laysM171_ren:Go.Shelf.Ren:=⟨fun|171=>50|243=>131|246=>176|283=>205|284=>206|285=>207|286=>208|129=>222|317=>221|318=>223|319=>224|320=>225|337=>233|338=>234|n=>n,fun|3=>3|9=>9|2=>2|4=>4|171=>255|0=>0|53=>196|37=>128|5=>5|173=>258|212=>276|51=>193|20=>20|213=>277|46=>45|232=>302|233=>303|n=>n,fun|17=>4|18=>6|19=>7|n=>n⟩
theorem Tryz.laysM171:Go.Proofs.LaysM.n171 Tryz.prog Tryz.laysM171_ren:={
 mixed:=by kernel_rfl
 f129:=Tryz.func222.trans (congrArg some Yat)
 f171:=Tryz.func50.trans (congrArg some Yat)
 f243:=Tryz.func131.trans (congrArg some Yat)
 f246:=Tryz.func176.trans (congrArg some Yat)
 f283:=Tryz.func205.trans (congrArg some Yat)
 f284:=Tryz.func206.trans (congrArg some Yat)
 f285:=Tryz.func207.trans (congrArg some Yat)
 f286:=Tryz.func208.trans (congrArg some Yat)
 f317:=Tryz.func221.trans (congrArg some Yat)
 f318:=Tryz.func223.trans (congrArg some Yat)
 f319:=Tryz.func224.trans (congrArg some Yat)
 f320:=Tryz.func225.trans (congrArg some Yat)
 f337:=Tryz.func233.trans (congrArg some Yat)
 f338:=Tryz.func234.trans (congrArg some Yat)
 t0:=Tryz.underlying0
 a0:=Tryz.isAgg0
 z0:=Tryz.sizeOf0
 v0:=Tryz.zeroValue0
 t2:=Tryz.underlying2
 a2:=Tryz.isAgg2
 z2:=Tryz.sizeOf2
 v2:=Tryz.zeroValue2
 t3:=Tryz.underlying3
 a3:=Tryz.isAgg3
 z3:=Tryz.sizeOf3
 v3:=Tryz.zeroValue3
 t4:=Tryz.underlying4
 a4:=Tryz.isAgg4
 z4:=Tryz.sizeOf4
 v4:=Tryz.zeroValue4
 t5:=Tryz.underlying5
 a5:=Tryz.isAgg5
 z5:=Tryz.sizeOf5
 v5:=Tryz.zeroValue5
 t9:=Tryz.underlying9
 a9:=Tryz.isAgg9
 z9:=Tryz.sizeOf9
 v9:=Tryz.zeroValue9
 t20:=Tryz.underlying20
 a20:=Tryz.isAgg20
 z20:=Tryz.sizeOf20
 v20:=Tryz.zeroValue20
 t37:=Tryz.underlying128
 a37:=Tryz.isAgg128
 z37:=Tryz.sizeOf128
 v37:=Tryz.zeroValue128
 t46:=Tryz.underlying45
 a46:=Tryz.isAgg45
 z46:=Tryz.sizeOf45
 v46:=Tryz.zeroValue45
 t51:=Tryz.underlying193
 a51:=Tryz.isAgg193
 z51:=Tryz.sizeOf193
 v51:=Tryz.zeroValue193
 t53:=Tryz.underlying196
 a53:=Tryz.isAgg196
 z53:=Tryz.sizeOf196
 v53:=Tryz.zeroValue196
 t171:=Tryz.underlying255
 a171:=Tryz.isAgg255
 z171:=Tryz.sizeOf255
 v171:=Tryz.zeroValue255
 t173:=Tryz.underlying258
 a173:=Tryz.isAgg258
 z173:=Tryz.sizeOf258
 v173:=Tryz.zeroValue258
 t212:=Tryz.underlying276
 a212:=Tryz.isAgg276
 z212:=Tryz.sizeOf276
 v212:=Tryz.zeroValue276
 t213:=Tryz.underlying277
 a213:=Tryz.isAgg277
 z213:=Tryz.sizeOf277
 t232:=Tryz.underlying302
 a232:=Tryz.isAgg302
 z232:=Tryz.sizeOf302
 v232:=Tryz.zeroValue302
 t233:=Tryz.underlying303
 a233:=Tryz.isAgg303
 z233:=Tryz.sizeOf303
 v233:=Tryz.zeroValue303
 g17:=by kernel_rfl
 g18:=by kernel_rfl
 g19:=by kernel_rfl
 i0:=by kernel_rfl
 i2:=by kernel_rfl
 i3:=by kernel_rfl
 i4:=by kernel_rfl
 i5:=by kernel_rfl
 i9:=by kernel_rfl
 i20:=by kernel_rfl
 i37:=by kernel_rfl
 i46:=by kernel_rfl
 i51:=by kernel_rfl
 i53:=by kernel_rfl
 i171:=by kernel_rfl
 i173:=by kernel_rfl
 i212:=by kernel_rfl
 i232:=by kernel_rfl
 i233:=by kernel_rfl
 m17:=by kernel_rfl
 m18:=by kernel_rfl
 m19:=by kernel_rfl }
open Go.RowKit Go.Sort Go.Lib in
theorem Tryz.strconv_Itoa (n:Int) (h0: -9223372036854775808≤n) (h1:n≤9223372036854775807) (w:World) (htab:Lib.TabIs Tryz.prog w "internal/strconv.uint64pow10" .u64 Lib.pow10Tab):
   Calls Tryz.prog 50 #[.int .i64 n] w fun e w'=>e= .returned (.string ⟨(Lib.itoa n).toArray⟩)∧ ∃k os,w'=grow (w.drewN k) os:=Any.strconv_Itoa Tryz.laysM171 n h0 h1 w htab
def Tryz.laysC172_ren:Go.Shelf.Ren:=⟨fun|172=>128|244=>173|245=>174|247=>199|279=>200|280=>201|281=>202|282=>203|287=>218|316=>219|171=>50|205=>220|321=>231|322=>232|243=>131|246=>176|283=>205|284=>206|285=>207|286=>208|129=>222|317=>221|318=>223|319=>224|320=>225|337=>233|338=>234|n=>n,fun|9=>9|3=>3|75=>133|76=>134|4=>4|5=>5|167=>249|37=>128|0=>0|85=>250|2=>2|168=>252|53=>196|175=>270|46=>45|210=>273|127=>199|145=>289|143=>287|21=>21|171=>255|173=>258|212=>276|51=>193|20=>20|213=>277|232=>302|233=>303|80=>137|n=>n,fun|15=>2|16=>3|17=>4|18=>6|19=>7|n=>n⟩
theorem Tryz.laysC172:Go.Proofs.LaysC.n172 Tryz.prog Tryz.laysC172_ren:={
 mixed:=by kernel_rfl
 f129:=Tryz.func222.trans (congrArg some Yat)
 f171:=Tryz.func50.trans (congrArg some Yat)
 f172:=Tryz.func128.trans (congrArg some Yat)
 f205:=Tryz.func220.trans (congrArg some Yat)
 f243:=Tryz.func131.trans (congrArg some Yat)
 f244:=Tryz.func173.trans (congrArg some Yat)
 f245:=Tryz.func174.trans (congrArg some Yat)
 f246:=Tryz.func176.trans (congrArg some Yat)
 f247:=Tryz.func199.trans (congrArg some Yat)
 f279:=Tryz.func200.trans (congrArg some Yat)
 f280:=Tryz.func201.trans (congrArg some Yat)
 f281:=Tryz.func202.trans (congrArg some Yat)
 f282:=Tryz.func203.trans (congrArg some Yat)
 f283:=Tryz.func205.trans (congrArg some Yat)
 f284:=Tryz.func206.trans (congrArg some Yat)
 f285:=Tryz.func207.trans (congrArg some Yat)
 f286:=Tryz.func208.trans (congrArg some Yat)
 f287:=Tryz.func218.trans (congrArg some Yat)
 f316:=Tryz.func219.trans (congrArg some Yat)
 f317:=Tryz.func221.trans (congrArg some Yat)
 f318:=Tryz.func223.trans (congrArg some Yat)
 f319:=Tryz.func224.trans (congrArg some Yat)
 f320:=Tryz.func225.trans (congrArg some Yat)
 f321:=Tryz.func231.trans (congrArg some Yat)
 f322:=Tryz.func232.trans (congrArg some Yat)
 f337:=Tryz.func233.trans (congrArg some Yat)
 f338:=Tryz.func234.trans (congrArg some Yat)
 t0:=Tryz.underlying0
 a0:=Tryz.isAgg0
 z0:=Tryz.sizeOf0
 v0:=Tryz.zeroValue0
 t2:=Tryz.underlying2
 a2:=Tryz.isAgg2
 z2:=Tryz.sizeOf2
 v2:=Tryz.zeroValue2
 t3:=Tryz.underlying3
 a3:=Tryz.isAgg3
 z3:=Tryz.sizeOf3
 v3:=Tryz.zeroValue3
 t4:=Tryz.underlying4
 a4:=Tryz.isAgg4
 z4:=Tryz.sizeOf4
 v4:=Tryz.zeroValue4
 t5:=Tryz.underlying5
 a5:=Tryz.isAgg5
 z5:=Tryz.sizeOf5
 v5:=Tryz.zeroValue5
 t9:=Tryz.underlying9
 a9:=Tryz.isAgg9
 z9:=Tryz.sizeOf9
 v9:=Tryz.zeroValue9
 t20:=Tryz.underlying20
 a20:=Tryz.isAgg20
 z20:=Tryz.sizeOf20
 v20:=Tryz.zeroValue20
 t21:=Tryz.underlying21
 a21:=Tryz.isAgg21
 z21:=Tryz.sizeOf21
 v21:=Tryz.zeroValue21
 t37:=Tryz.underlying128
 a37:=Tryz.isAgg128
 z37:=Tryz.sizeOf128
 v37:=Tryz.zeroValue128
 t46:=Tryz.underlying45
 a46:=Tryz.isAgg45
 z46:=Tryz.sizeOf45
 v46:=Tryz.zeroValue45
 t51:=Tryz.underlying193
 a51:=Tryz.isAgg193
 z51:=Tryz.sizeOf193
 v51:=Tryz.zeroValue193
 t53:=Tryz.underlying196
 a53:=Tryz.isAgg196
 z53:=Tryz.sizeOf196
 v53:=Tryz.zeroValue196
 t75:=Tryz.underlying133
 a75:=Tryz.isAgg133
 z75:=Tryz.sizeOf133
 v75:=Tryz.zeroValue133
 t76:=Tryz.underlying134
 a76:=Tryz.isAgg134
 z76:=Tryz.sizeOf134
 v76:=Tryz.zeroValue134
 t85:=Tryz.underlying250
 a85:=Tryz.isAgg250
 z85:=Tryz.sizeOf250
 v85:=Tryz.zeroValue250
 t127:=Tryz.underlying199
 a127:=Tryz.isAgg199
 z127:=Tryz.sizeOf199
 v127:=Tryz.zeroValue199
 t143:=Tryz.underlying287
 a143:=Tryz.isAgg287
 z143:=Tryz.sizeOf287
 v143:=Tryz.zeroValue287
 t145:=Tryz.underlying289
 a145:=Tryz.isAgg289
 z145:=Tryz.sizeOf289
 v145:=Tryz.zeroValue289
 t167:=Tryz.underlying249
 a167:=Tryz.isAgg249
 z167:=Tryz.sizeOf249
 v167:=Tryz.zeroValue249
 t168:=Tryz.underlying252
 a168:=Tryz.isAgg252
 z168:=Tryz.sizeOf252
 v168:=Tryz.zeroValue252
 t171:=Tryz.underlying255
 a171:=Tryz.isAgg255
 z171:=Tryz.sizeOf255
 v171:=Tryz.zeroValue255
 t173:=Tryz.underlying258
 a173:=Tryz.isAgg258
 z173:=Tryz.sizeOf258
 v173:=Tryz.zeroValue258
 t175:=Tryz.underlying270
 a175:=Tryz.isAgg270
 z175:=Tryz.sizeOf270
 v175:=Tryz.zeroValue270
 t210:=Tryz.underlying273
 a210:=Tryz.isAgg273
 z210:=Tryz.sizeOf273
 v210:=Tryz.zeroValue273
 t212:=Tryz.underlying276
 a212:=Tryz.isAgg276
 z212:=Tryz.sizeOf276
 v212:=Tryz.zeroValue276
 t213:=Tryz.underlying277
 a213:=Tryz.isAgg277
 z213:=Tryz.sizeOf277
 t232:=Tryz.underlying302
 a232:=Tryz.isAgg302
 z232:=Tryz.sizeOf302
 v232:=Tryz.zeroValue302
 t233:=Tryz.underlying303
 a233:=Tryz.isAgg303
 z233:=Tryz.sizeOf303
 v233:=Tryz.zeroValue303
 g15:=by kernel_rfl
 g16:=by kernel_rfl
 g17:=by kernel_rfl
 g18:=by kernel_rfl
 g19:=by kernel_rfl
 t80:=Tryz.underlying137
 a80:=Tryz.isAgg137
 z80:=Tryz.sizeOf137
 v80:=Tryz.zeroValue137
 i0:=by kernel_rfl
 i2:=by kernel_rfl
 i3:=by kernel_rfl
 i4:=by kernel_rfl
 i5:=by kernel_rfl
 i9:=by kernel_rfl
 i20:=by kernel_rfl
 i21:=by kernel_rfl
 i37:=by kernel_rfl
 i46:=by kernel_rfl
 i51:=by kernel_rfl
 i53:=by kernel_rfl
 i75:=by kernel_rfl
 i76:=by kernel_rfl
 i80:=by kernel_rfl
 i85:=by kernel_rfl
 i127:=by kernel_rfl
 i143:=by kernel_rfl
 i145:=by kernel_rfl
 i167:=by kernel_rfl
 i168:=by kernel_rfl
 i171:=by kernel_rfl
 i173:=by kernel_rfl
 i175:=by kernel_rfl
 i210:=by kernel_rfl
 i212:=by kernel_rfl
 i232:=by kernel_rfl
 i233:=by kernel_rfl
 m15:=by kernel_rfl
 m16:=by kernel_rfl
 m17:=by kernel_rfl
 m18:=by kernel_rfl
 m19:=by kernel_rfl
 c0:=by kernel_rfl
 c2:=by kernel_rfl
 c3:=by kernel_rfl
 c4:=by kernel_rfl
 c5:=by kernel_rfl
 c9:=by kernel_rfl
 c20:=by kernel_rfl
 c21:=by kernel_rfl
 c37:=by kernel_rfl
 c46:=by kernel_rfl
 c51:=by kernel_rfl
 c53:=by kernel_rfl
 c75:=by kernel_rfl
 c76:=by kernel_rfl
 c80:=by kernel_rfl
 c85:=by kernel_rfl
 c127:=by kernel_rfl
 c143:=by kernel_rfl
 c145:=by kernel_rfl
 c167:=by kernel_rfl
 c168:=by kernel_rfl
 c171:=by kernel_rfl
 c173:=by kernel_rfl
 c175:=by kernel_rfl
 c210:=by kernel_rfl
 c212:=by kernel_rfl
 c213:=by kernel_rfl
 c232:=by kernel_rfl
 c233:=by kernel_rfl }
def Tryz.lays99_ren:Go.Shelf.Ren:=⟨fun|99=>20|206=>52|n=>n,fun|9=>9|4=>4|3=>3|n=>n,fun|n=>n⟩
theorem Tryz.lays99:Go.Proofs.Lays.n99 Tryz.prog Tryz.lays99_ren:={
 mixed:=by kernel_rfl
 f99:=Tryz.func20.trans (congrArg some Yat)
 f206:=Tryz.func52.trans (congrArg some Yat)
 t3:=Tryz.underlying3
 a3:=Tryz.isAgg3
 z3:=Tryz.sizeOf3
 v3:=Tryz.zeroValue3
 t4:=Tryz.underlying4
 a4:=Tryz.isAgg4
 z4:=Tryz.sizeOf4
 v4:=Tryz.zeroValue4
 t9:=Tryz.underlying9
 a9:=Tryz.isAgg9
 z9:=Tryz.sizeOf9
 v9:=Tryz.zeroValue9 }
open Go.RowKit Go.Lib in
theorem Tryz.strings_HasPrefix (s p:ByteArray) (w:World):
   Calls Tryz.prog 20 #[.string s,.string p] w fun e w'=>e= .returned (.bool (Lib.hasPrefix s.data.toList p.data.toList))∧w'=w:=Any.strings_HasPrefix Tryz.lays99 s p w
def Tryz.lays157_ren:Go.Shelf.Ren:=⟨fun|157=>180|229=>210|199=>211|261=>226|311=>235|312=>236|n=>n,fun|9=>9|31=>93|3=>3|5=>5|4=>4|119=>261|0=>0|40=>263|152=>280|21=>21|154=>282|51=>193|141=>284|196=>294|193=>291|198=>297|49=>295|194=>292|201=>300|226=>304|46=>45|227=>305|n=>n,fun|0=>0|6=>5|n=>n⟩
theorem Tryz.lays157:Go.Proofs.Lays.n157 Tryz.prog Tryz.lays157_ren:={
 mixed:=by kernel_rfl
 f157:=Tryz.func180.trans (congrArg some Yat)
 f199:=Tryz.func211.trans (congrArg some Yat)
 f229:=Tryz.func210.trans (congrArg some Yat)
 f261:=Tryz.func226.trans (congrArg some Yat)
 f311:=Tryz.func235.trans (congrArg some Yat)
 f312:=Tryz.func236.trans (congrArg some Yat)
 t0:=Tryz.underlying0
 a0:=Tryz.isAgg0
 z0:=Tryz.sizeOf0
 v0:=Tryz.zeroValue0
 t3:=Tryz.underlying3
 a3:=Tryz.isAgg3
 z3:=Tryz.sizeOf3
 v3:=Tryz.zeroValue3
 t4:=Tryz.underlying4
 a4:=Tryz.isAgg4
 z4:=Tryz.sizeOf4
 v4:=Tryz.zeroValue4
 t5:=Tryz.underlying5
 a5:=Tryz.isAgg5
 z5:=Tryz.sizeOf5
 v5:=Tryz.zeroValue5
 t9:=Tryz.underlying9
 a9:=Tryz.isAgg9
 z9:=Tryz.sizeOf9
 v9:=Tryz.zeroValue9
 t21:=Tryz.underlying21
 a21:=Tryz.isAgg21
 z21:=Tryz.sizeOf21
 v21:=Tryz.zeroValue21
 t31:=Tryz.underlying93
 a31:=Tryz.isAgg93
 z31:=Tryz.sizeOf93
 v31:=Tryz.zeroValue93
 t40:=Tryz.underlying263
 a40:=Tryz.isAgg263
 z40:=Tryz.sizeOf263
 v40:=Tryz.zeroValue263
 t46:=Tryz.underlying45
 a46:=Tryz.isAgg45
 z46:=Tryz.sizeOf45
 v46:=Tryz.zeroValue45
 t49:=Tryz.underlying295
 a49:=Tryz.isAgg295
 z49:=Tryz.sizeOf295
 v49:=Tryz.zeroValue295
 t51:=Tryz.underlying193
 a51:=Tryz.isAgg193
 z51:=Tryz.sizeOf193
 v51:=Tryz.zeroValue193
 t119:=Tryz.underlying261
 a119:=Tryz.isAgg261
 z119:=Tryz.sizeOf261
 t141:=Tryz.underlying284
 a141:=Tryz.isAgg284
 z141:=Tryz.sizeOf284
 v141:=Tryz.zeroValue284
 t152:=Tryz.underlying280
 a152:=Tryz.isAgg280
 z152:=Tryz.sizeOf280
 v152:=Tryz.zeroValue280
 t154:=Tryz.underlying282
 a154:=Tryz.isAgg282
 z154:=Tryz.sizeOf282
 v154:=Tryz.zeroValue282
 t193:=Tryz.underlying291
 a193:=Tryz.isAgg291
 z193:=Tryz.sizeOf291
 v193:=Tryz.zeroValue291
 t194:=Tryz.underlying292
 a194:=Tryz.isAgg292
 z194:=Tryz.sizeOf292
 v194:=Tryz.zeroValue292
 t196:=Tryz.underlying294
 a196:=Tryz.isAgg294
 z196:=Tryz.sizeOf294
 v196:=Tryz.zeroValue294
 t198:=Tryz.underlying297
 a198:=Tryz.isAgg297
 z198:=Tryz.sizeOf297
 v198:=Tryz.zeroValue297
 t201:=Tryz.underlying300
 a201:=Tryz.isAgg300
 z201:=Tryz.sizeOf300
 v201:=Tryz.zeroValue300
 t226:=Tryz.underlying304
 a226:=Tryz.isAgg304
 z226:=Tryz.sizeOf304
 v226:=Tryz.zeroValue304
 t227:=Tryz.underlying305
 a227:=Tryz.isAgg305
 z227:=Tryz.sizeOf305
 v227:=Tryz.zeroValue305
 g0:=by kernel_rfl
 g6:=by kernel_rfl }
end Go.Proofs
namespace Go.Lx
theorem Xk4 (acc:Nat): ∀(s:List UInt8),acc≤s.foldl (fun n c=>10 * n+(c.toNat-48)) acc
 | []=>Nat.le_refl _
 | c::s=>Nat.le_trans Yan (Xk4 (10 * acc+(c.toNat-48)) s)
theorem parse_digits: ∀(s:List UInt8) (acc:Nat),(∀c∈s,digitB c=true)→acc<18446744073709551616→Lib.parseUint10 acc s=if s.foldl (fun n c=>10 * n+(c.toNat-48)) acc<18446744073709551616 then .ok (s.foldl (fun n c=>10 * n+(c.toNat-48)) acc) else .range
 | [],acc,_,ha=>by rw [Lib.parseUint10,List.foldl_nil,if_pos ha]
 | c::s,acc,h,ha=>by
   have hc:=h c Ybn
   unfold digitB inR at hc
   rw [decide_eq_true_iff] at hc
   rw [Lib.parseUint10,if_pos hc,List.foldl_cons]
   have hle:=Xk4 (10 * acc+(c.toNat-48)) s
   by_cases h1:1844674407370955162≤acc
   · rw [if_pos h1,if_neg Yan]
   · rw [if_neg h1]
     by_cases h2:18446744073709551616≤acc * 10+(c.toNat-48)
     · rw [if_pos h2,if_neg Yan]
     · rw [if_neg h2,Nat.mul_comm acc 10]
       exact parse_digits s _ (fun x hx=>h x (List.mem_cons_of_mem _ hx)) Yan
theorem Xcs {s:List UInt8} (h: ∀c∈s,digitB c=true) (hne:s≠[]):Lib.atoiAll s=if Rv s<9223372036854775808 then .ok (Rv s) else .range:=by
 cases s with
 | nil=>exact absurd rfl hne
 | cons c r=>
   have hc:=h c Ybn
   unfold digitB inR at hc
   rw [decide_eq_true_iff] at hc
   have hp:=parse_digits (c::r) 0 h Yar
   have hv:Rv (c::r)=(c::r).foldl (fun n c=>10 * n+(c.toNat-48)) 0:=rfl
   rw [←hv] at hp
   unfold Lib.atoiAll
   simp only
   rw [if_neg Yan]
   unfold Lib.parseMag
   rw [if_neg Ybn,hp]
   by_cases h1:Rv (c::r)<18446744073709551616
   · rw [if_pos h1]
     simp only
     by_cases h2:Rv (c::r)<9223372036854775808
     · rw [if_neg Yan,if_neg Yan,if_neg Yan,if_pos h2]
     · rw [if_pos ⟨by omega,by omega⟩,if_neg h2]
   · rw [if_neg h1,if_neg Yan]
theorem dec_lib: ∀n,Lib.decDigits n=decF n:=by
 refine Xbb (fun n h=>?_) fun n h ih=>?_
 · rw [Lib.decDigits,dif_pos h,Te h]
 · rw [Lib.decDigits,dif_neg h,R8 h,ih]
theorem Xn0 (n:Nat):Lib.itoa n=decF n:=by
 unfold Lib.itoa
 rw [if_neg Yan,Int.toNat_natCast,dec_lib]
theorem join_lib: ∀l:List (List UInt8),Lib.join l [32]=joinF l
 | []=>rfl
 | [w]=>by rw [Lib.join_one];rfl
 | w::v::l=>by rw [Xee,←join_lib (v::l),Lib.join_cons,Lib.join_cons];rfl
end Go.Lx
namespace Go.Proofs.YthdldeenpgeemaaGreatDoor
open Go Go.RowKit Go.Kx Go.Fr Go.Lx
def powG:Nat:=(Tryz.laysM171_ren).g 17
def rangeG:Nat:=(Tryz.laysC172_ren).g 16
theorem pow_named:Tryz.prog.globalNamed "internal/strconv.uint64pow10"=some powG:=by kernel_rfl
def Lab:Ent where
 foot:=[]
 rel F w:=F powG∧F rangeG∧powG<w.heap.size∧rangeG<w.heap.size∧Lib.TabIs Tryz.prog w "internal/strconv.uint64pow10" .u64 Lib.pow10Tab∧ ∃te pe,w.cell? ⟨rangeG,0,none⟩=some (.iface te pe)
 mono:=by
   rintro S S' w w' ⟨h1,h2,h3,h4,h5,te,pe,h6⟩ hk _
   obtain ⟨a1,a2⟩:=hk powG h1 h3
   obtain ⟨b1,b2⟩:=hk rangeG h2 h4
   have lt: ∀{g},g<w.heap.size→w'.heap[g]?=w.heap[g]?→g<w'.heap.size:=fun {g} h e=>by
     have:w.heap[g]?≠none:=by rw [Array.getElem?_eq_getElem h];simp
     rw [←e] at this
     exact Nat.lt_of_not_le fun h=>this (Array.getElem?_eq_none h)
   refine ⟨a1,b1,lt h3 a2,lt h4 b2,?_,te,pe,(World.cell?_of_block (w:=w) b2).trans h6⟩
   unfold Lib.TabIs World.var? at h5 ⊢
   rw [pow_named] at h5 ⊢
   simp only [Option.bind_some] at h5 ⊢
   rw [a2];exact h5
theorem Xiq (n:Nat) (h:n≤9223372036854775807):FnC Tryz.prog 50 [exI .i64 (n:Int)] [Lab] (fun p loc=>p=exT (decF n)∧loc=[]):=by
 refine Xh1 fun F w vals ht hA=>?_
 obtain ⟨v,rfl,rfl⟩:=Xix hA
 refine (Tryz.strconv_Itoa (n:Int) Yan Yan w ht.2.2.2.2.1).mono ?_
 rintro e w' ⟨rfl,k,os,rfl⟩
 refine ⟨_,_,rfl,⟨rfl,rfl⟩,?_,?_⟩
 · show Value.string _=Value.string _
   rw [Xn0]
 · refine ⟨rfl,rfl,rfl,?_,fun j hj=>?_⟩
   · show w.heap.size≤(w.heap++os).size;simp
   · show (w.heap++os)[j]?=w.heap[j]?;exact Array.getElem?_append_left hj
theorem Xg4 (s:List UInt8) (hd: ∀c∈s,digitB c=true) (hne:s≠[]) (hl:s.length≤65536) (hv:Rv s<9223372036854775808):FnC Tryz.prog 128 [exT s] [] (fun p loc=>p=tup [exI .i64 (Rv s:Int),ex .nilIface]∧loc=[]):=by
 refine Xiy fun F w vals h=>?_
 obtain ⟨v,rfl,rfl⟩:=Xix h
 refine (Any.strconv_Atoi_ok Tryz.laysC172 ⟨s.toArray⟩ (by show s.toArray.size≤_;rw [List.size_toArray];omega) (Rv s) (by show Lib.atoiAll s=_;rw [Xcs hd hne,if_pos hv]) w).mono ?_
 rintro e w' ⟨rfl,hw⟩
 refine ⟨_,_,rfl,⟨rfl,rfl⟩,?_,?_⟩
 · exact ⟨_,rfl,.cons rfl (.cons rfl .nil)⟩
 · rcases hw with rfl|⟨t,rfl⟩
   · exact Below.refl _ _
   · exact Lib.bytesWorld_below w _ t
theorem Xdk (s:List UInt8) (hd: ∀c∈s,digitB c=true) (hne:s≠[]) (hl:s.length≤65536) (hv: ¬Rv s<9223372036854775808):FnC Tryz.prog 128 [exT s] [Lab] (fun p loc=>(∃(n:Int) (N:Nat),p=tup [exI .i64 n,ex (.iface ((Tryz.laysC172_ren).t 168) (.pointer (some ⟨N,0,none⟩)))])∧loc=[]):=by
 refine Xh1 fun F w vals ht h=>?_
 obtain ⟨v,rfl,rfl⟩:=Xix h
 obtain ⟨-,-,-,-,-,te,pe,hc⟩:=ht
 refine (Any.strconv_Atoi_range Tryz.laysC172 ⟨s.toArray⟩ (by show s.toArray.size≤_;rw [List.size_toArray];omega) (by show Lib.atoiAll s=_;rw [Xcs hd hne,if_neg hv]) _ w hc (.inr ⟨_,_,rfl⟩)).mono ?_
 rintro e w' ⟨N,rfl,h1,h2,h3⟩
 refine ⟨_,_,rfl,⟨⟨Lib.atoiSat s,N,rfl⟩,rfl⟩,?_,h3⟩
 exact ⟨_,rfl,.cons rfl (.cons rfl .nil)⟩
theorem Xej (s t:List UInt8):FnC Tryz.prog 20 [exT s,exT t] [] (fun p loc=>p=exB (t.isPrefixOf s)∧loc=[]):=by
 refine Xiy fun F w vals h=>?_
 obtain ⟨v,u,rfl,rfl,rfl⟩:=h.two
 refine (Tryz.strings_HasPrefix ⟨s.toArray⟩ ⟨t.toArray⟩ w).mono ?_
 rintro e w' ⟨rfl,rfl⟩
 exact ⟨_,_,rfl,⟨rfl,rfl⟩,rfl,Below.refl _ _⟩
end Go.Proofs.YthdldeenpgeemaaGreatDoor
namespace Go.Fr
open Go.RowKit Go.Kx
end Go.Fr
namespace Go.Proofs.YthdldeenpgeemaaGreatDoor
open Go Go.RowKit Go.Kx Go.Fr Go.Lx
theorem Xn1 (l:List (List UInt8)) (hl:l.length≤140737488355328) (hj:(joinF l).length≤140737488355328):FnC Tryz.prog 51 [isl eStr l,exT [32]] [] (fun p loc=>p=exT (joinF l)∧loc=[]):=by
 refine Xiy fun F w vals h=>?_
 obtain ⟨v,u,rfl,h1,h2⟩:=h.two
 obtain ⟨oa,n,c,rfl,hs⟩:=h1
 have h2:u= .string ⟨#[32]⟩:=h2
 subst h2
 obtain rfl:=hs.length
 have hlm:l.map (fun x:List UInt8=>(⟨x.toArray⟩:ByteArray).data.toList)=l:=by
   conv=>rhs;rw [←List.map_id l]
   rfl
 cases hl0:l with
 | nil=>
   subst hl0
   refine (Tryz.strings_Join_none oa c ⟨#[32]⟩ w).mono ?_
   rintro e w' ⟨rfl,rfl⟩
   exact ⟨_,_,rfl,⟨rfl,rfl⟩,rfl,Below.refl _ _⟩
 | cons x r=>
   rw [←hl0]
   obtain ⟨b,off,cs,rfl,-,hb,-,-,-⟩:=hs.elem 0 (by rw [hl0];simp)
   have hcells: ∀(j:Nat) y,(l.map fun x=>(⟨x.toArray⟩:ByteArray))[j]?=some y→w.cell? ⟨b,off+j,none⟩=some (.string y):=by
     intro j y hy
     rw [List.getElem?_map] at hy
     obtain ⟨z,hz,rfl⟩:=Option.map_eq_some_iff.1 hy
     obtain ⟨hjl,rfl⟩:=List.getElem?_eq_some_iff.1 hz
     obtain ⟨b',off',cs',e1,-,-,-,h4,h5⟩:=hs.elem j hjl
     injection e1 with e1
     injection e1 with e2 e3
     subst e2 e3
     have h6:=h4 0 Yar
     have e7:cs'=[.string ⟨l[j].toArray⟩]:=h5
     subst e7
     have:eStr.size=1:=rfl
     rw [this,Nat.mul_one,Nat.add_zero] at h6
     exact h6
   have hjn:Lib.join ((l.map fun x=>(⟨x.toArray⟩:ByteArray)).map (·.data.toList)) (⟨#[32]⟩:ByteArray).data.toList=joinF l:=by
     rw [List.map_map]
     show Lib.join (l.map (fun x:List UInt8=>(⟨x.toArray⟩:ByteArray).data.toList)) [32]=_
     rw [hlm,join_lib]
   have hJ:=Tryz.strings_Join b off c (l.map fun x=>⟨x.toArray⟩) ⟨#[32]⟩ w hcells hb (by rw [List.length_map];exact hl) (by rw [List.length_map];exact hs.cap) (by rw [hjn];exact hj)
   rw [hjn,List.length_map] at hJ
   refine hJ.mono ?_
   rintro e w' ⟨rfl,hb⟩
   exact ⟨_,_,rfl,⟨rfl,rfl⟩,rfl,hb⟩
def Xn2 (b i:Nat) (s:List UInt8) (acc:List TokD):SP→List Ent→Prop:=fun _ loc=> ∃(n:Nat) (oa:Option Addr) (c:Nat) (acc2:List TokD),loc=scanL b (i+n) s oa c acc2∧1≤n∧i+n≤s.length∧acc2.length≤acc.length+1∧(Sb i (s.drop i)).map (acc++ ·)=(Sb (i+n) (s.drop (i+n))).map (acc2++ ·)
def Xn3 (i:Nat) (s:List UInt8):List PanicEntry→List Ent→Prop:=fun ch loc=>Sb i (s.drop i)= .error i∧Xo7 83 i ch loc
theorem Xk5 (s:List UInt8):Xo6 [2,3,5] s=s.takeWhile partB:=by
 unfold Xo6
 congr 1
 funext c
 exact Rw (P:=fun c=>decide (Ul c∈([2,3,5]:List Int))=partB c) Yaa c
theorem Xjt (s:List UInt8):Xo6 [3] s=s.takeWhile digitB:=by
 unfold Xo6
 congr 1
 funext c
 exact Rw (P:=fun c=>decide (Ul c∈([3]:List Int))=digitB c) Yaa c
theorem Xju (s:List UInt8):Xo6 [1] s=s.takeWhile spaceB:=by
 unfold Xo6
 congr 1
 funext c
 exact Rw (P:=fun c=>decide (Ul c∈([1]:List Int))=spaceB c) Yaa c
theorem Xk6 (b i:Nat) (s:List UInt8) (oa:Option Addr) (c:Nat) (acc:List TokD) (hi:i<s.length) (hmax:s.length≤65536) (hacc:acc.length≤i) (h:V8 s[i]=true):FnP Tryz.prog 43 [ex (.pointer (some ⟨b,0,none⟩))] (scanL b i s oa c acc) (Xn2 b i s acc) (Xn3 i s):=by
 obtain ⟨h1,h2,h3,h4⟩:=Xpv hi h
 have hrun:=Xeh b i s (ex (.slice oa acc.length c)) [2,3,5] Yan hmax
 rw [Xk5] at hrun
 have hadd:=Xei b i s ((s.drop i).takeWhile partB) ⟨1,(s.drop i).takeWhile partB,0,0⟩ oa c acc Yan Yan
 have hvb:V7 ⟨1,(s.drop i).takeWhile partB,0,0⟩=Xbv ((s.drop i).takeWhile partB):=by
   unfold V7;rw [if_pos rfl,decide_eq_true rfl,Bool.and_true]
 rw [hvb] at hadd
 generalize (s.drop i).takeWhile partB=t at h1 h2 h3 h4 hrun hadd
 unfold scanL at hadd
 unfold scanL
 refine Ww Tryz.func43 rfl Tryz.ntmps43 rfl fun w0 F0 out=>?_
 (repeat' (first|(apply Xy 5;refine Wj (k:=0) (E:=eI) (t:=4) [2,3,5] rfl rfl rfl rfl ?_ (hc:=by decide) (hby:=by decide))|(apply Xy 10;refine X6 (.one 0 rfl (.one 0 rfl .nil)) Tryz.func127 rfl hadd rfl ?_ ?_)|refine Xf ?_|refine Xb ?_|refine Xd ?_|(apply Xk;(first|exact Xe rfl|exact Xj rfl|exact Ya7);exact rfl)|(apply Xi;exact rfl;first|(apply Xn;(refine Xl (.one 0 rfl .nil) Tryz.func126 rfl hrun rfl ?_;rintro _ _ ⟨rfl,rfl⟩))|(apply X5;(refine Wq rfl Yac ?_);intro _))))
 · rintro p loc ⟨hv,oa2,c2,rfl⟩
   (repeat' (refine Xd ?_))
   exact ⟨.inl rfl,Rn (loc':=scanL b (i+t.length) s oa2 c2 (acc++[⟨1,t,0,i⟩])) rfl (by exact List.Sublist.refl _) ⟨t.length,oa2,c2,_,rfl,h3,h4,by simp,by rw [h1 hv,Xie]⟩⟩
 · rintro ch loc ⟨hv,rfl,rfl⟩
   refine Xv (loc':=[]) (List.nil_sublist _) ?_
   exact ⟨h2 hv,rfl,rfl⟩
theorem Xjv (b i:Nat) (s:List UInt8) (oa:Option Addr) (c:Nat) (acc:List TokD) (hi:i<s.length) (hmax:s.length≤65536) (h:spaceB s[i]=true):FnP Tryz.prog 42 [ex (.pointer (some ⟨b,0,none⟩))] (scanL b i s oa c acc) (Xn2 b i s acc) (Xn3 i s):=by
 obtain ⟨h1,h3,h4⟩:=Xny hi h
 have hrun:=Xeh b i s (ex (.slice oa acc.length c)) [1] Yan hmax
 rw [Xju] at hrun
 generalize (s.drop i).takeWhile spaceB=t at h1 h3 h4 hrun
 refine FnC.toP _ ?_
 unfold scanL
 refine X4 Tryz.func42 rfl Tryz.ntmps42 rfl fun w0 F0 out=>?_
 refine Uy (fun _:Unit=>([],[row b 90 3 [exT s,exI .i64 ((i:Int)+(t.length:Int)),ex (.slice oa acc.length c)],vec (.slice oa acc.length c) 40 4 acc.length (acc.flatMap Xch)])) (fun _=>True) ?_ fun _ _=>?_
 · skip
   (refine W9 5 rfl ?_)
   (try ((refine Vb Yaa (Wx (k:=0) (E:=eI) (t:=7) [1] rfl rfl rfl rfl (hc:=by decide) (hby:=by decide)) ?_)))
   (apply Xc 0 rfl Yaa rfl Yab Xa;(exact Xe rfl);exact rfl)
   (try ((refine Vb Yaa (Wx (k:=0) (E:=eI) (t:=7) [1] rfl rfl rfl rfl (hc:=by decide) (hby:=by decide)) ?_)))
   (apply Xc 1 rfl Yaa rfl Yab Xa;(exact Yam);exact rfl)
   (try ((refine Vb Yaa (Wx (k:=0) (E:=eI) (t:=7) [1] rfl rfl rfl rfl (hc:=by decide) (hby:=by decide)) ?_)))
   (apply Xc 2 rfl Yaa rfl Yab Xa;(exact Yad);exact rfl)
   (try ((refine Vb Yaa (Wx (k:=0) (E:=eI) (t:=7) [1] rfl rfl rfl rfl (hc:=by decide) (hby:=by decide)) ?_)))
   (apply Xc 4 rfl Yaa rfl Yab Xa;(exact Xe rfl);exact rfl)
   (try ((refine Vb Yaa (Wx (k:=0) (E:=eI) (t:=7) [1] rfl rfl rfl rfl (hc:=by decide) (hby:=by decide)) ?_)))
   (refine V3 (H1:=fun _=>True) (H2:=U6 []) 3 5 Yaa rfl Xa (fun _ _ _=>trivial) rfl Xa (fun h=>absurd h Yar) ?_ ?_)
   ·
     ((apply V6 (H:=fun _=>True);(exact Yaf);exact rfl))
     (try ((refine Vb Yaa (Wx (k:=0) (E:=eI) (t:=7) [1] rfl rfl rfl rfl (hc:=by decide) (hby:=by decide)) ?_)))
     (refine Xr (H':=U6 []) 5 Yaa rfl Xa (fun h=>absurd h Yar) ?_)
     ((apply X5;(first|refine Wb rfl rfl ?_|refine Wq rfl Yac ?_|refine Tp rfl ?_);intro _))
     (try ((refine Vb Yaa (Wx (k:=0) (E:=eI) (t:=7) [1] rfl rfl rfl rfl (hc:=by decide) (hby:=by decide)) ?_)))
     (refine Xr (H':=U6 []) 6 Yaa rfl Xa (fun h=>absurd h Yar) ?_)
     ((apply Xn;(refine Xl (.one 0 rfl .nil) Tryz.func126 rfl hrun rfl ?_;rintro _ _ ⟨rfl,rfl⟩)))
     (try ((refine Vb Yaa (Wx (k:=0) (E:=eI) (t:=7) [1] rfl rfl rfl rfl (hc:=by decide) (hby:=by decide)) ?_)))
     (refine Xr (H':=fun _=>True) 7 Yaa rfl Xa (fun _ _ _=>trivial) ?_)
     ((apply V6 (H:=fun _=>True);(exact Ybm);exact rfl))
     (try ((refine Vb Yaa (Wx (k:=0) (E:=eI) (t:=7) [1] rfl rfl rfl rfl (hc:=by decide) (hby:=by decide)) ?_)))
     (refine Xr (H':=fun _=>True) 8 Yaa rfl Xa (fun _ _ _=>trivial) ?_)
     ((apply V6 (H:=fun _=>True);(exact Ycn);exact rfl))
     (try ((refine Vb Yaa (Wx (k:=0) (E:=eI) (t:=7) [1] rfl rfl rfl rfl (hc:=by decide) (hby:=by decide)) ?_)))
     (refine Xr (H':=fun _=>True) 9 Yaa rfl Xa (fun _ _ _=>trivial) ?_)
     ((apply V6 (H:=fun _=>True);(exact Yam);exact rfl))
     (try ((refine Vb Yaa (Wx (k:=0) (E:=eI) (t:=7) [1] rfl rfl rfl rfl (hc:=by decide) (hby:=by decide)) ?_)))
     (refine Xr (H':=fun _=>True) 10 Yaa rfl Xa (fun _ _ _=>trivial) ?_)
     ((apply V6 (H:=fun _=>True);(exact Yad);exact rfl))
     (try ((refine Vb Yaa (Wx (k:=0) (E:=eI) (t:=7) [1] rfl rfl rfl rfl (hc:=by decide) (hby:=by decide)) ?_)))
     (refine Xr (H':=U6 []) 11 Yaa rfl Xa (fun h=>absurd h Yar) ?_)
     ((apply Xt;refine Xq (k:=0) (l0:=[]) rfl rfl rfl ?_))
     (try ((refine Vb Yaa (Wx (k:=0) (E:=eI) (t:=7) [1] rfl rfl rfl rfl (hc:=by decide) (hby:=by decide)) ?_)))
     refine X3 Yaa ?_
     exact Wc () trivial (Xg (by repeat (first|exact Xm|refine Xh rfl ?_)) (List.Sublist.refl _))
   ·
     ((apply X5;(first|refine Wb rfl rfl ?_|refine Wq rfl Yac ?_|refine Tp rfl ?_);intro _))
     (try ((refine Vb Yaa (Wx (k:=0) (E:=eI) (t:=7) [1] rfl rfl rfl rfl (hc:=by decide) (hby:=by decide)) ?_)))
     (refine V3 (H1:=fun _=>True) (H2:=U6 []) 3 6 Yaa rfl Xa (fun _ _ _=>trivial) rfl Xa (fun h=>absurd h Yar) ?_ ?_)
     ·
       ((apply V6 (H:=fun _=>True);(exact Yaf);exact rfl))
       (try ((refine Vb Yaa (Wx (k:=0) (E:=eI) (t:=7) [1] rfl rfl rfl rfl (hc:=by decide) (hby:=by decide)) ?_)))
       (refine Xr (H':=U6 []) 6 Yaa rfl Xa (fun h=>absurd h Yar) ?_)
       ((apply Xn;(refine Xl (.one 0 rfl .nil) Tryz.func126 rfl hrun rfl ?_;rintro _ _ ⟨rfl,rfl⟩)))
       (try ((refine Vb Yaa (Wx (k:=0) (E:=eI) (t:=7) [1] rfl rfl rfl rfl (hc:=by decide) (hby:=by decide)) ?_)))
       (refine Xr (H':=fun _=>True) 7 Yaa rfl Xa (fun _ _ _=>trivial) ?_)
       ((apply V6 (H:=fun _=>True);(exact Ybm);exact rfl))
       (try ((refine Vb Yaa (Wx (k:=0) (E:=eI) (t:=7) [1] rfl rfl rfl rfl (hc:=by decide) (hby:=by decide)) ?_)))
       (refine Xr (H':=fun _=>True) 8 Yaa rfl Xa (fun _ _ _=>trivial) ?_)
       ((apply V6 (H:=fun _=>True);(exact Ycn);exact rfl))
       (try ((refine Vb Yaa (Wx (k:=0) (E:=eI) (t:=7) [1] rfl rfl rfl rfl (hc:=by decide) (hby:=by decide)) ?_)))
       (refine Xr (H':=fun _=>True) 9 Yaa rfl Xa (fun _ _ _=>trivial) ?_)
       ((apply V6 (H:=fun _=>True);(exact Yam);exact rfl))
       (try ((refine Vb Yaa (Wx (k:=0) (E:=eI) (t:=7) [1] rfl rfl rfl rfl (hc:=by decide) (hby:=by decide)) ?_)))
       (refine Xr (H':=fun _=>True) 10 Yaa rfl Xa (fun _ _ _=>trivial) ?_)
       ((apply V6 (H:=fun _=>True);(exact Yad);exact rfl))
       (try ((refine Vb Yaa (Wx (k:=0) (E:=eI) (t:=7) [1] rfl rfl rfl rfl (hc:=by decide) (hby:=by decide)) ?_)))
       (refine Xr (H':=U6 []) 11 Yaa rfl Xa (fun h=>absurd h Yar) ?_)
       ((apply Xt;refine Xq (k:=0) (l0:=[]) rfl rfl rfl ?_))
       (try ((refine Vb Yaa (Wx (k:=0) (E:=eI) (t:=7) [1] rfl rfl rfl rfl (hc:=by decide) (hby:=by decide)) ?_)))
       refine X3 Yaa ?_
       exact Wc () trivial (Xg (by repeat (first|exact Xm|refine Xh rfl ?_)) (List.Sublist.refl _))
     ·
       ((apply Xn;(refine Xl (.one 0 rfl .nil) Tryz.func126 rfl hrun rfl ?_;rintro _ _ ⟨rfl,rfl⟩)))
       (try ((refine Vb Yaa (Wx (k:=0) (E:=eI) (t:=7) [1] rfl rfl rfl rfl (hc:=by decide) (hby:=by decide)) ?_)))
       (refine V3 (H1:=fun _=>True) (H2:=fun _=>True) 3 7 Yaa rfl Xa (fun _ _ _=>trivial) rfl Xa (fun _ _ _=>trivial) ?_ ?_)
       ·
         ((apply V6 (H:=fun _=>True);(exact Yaf);exact rfl))
         (try ((refine Vb Yaa (Wx (k:=0) (E:=eI) (t:=7) [1] rfl rfl rfl rfl (hc:=by decide) (hby:=by decide)) ?_)))
         (refine Xr (H':=fun _=>True) 7 Yaa rfl Xa (fun _ _ _=>trivial) ?_)
         ((apply V6 (H:=fun _=>True);(exact Ybm);exact rfl))
         (try ((refine Vb Yaa (Wx (k:=0) (E:=eI) (t:=7) [1] rfl rfl rfl rfl (hc:=by decide) (hby:=by decide)) ?_)))
         (refine Xr (H':=fun _=>True) 8 Yaa rfl Xa (fun _ _ _=>trivial) ?_)
         ((apply V6 (H:=fun _=>True);(exact Ycn);exact rfl))
         (try ((refine Vb Yaa (Wx (k:=0) (E:=eI) (t:=7) [1] rfl rfl rfl rfl (hc:=by decide) (hby:=by decide)) ?_)))
         (refine Xr (H':=fun _=>True) 9 Yaa rfl Xa (fun _ _ _=>trivial) ?_)
         ((apply V6 (H:=fun _=>True);(exact Yam);exact rfl))
         (try ((refine Vb Yaa (Wx (k:=0) (E:=eI) (t:=7) [1] rfl rfl rfl rfl (hc:=by decide) (hby:=by decide)) ?_)))
         (refine Xr (H':=fun _=>True) 10 Yaa rfl Xa (fun _ _ _=>trivial) ?_)
         ((apply V6 (H:=fun _=>True);(exact Yad);exact rfl))
         (try ((refine Vb Yaa (Wx (k:=0) (E:=eI) (t:=7) [1] rfl rfl rfl rfl (hc:=by decide) (hby:=by decide)) ?_)))
         (refine Xr (H':=U6 []) 11 Yaa rfl Xa (fun h=>absurd h Yar) ?_)
         ((apply Xt;refine Xq (k:=0) (l0:=[]) rfl rfl rfl ?_))
         (try ((refine Vb Yaa (Wx (k:=0) (E:=eI) (t:=7) [1] rfl rfl rfl rfl (hc:=by decide) (hby:=by decide)) ?_)))
         refine X3 Yaa ?_
         exact Wc () trivial (Xg (by repeat (first|exact Xm|refine Xh rfl ?_)) (List.Sublist.refl _))
       ·
         ((apply V6 (H:=fun _=>True);(exact Ybm);exact rfl))
         (try ((refine Vb Yaa (Wx (k:=0) (E:=eI) (t:=7) [1] rfl rfl rfl rfl (hc:=by decide) (hby:=by decide)) ?_)))
         (refine Xr (H':=fun _=>True) 3 Yaa rfl Xa (fun _ _ _=>trivial) ?_)
         ((apply V6 (H:=fun _=>True);(exact Yaf);exact rfl))
         (try ((refine Vb Yaa (Wx (k:=0) (E:=eI) (t:=7) [1] rfl rfl rfl rfl (hc:=by decide) (hby:=by decide)) ?_)))
         (refine Xr (H':=fun _=>True) 8 Yaa rfl Xa (fun _ _ _=>trivial) ?_)
         ((apply V6 (H:=fun _=>True);(exact Ycn);exact rfl))
         (try ((refine Vb Yaa (Wx (k:=0) (E:=eI) (t:=7) [1] rfl rfl rfl rfl (hc:=by decide) (hby:=by decide)) ?_)))
         (refine Xr (H':=fun _=>True) 9 Yaa rfl Xa (fun _ _ _=>trivial) ?_)
         ((apply V6 (H:=fun _=>True);(exact Yam);exact rfl))
         (try ((refine Vb Yaa (Wx (k:=0) (E:=eI) (t:=7) [1] rfl rfl rfl rfl (hc:=by decide) (hby:=by decide)) ?_)))
         (refine Xr (H':=fun _=>True) 10 Yaa rfl Xa (fun _ _ _=>trivial) ?_)
         ((apply V6 (H:=fun _=>True);(exact Yad);exact rfl))
         (try ((refine Vb Yaa (Wx (k:=0) (E:=eI) (t:=7) [1] rfl rfl rfl rfl (hc:=by decide) (hby:=by decide)) ?_)))
         (refine Xr (H':=U6 []) 11 Yaa rfl Xa (fun h=>absurd h Yar) ?_)
         ((apply Xt;refine Xq (k:=0) (l0:=[]) rfl rfl rfl ?_))
         (try ((refine Vb Yaa (Wx (k:=0) (E:=eI) (t:=7) [1] rfl rfl rfl rfl (hc:=by decide) (hby:=by decide)) ?_)))
         refine X3 Yaa ?_
         exact Wc () trivial (Xg (by repeat (first|exact Xm|refine Xh rfl ?_)) (List.Sublist.refl _))
 · simp only
   refine ⟨.inl rfl,Rn (loc':=scanL b (i+t.length) s oa c acc) rfl ?_ ⟨t.length,oa,c,acc,rfl,h3,h4,by omega,by rw [h1]⟩⟩
   unfold scanL
   rw [Int.natCast_add]
   exact List.Sublist.refl _
end Go.Proofs.YthdldeenpgeemaaGreatDoor
namespace Go.Fr
open Go.RowKit Go.Kx
theorem Xdu {P:Program} {t:TypeId} {ms:Array (String×TypeId)} (h:P.underlying t=some (.interface ms)):P.underlying t=some (.interface (P.methodsAt t)):=by
 rw [h];congr 2;unfold Program.methodsAt;rw [h]
section
variable {C:Cx} {S:(Nat→Prop)→World→World→Prop} {env:Env} {loc:List Ent} {dst:Option Tmp} {ty:TypeId} {pos:String} {af:Array Edge} {g:Option (Nat×Bool)}
theorem Xek {x:Operand} {t u:TypeId} {ms:Array (String×TypeId)} (hx:ev env x=some (ex .nilIface)) (ht:C.P.underlying t=some (.interface ms)):WT C S ⟨dst,.binOp .neq t x (.const .nilIface) u,ty,pos,af,g⟩ (exB false) env loc:=by
 constructor
 intro F a w hR
 have hv:a.eval x= .nilIface:=X8 hR hx
 refine ⟨_,rfl,fun w' _=>?_⟩
 have hn:=run_neq_nil_nil (P:=C.P) w' t (Xdu ht)
 have hc:a.eval (.const .nilIface)= .nilIface:=rfl
 generalize a.eval=ρ at hv hc ⊢
 simp only [execOp,hv,hc,eqGuard_nil_constR]
 generalize binOp .neq t .nilIface .nilIface=s at hn ⊢
 simp [hn,go_sem]
theorem Xg5 {x:Operand} {t u T:TypeId} {v:Value} {ms:Array (String×TypeId)} (hx:ev env x=some (ex (.iface T v))) (ht:C.P.underlying t=some (.interface ms)):WT C S ⟨dst,.binOp .neq t x (.const .nilIface) u,ty,pos,af,g⟩ (exB true) env loc:=by
 constructor
 intro F a w hR
 have hv:a.eval x= .iface T v:=X8 hR hx
 refine ⟨_,rfl,fun w' _=>?_⟩
 have hn:=run_neq_held_nil (P:=C.P) w' t T v (Xdu ht)
 have hc:a.eval (.const .nilIface)= .nilIface:=rfl
 have hg:eqGuard .neq t x (.const .nilIface) (.iface T v) .nilIface=pure ():=by rfl
 generalize a.eval=ρ at hv hc ⊢
 simp only [execOp,hv,hc,hg]
 generalize binOp .neq t (.iface T v) .nilIface=s at hn ⊢
 simp [hn,go_sem]
end
end Go.Fr
namespace Go.Proofs.YthdldeenpgeemaaGreatDoor
open Go Go.RowKit Go.Kx Go.Fr Go.Lx
theorem Xg6 (b i:Nat) (s:List UInt8) (oa:Option Addr) (c:Nat) (acc:List TokD) (hi:i<s.length) (hmax:s.length≤65536) (hacc:acc.length≤i) (h:digitB s[i]=true):FnP Tryz.prog 44 [ex (.pointer (some ⟨b,0,none⟩))] (scanL b i s oa c acc++[Lab]) (fun p loc=>Xn2 b i s acc p loc) (Xn3 i s):=by
 obtain ⟨h1,h2,h3,h4⟩:=Xk3 hi h
 have hrun:=Xeh b i s (ex (.slice oa acc.length c)) [3] Yan hmax
 rw [Xjt] at hrun
 have htd: ∀c∈(s.drop i).takeWhile digitB,digitB c=true:=Xdd
 generalize (s.drop i).takeWhile digitB=t at h1 h2 h3 h4 hrun htd
 have hne:t≠[]:=fun e=>by rw [e] at h3;exact absurd h3 Yar
 have hnb:=Xnz htd hne
 have hadd:=Xei b i s t ⟨2,[],Rv t,0⟩ oa c acc Yan Yan
 have hvb:V7 ⟨2,[],Rv t,0⟩=decide (Rv t≤1099511627776):=by
   unfold V7;rw [if_neg (show ¬(2:Int)=1 by decide),if_pos rfl,decide_eq_true rfl,Bool.true_and]
   exact decide_eq_decide.2 (show (0≤((Rv t:Nat):Int)∧((Rv t:Nat):Int)≤1099511627776)↔_ by omega)
 rw [hvb] at hadd
 unfold scanL at hadd
 unfold scanL
 refine Ww Tryz.func44 rfl Tryz.ntmps44 rfl fun w0 F0 out=>?_
 by_cases hv:Rv t<9223372036854775808
 · have hato:=Xg4 t htd hne Yan hv
   have hito:=Xiq (Rv t) Yan
   by_cases he:decF (Rv t)=t
   · rw [decide_eq_true he,Bool.and_true] at hnb
     rw [he] at hito
     clear he
     (repeat' (first|(apply Xy 7;refine Wj (k:=0) (E:=eI) (t:=6) [3] rfl rfl rfl rfl ?_ (hc:=by decide) (hby:=by decide))|(apply Xy 30;refine X6 (.one 0 rfl (.one 0 rfl .nil)) Tryz.func127 rfl hadd rfl ?_ ?_)|refine Xf ?_|refine Xb ?_|refine Xd ?_|(apply Xk;(first|exact Xe rfl|exact Xj rfl|exact Wk (b:=false) rfl (fun e=>by cases e) (fun _=>rfl)|exact Ybw|(apply V1;exact Xek rfl rfl)|exact Ya7);exact rfl)|(apply Vh;exact rfl;exact rfl;exact rfl;(first|exact Xe rfl|(apply V1;exact Xaw rfl rfl));exact rfl)|refine Xs ?_|(apply Xi;exact rfl;first|(apply Xn;first|(refine Xl (.one 0 rfl .nil) Tryz.func126 rfl hrun rfl ?_;rintro _ _ ⟨rfl,rfl⟩)|(refine X9 Tryz.func128 rfl hato rfl ?_;rintro _ _ ⟨rfl,rfl⟩))|(apply X5;(refine Wb rfl rfl ?_);intro _))|(apply Vt;exact rfl;exact rfl;exact rfl;exact rfl;(apply Xn;(refine Xl (.dup 2 rfl rfl .nil) Tryz.func50 rfl hito rfl ?_;rintro _ _ ⟨rfl,rfl⟩)))|(refine Xo rfl (fun hb=>?_) (fun hb=>?_)<;>(repeat (first|replace hb:=X0 hb|replace hb:=X1 hb|replace hb:=Vf hb|replace hb:=Vg hb))<;>(try (exfalso;contradiction)))))
     all_goals (try (exfalso;first|contradiction|omega))
     · rintro p loc ⟨hvv,oa2,c2,rfl⟩
       (repeat' (refine Xd ?_))
       exact ⟨.inl rfl,Rn (loc':=scanL b (i+t.length) s oa2 c2 (acc++[⟨2,[],Rv t,i⟩])) rfl (by exact .cons_cons _ (.cons_cons _ (List.nil_sublist _))) ⟨t.length,oa2,c2,_,rfl,h3,h4,by simp,by rw [h1 (hnb.trans hvv),Xie]⟩⟩
     · rintro ch loc ⟨hvv,rfl,rfl⟩
       refine Xv (loc':=[]) (List.nil_sublist _) ?_
       exact ⟨h2 (hnb.trans hvv),rfl,rfl⟩
   · rw [decide_eq_false he,Bool.and_false] at hnb
     (repeat' (first|(apply Xy 7;refine Wj (k:=0) (E:=eI) (t:=6) [3] rfl rfl rfl rfl ?_ (hc:=by decide) (hby:=by decide))|(refine Rs rfl ?_)|refine Xf ?_|refine Xb ?_|refine Xd ?_|(apply Xk;(first|exact Xe rfl|exact Xj rfl|exact Wk (b:=false) rfl (fun e=>by cases e) (fun _=>rfl)|exact Ybw|exact Yaf|exact Yad|(apply V1;exact Xek rfl rfl)|exact Yam|(apply Xdc;exact Xfd rfl rfl));exact rfl)|(apply Vh;exact rfl;exact rfl;exact rfl;(first|exact Xe rfl|(apply V1;exact Xaw rfl rfl));exact rfl)|(apply Xi;exact rfl;first|(apply Xn;first|(refine Xl (.one 0 rfl .nil) Tryz.func126 rfl hrun rfl ?_;rintro _ _ ⟨rfl,rfl⟩)|(refine X9 Tryz.func128 rfl hato rfl ?_;rintro _ _ ⟨rfl,rfl⟩))|(apply X5;(refine Wb rfl rfl ?_);intro _))|(apply Vt;exact rfl;exact rfl;exact rfl;exact rfl;(apply Xn;(refine Xl (.dup 2 rfl rfl .nil) Tryz.func50 rfl hito rfl ?_;rintro _ _ ⟨rfl,rfl⟩)))|(refine Xo rfl (fun hb=>?_) (fun hb=>?_)<;>(repeat (first|replace hb:=X0 hb|replace hb:=X1 hb|replace hb:=Vf hb|replace hb:=Vg hb))<;>(try (exfalso;contradiction)))))
     all_goals (try (exfalso;first|contradiction|omega))
     all_goals exact U1 (Xv (loc':=[]) (List.nil_sublist _) ⟨h2 hnb,And.intro rfl rfl⟩)
 · have hato:=Xdk t htd hne Yan hv
   rw [decide_eq_false (show ¬Rv t≤1099511627776 by omega),Bool.false_and] at hnb
   (repeat' (first|(apply Xy 7;refine Wj (k:=0) (E:=eI) (t:=6) [3] rfl rfl rfl rfl ?_ (hc:=by decide) (hby:=by decide))|(refine Rs rfl ?_)|refine Xf ?_|refine Xb ?_|refine Xd ?_|(apply Xk;(first|exact Xe rfl|exact Xj rfl|exact Wk (b:=true) rfl (fun _=>rfl) (fun e=>by cases e)|exact Ybw|exact Yaf|exact Yad|(apply V1;exact Xg5 rfl rfl)|exact Yam|(apply Xdc;exact Xfd rfl rfl));exact rfl)|(refine Ve rfl rfl rfl rfl rfl ?_)|refine Xx rfl ?_|(apply Xi;exact rfl;first|(apply Xn;first|(refine Xl (.one 0 rfl .nil) Tryz.func126 rfl hrun rfl ?_;rintro _ _ ⟨rfl,rfl⟩)|(refine Xl (.dup 2 rfl rfl .nil) Tryz.func128 rfl hato rfl ?_;rintro _ _ ⟨⟨nn,NN,rfl⟩,rfl⟩))|(apply X5;(refine Wb rfl rfl ?_);intro _))))
   all_goals (try (exfalso;first|contradiction|omega))
   all_goals exact U1 (Xv (loc':=[]) (List.nil_sublist _) ⟨h2 hnb,And.intro rfl rfl⟩)
end Go.Proofs.YthdldeenpgeemaaGreatDoor
namespace Go.Lx
theorem Xjw (s:List UInt8):Lib.indexByte s 10=if (s.takeWhile lineB).length=s.length then -1 else ((s.takeWhile lineB).length:Int):=by
 induction s with
 | nil=>rfl
 | cons c r ih=>
   rw [Lib.indexByte,List.takeWhile_cons]
   by_cases h:c=10
   · rw [if_pos (by simp [h]),show lineB c=false by rw [h];decide];simp
   · rw [if_neg (by simpa using h),Xqm h,if_pos rfl,ih]
     have:=Xac (p:=lineB) r
     by_cases h2:(r.takeWhile lineB).length=r.length
     · rw [if_pos h2,if_pos Yar,if_pos (by simp [h2])]
     · rw [if_neg h2,if_neg (by first|(simp;done)|(simp;omega)),if_neg Ydi,List.length_cons];omega
end Go.Lx
namespace Go.Proofs.YthdldeenpgeemaaGreatDoor
open Go Go.RowKit Go.Kx Go.Fr Go.Lx
theorem Xdl {s:List UInt8} {i:Nat} (hi:i<s.length):List.isPrefixOf [47,47] (s.drop i)=decide (s[i]=47∧(s.drop (i+1)).head?=some 47):=by
 rw [List.drop_eq_getElem_cons hi]
 cases hd:s.drop (i+1) with
 | nil=>simp [List.isPrefixOf]
 | cons d r=>
   simp only [List.isPrefixOf,List.head?_cons,Bool.and_true,Option.some.injEq]
   rw [Bool.eq_iff_iff]
   simp only [Bool.and_eq_true,beq_iff_eq,decide_eq_true_iff]
   exact ⟨fun ⟨a,b⟩=>⟨a.symm,b.symm⟩,fun ⟨a,b⟩=>⟨a.symm,b.symm⟩⟩
theorem one_byte {s:List UInt8} {i:Nat} (hi:i<s.length):(s.take (i+1)).drop i=[s[i]]:=by
 rw [List.take_succ_eq_append_getElem hi,List.drop_append,List.drop_eq_nil_of_le (by rw [List.length_take];omega),List.length_take,Nat.min_eq_left Yan,Nat.sub_self]
 rfl
theorem Xk7 (b i:Nat) (s:List UInt8) (oa:Option Addr) (c:Nat) (acc:List TokD) (hi:i<s.length) (hmax:s.length≤65536) (hacc:acc.length≤i) (h:Su s[i]=true):FnP Tryz.prog 45 [ex (.pointer (some ⟨b,0,none⟩))] (scanL b i s oa c acc) (Xn2 b i s acc) (Xn3 i s):=by
 have hpre:=Xej (s.drop i) [47,47]
 rw [Xdl hi] at hpre
 unfold scanL
 by_cases hc:s[i]=47∧(s.drop (i+1)).head?=some 47
 · rw [decide_eq_true hc] at hpre
   obtain ⟨h1,h3,h4⟩:=Xjs hi hc.1 hc.2
   have hix:=Q9 (s.drop i) 10
   rw [Xjw,List.length_drop] at hix
   clear hc
   generalize ((s.drop i).takeWhile lineB).length=L at h1 h3 h4 hix
   refine FnC.toP _ ?_
   refine X4 Tryz.func45 rfl Tryz.ntmps45 rfl fun w0 F0 out=>?_
   (repeat' (first|(apply W2 0;refine Stop.out ?_)|refine Xf ?_))
   refine ⟨?_⟩
   (refine Ue ([row b 90 3 [exT s,exI .i64 (i:Int),ex (.slice oa acc.length c)]]) 10 rfl ?_)
   all_goals ((apply Xc 0 rfl Yaa rfl Yab Xa;(exact Xe rfl);exact rfl))
   all_goals ((apply Xc 1 rfl Yaa rfl Yab Xa;(exact Yam);exact rfl))
   all_goals ((apply Xc 2 rfl Yaa rfl Yab Xa;(exact Yad);exact rfl))
   all_goals ((apply Xu 3 rfl Yaa rfl Yaa Yab Xa;(exact Yaf);exact rfl))
   all_goals ((apply Xc 4 rfl Yaa rfl Yab Xa;(exact Xe rfl);exact rfl))
   all_goals ((apply Xc 5 rfl Yaa rfl Yab Xa;(exact Yam);exact rfl))
   all_goals ((apply Xc 6 rfl Yaa rfl Yab Xa;(exact Yad);exact rfl))
   all_goals ((apply Xu 7 rfl Yaa rfl Yaa Yab Xa;(exact Yaf);exact rfl))
   all_goals ((apply Xc 8 rfl Yaa rfl Yab Xa;((apply Rm;exact Xfe rfl rfl rfl));exact rfl))
   all_goals ((apply Xr 9;exact Yaa;exact rfl;exact Xa;exact (fun _ _ h=>h);(apply Xn;(refine X9 Tryz.func20 rfl hpre rfl ?_;rintro _ _ ⟨rfl,rfl⟩))))
   all_goals (refine X3 Yaa ?_)
   by_cases hL:L=s.length-i
   · rw [if_pos hL] at hix
     (repeat' (first|(apply W2 1;refine Stop.out ?_)|refine Xf ?_|refine Xx rfl ?_))
     refine ⟨?_⟩
     (refine Ue ([row b 90 3 [exT s,exI .i64 (i:Int),ex (.slice oa acc.length c)]]) 11 rfl ?_)
     all_goals ((apply Xc 0 rfl Yaa rfl Yab Xa;(exact Xe rfl);exact rfl))
     all_goals ((apply Xc 1 rfl Yaa rfl Yab Xa;(exact Yam);exact rfl))
     all_goals ((apply Xc 2 rfl Yaa rfl Yab Xa;(exact Yad);exact rfl))
     all_goals ((apply Xu 3 rfl Yaa rfl Yaa Yab Xa;(exact Yaf);exact rfl))
     all_goals ((apply Xc 4 rfl Yaa rfl Yab Xa;(exact Xe rfl);exact rfl))
     all_goals ((apply Xc 5 rfl Yaa rfl Yab Xa;(exact Yam);exact rfl))
     all_goals ((apply Xc 6 rfl Yaa rfl Yab Xa;(exact Yad);exact rfl))
     all_goals ((apply Xu 7 rfl Yaa rfl Yaa Yab Xa;(exact Yaf);exact rfl))
     all_goals ((apply Xc 8 rfl Yaa rfl Yab Xa;((apply Rm;exact Xfe rfl rfl rfl));exact rfl))
     all_goals ((apply Xr 9;exact Yaa;exact rfl;exact Xa;exact (fun _ _ h=>h);(apply Xn;(refine X9 Tryz.func129 rfl hix rfl ?_;rintro _ _ ⟨rfl,rfl⟩))))
     all_goals ((apply Xc 10 rfl Yaa rfl Yab Xa;(exact Xj rfl);exact rfl))
     all_goals (refine X3 Yaa ?_)
     (repeat' (first|refine Xf ?_|refine Xb ?_|refine Xd ?_|(apply Xk;(first|exact Xe rfl|exact Yaf|exact Yad|(apply V1;exact Xdh rfl rfl)|exact Ybm|exact Yam);exact rfl)|refine Xz ?_|refine X2 rfl ?_|(apply Xi;exact rfl;(apply Xt;refine Xq (k:=0) (l0:=[]) rfl rfl rfl ?_))))
     all_goals (try (exfalso;first|contradiction|omega))
     refine ⟨.inr rfl,Rn (loc':=[row b 90 3 [exT s,exI .i64 (s.length:Int),ex (.slice oa acc.length c)],vec (.slice oa acc.length c) 40 4 acc.length (acc.flatMap Xch)]) rfl (by exact List.Sublist.refl _) ⟨L,oa,c,acc,?_,h3,h4,by omega,by rw [h1]⟩⟩
     rw [show i+L=s.length by omega];rfl
   · rw [if_neg hL] at hix
     (repeat' (first|(apply W2 1;refine Stop.out ?_)|refine Xf ?_|refine Xx rfl ?_))
     refine ⟨?_⟩
     (refine Ue ([row b 90 3 [exT s,exI .i64 (i:Int),ex (.slice oa acc.length c)]]) 11 rfl ?_)
     all_goals ((apply Xc 0 rfl Yaa rfl Yab Xa;(exact Xe rfl);exact rfl))
     all_goals ((apply Xc 1 rfl Yaa rfl Yab Xa;(exact Yam);exact rfl))
     all_goals ((apply Xc 2 rfl Yaa rfl Yab Xa;(exact Yad);exact rfl))
     all_goals ((apply Xu 3 rfl Yaa rfl Yaa Yab Xa;(exact Yaf);exact rfl))
     all_goals ((apply Xc 4 rfl Yaa rfl Yab Xa;(exact Xe rfl);exact rfl))
     all_goals ((apply Xc 5 rfl Yaa rfl Yab Xa;(exact Yam);exact rfl))
     all_goals ((apply Xc 6 rfl Yaa rfl Yab Xa;(exact Yad);exact rfl))
     all_goals ((apply Xu 7 rfl Yaa rfl Yaa Yab Xa;(exact Yaf);exact rfl))
     all_goals ((apply Xc 8 rfl Yaa rfl Yab Xa;((apply Rm;exact Xfe rfl rfl rfl));exact rfl))
     all_goals ((apply Xr 9;exact Yaa;exact rfl;exact Xa;exact (fun _ _ h=>h);(apply Xn;(refine X9 Tryz.func129 rfl hix rfl ?_;rintro _ _ ⟨rfl,rfl⟩))))
     all_goals ((apply Xc 10 rfl Yaa rfl Yab Xa;(exact Xj rfl);exact rfl))
     all_goals (refine X3 Yaa ?_)
     (repeat' (first|refine Xf ?_|refine Xb ?_|refine Xd ?_|(apply Xk;(first|exact Xe rfl|exact Yaf|exact Yad|(apply V1;first|exact Xdh rfl rfl|exact Sv rfl rfl)|exact Yam);exact rfl)|refine Xz ?_|refine Xx rfl ?_|(apply Xi;exact rfl;(apply Xt;refine Xq (k:=0) (l0:=[]) rfl rfl rfl ?_))))
     all_goals (try (exfalso;first|contradiction|omega))
     refine ⟨.inr rfl,Rn (loc':=[row b 90 3 [exT s,exI .i64 ((i:Int)+(L:Int)),ex (.slice oa acc.length c)],vec (.slice oa acc.length c) 40 4 acc.length (acc.flatMap Xch)]) rfl (by exact List.Sublist.refl _) ⟨L,oa,c,acc,?_,h3,h4,by omega,by rw [h1]⟩⟩
     rw [←Int.natCast_add];rfl
 · rw [decide_eq_false hc] at hpre
   have h1:=Xpw hi h fun e e2=>hc ⟨e,e2⟩
   clear hc
   have hadd:=Xei b i s [s[i]] ⟨3,[s[i]],0,0⟩ oa c acc (by simp;omega) Yan
   have hvb:V7 ⟨3,[s[i]],0,0⟩=true:=by
     unfold V7;rw [if_neg (show ¬(3:Int)=1 by decide),if_neg (show ¬(3:Int)=2 by decide),if_pos rfl];simp [h]
   rw [hvb] at hadd
   rw [←one_byte hi] at hadd
   unfold scanL at hadd
   refine Ww Tryz.func45 rfl Tryz.ntmps45 rfl fun w0 F0 out=>?_
   (repeat' (first|(apply W2 0;refine Stop.out ?_)|refine Xf ?_))
   refine ⟨Xh9 ?_⟩
   (refine Ue ([row b 90 3 [exT s,exI .i64 (i:Int),ex (.slice oa acc.length c)]]) 10 rfl ?_)
   all_goals ((apply Xc 0 rfl Yaa rfl Ybj Xa;(exact Xe rfl);exact rfl))
   all_goals ((apply Xc 1 rfl Yaa rfl Ybj Xa;(exact Yam);exact rfl))
   all_goals ((apply Xc 2 rfl Yaa rfl Ybj Xa;(exact Yad);exact rfl))
   all_goals ((apply Xu 3 rfl Yaa rfl Yaa Ybj Xa;(exact Yaf);exact rfl))
   all_goals ((apply Xc 4 rfl Yaa rfl Ybj Xa;(exact Xe rfl);exact rfl))
   all_goals ((apply Xc 5 rfl Yaa rfl Ybj Xa;(exact Yam);exact rfl))
   all_goals ((apply Xc 6 rfl Yaa rfl Ybj Xa;(exact Yad);exact rfl))
   all_goals ((apply Xu 7 rfl Yaa rfl Yaa Ybj Xa;(exact Yaf);exact rfl))
   all_goals ((apply Xc 8 rfl Yaa rfl Ybj Xa;((apply Rm;exact Xfe rfl rfl rfl));exact rfl))
   all_goals ((apply Xr 9;exact Yaa;exact rfl;exact Xa;exact (fun _ _ h=>h);(apply Xn;(refine X9 Tryz.func20 rfl hpre rfl ?_;rintro _ _ ⟨rfl,rfl⟩))))
   all_goals (refine X3 Yaa ?_)
   refine ⟨rfl,?_⟩
   (repeat' (first|(apply W2 5;refine Stop.out ?_)|refine Xf ?_|refine Xs ?_|refine X2 rfl ?_))
   refine ⟨Xh9 ?_⟩
   (refine Ue ([row b 90 3 [exT s,exI .i64 (i:Int),ex (.slice oa acc.length c)]]) 15 rfl ?_)
   all_goals ((apply Xc 0 rfl Yaa rfl Ybj Xa;(exact Xe rfl);exact rfl))
   all_goals ((apply Xc 1 rfl Yaa rfl Ybj Xa;(exact Yam);exact rfl))
   all_goals ((apply Xc 2 rfl Yaa rfl Ybj Xa;(exact Yad);exact rfl))
   all_goals ((apply Xu 3 rfl Yaa rfl Yaa Ybj Xa;(exact Yaf);exact rfl))
   all_goals ((apply Xc 4 rfl Yaa rfl Ybj Xa;(exact Xe rfl);exact rfl))
   all_goals ((apply Xc 5 rfl Yaa rfl Ybj Xa;(exact Yam);exact rfl))
   all_goals ((apply Xc 6 rfl Yaa rfl Ybj Xa;(exact Yad);exact rfl))
   all_goals ((apply Xu 7 rfl Yaa rfl Yaa Ybj Xa;(exact Yaf);exact rfl))
   all_goals ((apply Xc 8 rfl Yaa rfl Ybj Xa;(exact Xe rfl);exact rfl))
   all_goals ((apply Xc 9 rfl Yaa rfl Ybj Xa;(exact Yam);exact rfl))
   all_goals ((apply Xc 10 rfl Yaa rfl Ybj Xa;(exact Yad);exact rfl))
   all_goals ((apply Xu 11 rfl Yaa rfl Yaa Ybj Xa;(exact Yaf);exact rfl))
   all_goals ((apply Xc 12 rfl Yaa rfl Ybj Xa;(exact Ycn);exact rfl))
   all_goals ((apply Xc 13 rfl Yaa rfl Ybj Xa;((apply Rm;exact Xia rfl rfl rfl rfl));exact rfl))
   all_goals ((apply Xc 14 rfl Yaa rfl Ybj Xa;(exact Xj rfl);exact rfl))
   all_goals (refine X3 Yaa ?_)
   refine ⟨rfl,?_⟩
   (repeat' (first|(apply Xy 60;refine X6 (.one 0 rfl (.one 0 rfl .nil)) Tryz.func127 rfl hadd rfl ?_ ?_)|refine Xb ?_|(apply Xk;(first|exact Xe rfl|exact Ya7);exact rfl)))
   · rintro p loc ⟨-,oa2,c2,rfl⟩
     (repeat' (refine Xd ?_))
     exact ⟨.inl rfl,Rn (loc':=scanL b (i+1) s oa2 c2 (acc++[⟨3,[s[i]],0,i⟩])) rfl (by rw [one_byte hi];exact List.Sublist.refl _) ⟨1,oa2,c2,_,rfl,Nat.le_refl _,by omega,by simp,by rw [h1,Xie]⟩⟩
   · rintro ch loc ⟨hvv,-⟩
     cases hvv
end Go.Proofs.YthdldeenpgeemaaGreatDoor
namespace Go.Fr
open Go.RowKit Go.Kx
theorem Xel {P:Program} {f:FuncId} {fn:Func} {r d d2 N:Nat} {ty1 ty2:TypeId} {pos1 pos2:String} {af1 af2:Array Edge} {ats:Array TypeId} {rest:Code} {args:List SP} {inn:List Ent} {u u2:FrameMode} {v:Value} {R:List Ent→Prop}
   (hf:P.funcs[f]?=some fn) (hb:fn.body=some (.seq (.region r #[⟨some d,.call ⟨.builtin .recover,#[],ats⟩,ty1,pos1,af1,none⟩,⟨some d2,.assign (.tmp d),ty2,pos2,af2,none⟩] false) rest)) (hN:fn.ntmps=N)
   (hrec: ∀(c0:Frame) (cs:List Frame),c0.mode=u→recoverD (c0::cs)=some (v,{ c0 with mode:=u2 }::cs)∨(recoverD (c0::cs)=none∧v= .nilIface∧{ c0 with mode:=u2 }=c0))
   (h: ∀w0 F0 out,WP ⟨P,w0,F0,T8 inn,out,N,[]⟩ rest (Xjk ⟨P,w0,F0,T8 inn,out,N,[]⟩ fn (fun _ loc=>R loc)) ((d2,ex v)::(d,ex v)::Xb9 0 args) inn)
   (hle:Nat.ble args.length N=true:=by rfl) (hd:Nat.blt d N=true:=by rfl) (hd2:Nat.blt d2 N=true:=by rfl):FnD P f args inn u (fun u' loc=>u'=u2∧R loc):=by
 intro F w vals out hG hA
 have hle':args.length≤N:=Nat.le_of_ble_eq_true hle
 have hsz:vals.length=args.length:=hA.len
 have hst: ∀(d:Nat) (hd:Nat.blt d N=true) {env:Env} {a:Act} (v:Value),a.tmps.size=N→Rel ⟨P,w,F,T8 inn,out,N,[]⟩ F env inn a w→Rel ⟨P,w,F,T8 inn,out,N,[]⟩ F ((d,ex v)::env) inn (a.put (some d) v) w:=by
   intro d hd env a v hs hR
   exact hR.put hd rfl
 refine callsD_of_wpS hf hb fun c0 cs hu=>?_
 have hR0:Rel ⟨P,w,F,T8 inn,out,N,[]⟩ F (Xb9 0 args) inn { tmps:=vals.toArray++Array.replicate (fn.ntmps-vals.toArray.size) undef,defers:=[] } w:=by
   refine ⟨hG,?_,?_,rfl,Ch.refl _ _,fun e he b hb=> .inr ⟨e,he,hb⟩,fun b hb _=>hb⟩
   · intro t p hp
     obtain ⟨j,rfl,hj⟩:=Rb hp
     obtain ⟨v,hv,hr⟩:=hA.at_ j p hj
     have hlt:j<vals.length:=(List.getElem?_eq_some_iff.1 hv).1
     have hx:(vals.toArray++Array.replicate (fn.ntmps-vals.toArray.size) undef).getD (0+j) undef=v:=by
       rw [Nat.zero_add,Array.getD_eq_getD_getElem?,Array.getElem?_append_left (by simpa using hlt)]
       simp [hv]
     rw [hx];exact hr
   · rw [hN];simp;omega
 generalize ({ tmps:=vals.toArray++Array.replicate (fn.ntmps-vals.toArray.size) undef,defers:=[] }:Act)=a0 at hR0 ⊢
 have hR1:=hst d hd v hR0.size hR0
 have hR2:=hst d2 hd2 v hR1.size hR1
 have hrun: ∀(a:Act) (w:World),(execOp a.eval ⟨some d,.call ⟨.builtin .recover,#[],ats⟩,ty1,pos1,af1,none⟩).run P w= .ok .recover w:=by
   intro a w
   generalize a.eval=ρ
   simp [go_sem]
 have hrun2: ∀(a:Act) (w:World),(execOp a.eval ⟨some d2,.assign (.tmp d),ty2,pos2,af2,none⟩).run P w= .ok (.value (a.eval (.tmp d))) w:=by
   intro a w
   generalize a.eval=ρ
   simp [execOp,go_sem]
 have hw1: ∀y,Region.wanted ⟨some d,.call ⟨.builtin .recover,#[],ats⟩,ty1,pos1,af1,none⟩ y=true:=fun y=>rfl
 have hw2: ∀y,Region.wanted ⟨some d2,.assign (.tmp d),ty2,pos2,af2,none⟩ y=true:=fun y=>rfl
 have hv:(a0.put (some d) v).eval (.tmp d)=v:=X8 hR1 (show ev _ (.tmp d)=some (ex v) by simp [ev,look])
 have hk:rest.wpS P (bodyPostS P fn c0 cs (fun e u' w'=> ∃v F' loc',e= .returned v∧(u'=u2∧R loc')∧Good F' (loc'++out) w'∧Ch (fun b=> ∃e∈inn,b∈e.foot) w w'∧(∀b,F b→b<w.heap.size→F' b)∧
     ∀e∈loc',∀b∈e.foot,w.heap.size≤b∨ ∃e∈inn,b∈e.foot)) ((a0.put (some d) v).put (some d2) v) ({ c0 with mode:=u2 }::cs) w:=by
   refine wpS_of_wp (Code.wp_mono ?_ ((h w F out).out F _ w hR2))
   rintro e a' w' ⟨F',env',loc',hR',hq⟩
   have key: ∀e,Xjk ⟨P,w,F,T8 inn,out,N,[]⟩ fn (fun _ loc=>R loc) e env' loc'→a'.defers=[]∧ ∃u',({ c0 with mode:=u2 }:Frame)::cs={ c0 with mode:=u' }::cs∧ ∃v,(results fn a'.tmps).run P w'= .ok v w'∧(∃v2 F' loc',Ending.returned v= .returned v2∧(u'=u2∧R loc')∧Good F' (loc'++out) w'∧Ch (fun b=> ∃e∈inn,b∈e.foot) w w'∧(∀b,F b→b<w.heap.size→F' b)∧
     ∀e∈loc',∀b∈e.foot,w.heap.size≤b∨ ∃e∈inn,b∈e.foot):=by
     intro e hq
     obtain ⟨F2,v2,p2,loc2,g1,g2,g3,g4,g5,g6⟩:=hq.2 F' a' w' hR'
     exact ⟨hR'.defers,u2,rfl,v2,g1,v2,F2,loc2,rfl,⟨rfl,g2⟩,g4,hR'.ch,g5,g6⟩
   rcases hq.1 with rfl|rfl
   · exact key _ hq
   · exact key _ hq
 refine wpS_seq (wpS_region ?_)
 show wpOpsS P _ _ [0,1] a0 (c0::cs) w
 have hlast: ∀cs',wpOpsS P #[⟨some d,.call ⟨.builtin .recover,#[],ats⟩,ty1,pos1,af1,none⟩,⟨some d2,.assign (.tmp d),ty2,pos2,af2,none⟩] (Exit.thenS (rest.wpS P (bodyPostS P fn c0 cs (fun e u' w'=> ∃v F' loc',e= .returned v∧(u'=u2∧R loc')∧Good F' (loc'++out) w'∧Ch (fun b=> ∃e∈inn,b∈e.foot) w w'∧(∀b,F b→b<w.heap.size→F' b)∧
     ∀e∈loc',∀b∈e.foot,w.heap.size≤b∨ ∃e∈inn,b∈e.foot))) (bodyPostS P fn c0 cs (fun e u' w'=> ∃v F' loc',e= .returned v∧(u'=u2∧R loc')∧Good F' (loc'++out) w'∧Ch (fun b=> ∃e∈inn,b∈e.foot) w w'∧(∀b,F b→b<w.heap.size→F' b)∧
     ∀e∈loc',∀b∈e.foot,w.heap.size≤b∨ ∃e∈inn,b∈e.foot))) [1] (a0.put (some d) v) cs' w↔rest.wpS P (bodyPostS P fn c0 cs (fun e u' w'=> ∃v F' loc',e= .returned v∧(u'=u2∧R loc')∧Good F' (loc'++out) w'∧Ch (fun b=> ∃e∈inn,b∈e.foot) w w'∧(∀b,F b→b<w.heap.size→F' b)∧
     ∀e∈loc',∀b∈e.foot,w.heap.size≤b∨ ∃e∈inn,b∈e.foot)) ((a0.put (some d) v).put (some d2) v) cs' w:=by
   intro cs'
   simp only [wpOpsS]
   rw [show (#[(⟨some d,.call ⟨.builtin .recover,#[],ats⟩,ty1,pos1,af1,none⟩:Oper),⟨some d2,.assign (.tmp d),ty2,pos2,af2,none⟩])[1]?=some ⟨some d2,.assign (.tmp d),ty2,pos2,af2,none⟩ from rfl]
   simp only [hw2,if_true,hrun2,hv,Oper.upon,Exit.thenS]
 unfold wpOpsS
 rw [show (#[(⟨some d,.call ⟨.builtin .recover,#[],ats⟩,ty1,pos1,af1,none⟩:Oper),⟨some d2,.assign (.tmp d),ty2,pos2,af2,none⟩])[0]?=some ⟨some d,.call ⟨.builtin .recover,#[],ats⟩,ty1,pos1,af1,none⟩ from rfl]
 simp only [hw1,if_true,hrun]
 rcases hrec c0 cs hu with hr|⟨hr,rfl,he⟩
 · rw [hr]
   exact (hlast _).2 hk
 · rw [hr]
   rw [he] at hk
   exact (hlast _).2 hk
theorem Xfv {v:Value} {older:List PanicEntry} (c0:Frame) (cs:List Frame) (h:c0.mode= .panicking ({ v,recovered:=false }::older)):recoverD (c0::cs)=some (v,{ c0 with mode:= .panicking ({ v,recovered:=true }::older) }::cs)∨(recoverD (c0::cs)=none∧v= .nilIface∧{ c0 with mode:= .panicking ({ v,recovered:=true }::older) }=c0):=by
 left;simp only [recoverD,h]
theorem Xir (c0:Frame) (cs:List Frame) (h:c0.mode= .returning):recoverD (c0::cs)=some (.nilIface,{ c0 with mode:= .returning }::cs)∨(recoverD (c0::cs)=none∧Value.nilIface= .nilIface∧{ c0 with mode:= .returning }=c0):=by
 right;refine ⟨?_,rfl,?_⟩
 · simp only [recoverD,h]
 · rw [←h]
end Go.Fr
namespace Go.Proofs.YthdldeenpgeemaaGreatDoor
open Go Go.Fr
instance ti1:TI Tryz.prog 1 1 8 .nilFunc:=⟨_,rfl,rfl,rfl,rfl⟩
instance ti22:TI Tryz.prog 22 1 8 .nilFunc:=⟨_,rfl,rfl,rfl,rfl⟩
instance ti32:TI Tryz.prog 32 1 8 .nilFunc:=⟨_,rfl,rfl,rfl,rfl⟩
instance ti33:TI Tryz.prog 33 1 8 .nilFunc:=⟨_,rfl,rfl,rfl,rfl⟩
instance ti34:TI Tryz.prog 34 1 8 .nilFunc:=⟨_,rfl,rfl,rfl,rfl⟩
instance ti35:TI Tryz.prog 35 1 8 .nilFunc:=⟨_,rfl,rfl,rfl,rfl⟩
instance ti37:TI Tryz.prog 37 1 8 .nilFunc:=⟨_,rfl,rfl,rfl,rfl⟩
instance ti38:TI Tryz.prog 38 1 8 .nilFunc:=⟨_,rfl,rfl,rfl,rfl⟩
instance ti43:TI Tryz.prog 43 1 8 .nilFunc:=⟨_,rfl,rfl,rfl,rfl⟩
instance ti44:TI Tryz.prog 44 1 8 .nilFunc:=⟨_,rfl,rfl,rfl,rfl⟩
instance ti46:TI Tryz.prog 46 1 8 .nilFunc:=⟨_,rfl,rfl,rfl,rfl⟩
instance ti47:TI Tryz.prog 47 1 8 .nilFunc:=⟨_,rfl,rfl,rfl,rfl⟩
instance ti48:TI Tryz.prog 48 1 8 .nilFunc:=⟨_,rfl,rfl,rfl,rfl⟩
instance ti49:TI Tryz.prog 49 1 8 .nilFunc:=⟨_,rfl,rfl,rfl,rfl⟩
instance ti55:TI Tryz.prog 55 1 8 .nilFunc:=⟨_,rfl,rfl,rfl,rfl⟩
instance ti57:TI Tryz.prog 57 1 8 .nilFunc:=⟨_,rfl,rfl,rfl,rfl⟩
instance ti60:TI Tryz.prog 60 1 8 .nilFunc:=⟨_,rfl,rfl,rfl,rfl⟩
instance ti61:TI Tryz.prog 61 1 8 .nilFunc:=⟨_,rfl,rfl,rfl,rfl⟩
instance ti62:TI Tryz.prog 62 1 8 .nilFunc:=⟨_,rfl,rfl,rfl,rfl⟩
instance ti63:TI Tryz.prog 63 1 8 .nilFunc:=⟨_,rfl,rfl,rfl,rfl⟩
instance ti67:TI Tryz.prog 67 1 8 .nilFunc:=⟨_,rfl,rfl,rfl,rfl⟩
instance ti68:TI Tryz.prog 68 1 8 .nilFunc:=⟨_,rfl,rfl,rfl,rfl⟩
instance ti71:TI Tryz.prog 71 1 8 .nilFunc:=⟨_,rfl,rfl,rfl,rfl⟩
instance ti75:TI Tryz.prog 75 1 8 .nilFunc:=⟨_,rfl,rfl,rfl,rfl⟩
instance ti76:TI Tryz.prog 76 1 8 .nilFunc:=⟨_,rfl,rfl,rfl,rfl⟩
instance ti77:TI Tryz.prog 77 1 8 .nilFunc:=⟨_,rfl,rfl,rfl,rfl⟩
instance ti81:TI Tryz.prog 81 1 8 .nilFunc:=⟨_,rfl,rfl,rfl,rfl⟩
instance ti82:TI Tryz.prog 82 1 8 .nilFunc:=⟨_,rfl,rfl,rfl,rfl⟩
instance ti84:TI Tryz.prog 84 1 8 .nilFunc:=⟨_,rfl,rfl,rfl,rfl⟩
instance ti91:TI Tryz.prog 91 1 8 .nilFunc:=⟨_,rfl,rfl,rfl,rfl⟩
instance ti92:TI Tryz.prog 92 1 8 .nilFunc:=⟨_,rfl,rfl,rfl,rfl⟩
instance ti94:TI Tryz.prog 94 1 8 .nilFunc:=⟨_,rfl,rfl,rfl,rfl⟩
instance ti95:TI Tryz.prog 95 1 8 .nilFunc:=⟨_,rfl,rfl,rfl,rfl⟩
instance ti98:TI Tryz.prog 98 1 8 .nilFunc:=⟨_,rfl,rfl,rfl,rfl⟩
instance ti102:TI Tryz.prog 102 1 8 .nilFunc:=⟨_,rfl,rfl,rfl,rfl⟩
instance ti103:TI Tryz.prog 103 1 8 .nilFunc:=⟨_,rfl,rfl,rfl,rfl⟩
instance ti104:TI Tryz.prog 104 1 8 .nilFunc:=⟨_,rfl,rfl,rfl,rfl⟩
instance ti107:TI Tryz.prog 107 1 8 .nilFunc:=⟨_,rfl,rfl,rfl,rfl⟩
instance ti108:TI Tryz.prog 108 1 8 .nilFunc:=⟨_,rfl,rfl,rfl,rfl⟩
instance ti109:TI Tryz.prog 109 1 8 .nilFunc:=⟨_,rfl,rfl,rfl,rfl⟩
instance ti110:TI Tryz.prog 110 1 8 .nilFunc:=⟨_,rfl,rfl,rfl,rfl⟩
instance ti111:TI Tryz.prog 111 1 8 .nilFunc:=⟨_,rfl,rfl,rfl,rfl⟩
instance ti112:TI Tryz.prog 112 1 8 .nilFunc:=⟨_,rfl,rfl,rfl,rfl⟩
instance ti114:TI Tryz.prog 114 1 8 .nilFunc:=⟨_,rfl,rfl,rfl,rfl⟩
instance ti115:TI Tryz.prog 115 1 8 .nilFunc:=⟨_,rfl,rfl,rfl,rfl⟩
instance ti116:TI Tryz.prog 116 1 8 .nilFunc:=⟨_,rfl,rfl,rfl,rfl⟩
instance ti117:TI Tryz.prog 117 1 8 .nilFunc:=⟨_,rfl,rfl,rfl,rfl⟩
instance ti118:TI Tryz.prog 118 1 8 .nilFunc:=⟨_,rfl,rfl,rfl,rfl⟩
instance ti120:TI Tryz.prog 120 1 8 .nilFunc:=⟨_,rfl,rfl,rfl,rfl⟩
instance ti124:TI Tryz.prog 124 1 8 .nilFunc:=⟨_,rfl,rfl,rfl,rfl⟩
instance ti126:TI Tryz.prog 126 1 8 .nilFunc:=⟨_,rfl,rfl,rfl,rfl⟩
instance ti131:TI Tryz.prog 131 1 8 .nilFunc:=⟨_,rfl,rfl,rfl,rfl⟩
instance ti135:TI Tryz.prog 135 1 8 .nilFunc:=⟨_,rfl,rfl,rfl,rfl⟩
instance ti136:TI Tryz.prog 136 1 8 .nilFunc:=⟨_,rfl,rfl,rfl,rfl⟩
instance ti137:TI Tryz.prog 137 1 8 .nilFunc:=⟨_,rfl,rfl,rfl,rfl⟩
instance ti145:TI Tryz.prog 145 1 8 .nilFunc:=⟨_,rfl,rfl,rfl,rfl⟩
instance ti147:TI Tryz.prog 147 1 8 .nilFunc:=⟨_,rfl,rfl,rfl,rfl⟩
instance ti148:TI Tryz.prog 148 1 8 .nilFunc:=⟨_,rfl,rfl,rfl,rfl⟩
instance ti149:TI Tryz.prog 149 1 8 .nilFunc:=⟨_,rfl,rfl,rfl,rfl⟩
instance ti151:TI Tryz.prog 151 1 8 .nilFunc:=⟨_,rfl,rfl,rfl,rfl⟩
instance ti153:TI Tryz.prog 153 1 8 .nilFunc:=⟨_,rfl,rfl,rfl,rfl⟩
instance ti155:TI Tryz.prog 155 1 8 .nilFunc:=⟨_,rfl,rfl,rfl,rfl⟩
instance ti157:TI Tryz.prog 157 1 8 .nilFunc:=⟨_,rfl,rfl,rfl,rfl⟩
instance ti159:TI Tryz.prog 159 1 8 .nilFunc:=⟨_,rfl,rfl,rfl,rfl⟩
instance ti161:TI Tryz.prog 161 1 8 .nilFunc:=⟨_,rfl,rfl,rfl,rfl⟩
instance ti162:TI Tryz.prog 162 1 8 .nilFunc:=⟨_,rfl,rfl,rfl,rfl⟩
instance ti163:TI Tryz.prog 163 1 8 .nilFunc:=⟨_,rfl,rfl,rfl,rfl⟩
instance ti165:TI Tryz.prog 165 1 8 .nilFunc:=⟨_,rfl,rfl,rfl,rfl⟩
instance ti166:TI Tryz.prog 166 1 8 .nilFunc:=⟨_,rfl,rfl,rfl,rfl⟩
instance ti169:TI Tryz.prog 169 1 8 .nilFunc:=⟨_,rfl,rfl,rfl,rfl⟩
instance ti170:TI Tryz.prog 170 1 8 .nilFunc:=⟨_,rfl,rfl,rfl,rfl⟩
instance ti171:TI Tryz.prog 171 1 8 .nilFunc:=⟨_,rfl,rfl,rfl,rfl⟩
instance ti172:TI Tryz.prog 172 1 8 .nilFunc:=⟨_,rfl,rfl,rfl,rfl⟩
instance ti173:TI Tryz.prog 173 1 8 .nilFunc:=⟨_,rfl,rfl,rfl,rfl⟩
instance ti174:TI Tryz.prog 174 1 8 .nilFunc:=⟨_,rfl,rfl,rfl,rfl⟩
instance ti175:TI Tryz.prog 175 1 8 .nilFunc:=⟨_,rfl,rfl,rfl,rfl⟩
instance ti176:TI Tryz.prog 176 1 8 .nilFunc:=⟨_,rfl,rfl,rfl,rfl⟩
instance ti177:TI Tryz.prog 177 1 8 .nilFunc:=⟨_,rfl,rfl,rfl,rfl⟩
instance ti178:TI Tryz.prog 178 1 8 .nilFunc:=⟨_,rfl,rfl,rfl,rfl⟩
instance ti179:TI Tryz.prog 179 1 8 .nilFunc:=⟨_,rfl,rfl,rfl,rfl⟩
instance ti180:TI Tryz.prog 180 1 8 .nilFunc:=⟨_,rfl,rfl,rfl,rfl⟩
instance ti181:TI Tryz.prog 181 1 8 .nilFunc:=⟨_,rfl,rfl,rfl,rfl⟩
instance ti182:TI Tryz.prog 182 1 8 .nilFunc:=⟨_,rfl,rfl,rfl,rfl⟩
instance ti183:TI Tryz.prog 183 1 8 .nilFunc:=⟨_,rfl,rfl,rfl,rfl⟩
instance ti184:TI Tryz.prog 184 1 8 .nilFunc:=⟨_,rfl,rfl,rfl,rfl⟩
instance ti187:TI Tryz.prog 187 1 8 .nilFunc:=⟨_,rfl,rfl,rfl,rfl⟩
instance ti190:TI Tryz.prog 190 1 8 .nilFunc:=⟨_,rfl,rfl,rfl,rfl⟩
instance ti191:TI Tryz.prog 191 1 8 .nilFunc:=⟨_,rfl,rfl,rfl,rfl⟩
instance ti192:TI Tryz.prog 192 1 8 .nilFunc:=⟨_,rfl,rfl,rfl,rfl⟩
instance ti195:TI Tryz.prog 195 1 8 .nilFunc:=⟨_,rfl,rfl,rfl,rfl⟩
instance ti198:TI Tryz.prog 198 1 8 .nilFunc:=⟨_,rfl,rfl,rfl,rfl⟩
instance ti200:TI Tryz.prog 200 1 8 .nilFunc:=⟨_,rfl,rfl,rfl,rfl⟩
instance ti201:TI Tryz.prog 201 1 8 .nilFunc:=⟨_,rfl,rfl,rfl,rfl⟩
instance ti202:TI Tryz.prog 202 1 8 .nilFunc:=⟨_,rfl,rfl,rfl,rfl⟩
instance ti203:TI Tryz.prog 203 1 8 .nilFunc:=⟨_,rfl,rfl,rfl,rfl⟩
instance ti204:TI Tryz.prog 204 1 8 .nilFunc:=⟨_,rfl,rfl,rfl,rfl⟩
instance ti205:TI Tryz.prog 205 1 8 .nilFunc:=⟨_,rfl,rfl,rfl,rfl⟩
instance ti206:TI Tryz.prog 206 1 8 .nilFunc:=⟨_,rfl,rfl,rfl,rfl⟩
instance ti207:TI Tryz.prog 207 1 8 .nilFunc:=⟨_,rfl,rfl,rfl,rfl⟩
instance ti208:TI Tryz.prog 208 1 8 .nilFunc:=⟨_,rfl,rfl,rfl,rfl⟩
instance ti209:TI Tryz.prog 209 1 8 .nilFunc:=⟨_,rfl,rfl,rfl,rfl⟩
instance ti210:TI Tryz.prog 210 1 8 .nilFunc:=⟨_,rfl,rfl,rfl,rfl⟩
instance ti211:TI Tryz.prog 211 1 8 .nilFunc:=⟨_,rfl,rfl,rfl,rfl⟩
instance ti212:TI Tryz.prog 212 1 8 .nilFunc:=⟨_,rfl,rfl,rfl,rfl⟩
instance ti213:TI Tryz.prog 213 1 8 .nilFunc:=⟨_,rfl,rfl,rfl,rfl⟩
instance ti214:TI Tryz.prog 214 1 8 .nilFunc:=⟨_,rfl,rfl,rfl,rfl⟩
instance ti215:TI Tryz.prog 215 1 8 .nilFunc:=⟨_,rfl,rfl,rfl,rfl⟩
instance ti217:TI Tryz.prog 217 1 8 .nilFunc:=⟨_,rfl,rfl,rfl,rfl⟩
instance ti219:TI Tryz.prog 219 1 8 .nilFunc:=⟨_,rfl,rfl,rfl,rfl⟩
instance ti220:TI Tryz.prog 220 1 8 .nilFunc:=⟨_,rfl,rfl,rfl,rfl⟩
instance ti223:TI Tryz.prog 223 1 8 .nilFunc:=⟨_,rfl,rfl,rfl,rfl⟩
instance ti224:TI Tryz.prog 224 1 8 .nilFunc:=⟨_,rfl,rfl,rfl,rfl⟩
instance ti225:TI Tryz.prog 225 1 8 .nilFunc:=⟨_,rfl,rfl,rfl,rfl⟩
instance ti226:TI Tryz.prog 226 1 8 .nilFunc:=⟨_,rfl,rfl,rfl,rfl⟩
instance ti227:TI Tryz.prog 227 1 8 .nilFunc:=⟨_,rfl,rfl,rfl,rfl⟩
instance ti228:TI Tryz.prog 228 1 8 .nilFunc:=⟨_,rfl,rfl,rfl,rfl⟩
instance ti229:TI Tryz.prog 229 1 8 .nilFunc:=⟨_,rfl,rfl,rfl,rfl⟩
instance ti230:TI Tryz.prog 230 1 8 .nilFunc:=⟨_,rfl,rfl,rfl,rfl⟩
instance ti232:TI Tryz.prog 232 1 8 .nilFunc:=⟨_,rfl,rfl,rfl,rfl⟩
instance ti233:TI Tryz.prog 233 1 8 .nilFunc:=⟨_,rfl,rfl,rfl,rfl⟩
instance ti234:TI Tryz.prog 234 1 8 .nilFunc:=⟨_,rfl,rfl,rfl,rfl⟩
instance ti235:TI Tryz.prog 235 1 8 .nilFunc:=⟨_,rfl,rfl,rfl,rfl⟩
instance ti237:TI Tryz.prog 237 1 8 .nilFunc:=⟨_,rfl,rfl,rfl,rfl⟩
instance ti238:TI Tryz.prog 238 1 8 .nilFunc:=⟨_,rfl,rfl,rfl,rfl⟩
instance ti239:TI Tryz.prog 239 1 8 .nilFunc:=⟨_,rfl,rfl,rfl,rfl⟩
instance ti240:TI Tryz.prog 240 1 8 .nilFunc:=⟨_,rfl,rfl,rfl,rfl⟩
instance ti241:TI Tryz.prog 241 1 8 .nilFunc:=⟨_,rfl,rfl,rfl,rfl⟩
instance ti242:TI Tryz.prog 242 1 8 .nilFunc:=⟨_,rfl,rfl,rfl,rfl⟩
instance ti243:TI Tryz.prog 243 1 8 .nilFunc:=⟨_,rfl,rfl,rfl,rfl⟩
instance ti245:TI Tryz.prog 245 1 8 .nilFunc:=⟨_,rfl,rfl,rfl,rfl⟩
instance ti246:TI Tryz.prog 246 1 8 .nilFunc:=⟨_,rfl,rfl,rfl,rfl⟩
instance ti247:TI Tryz.prog 247 1 8 .nilFunc:=⟨_,rfl,rfl,rfl,rfl⟩
instance ti248:TI Tryz.prog 248 1 8 .nilFunc:=⟨_,rfl,rfl,rfl,rfl⟩
instance ti251:TI Tryz.prog 251 1 8 .nilFunc:=⟨_,rfl,rfl,rfl,rfl⟩
instance ti253:TI Tryz.prog 253 1 8 .nilFunc:=⟨_,rfl,rfl,rfl,rfl⟩
instance ti254:TI Tryz.prog 254 1 8 .nilFunc:=⟨_,rfl,rfl,rfl,rfl⟩
instance ti256:TI Tryz.prog 256 1 8 .nilFunc:=⟨_,rfl,rfl,rfl,rfl⟩
instance ti257:TI Tryz.prog 257 1 8 .nilFunc:=⟨_,rfl,rfl,rfl,rfl⟩
instance ti259:TI Tryz.prog 259 1 8 .nilFunc:=⟨_,rfl,rfl,rfl,rfl⟩
instance ti260:TI Tryz.prog 260 1 8 .nilFunc:=⟨_,rfl,rfl,rfl,rfl⟩
instance ti262:TI Tryz.prog 262 1 8 .nilFunc:=⟨_,rfl,rfl,rfl,rfl⟩
instance ti263:TI Tryz.prog 263 1 8 .nilFunc:=⟨_,rfl,rfl,rfl,rfl⟩
instance ti267:TI Tryz.prog 267 1 8 .nilFunc:=⟨_,rfl,rfl,rfl,rfl⟩
instance ti268:TI Tryz.prog 268 1 8 .nilFunc:=⟨_,rfl,rfl,rfl,rfl⟩
instance ti269:TI Tryz.prog 269 1 8 .nilFunc:=⟨_,rfl,rfl,rfl,rfl⟩
instance ti271:TI Tryz.prog 271 1 8 .nilFunc:=⟨_,rfl,rfl,rfl,rfl⟩
instance ti274:TI Tryz.prog 274 1 8 .nilFunc:=⟨_,rfl,rfl,rfl,rfl⟩
instance ti275:TI Tryz.prog 275 1 8 .nilFunc:=⟨_,rfl,rfl,rfl,rfl⟩
instance ti278:TI Tryz.prog 278 1 8 .nilFunc:=⟨_,rfl,rfl,rfl,rfl⟩
instance ti279:TI Tryz.prog 279 1 8 .nilFunc:=⟨_,rfl,rfl,rfl,rfl⟩
instance ti283:TI Tryz.prog 283 1 8 .nilFunc:=⟨_,rfl,rfl,rfl,rfl⟩
instance ti285:TI Tryz.prog 285 1 8 .nilFunc:=⟨_,rfl,rfl,rfl,rfl⟩
instance ti286:TI Tryz.prog 286 1 8 .nilFunc:=⟨_,rfl,rfl,rfl,rfl⟩
instance ti290:TI Tryz.prog 290 1 8 .nilFunc:=⟨_,rfl,rfl,rfl,rfl⟩
instance ti298:TI Tryz.prog 298 1 8 .nilFunc:=⟨_,rfl,rfl,rfl,rfl⟩
instance ti301:TI Tryz.prog 301 1 8 .nilFunc:=⟨_,rfl,rfl,rfl,rfl⟩
instance ti313:TI Tryz.prog 313 1 8 .nilFunc:=⟨_,rfl,rfl,rfl,rfl⟩
end Go.Proofs.YthdldeenpgeemaaGreatDoor
namespace Go.Proofs.YthdldeenpgeemaaGreatDoor
open Go Go.RowKit Go.Kx Go.Fr Go.Lx
def Xqv (b0 b1 b2:Nat) (p0 p1 p2:SP):List Ent:=[row b0 41 1 [p0],row b1 3 1 [p1],row b2 30 1 [p2]]
theorem Xk8 (b0 b1 b2:Nat) (p0 p1 p2:SP):FnD Tryz.prog 40 [ex (.pointer (some ⟨b0,0,none⟩)),ex (.pointer (some ⟨b1,0,none⟩)),ex (.pointer (some ⟨b2,0,none⟩))] (Xqv b0 b1 b2 p0 p1 p2) .returning (fun u loc=>u= .returning∧loc=Xqv b0 b1 b2 p0 p1 p2):=by
 unfold Xqv
 refine Xel Tryz.func40 rfl Tryz.ntmps40 Xir fun w0 F0 out=>?_
 (repeat' (first|refine Xf ?_|refine Xb ?_|refine Xd ?_|(apply Xk;(first|exact Xe rfl|(apply V1;exact Xek rfl rfl));exact rfl)|refine Xs ?_|refine X2 rfl ?_))
 exact ⟨.inl rfl,Rn rfl (List.Sublist.refl _) rfl⟩
theorem Xjx (b0 b1 b2:Nat) (p0 p1 p2:SP) (i:Nat):FnD Tryz.prog 40 [ex (.pointer (some ⟨b0,0,none⟩)),ex (.pointer (some ⟨b1,0,none⟩)),ex (.pointer (some ⟨b2,0,none⟩))] (Xqv b0 b1 b2 p0 p1 p2) (.panicking [{ v:= .iface 83 (.int .i64 (i:Int)),recovered:=false }]) (fun u loc=>u= .panicking [{ v:= .iface 83 (.int .i64 (i:Int)),recovered:=true }]∧loc=Xqv b0 b1 b2 (ex (.slice none 0 0)) (exI .i64 (i:Int)) (exI .i64 30)):=by
 unfold Xqv
 refine Xel Tryz.func40 rfl Tryz.ntmps40 Xfv fun w0 F0 out=>?_
 (repeat' (first|(apply W2 2;refine Stop.out ?_)|refine Xf ?_|refine Xb ?_|refine Xd ?_|(apply Xk;(first|exact Xe rfl|(apply V1;exact Xg5 rfl rfl));exact rfl)|refine Xx rfl ?_))
 refine ⟨?_⟩
 (refine W9 2 rfl ?_)
 (apply Xc 0 rfl Yaa rfl Yab Xa;(exact Xe rfl);exact rfl)
 (apply Xc 1 rfl Yaa rfl Yab Xa;((apply Xox;exact Xnc rfl rfl));exact rfl)
 (refine Xr (H':=U6 []) 2 Yaa rfl Xa (fun h=>absurd h Yar) ?_)
 ((apply Xt;refine Xq (k:=0) (l0:=[]) rfl rfl rfl ?_))
 (refine Xr (H':=U6 []) 3 Yaa rfl Xa (fun h=>absurd h Yar) ?_)
 ((apply Xt;refine Xq (k:=1) (l0:=[]) rfl rfl rfl ?_))
 (refine Xr (H':=U6 []) 4 Yaa rfl Xa (fun h=>absurd h Yar) ?_)
 ((apply Xt;refine Xq (k:=2) (l0:=[]) rfl rfl rfl ?_))
 refine X3 Yaa ?_
 exact ⟨.inl rfl,Rn rfl (List.Sublist.refl _) rfl⟩
end Go.Proofs.YthdldeenpgeemaaGreatDoor
namespace Go.Proofs.YthdldeenpgeemaaGreatDoor
open Go Go.RowKit Go.Kx Go.Fr Go.Lx Go.ChangeShapes Go.WideShapes Go.ChangeAt
theorem Tryz.own:ownKnob Tryz.prog.godebug=none:=by kernel_rfl
theorem Tryz.laidOut:laidOutB Tryz.prog=true:=by kernel_rfl
theorem rdT:Reads Tryz.prog 9 eStr:=Xkk Tryz.underlying9
theorem rdI:Reads Tryz.prog 3 eI:=Xqf Tryz.underlying3
theorem Ur {P:Program} {W:World} {x:String×DataW Unit} {rest:List (String×DataW Unit)} (h:laidMet P (x::rest) W):laidMet P rest W:=by
 obtain ⟨n,d⟩:=x
 obtain ⟨ps,⟨g,t,cs,fuel,p,q,_,_,_,_,h5,rfl⟩,hn,hc⟩:=h
 exact ⟨q,h5,(List.nodup_append.1 hn).2.1,fun b off hm=>hc b off (List.mem_append_right _ hm)⟩
theorem powT:(Tryz.prog.globals[powG]?).map (·.type)=some 276:=by kernel_rfl
theorem pow_data:(Rows.laid_internal_strconv_uint64pow10:DataW Unit)=Lib.tabData .u64 Lib.pow10Tab:=by kernel_rfl
theorem range_named:Tryz.prog.globalNamed "strconv.ErrRange"=some rangeG:=by kernel_rfl
theorem rangeT:(Tryz.prog.globals[rangeG]?).map (·.type)=some 133:=by kernel_rfl
end Go.Proofs.YthdldeenpgeemaaGreatDoor
