/- Chapter 13: the writer puts keys and items. -/
import Derived.Test.YthdldeenpgeemaaGreatDoorPart9
import Derived.Test.YthdldeenpgeemaaGreatDoorPart6
import Derived.Test.YthdldeenpgeemaaGreatDoorPart3
import Derived.Test.YthdldeenpgeemaaGreatDoorProg
import Derived.Shelf.Strings.OnBuilder
import Derived.Shelf.Small.Strs
import Derived.Shelf.LaysM
import Derived.Shelf.LaysC
import Derived.Shelf.Strings.Repeat
set_option maxHeartbeats 8000000
set_option maxRecDepth 100000
namespace Go.Sx
open Go.Lx Go.Fr
theorem Xcr {α:Type} (tk:α→List TokD) (l:List α) (i:Nat) (h:i<l.length):(l.take (i+1)).flatMap tk=(l.take i).flatMap tk++tk l[i]:=by
 rw [List.take_succ_eq_append_getElem h,List.flatMap_append,List.flatMap_cons,List.flatMap_nil,List.append_nil]
theorem Xim {α:Type} (tk:α→List TokD) (l:List α) (i:Nat) (h:i<l.length):((l.take i).flatMap tk).length+(tk l[i]).length≤(l.flatMap tk).length:=by
 have e:l.flatMap tk=(l.take (i+1)).flatMap tk++(l.drop (i+1)).flatMap tk:=by rw [←List.flatMap_append,List.take_append_drop]
 rw [e,Xcr tk l i h];simp only [List.length_append];omega
end Go.Sx
namespace Go.Proofs.YthdldeenpgeemaaGreatDoor
open Go Go.RowKit Go.Kx Go.Fr Go.Lx Go.Sx
theorem Xjn (k:Nat) (q:KeyD) (b:Nat) (oa:Option Addr) (c:Nat) (acc:List TokD) (hlen:acc.length+(Qj q).length≤70000):FnC Tryz.prog 106 [ex (.pointer (some ⟨b,0,none⟩)),agg (keyV q)] (Vv b oa c acc) (fun _ loc=> ∃oa' c',loc=Vv b oa' c' (acc++Qj q)):=by
 refine X4 Tryz.func106 rfl Tryz.ntmps106 rfl fun w0 F0 out=>?_
 (repeat' (first|(apply Vs 1;refine StopW.out ?_)|refine Xf ?_|refine Xb ?_|refine Xd ?_|(apply Xi;exact rfl;(apply U7;refine V2 rfl ?_;intro _))))
 refine ⟨?_⟩
 rename_i b3
 refine Wf ((Tw (k:=0) (t:=3) rfl rfl).trans (Xg (env':=[(0,ex (.pointer (some ⟨b,0,none⟩))),(3,fp [exI .i64 q.kind,exT q.name,exI .i64 q.n])]) (loc':=Vv b oa c acc) (by repeat (first|exact Xm|refine Xh rfl ?_)) (List.Sublist.refl _))) ?_
 by_cases k1:q.kind=1
 · skip
   have hT:Qj q=[.s [116,111,116,97,108],.nm q.name].flatMap PutV.toks:=by unfold Qj;rw [if_pos k1];rfl
   rw [hT] at hlen ⊢
   simp only [List.flatMap_cons,List.flatMap_nil,PutV.toks,List.length_append,List.length_cons,List.length_nil] at hlen
   (repeat' (first|(apply Xy 18;refine Wj (k:=0) (E:=Tq k) (t:=17) [.s [116,111,116,97,108],.nm q.name] rfl rfl rfl rfl ?_ (hc:=by decide) (hby:=by show _ * 16≤140737488355328;decide))|refine Xf ?_|refine Xb ?_|refine Xd ?_|(apply Xk;exact Yaz;exact rfl)|refine Xp ?_|(apply Xi;exact rfl;first|(apply Xn;(refine Xl (.one 0 rfl (.one 0 rfl .nil)) Tryz.func104 rfl (T9 k _ b _ _ _ Yah) rfl ?_;rintro _ _ ⟨oaw,cw,rfl⟩))|(apply X5;(refine Wq rfl Yac ?_);intro _))|(refine Xo rfl (fun hb=>?_) (fun hb=>?_)<;>(repeat (first|replace hb:=X0 hb|replace hb:=X1 hb))<;>(try (exfalso;contradiction)))))
   all_goals (try (exfalso;omega))
   all_goals (exact ⟨.inl rfl,Rn (loc':=Vv b _ _ _) rfl (List.sublist_append_left _ _) ⟨_,_,rfl⟩⟩)
 by_cases k2:q.kind=2
 · skip
   have hT:Qj q=[.s [115,99,111,114,101],.nm q.name].flatMap PutV.toks:=by unfold Qj;rw [if_neg k1,if_pos k2];rfl
   rw [hT] at hlen ⊢
   simp only [List.flatMap_cons,List.flatMap_nil,PutV.toks,List.length_append,List.length_cons,List.length_nil] at hlen
   (repeat' (first|(apply Xy 27;refine Wj (k:=0) (E:=Tq k) (t:=26) [.s [115,99,111,114,101],.nm q.name] rfl rfl rfl rfl ?_ (hc:=by decide) (hby:=by show _ * 16≤140737488355328;decide))|refine Xf ?_|refine Xb ?_|refine Xd ?_|(apply Xk;exact Yaz;exact rfl)|refine Xp ?_|(apply Xi;exact rfl;first|(apply Xn;(refine Xl (.one 0 rfl (.one 0 rfl .nil)) Tryz.func104 rfl (T9 k _ b _ _ _ Yah) rfl ?_;rintro _ _ ⟨oaw,cw,rfl⟩))|(apply X5;(refine Wq rfl Yac ?_);intro _))|(refine Xo rfl (fun hb=>?_) (fun hb=>?_)<;>(repeat (first|replace hb:=X0 hb|replace hb:=X1 hb))<;>(try (exfalso;contradiction)))))
   all_goals (try (exfalso;omega))
   all_goals (exact ⟨.inl rfl,Rn (loc':=Vv b _ _ _) rfl (List.sublist_append_left _ _) ⟨_,_,rfl⟩⟩)
 by_cases k5:q.kind=5
 · skip
   have hT:Qj q=[.s [114,117,108,101],.nm q.name].flatMap PutV.toks:=by unfold Qj;rw [if_neg k1,if_neg k2,if_pos k5];rfl
   rw [hT] at hlen ⊢
   simp only [List.flatMap_cons,List.flatMap_nil,PutV.toks,List.length_append,List.length_cons,List.length_nil] at hlen
   (repeat' (first|(apply Xy 36;refine Wj (k:=0) (E:=Tq k) (t:=35) [.s [114,117,108,101],.nm q.name] rfl rfl rfl rfl ?_ (hc:=by decide) (hby:=by show _ * 16≤140737488355328;decide))|refine Xf ?_|refine Xb ?_|refine Xd ?_|(apply Xk;exact Yaz;exact rfl)|refine Xp ?_|(apply Xi;exact rfl;first|(apply Xn;(refine Xl (.one 0 rfl (.one 0 rfl .nil)) Tryz.func104 rfl (T9 k _ b _ _ _ Yah) rfl ?_;rintro _ _ ⟨oaw,cw,rfl⟩))|(apply X5;(refine Wq rfl Yac ?_);intro _))|(refine Xo rfl (fun hb=>?_) (fun hb=>?_)<;>(repeat (first|replace hb:=X0 hb|replace hb:=X1 hb))<;>(try (exfalso;contradiction)))))
   all_goals (try (exfalso;omega))
   all_goals (exact ⟨.inl rfl,Rn (loc':=Vv b _ _ _) rfl (List.sublist_append_left _ _) ⟨_,_,rfl⟩⟩)
 by_cases k3:q.kind=3
 · skip
   have hT:Qj q=[.s [104,105,103,104,101,115,116]].flatMap PutV.toks:=by unfold Qj;rw [if_neg k1,if_neg k2,if_neg k5,if_pos k3];rfl
   rw [hT] at hlen ⊢
   simp only [List.flatMap_cons,List.flatMap_nil,PutV.toks,List.length_append,List.length_cons,List.length_nil] at hlen
   (repeat' (first|(apply Xy 42;refine Wj (k:=0) (E:=Tq k) (t:=41) [.s [104,105,103,104,101,115,116]] rfl rfl rfl rfl ?_ (hc:=by decide) (hby:=by show _ * 16≤140737488355328;decide))|refine Xf ?_|refine Xb ?_|refine Xd ?_|(apply Xk;exact Yaz;exact rfl)|refine Xp ?_|(apply Xi;exact rfl;first|(apply Xn;(refine Xl (.one 0 rfl (.one 0 rfl .nil)) Tryz.func104 rfl (T9 k _ b _ _ _ Yah) rfl ?_;rintro _ _ ⟨oaw,cw,rfl⟩))|(apply X5;(refine Wb rfl rfl ?_);intro _))|(refine Xo rfl (fun hb=>?_) (fun hb=>?_)<;>(repeat (first|replace hb:=X0 hb|replace hb:=X1 hb))<;>(try (exfalso;contradiction)))))
   all_goals (try (exfalso;omega))
   all_goals (exact ⟨.inl rfl,Rn (loc':=Vv b _ _ _) rfl (List.sublist_append_left _ _) ⟨_,_,rfl⟩⟩)
 by_cases k4:q.kind=4
 · skip
   have hT:Qj q=[.s [98,111,110,117,115]].flatMap PutV.toks:=by unfold Qj;rw [if_neg k1,if_neg k2,if_neg k5,if_neg k3,if_pos k4];rfl
   rw [hT] at hlen ⊢
   simp only [List.flatMap_cons,List.flatMap_nil,PutV.toks,List.length_append,List.length_cons,List.length_nil] at hlen
   (repeat' (first|(apply Xy 48;refine Wj (k:=0) (E:=Tq k) (t:=47) [.s [98,111,110,117,115]] rfl rfl rfl rfl ?_ (hc:=by decide) (hby:=by show _ * 16≤140737488355328;decide))|refine Xf ?_|refine Xb ?_|refine Xd ?_|(apply Xk;exact Yaz;exact rfl)|refine Xp ?_|(apply Xi;exact rfl;first|(apply Xn;(refine Xl (.one 0 rfl (.one 0 rfl .nil)) Tryz.func104 rfl (T9 k _ b _ _ _ Yah) rfl ?_;rintro _ _ ⟨oaw,cw,rfl⟩))|(apply X5;(refine Wb rfl rfl ?_);intro _))|(refine Xo rfl (fun hb=>?_) (fun hb=>?_)<;>(repeat (first|replace hb:=X0 hb|replace hb:=X1 hb))<;>(try (exfalso;contradiction)))))
   all_goals (try (exfalso;omega))
   all_goals (exact ⟨.inl rfl,Rn (loc':=Vv b _ _ _) rfl (List.sublist_append_left _ _) ⟨_,_,rfl⟩⟩)
 · skip
   have hT:Qj q=[.s [108,111,116]].flatMap PutV.toks:=by unfold Qj;rw [if_neg k1,if_neg k2,if_neg k5,if_neg k3,if_neg k4];rfl
   rw [hT] at hlen ⊢
   simp only [List.flatMap_cons,List.flatMap_nil,PutV.toks,List.length_append,List.length_cons,List.length_nil] at hlen
   (repeat' (first|(apply Xy 9;refine Wj (k:=0) (E:=Tq k) (t:=8) [.s [108,111,116]] rfl rfl rfl rfl ?_ (hc:=by decide) (hby:=by show _ * 16≤140737488355328;decide))|refine Xf ?_|refine Xb ?_|refine Xd ?_|(apply Xk;exact Yaz;exact rfl)|refine Xp ?_|(apply Xi;exact rfl;first|(apply Xn;(refine Xl (.one 0 rfl (.one 0 rfl .nil)) Tryz.func104 rfl (T9 k _ b _ _ _ Yah) rfl ?_;rintro _ _ ⟨oaw,cw,rfl⟩))|(apply X5;(refine Wb rfl rfl ?_);intro _))|(refine Xo rfl (fun hb=>?_) (fun hb=>?_)<;>(repeat (first|replace hb:=X0 hb|replace hb:=X1 hb))<;>(try (exfalso;contradiction)))))
   all_goals (try (exfalso;omega))
   all_goals (exact ⟨.inl rfl,Rn (loc':=Vv b _ _ _) rfl (List.sublist_append_left _ _) ⟨_,_,rfl⟩⟩)
theorem Xb0 (k:Nat) (w:List UInt8) (hw:Tk w=true) (l:List ItemD) (b:Nat) (oa:Option Addr) (c:Nat) (acc:List TokD) (hlen:acc.length+(l.flatMap (Tu w)).length≤70000):FnC Tryz.prog 105 [ex (.pointer (some ⟨b,0,none⟩)),exT w,isl eItem l] (Vv b oa c acc) (fun _ loc=> ∃oa' c',loc=Vv b oa' c' (acc++l.flatMap (Tu w))):=by
 refine Wl (i:=2) rfl Ws fun hl=>?_
 obtain ⟨hl,-⟩:=hl
 simp only [maxLen] at hl
 refine X4 Tryz.func105 rfl Tryz.ntmps105 rfl fun w0 F0 out=>?_
 (repeat' (first|refine Xf ?_|refine Xb ?_|refine Xd ?_|(apply Xk;(first|exact Xe rfl|exact Yaq);exact rfl)|refine Xp ?_))
 refine W1 (fun z:Nat×Option Addr×Nat=>([(0,ex (.pointer (some ⟨b,0,none⟩))),(1,exT w),(8,isl eItem l),(9,exI .i64 l.length),(10,exI .i64 (z.1:Int))],Vv b z.2.1 z.2.2 (acc++(l.take z.1).flatMap (Tu w)))) (fun z=>z.1≤l.length) (fun z=>l.length-z.1) (0,oa,c) ?_ (Nat.zero_le _) fun z hz=>?_
 · exact Xg (by repeat (first|exact Xm|refine Xh rfl ?_)) (by show List.Sublist (Vv b oa c (acc++[])) _;rw [List.append_nil];exact List.Sublist.refl _)
 obtain ⟨i,oa1,c1⟩:=z
 simp only at hz
 by_cases hi:i<l.length
 · have hb1:=Xim (Tu w) l i hi
   have hb2:=Xcr (Tu w) l i hi
   have hT:Tu w l[i]=[.s w,.nm l[i].name,.s [118,97,108,117,101],.i l[i].value,.s [109,111,115,116],.i l[i].most,.s [59]].flatMap PutV.toks:=by
     show _=[sT w,_,_,_,_,_,_]
     unfold sT;rw [hw];rfl
   have hL:(Tu w l[i]).length=7:=rfl
   generalize hA:acc++(l.take i).flatMap (Tu w)=A
   have hAl:A.length+7≤70000:=by rw [←hA,List.length_append];omega
   (repeat' (first|(apply W2 3;refine StopW.out ?_)|refine Xf ?_|refine Xb ?_|refine Xd ?_|(apply Xk;exact Ycy;exact rfl)|refine Xp ?_|refine Xs ?_|(apply Xi;exact rfl;first|(apply Wh;refine X7 ?_;intro _)|(apply Xt;refine Xq (k:=0) (l0:=[]) rfl rfl rfl ?_))|(refine Xo rfl (fun hb=>?_) (fun hb=>?_)<;>(repeat (first|replace hb:=X0 hb|replace hb:=X1 hb))<;>(try (exfalso;omega)))))
   refine ⟨?_⟩
   rename_i b7
   refine Wf (Tw (k:=0) (t:=7) rfl rfl) ?_
   refine Wf (env':=(7,fp (itemV l[i]))::[(0,ex (.pointer (some ⟨b,0,none⟩))),(1,exT w),(8,isl eItem l),(9,exI .i64 l.length),(10,exI .i64 (i:Int))]) (loc':=Vv b oa1 c1 A) (Xg (by repeat (first|exact Xm|refine Xh rfl ?_)) Ycf) ?_
   (repeat' (first|(apply Xy 30;refine Wj (k:=0) (E:=Tq k) (t:=29) [.s w,.nm l[i].name,.s [118,97,108,117,101],.i l[i].value,.s [109,111,115,116],.i l[i].most,.s [59]] rfl rfl rfl rfl ?_ (hc:=by decide) (hby:=by show _ * 16≤140737488355328;decide))|refine Xb ?_|refine Xd ?_|(apply Xk;(first|exact Xe rfl|exact Yag|exact Yaj|exact Ycn|exact Yas);exact rfl)|(apply Xi;exact rfl;first|(apply Xn;(refine Xl (.one 0 rfl (.one 0 rfl .nil)) Tryz.func104 rfl (T9 k _ b _ _ _ Yah) rfl ?_;rintro _ _ ⟨oaw,cw,rfl⟩))|(apply X5;(refine Wq rfl Yac ?_);intro _))))
   refine ⟨(i+1,_,_),by show i+1≤l.length;omega,by show l.length-(i+1)<l.length-i;omega,Xg (by repeat (first|exact Xm|refine Xh rfl ?_)) (by show List.Sublist (Vv b _ _ (acc++(l.take (i+1)).flatMap (Tu w))) _;rw [hb2,←List.append_assoc,hA,hT];exact List.sublist_append_left _ _)⟩
 · (repeat' (first|refine Xf ?_|refine Xb ?_|refine Xd ?_|(apply Xk;(exact Yak);exact rfl)|refine Wy ?_|(refine Xo rfl (fun hb=>?_) (fun hb=>?_)<;>(repeat (first|replace hb:=X0 hb|replace hb:=X1 hb))<;>(try (exfalso;omega)))))
   have hq:i=l.length:=by omega
   subst hq
   refine ⟨.inl rfl,Rn (loc':=Vv b oa1 c1 (acc++l.flatMap (Tu w))) rfl (by show List.Sublist _ (Vv b oa1 c1 (acc++(l.take l.length).flatMap (Tu w)));rw [List.take_length];exact List.Sublist.refl _) ⟨oa1,c1,rfl⟩⟩
end Go.Proofs.YthdldeenpgeemaaGreatDoor
namespace Go.Sx
open Go.Lx Go.Fr
theorem keysT_take: ∀(l:List KeyD) (j:Nat) (h:j<l.length),keysT (l.take (j+1))=keysT (l.take j)++((if j=0 then [] else [tkS sComma])++Qj l[j])
 | x::l,0,_=>by show Qj x++[]=_;rw [List.append_nil];rfl
 | x::l,j+1,h=>by
   have h':j<l.length:=by simpa using h
   show Qj x++(l.take (j+1)).flatMap (fun y=>tkS sComma::Qj y)=(Qj x++(l.take j).flatMap (fun y=>tkS sComma::Qj y))++([tkS sComma]++Qj l[j])
   rw [List.take_succ_eq_append_getElem h',List.flatMap_append,List.append_assoc]
   simp
theorem keysT_mono: ∀(l:List KeyD) (i:Nat),(keysT (l.take i)).length≤(keysT l).length
 | l,0=>Nat.zero_le _
 | [],i+1=>Nat.le_refl _
 | x::l,i+1=>by
   show (Qj x++(l.take i).flatMap (fun y=>tkS sComma::Qj y)).length≤(Qj x++l.flatMap (fun y=>tkS sComma::Qj y)).length
   have h:l.flatMap (fun y=>tkS sComma::Qj y)=(l.take i).flatMap (fun y=>tkS sComma::Qj y)++(l.drop i).flatMap (fun y=>tkS sComma::Qj y):=by rw [←List.flatMap_append,List.take_append_drop]
   rw [h];simp only [List.length_append];omega
abbrev Xjo (x:Crit):List TokD:=if x.rev then [tkW wReverse] else []
abbrev Xbk (x:RoundD):List TokD:=if x.free then [tkW wFree] else []
abbrev plT (x:RoundD):List TokD:=if x.places then [tkW wPlaces] else tkW wScore::exT' x.score
abbrev tiT (x:RoundD):List TokD:=if x.tieNo=0 then [tkW wTie,tkW x.tie] else []
theorem Xfq (x:Crit):(Ry x).length=8+(Xhk x).length+(Xjo x).length+1:=by unfold Ry;simp only [List.length_append];rfl
theorem Xds (x:RoundD):(roundT x).length=6+(Xhl x.cut).length+(Xbk x).length+(plT x).length+(tiT x).length+1:=by unfold roundT;simp only [List.length_append];rfl
theorem Xin (x:TieD):(Xev x).length=2+(keysT x.keys).length+1:=by unfold Xev;simp only [List.length_append];rfl
abbrev Xio (l:List Int):List TokD:=if l=[] then [] else tkW wPrizes::commaT l++[tkS sSemi]
abbrev Xnu (l:List Int) (b:Int):List TokD:=if l=[] then [] else tkW wPoints::commaT l++[tkW wBest,tkN b,tkS sSemi]
end Go.Sx
namespace Go.Proofs.YthdldeenpgeemaaGreatDoor
open Go Go.RowKit Go.Kx Go.Fr Go.Lx Go.Sx
theorem Xfr (k:Nat) (r:RulesD) (b:Nat) (oa:Option Addr) (c:Nat) (acc:List TokD) (hlen:acc.length+(Uh r).length≤70000):FnC Tryz.prog 36 [ex (.pointer (some ⟨b,0,none⟩)),agg (Vc k r)] (Vv b oa c acc) (fun _ loc=> ∃oa' c',loc=Vv b oa' c' (acc++Uh r)):=by
 refine Wl (i:=1) rfl (Ui (i:=1) rfl Ws) fun hc1=>?_
 refine Wl (i:=1) rfl (Ui (i:=4) rfl Ws) fun hc2=>?_
 refine Wl (i:=1) rfl (Ui (i:=5) rfl Ws) fun hc3=>?_
 replace hc1:=hc1.1;replace hc2:=hc2.1;replace hc3:=hc3.1
 simp only [maxLen] at hc1 hc2 hc3
 have hRT:Uh r=[tkW wCompetition,tkW r.name,tkS sSemi]++r.crits.flatMap Ry++r.bonus.flatMap (Tu wBonus)++r.malus.flatMap (Tu wMalus)++r.ties.flatMap Xev++r.rounds.flatMap roundT++Xio r.prizes++Xnu r.points r.best:=rfl
 rw [hRT] at hlen ⊢
 simp only [List.length_append,List.length_cons,List.length_nil] at hlen
 refine X4 Tryz.func36 rfl Tryz.ntmps36 rfl fun w0 F0 out=>?_
 (repeat' (first|(apply Vs 1;refine StopW.out ?_)|refine Xf ?_|refine Xb ?_|refine Xd ?_|(apply Xi;exact rfl;(apply U7;refine V2 rfl ?_;intro _))))
 refine ⟨?_⟩
 rename_i b3
 refine Wf ((Tw (k:=0) (t:=3) rfl rfl).trans (Xg (env':=[(0,ex (.pointer (some ⟨b,0,none⟩))),(3,fp (Vc k r))]) (loc':=Vv b oa c acc) (by repeat (first|exact Xm|refine Xh rfl ?_)) (List.Sublist.refl _))) ?_
 (repeat' (first|(apply Vs 2;refine StopW.out ?_)|(apply Xy 22;refine Wj (k:=0) (E:=Tq k) (t:=21) [.s [99,111,109,112,101,116,105,116,105,111,110],.nm r.name,.s [59]] rfl rfl rfl rfl ?_ (hc:=by decide) (hby:=by show _ * 16≤140737488355328;decide))|refine Xf ?_|refine Xb ?_|refine Xd ?_|(apply Xk;exact Yb0;exact rfl)|(apply Xi;exact rfl;first|(apply Xn;(refine Xl (.one 0 rfl (.one 0 rfl .nil)) Tryz.func104 rfl (T9 k _ b _ _ _ Yah) rfl ?_;rintro _ _ ⟨oaw,cw,rfl⟩))|(apply X5;(refine Wq rfl Yac ?_);intro _))))
 refine ⟨?_⟩
 refine Uy (fun z:Option Addr×Nat=>([(0,ex (.pointer (some ⟨b,0,none⟩))),(3,fp (Vc k r))],Vv b z.1 z.2 (acc++[tkW wCompetition,tkW r.name,tkS sSemi]++r.crits.flatMap Ry))) (fun _=>True) ?_ fun z _=>?_
 · generalize hA0:acc++[tkW wCompetition,tkW r.name,tkS sSemi]=A0
   have hA0l:A0.length=acc.length+3:=by rw [←hA0,List.length_append];rfl
   refine Wf (env':=[(0,ex (.pointer (some ⟨b,0,none⟩))),(3,fp (Vc k r))]) (loc':=Vv b _ _ A0) (Xg (by repeat (first|exact Xm|refine Xh rfl ?_)) (by subst hA0;exact List.sublist_append_left _ _)) ?_
   (repeat' (first|refine Xf ?_|refine Xb ?_|refine Xd ?_|(apply Xk;exact Ydd;exact rfl)|refine Xp ?_))
   refine W1 (fun z:Nat×Option Addr×Nat=>([(0,ex (.pointer (some ⟨b,0,none⟩))),(3,fp (Vc k r)),(24,isl eCrit r.crits),(25,exI .i64 r.crits.length),(26,exI .i64 (z.1:Int))],Vv b z.2.1 z.2.2 (A0++(r.crits.take z.1).flatMap Ry))) (fun z=>z.1≤r.crits.length) (fun z=>r.crits.length-z.1) (0,oaw,cw) ?_ (Nat.zero_le _) fun z hz=>?_
   · exact Xg (by repeat (first|exact Xm|refine Xh rfl ?_)) (by show List.Sublist (Vv b _ _ (A0++[])) _;rw [List.append_nil];exact List.Sublist.refl _)
   obtain ⟨i,oa1,c1⟩:=z
   simp only at hz
   by_cases hi:i<r.crits.length
   · have hb1:=Xim Ry r.crits i hi
     have hb2:=Xcr Ry r.crits i hi
     generalize hA:A0++(r.crits.take i).flatMap Ry=A
     have hAl:A.length=A0.length+((r.crits.take i).flatMap Ry).length:=by rw [←hA,List.length_append]
     (repeat' (first|(apply Vs 5;refine StopW.out ?_)|refine Xf ?_|refine Xb ?_|refine Xd ?_|(apply Xk;exact Ycy;exact rfl)|refine Xp ?_|refine Xs ?_|(apply Xi;exact rfl;first|(apply Wh;refine X7 ?_;intro _)|(apply Xt;refine Xq (k:=0) (l0:=[]) rfl rfl rfl ?_))|(refine Xo rfl (fun hb=>?_) (fun hb=>?_)<;>(repeat (first|replace hb:=X0 hb|replace hb:=X1 hb))<;>(try (exfalso;omega)))))
     refine ⟨?_⟩
     rename_i b5
     refine Wf (Tw (k:=0) (t:=5) rfl rfl) ?_
     refine Wf (env':=[(0,ex (.pointer (some ⟨b,0,none⟩))),(3,fp (Vc k r)),(24,isl eCrit r.crits),(25,exI .i64 r.crits.length),(26,exI .i64 (i:Int)),(5,fp (critV r.crits[i]))]) (loc':=Vv b oa1 c1 A) (Xg (by repeat (first|exact Xm|refine Xh rfl ?_)) Ycf) ?_
     generalize hx:r.crits[i]=x at hb1 hb2
     have hxl:=Xfq x
     rw [hxl] at hb1
     (repeat' (first|(apply Vs 6;refine StopW.out ?_)|(apply Xy 48;refine Wj (k:=0) (E:=Tq k) (t:=47) [.s [99,114,105,116,101,114,105,111,110],.nm x.name,.s [102,114,111,109],.i x.low,.s [116,111],.i x.high,.s [115,116,101,112],.i x.step] rfl rfl rfl rfl ?_ (hc:=by decide) (hby:=by show _ * 16≤140737488355328;decide))|refine Xf ?_|refine Xb ?_|refine Xd ?_|(apply Xk;exact Yb0;exact rfl)|(apply Xi;exact rfl;first|(apply Xn;(refine Xl (.one 0 rfl (.one 0 rfl .nil)) Tryz.func104 rfl (T9 k _ b _ _ _ Yah) rfl ?_;rintro _ _ ⟨oaw,cw,rfl⟩))|(apply X5;(refine Wq rfl Yac ?_);intro _))))
     refine ⟨?_⟩
     refine Uy (fun z:Option Addr×Nat=>([(0,ex (.pointer (some ⟨b,0,none⟩))),(3,fp (Vc k r)),(24,isl eCrit r.crits),(25,exI .i64 r.crits.length),(26,exI .i64 (i:Int)),(5,fp (critV x))],Vv b z.1 z.2 (A++[.s [99,114,105,116,101,114,105,111,110],.nm x.name,.s [102,114,111,109],.i x.low,.s [116,111],.i x.high,.s [115,116,101,112],.i x.step].flatMap PutV.toks++Xhk x))) (fun _=>True) ?_ fun z _=>?_
     · by_cases h1:x.how=1
       · have hh:Xhk x=[.s [115,117,109]].flatMap PutV.toks:=by unfold Xhk;rw [if_pos h1];rfl
         rw [hh] at hb1
         simp only [List.flatMap_cons,List.flatMap_nil,PutV.toks,List.length_append,List.length_cons,List.length_nil] at hb1
         (repeat' (first|(apply Xy 60;refine Wj (k:=0) (E:=Tq k) (t:=59) [.s [115,117,109]] rfl rfl rfl rfl ?_ (hc:=by decide) (hby:=by show _ * 16≤140737488355328;decide))|refine Xf ?_|refine Xb ?_|refine Xd ?_|(apply Xk;exact Yaz;exact rfl)|refine Xp ?_|(apply Xi;exact rfl;first|(apply Xn;(refine Xl (.one 0 rfl (.one 0 rfl .nil)) Tryz.func104 rfl (T9 k _ b _ _ _ Yah) rfl ?_;rintro _ _ ⟨oaw,cw,rfl⟩))|(apply X5;(refine Wb rfl rfl ?_);intro _))|(refine Xo rfl (fun hb=>?_) (fun hb=>?_)<;>(repeat (first|replace hb:=X0 hb|replace hb:=X1 hb))<;>(try (exfalso;contradiction)))))
         all_goals (try (exfalso;omega))
         all_goals (refine Wc (Q:=fun _ _ _=>True) (_,_) trivial (Xg (by repeat (first|exact Xm|refine Xh rfl ?_)) Ybk))
       by_cases h2:x.how=2
       · have hh:Xhk x=[.s [109,101,97,110],.s [116,114,105,109],.i x.trim].flatMap PutV.toks:=by unfold Xhk;rw [if_neg h1,if_pos h2];rfl
         rw [hh] at hb1
         simp only [List.flatMap_cons,List.flatMap_nil,PutV.toks,List.length_append,List.length_cons,List.length_nil] at hb1
         (repeat' (first|(apply Xy 70;refine Wj (k:=0) (E:=Tq k) (t:=69) [.s [109,101,97,110],.s [116,114,105,109],.i x.trim] rfl rfl rfl rfl ?_ (hc:=by decide) (hby:=by show _ * 16≤140737488355328;decide))|refine Xf ?_|refine Xb ?_|refine Xd ?_|(apply Xk;exact Yaz;exact rfl)|refine Xp ?_|(apply Xi;exact rfl;first|(apply Xn;(refine Xl (.one 0 rfl (.one 0 rfl .nil)) Tryz.func104 rfl (T9 k _ b _ _ _ Yah) rfl ?_;rintro _ _ ⟨oaw,cw,rfl⟩))|(apply X5;(refine Wq rfl Yac ?_);intro _))|(refine Xo rfl (fun hb=>?_) (fun hb=>?_)<;>(repeat (first|replace hb:=X0 hb|replace hb:=X1 hb))<;>(try (exfalso;contradiction)))))
         all_goals (try (exfalso;omega))
         all_goals (refine Wc (Q:=fun _ _ _=>True) (_,_) trivial (Xg (by repeat (first|exact Xm|refine Xh rfl ?_)) Ybk))
       · have hh:Xhk x=[.s [109,101,100,105,97,110]].flatMap PutV.toks:=by unfold Xhk;rw [if_neg h1,if_neg h2];rfl
         rw [hh] at hb1
         simp only [List.flatMap_cons,List.flatMap_nil,PutV.toks,List.length_append,List.length_cons,List.length_nil] at hb1
         (repeat' (first|(apply Xy 54;refine Wj (k:=0) (E:=Tq k) (t:=53) [.s [109,101,100,105,97,110]] rfl rfl rfl rfl ?_ (hc:=by decide) (hby:=by show _ * 16≤140737488355328;decide))|refine Xf ?_|refine Xb ?_|refine Xd ?_|(apply Xk;exact Yaz;exact rfl)|refine Xp ?_|(apply Xi;exact rfl;first|(apply Xn;(refine Xl (.one 0 rfl (.one 0 rfl .nil)) Tryz.func104 rfl (T9 k _ b _ _ _ Yah) rfl ?_;rintro _ _ ⟨oaw,cw,rfl⟩))|(apply X5;(refine Wb rfl rfl ?_);intro _))|(refine Xo rfl (fun hb=>?_) (fun hb=>?_)<;>(repeat (first|replace hb:=X0 hb|replace hb:=X1 hb))<;>(try (exfalso;contradiction)))))
         all_goals (try (exfalso;omega))
         all_goals (refine Wc (Q:=fun _ _ _=>True) (_,_) trivial (Xg (by repeat (first|exact Xm|refine Xh rfl ?_)) Ybk))
     obtain ⟨oa2,c2⟩:=z
     simp only
     generalize hA2:A++[.s [99,114,105,116,101,114,105,111,110],.nm x.name,.s [102,114,111,109],.i x.low,.s [116,111],.i x.high,.s [115,116,101,112],.i x.step].flatMap PutV.toks++Xhk x=A2
     have hA2l:A2.length=A.length+8+(Xhk x).length:=by rw [←hA2,List.length_append,List.length_append];rfl
     (repeat' (first|(apply Vs 12;refine StopW.out ?_)|refine Xf ?_))
     refine ⟨?_⟩
     refine Uy (fun z:Option Addr×Nat=>([(0,ex (.pointer (some ⟨b,0,none⟩))),(3,fp (Vc k r)),(24,isl eCrit r.crits),(25,exI .i64 r.crits.length),(26,exI .i64 (i:Int)),(5,fp (critV x))],Vv b z.1 z.2 (A2++Xjo x))) (fun _=>True) ?_ fun z _=>?_
     · cases hr:x.rev
       · have hh:Xjo x=[]:=by unfold Xjo;rw [hr];rfl
         (repeat' (first|refine Xf ?_|refine Xb ?_|refine Xd ?_|(apply Xk;exact Yb0;exact rfl)|refine Xs ?_|(apply Xi;exact rfl;(apply X5;(refine Wb rfl rfl ?_);intro _))|(refine Xo rfl (fun hb=>?_) (fun hb=>?_)<;>(repeat (fail))<;>(try (exfalso;fail)))))
         all_goals (try (exfalso;simp_all;done))
         all_goals (refine Wc (Q:=fun _ _ _=>True) (_,_) trivial (Xg (by repeat (first|exact Xm|refine Xh rfl ?_)) (by show List.Sublist (Vv b _ _ (A2++Xjo x)) _;rw [hh,List.append_nil];exact List.Sublist.refl _)))
       · have hh:Xjo x=[.s [114,101,118,101,114,115,101]].flatMap PutV.toks:=by unfold Xjo;rw [hr];rfl
         rw [hh] at hb1
         simp only [List.flatMap_cons,List.flatMap_nil,PutV.toks,List.length_append,List.length_cons,List.length_nil] at hb1
         (repeat' (first|(apply Xy 76;refine Wj (k:=0) (E:=Tq k) (t:=75) [.s [114,101,118,101,114,115,101]] rfl rfl rfl rfl ?_ (hc:=by decide) (hby:=by show _ * 16≤140737488355328;decide))|refine Xf ?_|refine Xb ?_|refine Xd ?_|(apply Xk;exact Yb0;exact rfl)|refine Xs ?_|(apply Xi;exact rfl;first|(apply Xn;(refine Xl (.one 0 rfl (.one 0 rfl .nil)) Tryz.func104 rfl (T9 k _ b _ _ _ Yah) rfl ?_;rintro _ _ ⟨oaw,cw,rfl⟩))|(apply X5;(refine Wb rfl rfl ?_);intro _))|(refine Xo rfl (fun hb=>?_) (fun hb=>?_)<;>(repeat (fail))<;>(try (exfalso;fail)))))
         all_goals (try (exfalso;simp_all;done))
         all_goals (refine Wc (Q:=fun _ _ _=>True) (_,_) trivial (Xg (by repeat (first|exact Xm|refine Xh rfl ?_)) (by show List.Sublist (Vv b _ _ (A2++Xjo x)) _;rw [hh];first|exact List.sublist_append_left _ _|exact List.Sublist.refl _)))
     obtain ⟨oa3,c3⟩:=z
     simp only
     generalize hA3:A2++Xjo x=A3
     have hA3l:A3.length=A2.length+(Xjo x).length:=by rw [←hA3,List.length_append]
     (repeat' (first|(apply Xy 80;refine Wj (k:=0) (E:=Tq k) (t:=79) [.s [59]] rfl rfl rfl rfl ?_ (hc:=by decide) (hby:=by show _ * 16≤140737488355328;decide))|refine Xb ?_|refine Xd ?_|(apply Xk;(first|exact Xe rfl|exact Ycn|exact Yas);exact rfl)|(apply Xi;exact rfl;first|(apply Xn;(refine Xl (.one 0 rfl (.one 0 rfl .nil)) Tryz.func104 rfl (T9 k _ b _ _ _ Yah) rfl ?_;rintro _ _ ⟨oaw,cw,rfl⟩))|(apply X5;(refine Wb rfl rfl ?_);intro _))))
     refine ⟨(i+1,_,_),by show i+1≤r.crits.length;omega,by show r.crits.length-(i+1)<r.crits.length-i;omega,Xg (by repeat (first|exact Xm|refine Xh rfl ?_)) (by show List.Sublist (Vv b _ _ (A0++(r.crits.take (i+1)).flatMap Ry)) _;rw [hb2,←List.append_assoc,hA,show Ry x=[.s [99,114,105,116,101,114,105,111,110],.nm x.name,.s [102,114,111,109],.i x.low,.s [116,111],.i x.high,.s [115,116,101,112],.i x.step].flatMap PutV.toks++Xhk x++Xjo x++[tkS sSemi] from rfl,←List.append_assoc,←List.append_assoc,←List.append_assoc,hA2,hA3];exact List.sublist_append_left _ _)⟩
   · (repeat' (first|refine Xf ?_|refine Xb ?_|refine Xd ?_|(apply Xk;(exact Yak);exact rfl)|refine Wy ?_|(refine Xo rfl (fun hb=>?_) (fun hb=>?_)<;>(repeat (first|replace hb:=X0 hb|replace hb:=X1 hb))<;>(try (exfalso;omega)))))
     have hq:i=r.crits.length:=by omega
     subst hq
     refine Wc (Q:=fun _ _ _=>True) (oa1,c1) trivial (Xg (by repeat (first|exact Xm|refine Xh rfl ?_)) (by show List.Sublist (Vv b oa1 c1 (A0++r.crits.flatMap Ry)) (Vv b oa1 c1 (A0++(r.crits.take r.crits.length).flatMap Ry));rw [List.take_length];exact List.Sublist.refl _))
 obtain ⟨oa2,c2⟩:=z
 simp only
 generalize hA1:acc++[tkW wCompetition,tkW r.name,tkS sSemi]++r.crits.flatMap Ry=A1
 have hA1l:A1.length=acc.length+3+(r.crits.flatMap Ry).length:=by rw [←hA1];simp only [List.length_append,List.length_cons,List.length_nil]
 have hI1:=fun oa c=>Xb0 k wBonus Yar r.bonus b oa c A1 Yan
 have hI2:=fun oa c=>Xb0 k wMalus Yar r.malus b oa c (A1++r.bonus.flatMap (Tu wBonus)) Ybh
 (repeat' (first|(apply Vs 18;refine StopW.out ?_)|refine Xf ?_|refine Xb ?_|refine Xd ?_|(apply Xk;(first|exact Xe rfl|exact Yag|exact Yaj);exact rfl)|(apply Xi;exact rfl;(apply Xn;first|(refine Xl (.one 0 rfl (.one 0 rfl .nil)) Tryz.func105 rfl (hI1 _ _) rfl ?_;rintro _ _ ⟨oaw,cw,rfl⟩)|(refine Xl (.one 0 rfl (.one 0 rfl .nil)) Tryz.func105 rfl (hI2 _ _) rfl ?_;rintro _ _ ⟨oaw,cw,rfl⟩)))))
 refine ⟨?_⟩
 refine Uy (fun z:Option Addr×Nat=>([(0,ex (.pointer (some ⟨b,0,none⟩))),(3,fp (Vc k r))],Vv b z.1 z.2 (A1++r.bonus.flatMap (Tu wBonus)++r.malus.flatMap (Tu wMalus)++r.ties.flatMap Xev))) (fun _=>True) ?_ fun z _=>?_
 · generalize hA2:A1++r.bonus.flatMap (Tu wBonus)++r.malus.flatMap (Tu wMalus)=A2
   have hA2l:A2.length=A1.length+(r.bonus.flatMap (Tu wBonus)).length+(r.malus.flatMap (Tu wMalus)).length:=by rw [←hA2,List.length_append,List.length_append]
   refine Wf (env':=[(0,ex (.pointer (some ⟨b,0,none⟩))),(3,fp (Vc k r))]) (loc':=Vv b _ _ A2) (Xg (by repeat (first|exact Xm|refine Xh rfl ?_)) (by subst hA2;exact List.sublist_append_left _ _)) ?_
   (repeat' (first|refine Xf ?_|refine Xb ?_|refine Xd ?_|(apply Xk;exact Ydd;exact rfl)|refine Xp ?_))
   refine W1 (fun z:Nat×Option Addr×Nat=>([(0,ex (.pointer (some ⟨b,0,none⟩))),(3,fp (Vc k r)),(91,isl eTie r.ties),(92,exI .i64 r.ties.length),(93,exI .i64 (z.1:Int))],Vv b z.2.1 z.2.2 (A2++(r.ties.take z.1).flatMap Xev))) (fun z=>z.1≤r.ties.length) (fun z=>r.ties.length-z.1) (0,oaw,cw) ?_ (Nat.zero_le _) fun z hz=>?_
   · exact Xg (by repeat (first|exact Xm|refine Xh rfl ?_)) (by show List.Sublist (Vv b _ _ (A2++[])) _;rw [List.append_nil];exact List.Sublist.refl _)
   obtain ⟨i,oa1,c1⟩:=z
   simp only at hz
   by_cases hi:i<r.ties.length
   · have hb1:=Xim Xev r.ties i hi
     have hb2:=Xcr Xev r.ties i hi
     generalize hA:A2++(r.ties.take i).flatMap Xev=A
     have hAl:A.length=A2.length+((r.ties.take i).flatMap Xev).length:=by rw [←hA,List.length_append]
     (repeat' (first|(apply Vs 21;refine StopW.out ?_)|refine Xf ?_|refine Xb ?_|refine Xd ?_|(apply Xk;exact Ycy;exact rfl)|refine Xp ?_|refine Xs ?_|(apply Xi;exact rfl;first|(apply Wh;refine X7 ?_;intro _)|(apply Xt;refine Xq (k:=0) (l0:=[]) rfl rfl rfl ?_))|(refine Xo rfl (fun hb=>?_) (fun hb=>?_)<;>(repeat (first|replace hb:=X0 hb|replace hb:=X1 hb))<;>(try (exfalso;omega)))))
     refine ⟨?_⟩
     rename_i b7
     refine Wf (Tw (k:=0) (t:=7) rfl rfl) ?_
     refine Wf (env':=[(0,ex (.pointer (some ⟨b,0,none⟩))),(3,fp (Vc k r)),(91,isl eTie r.ties),(92,exI .i64 r.ties.length),(93,exI .i64 (i:Int)),(7,fp (tieV r.ties[i]))]) (loc':=Vv b oa1 c1 A) (Xg (by repeat (first|exact Xm|refine Xh rfl ?_)) Ycf) ?_
     generalize hx:r.ties[i]=x at hb1 hb2
     have hxl:=Xin x
     rw [hxl] at hb1
     (repeat' (first|(apply Vs 22;refine StopW.out ?_)|(apply Xy 103;refine Wj (k:=0) (E:=Tq k) (t:=102) [.s [116,105,101],.nm x.name] rfl rfl rfl rfl ?_ (hc:=by decide) (hby:=by show _ * 16≤140737488355328;decide))|refine Xf ?_|refine Xb ?_|refine Xd ?_|(apply Xk;exact Yb0;exact rfl)|(apply Xi;exact rfl;first|(apply Xn;(refine Xl (.one 0 rfl (.one 0 rfl .nil)) Tryz.func104 rfl (T9 k _ b _ _ _ Yah) rfl ?_;rintro _ _ ⟨oaw,cw,rfl⟩))|(apply X5;(refine Wq rfl Yac ?_);intro _))))
     refine ⟨?_⟩
     refine Uy (fun z:Option Addr×Nat=>([(0,ex (.pointer (some ⟨b,0,none⟩))),(3,fp (Vc k r)),(91,isl eTie r.ties),(92,exI .i64 r.ties.length),(93,exI .i64 (i:Int)),(7,fp (tieV x))],Vv b z.1 z.2 (A++[.s [116,105,101],.nm x.name].flatMap PutV.toks++keysT x.keys))) (fun _=>True) ?_ fun z _=>?_
     · generalize hB:A++[.s [116,105,101],.nm x.name].flatMap PutV.toks=B
       have hBl:B.length=A.length+2:=by rw [←hB,List.length_append];rfl
       refine Wf (env':=[(0,ex (.pointer (some ⟨b,0,none⟩))),(3,fp (Vc k r)),(91,isl eTie r.ties),(92,exI .i64 r.ties.length),(93,exI .i64 (i:Int)),(7,fp (tieV x))]) (loc':=Vv b _ _ B) (Xg (by repeat (first|exact Xm|refine Xh rfl ?_)) (by subst hB;exact List.sublist_append_left _ _)) ?_
       (repeat' (first|refine Xf ?_|refine Xb ?_|refine Xd ?_|(apply Xk;exact Ydd;exact rfl)|refine Xp ?_))
       refine Xmj (t:=105) rfl Ws fun hkl=>?_
       obtain ⟨hkl,-⟩:=hkl
       simp only [maxLen] at hkl
       refine W1 (fun z:Nat×Option Addr×Nat=>([(0,ex (.pointer (some ⟨b,0,none⟩))),(3,fp (Vc k r)),(91,isl eTie r.ties),(92,exI .i64 r.ties.length),(93,exI .i64 (i:Int)),(7,fp (tieV x)),(105,isl eKey x.keys),(106,exI .i64 x.keys.length),(107,exI .i64 (z.1:Int))],Vv b z.2.1 z.2.2 (B++keysT (x.keys.take z.1)))) (fun z=>z.1≤x.keys.length) (fun z=>x.keys.length-z.1) (0,oaw,cw) ?_ (Nat.zero_le _) fun z hz=>?_
       · exact Xg (by repeat (first|exact Xm|refine Xh rfl ?_)) (by show List.Sublist (Vv b _ _ (B++[])) _;rw [List.append_nil];exact List.Sublist.refl _)
       obtain ⟨j,oa3,c3⟩:=z
       simp only at hz
       by_cases hj:j<x.keys.length
       · have hct:=keysT_take x.keys j hj
         have hcl:=keysT_mono x.keys (j+1)
         have hky:=Xjn k x.keys[j] b
         rw [hct] at hcl
         simp only [List.length_append] at hcl
         by_cases hj0:j=0
         · rw [if_pos hj0,List.nil_append] at hct
           rw [if_pos hj0,List.length_nil] at hcl
           have hp:=fun oa c=>hky oa c (B++keysT (x.keys.take j)) Ybh
           rw [List.append_assoc,←hct] at hp
           (repeat' (first|refine Xf ?_|refine Xb ?_|refine Xd ?_|(apply Xk;(first|exact Xe rfl|exact Xj rfl|(apply Vu;first|exact Rq rfl rfl|exact Vl (k:=0) rfl rfl rfl)|exact Ybz|exact Yae);exact rfl)|refine Xp ?_|refine Xs ?_|(apply Xi;exact rfl;first|(apply Xn;(refine Xl (.one 1 rfl (.one 1 rfl .nil)) Tryz.func106 rfl (hp _ _) rfl ?_;rintro _ _ ⟨oa4,c4,rfl⟩))|(apply Wh;refine X7 ?_;intro _)|(apply Xt;refine Xq (k:=0) (l0:=[]) rfl rfl rfl ?_))|(refine Xo rfl (fun hb=>?_) (fun hb=>?_)<;>(repeat (first|replace hb:=X0 hb|replace hb:=X1 hb))<;>(try (exfalso;omega)))))
           all_goals (try (exfalso;omega))
           exact ⟨(j+1,oa4,c4),by show j+1≤x.keys.length;omega,by show x.keys.length-(j+1)<x.keys.length-j;omega,Xg (by repeat (first|exact Xm|refine Xh rfl ?_)) (List.sublist_append_left _ _)⟩
         · rw [if_neg hj0] at hct
           rw [if_neg hj0,List.length_singleton] at hcl
           have hp:=fun oa c=>hky oa c (B++keysT (x.keys.take j)++[tkS sComma]) (by simp only [List.length_append,List.length_singleton];omega)
           rw [show B++keysT (x.keys.take j)++[tkS sComma]++Qj x.keys[j]=B++keysT (x.keys.take (j+1)) by rw [hct];simp only [List.append_assoc]] at hp
           (repeat' (first|(apply Xy 117;refine Wj (k:=0) (E:=Tq k) (t:=116) [.s [44]] rfl rfl rfl rfl ?_ (hc:=by decide) (hby:=by show _ * 16≤140737488355328;decide))|refine Xf ?_|refine Xb ?_|refine Xd ?_|(apply Xk;(first|exact Xe rfl|exact Xj rfl|(apply Vu;first|exact Rq rfl rfl|exact Vl (k:=2) rfl rfl rfl)|exact Ybz|exact Yae|exact Yas);exact rfl)|refine Xp ?_|refine Xs ?_|(apply Xi;exact rfl;first|(apply Xn;first|(refine Xl (.one 1 rfl (.one 1 rfl .nil)) Tryz.func104 rfl (T9 k _ b _ _ _ Yah) rfl ?_;rintro _ _ ⟨_,_,rfl⟩)|(refine Xl (.one 0 rfl (.one 0 rfl .nil)) Tryz.func106 rfl (hp _ _) rfl ?_;rintro _ _ ⟨oa4,c4,rfl⟩))|(apply Wh;refine X7 ?_;intro _)|(apply Xt;refine Xq (k:=0) (l0:=[]) rfl rfl rfl ?_)|(apply X5;(refine Wb rfl rfl ?_);intro _))|(refine Xo rfl (fun hb=>?_) (fun hb=>?_)<;>(repeat (first|replace hb:=X0 hb|replace hb:=X1 hb))<;>(try (exfalso;omega)))))
           all_goals (try (exfalso;omega))
           exact ⟨(j+1,oa4,c4),by show j+1≤x.keys.length;omega,by show x.keys.length-(j+1)<x.keys.length-j;omega,Xg (by repeat (first|exact Xm|refine Xh rfl ?_)) (List.sublist_append_left _ _)⟩
       · (repeat' (first|refine Xf ?_|refine Xb ?_|refine Xd ?_|(apply Xk;(exact Yak);exact rfl)|refine Wy ?_|(refine Xo rfl (fun hb=>?_) (fun hb=>?_)<;>(repeat (first|replace hb:=X0 hb|replace hb:=X1 hb))<;>(try (exfalso;omega)))))
         have hq:j=x.keys.length:=by omega
         subst hq
         refine Wc (Q:=fun _ _ _=>True) (oa3,c3) trivial (Xg (by repeat (first|exact Xm|refine Xh rfl ?_)) (by show List.Sublist (Vv b oa3 c3 (B++keysT x.keys)) (Vv b oa3 c3 (B++keysT (x.keys.take x.keys.length)));rw [List.take_length];exact List.Sublist.refl _))
     obtain ⟨oa2,c2⟩:=z
     simp only
     generalize hA3:A++[.s [116,105,101],.nm x.name].flatMap PutV.toks++keysT x.keys=A3
     have hA3l:A3.length=A.length+2+(keysT x.keys).length:=by rw [←hA3,List.length_append,List.length_append];rfl
     (repeat' (first|(apply Xy 125;refine Wj (k:=0) (E:=Tq k) (t:=124) [.s [59]] rfl rfl rfl rfl ?_ (hc:=by decide) (hby:=by show _ * 16≤140737488355328;decide))|refine Xb ?_|refine Xd ?_|(apply Xk;(first|exact Xe rfl|exact Ycn|exact Yas);exact rfl)|(apply Xi;exact rfl;first|(apply Xn;(refine Xl (.one 0 rfl (.one 0 rfl .nil)) Tryz.func104 rfl (T9 k _ b _ _ _ Yah) rfl ?_;rintro _ _ ⟨oaw,cw,rfl⟩))|(apply X5;(refine Wb rfl rfl ?_);intro _))))
     refine ⟨(i+1,_,_),by show i+1≤r.ties.length;omega,by show r.ties.length-(i+1)<r.ties.length-i;omega,Xg (by repeat (first|exact Xm|refine Xh rfl ?_)) (by show List.Sublist (Vv b _ _ (A2++(r.ties.take (i+1)).flatMap Xev)) _;rw [hb2,←List.append_assoc,hA,show Xev x=[.s [116,105,101],.nm x.name].flatMap PutV.toks++keysT x.keys++[tkS sSemi] from rfl,←List.append_assoc,←List.append_assoc,hA3];exact List.sublist_append_left _ _)⟩
   · (repeat' (first|refine Xf ?_|refine Xb ?_|refine Xd ?_|(apply Xk;(exact Yak);exact rfl)|refine Wy ?_|(refine Xo rfl (fun hb=>?_) (fun hb=>?_)<;>(repeat (first|replace hb:=X0 hb|replace hb:=X1 hb))<;>(try (exfalso;omega)))))
     have hq:i=r.ties.length:=by omega
     subst hq
     refine Wc (Q:=fun _ _ _=>True) (oa1,c1) trivial (Xg (by repeat (first|exact Xm|refine Xh rfl ?_)) (by show List.Sublist (Vv b oa1 c1 (A2++r.ties.flatMap Xev)) (Vv b oa1 c1 (A2++(r.ties.take r.ties.length).flatMap Xev));rw [List.take_length];exact List.Sublist.refl _))
 obtain ⟨oa3,c3⟩:=z
 simp only
 generalize hA3:A1++r.bonus.flatMap (Tu wBonus)++r.malus.flatMap (Tu wMalus)++r.ties.flatMap Xev=A3
 have hA3l:A3.length=A1.length+(r.bonus.flatMap (Tu wBonus)).length+(r.malus.flatMap (Tu wMalus)).length+(r.ties.flatMap Xev).length:=by rw [←hA3];simp only [List.length_append]
 (repeat' (first|(apply Vs 31;refine StopW.out ?_)|refine Xf ?_))
 refine ⟨?_⟩
 refine Uy (fun z:Option Addr×Nat=>([(0,ex (.pointer (some ⟨b,0,none⟩))),(3,fp (Vc k r))],Vv b z.1 z.2 (A3++r.rounds.flatMap roundT))) (fun _=>True) ?_ fun z _=>?_
 · skip
   (repeat' (first|refine Xf ?_|refine Xb ?_|refine Xd ?_|(apply Xk;exact Ydd;exact rfl)|refine Xp ?_))
   refine W1 (fun z:Nat×Option Addr×Nat=>([(0,ex (.pointer (some ⟨b,0,none⟩))),(3,fp (Vc k r)),(128,isl (Vy k) r.rounds),(129,exI .i64 r.rounds.length),(130,exI .i64 (z.1:Int))],Vv b z.2.1 z.2.2 (A3++(r.rounds.take z.1).flatMap roundT))) (fun z=>z.1≤r.rounds.length) (fun z=>r.rounds.length-z.1) (0,oa3,c3) ?_ (Nat.zero_le _) fun z hz=>?_
   · exact Xg (by repeat (first|exact Xm|refine Xh rfl ?_)) (by show List.Sublist (Vv b _ _ (A3++[])) _;rw [List.append_nil];exact List.Sublist.refl _)
   obtain ⟨i,oa1,c1⟩:=z
   simp only at hz
   by_cases hi:i<r.rounds.length
   · have hb1:=Xim roundT r.rounds i hi
     have hb2:=Xcr roundT r.rounds i hi
     generalize hA:A3++(r.rounds.take i).flatMap roundT=A
     have hAl:A.length=A3.length+((r.rounds.take i).flatMap roundT).length:=by rw [←hA,List.length_append]
     (repeat' (first|(apply Vs 34;refine StopW.out ?_)|refine Xf ?_|refine Xb ?_|refine Xd ?_|(apply Xk;exact Ycy;exact rfl)|refine Xp ?_|refine Xs ?_|(apply Xi;exact rfl;first|(apply Wh;refine X7 ?_;intro _)|(apply Xt;refine Xq (k:=0) (l0:=[]) rfl rfl rfl ?_))|(refine Xo rfl (fun hb=>?_) (fun hb=>?_)<;>(repeat (first|replace hb:=X0 hb|replace hb:=X1 hb))<;>(try (exfalso;omega)))))
     refine ⟨?_⟩
     rename_i b11
     refine Wf (Tw (k:=0) (t:=11) rfl rfl) ?_
     refine Wf (env':=[(0,ex (.pointer (some ⟨b,0,none⟩))),(3,fp (Vc k r)),(128,isl (Vy k) r.rounds),(129,exI .i64 r.rounds.length),(130,exI .i64 (i:Int)),(11,fp (W3 k r.rounds[i]))]) (loc':=Vv b oa1 c1 A) (Xg (by repeat (first|exact Xm|refine Xh rfl ?_)) Ycf) ?_
     generalize hx:r.rounds[i]=x at hb1 hb2
     have hxl:=Xds x
     rw [hxl] at hb1
     (repeat' (first|(apply Vs 35;refine StopW.out ?_)|(apply Xy 148;refine Wj (k:=0) (E:=Tq k) (t:=147) [.s [114,111,117,110,100],.nm x.name,.s [112,97,110,101,108],.i x.panel,.s [113,117,111,116,97],.i x.quota] rfl rfl rfl rfl ?_ (hc:=by decide) (hby:=by show _ * 16≤140737488355328;decide))|refine Xf ?_|refine Xb ?_|refine Xd ?_|(apply Xk;exact Yb0;exact rfl)|(apply Xi;exact rfl;first|(apply Xn;(refine Xl (.one 0 rfl (.one 0 rfl .nil)) Tryz.func104 rfl (T9 k _ b _ _ _ Yah) rfl ?_;rintro _ _ ⟨oaw,cw,rfl⟩))|(apply X5;(refine Wq rfl Yac ?_);intro _))))
     refine ⟨?_⟩
     generalize hB0:A++[.s [114,111,117,110,100],.nm x.name,.s [112,97,110,101,108],.i x.panel,.s [113,117,111,116,97],.i x.quota].flatMap PutV.toks=B0
     have hB0l:B0.length=A.length+6:=by rw [←hB0,List.length_append];rfl
     refine Wf (env':=[(0,ex (.pointer (some ⟨b,0,none⟩))),(3,fp (Vc k r)),(128,isl (Vy k) r.rounds),(129,exI .i64 r.rounds.length),(130,exI .i64 (i:Int)),(11,fp (W3 k x))]) (loc':=Vv b _ _ B0) (Xg (by repeat (first|exact Xm|refine Xh rfl ?_)) (by subst hB0;exact List.sublist_append_left _ _)) ?_
     (repeat' (first|(apply Xi;exact rfl;apply Xai;refine R0 (κ:=Int) ?_;intro _)|(apply Xi;exact rfl;apply Wo;refine Wa (κ:=Int) (j:=0) (.inr rfl) rfl rfl rfl rfl rfl rfl ⟨_,rfl⟩ ?_)|(apply Vs 36;refine StopW.out ?_)|refine Xf ?_|refine Xb ?_|refine Xd ?_|(apply Xk;exact Ya0;exact rfl)))
     refine ⟨?_⟩
     refine Uy (fun z:Option Addr×Nat=>([(0,ex (.pointer (some ⟨b,0,none⟩))),(3,fp (Vc k r)),(128,isl (Vy k) r.rounds),(129,exI .i64 r.rounds.length),(130,exI .i64 (i:Int)),(11,fp (W3 k x))],Vv b z.1 z.2 (B0++Xhl x.cut))) (fun _=>True) ?_ fun z _=>?_
     · by_cases h1:x.cut=1
       · skip
         have hh:Xhl x.cut=[.s [111,118,101,114]].flatMap PutV.toks:=by unfold Xhl;rw [if_pos h1];rfl
         rw [hh] at hb1
         simp only [List.flatMap_cons,List.flatMap_nil,PutV.toks,List.length_append,List.length_cons,List.length_nil] at hb1
         (repeat' (first|(apply Xk;(apply Vd;exact V0 (κ:=Int) (j:=0) rfl rfl rfl (by rw [h1];rfl) rfl rfl ⟨_,rfl⟩ trivial);exact rfl)|(apply Xy 163;refine Wj (k:=0) (E:=Tq k) (t:=162) [.s [111,118,101,114]] rfl rfl rfl rfl ?_ (hc:=by decide) (hby:=by show _ * 16≤140737488355328;decide))|refine Xf ?_|refine Xb ?_|refine Xd ?_|(apply Xk;exact Yc5;exact rfl)|refine Xx rfl ?_|(apply Xi;exact rfl;first|(apply Xn;(refine Xl (.one 1 rfl (.one 1 rfl .nil)) Tryz.func104 rfl (T9 k _ b _ _ _ Yah) rfl ?_;rintro _ _ ⟨oaw,cw,rfl⟩))|(apply X5;(refine Wb rfl rfl ?_);intro _))))
         all_goals (try (exfalso;omega))
         all_goals (refine Wc (Q:=fun _ _ _=>True) (_,_) trivial (Xg (by repeat (first|exact Xm|refine Xh rfl ?_)) Ycd))
       by_cases h2:x.cut=2
       · skip
         have hh:Xhl x.cut=[.s [117,110,100,101,114]].flatMap PutV.toks:=by unfold Xhl;rw [if_neg h1,if_pos h2];rfl
         rw [hh] at hb1
         simp only [List.flatMap_cons,List.flatMap_nil,PutV.toks,List.length_append,List.length_cons,List.length_nil] at hb1
         (repeat' (first|(apply Xk;(apply Vd;exact V0 (κ:=Int) (j:=0) rfl rfl rfl (by rw [h2];rfl) rfl rfl ⟨_,rfl⟩ trivial);exact rfl)|(apply Xy 163;refine Wj (k:=0) (E:=Tq k) (t:=162) [.s [117,110,100,101,114]] rfl rfl rfl rfl ?_ (hc:=by decide) (hby:=by show _ * 16≤140737488355328;decide))|refine Xf ?_|refine Xb ?_|refine Xd ?_|(apply Xk;exact Yc5;exact rfl)|refine Xx rfl ?_|(apply Xi;exact rfl;first|(apply Xn;(refine Xl (.one 1 rfl (.one 1 rfl .nil)) Tryz.func104 rfl (T9 k _ b _ _ _ Yah) rfl ?_;rintro _ _ ⟨oaw,cw,rfl⟩))|(apply X5;(refine Wb rfl rfl ?_);intro _))))
         all_goals (try (exfalso;omega))
         all_goals (refine Wc (Q:=fun _ _ _=>True) (_,_) trivial (Xg (by repeat (first|exact Xm|refine Xh rfl ?_)) Ycd))
       · skip
         have hh:Xhl x.cut=[.s [108,111,116,115]].flatMap PutV.toks:=by unfold Xhl;rw [if_neg h1,if_neg h2];rfl
         rw [hh] at hb1
         simp only [List.flatMap_cons,List.flatMap_nil,PutV.toks,List.length_append,List.length_cons,List.length_nil] at hb1
         (repeat' (first|(apply Xk;(apply Vd;exact Ti (κ:=Int) (j:=0) rfl rfl rfl (by simp only [Xd8,Uq,Int.reduceEq,if_false];rw [if_neg h1,if_neg h2]) rfl rfl ⟨_,rfl⟩ trivial);exact rfl)|(apply Xy 167;refine Wj (k:=0) (E:=Tq k) (t:=166) [.s [108,111,116,115]] rfl rfl rfl rfl ?_ (hc:=by decide) (hby:=by show _ * 16≤140737488355328;decide))|refine Xf ?_|refine Xb ?_|refine Xd ?_|(apply Xk;exact Yc5;exact rfl)|refine X2 rfl ?_|(apply Xi;exact rfl;first|(apply Xn;(refine Xl (.one 1 rfl (.one 1 rfl .nil)) Tryz.func104 rfl (T9 k _ b _ _ _ Yah) rfl ?_;rintro _ _ ⟨oaw,cw,rfl⟩))|(apply X5;(refine Wb rfl rfl ?_);intro _))))
         all_goals (try (exfalso;omega))
         all_goals (refine Wc (Q:=fun _ _ _=>True) (_,_) trivial (Xg (by repeat (first|exact Xm|refine Xh rfl ?_)) Ycd))
     obtain ⟨oa2,c2⟩:=z
     simp only
     generalize hB1:B0++Xhl x.cut=B1
     have hB1l:B1.length=B0.length+(Xhl x.cut).length:=by rw [←hB1,List.length_append]
     (repeat' (first|(apply Vs 40;refine StopW.out ?_)|refine Xf ?_))
     refine ⟨?_⟩
     refine Uy (fun z:Option Addr×Nat=>([(0,ex (.pointer (some ⟨b,0,none⟩))),(3,fp (Vc k r)),(128,isl (Vy k) r.rounds),(129,exI .i64 r.rounds.length),(130,exI .i64 (i:Int)),(11,fp (W3 k x))],Vv b z.1 z.2 (B1++Xbk x))) (fun _=>True) ?_ fun z _=>?_
     · cases hr:x.free
       · have hh:Xbk x=[]:=by unfold Xbk;rw [hr];rfl
         (repeat' (first|refine Xf ?_|refine Xb ?_|refine Xd ?_|(apply Xk;exact Yb0;exact rfl)|refine Xs ?_|(apply Xi;exact rfl;(apply X5;(refine Wb rfl rfl ?_);intro _))|(refine Xo rfl (fun hb=>?_) (fun hb=>?_)<;>(repeat (fail))<;>(try (exfalso;fail)))))
         all_goals (try (exfalso;simp_all;done))
         all_goals (refine Wc (Q:=fun _ _ _=>True) (_,_) trivial (Xg (by repeat (first|exact Xm|refine Xh rfl ?_)) (by show List.Sublist (Vv b _ _ (B1++Xbk x)) _;rw [hh,List.append_nil];exact List.Sublist.refl _)))
       · have hh:Xbk x=[.s [102,114,101,101]].flatMap PutV.toks:=by unfold Xbk;rw [hr];rfl
         rw [hh] at hb1
         simp only [List.flatMap_cons,List.flatMap_nil,PutV.toks,List.length_append,List.length_cons,List.length_nil] at hb1
         (repeat' (first|(apply Xy 173;refine Wj (k:=0) (E:=Tq k) (t:=172) [.s [102,114,101,101]] rfl rfl rfl rfl ?_ (hc:=by decide) (hby:=by show _ * 16≤140737488355328;decide))|refine Xf ?_|refine Xb ?_|refine Xd ?_|(apply Xk;exact Yb0;exact rfl)|refine Xs ?_|(apply Xi;exact rfl;first|(apply Xn;(refine Xl (.one 0 rfl (.one 0 rfl .nil)) Tryz.func104 rfl (T9 k _ b _ _ _ Yah) rfl ?_;rintro _ _ ⟨oaw,cw,rfl⟩))|(apply X5;(refine Wb rfl rfl ?_);intro _))|(refine Xo rfl (fun hb=>?_) (fun hb=>?_)<;>(repeat (fail))<;>(try (exfalso;fail)))))
         all_goals (try (exfalso;simp_all;done))
         all_goals (refine Wc (Q:=fun _ _ _=>True) (_,_) trivial (Xg (by repeat (first|exact Xm|refine Xh rfl ?_)) (by show List.Sublist (Vv b _ _ (B1++Xbk x)) _;rw [hh];first|exact List.sublist_append_left _ _|exact List.Sublist.refl _)))
     obtain ⟨oa3,c3⟩:=z
     simp only
     generalize hB2:B1++Xbk x=B2
     have hB2l:B2.length=B1.length+(Xbk x).length:=by rw [←hB2,List.length_append]
     (repeat' (first|(apply Vs 42;refine StopW.out ?_)|refine Xf ?_))
     refine ⟨?_⟩
     refine Uy (fun z:Option Addr×Nat=>([(0,ex (.pointer (some ⟨b,0,none⟩))),(3,fp (Vc k r)),(128,isl (Vy k) r.rounds),(129,exI .i64 r.rounds.length),(130,exI .i64 (i:Int)),(11,fp (W3 k x))],Vv b z.1 z.2 (B2++plT x))) (fun _=>True) ?_ fun z _=>?_
     · cases hr:x.places
       · have hh:plT x=[.s [115,99,111,114,101],.xx x.score].flatMap PutV.toks:=by unfold plT;rw [hr];show _=sT [115,99,111,114,101]::(exT' x.score++[]);rw [List.append_nil];rfl
         rw [hh] at hb1
         simp only [List.flatMap_cons,List.flatMap_nil,PutV.toks,List.length_append,List.length_cons,List.length_nil] at hb1
         (repeat' (first|(apply Xy 186;refine Wj (k:=0) (E:=Tq k) (t:=185) [.s [115,99,111,114,101],.xx x.score] rfl rfl rfl rfl ?_ (hc:=by decide) (hby:=by show _ * 16≤140737488355328;decide))|refine Xf ?_|refine Xb ?_|refine Xd ?_|(apply Xk;(first|exact Xe rfl|exact Yc2|exact Yaj|exact Yas);exact rfl)|(apply Xi;exact rfl;first|(apply Xn;(refine Xl (.one 0 rfl (.one 0 rfl .nil)) Tryz.func104 rfl (T9 k _ b _ _ _ Yah) rfl ?_;rintro _ _ ⟨oaw,cw,rfl⟩))|(apply X5;(first|refine Wb rfl rfl ?_|refine Wq rfl Yac ?_);intro _))|(refine Xo rfl (fun hb=>?_) (fun hb=>?_)<;>(repeat (fail))<;>(try (exfalso;fail)))))
         all_goals (try (exfalso;simp_all;done))
         all_goals (refine Wc (Q:=fun _ _ _=>True) (_,_) trivial (Xg (by repeat (first|exact Xm|refine Xh rfl ?_)) Yds))
       · have hh:plT x=[.s [112,108,97,99,101,115]].flatMap PutV.toks:=by unfold plT;rw [hr];rfl
         rw [hh] at hb1
         simp only [List.flatMap_cons,List.flatMap_nil,PutV.toks,List.length_append,List.length_cons,List.length_nil] at hb1
         (repeat' (first|(apply Xy 179;refine Wj (k:=0) (E:=Tq k) (t:=178) [.s [112,108,97,99,101,115]] rfl rfl rfl rfl ?_ (hc:=by decide) (hby:=by show _ * 16≤140737488355328;decide))|refine Xf ?_|refine Xb ?_|refine Xd ?_|(apply Xk;(first|exact Xe rfl|exact Yc2|exact Yaj|exact Yas);exact rfl)|(apply Xi;exact rfl;first|(apply Xn;(refine Xl (.one 0 rfl (.one 0 rfl .nil)) Tryz.func104 rfl (T9 k _ b _ _ _ Yah) rfl ?_;rintro _ _ ⟨oaw,cw,rfl⟩))|(apply X5;(first|refine Wb rfl rfl ?_|refine Wq rfl Yac ?_);intro _))|(refine Xo rfl (fun hb=>?_) (fun hb=>?_)<;>(repeat (fail))<;>(try (exfalso;fail)))))
         all_goals (try (exfalso;simp_all;done))
         all_goals (refine Wc (Q:=fun _ _ _=>True) (_,_) trivial (Xg (by repeat (first|exact Xm|refine Xh rfl ?_)) Yds))
     obtain ⟨oa4,c4⟩:=z
     simp only
     generalize hB3:B2++plT x=B3
     have hB3l:B3.length=B2.length+(plT x).length:=by rw [←hB3,List.length_append]
     (repeat' (first|(apply Vs 45;refine StopW.out ?_)|refine Xf ?_))
     refine ⟨?_⟩
     refine Uy (fun z:Option Addr×Nat=>([(0,ex (.pointer (some ⟨b,0,none⟩))),(3,fp (Vc k r)),(128,isl (Vy k) r.rounds),(129,exI .i64 r.rounds.length),(130,exI .i64 (i:Int)),(11,fp (W3 k x))],Vv b z.1 z.2 (B3++tiT x))) (fun _=>True) ?_ fun z _=>?_
     · by_cases h1:x.tieNo=0
       · have hh:tiT x=[.s [116,105,101],.nm x.tie].flatMap PutV.toks:=by unfold tiT;rw [if_pos h1];rfl
         rw [hh] at hb1
         simp only [List.flatMap_cons,List.flatMap_nil,PutV.toks,List.length_append,List.length_cons,List.length_nil] at hb1
         (repeat' (first|(apply Xy 196;refine Wj (k:=0) (E:=Tq k) (t:=195) [.s [116,105,101],.nm x.tie] rfl rfl rfl rfl ?_ (hc:=by decide) (hby:=by show _ * 16≤140737488355328;decide))|refine Xf ?_|refine Xb ?_|refine Xd ?_|(apply Xk;(first|exact Xe rfl|exact Yag|exact Yaj|exact Ybc|exact Yas);exact rfl)|(apply Xi;exact rfl;first|(apply Xn;(refine Xl (.one 0 rfl (.one 0 rfl .nil)) Tryz.func104 rfl (T9 k _ b _ _ _ Yah) rfl ?_;rintro _ _ ⟨oaw,cw,rfl⟩))|(apply X5;(refine Wq rfl Yac ?_);intro _))|(refine Xo rfl (fun hb=>?_) (fun hb=>?_)<;>(repeat (first|replace hb:=X0 hb|replace hb:=X1 hb))<;>(try (exfalso;contradiction)))))
         all_goals (try (exfalso;omega))
         all_goals (refine Wc (Q:=fun _ _ _=>True) (_,_) trivial (Xg (by repeat (first|exact Xm|refine Xh rfl ?_)) (by show List.Sublist (Vv b _ _ (B3++tiT x)) _;rw [hh];first|exact List.sublist_append_left _ _|exact List.Sublist.refl _)))
       · have hh:tiT x=[]:=by unfold tiT;rw [if_neg h1]
         (repeat' (first|refine Xf ?_|refine Xb ?_|refine Xd ?_|(apply Xk;(first|exact Yag|exact Yaj|exact Ybc);exact rfl)|refine Xs ?_|(refine Xo rfl (fun hb=>?_) (fun hb=>?_)<;>(repeat (first|replace hb:=X0 hb|replace hb:=X1 hb))<;>(try (exfalso;contradiction)))))
         all_goals (try (exfalso;omega))
         all_goals (refine Wc (Q:=fun _ _ _=>True) (_,_) trivial (Xg (by repeat (first|exact Xm|refine Xh rfl ?_)) (by show List.Sublist (Vv b _ _ (B3++tiT x)) _;rw [hh,List.append_nil];exact List.Sublist.refl _)))
     obtain ⟨oa5,c5⟩:=z
     simp only
     generalize hB4:B3++tiT x=B4
     have hB4l:B4.length=B3.length+(tiT x).length:=by rw [←hB4,List.length_append]
     (repeat' (first|(apply Xy 200;refine Wj (k:=0) (E:=Tq k) (t:=199) [.s [59]] rfl rfl rfl rfl ?_ (hc:=by decide) (hby:=by show _ * 16≤140737488355328;decide))|refine Xb ?_|refine Xd ?_|(apply Xk;(first|exact Xe rfl|exact Ycn|exact Yas);exact rfl)|(apply Xi;exact rfl;first|(apply Xn;(refine Xl (.one 0 rfl (.one 0 rfl .nil)) Tryz.func104 rfl (T9 k _ b _ _ _ Yah) rfl ?_;rintro _ _ ⟨oaw,cw,rfl⟩))|(apply X5;(refine Wb rfl rfl ?_);intro _))))
     refine ⟨(i+1,_,_),by show i+1≤r.rounds.length;omega,by show r.rounds.length-(i+1)<r.rounds.length-i;omega,Xg (by repeat (first|exact Xm|refine Xh rfl ?_)) (by show List.Sublist (Vv b _ _ (A3++(r.rounds.take (i+1)).flatMap roundT)) _;rw [hb2,←List.append_assoc,hA,show roundT x=[.s [114,111,117,110,100],.nm x.name,.s [112,97,110,101,108],.i x.panel,.s [113,117,111,116,97],.i x.quota].flatMap PutV.toks++Xhl x.cut++Xbk x++plT x++tiT x++[tkS sSemi] from rfl,←List.append_assoc,←List.append_assoc,←List.append_assoc,←List.append_assoc,←List.append_assoc,hB0,hB1,hB2,hB3,hB4];exact List.sublist_append_left _ _)⟩
   · (repeat' (first|refine Xf ?_|refine Xb ?_|refine Xd ?_|(apply Xk;(exact Yak);exact rfl)|refine Wy ?_|(refine Xo rfl (fun hb=>?_) (fun hb=>?_)<;>(repeat (first|replace hb:=X0 hb|replace hb:=X1 hb))<;>(try (exfalso;omega)))))
     have hq:i=r.rounds.length:=by omega
     subst hq
     refine Wc (Q:=fun _ _ _=>True) (oa1,c1) trivial (Xg (by repeat (first|exact Xm|refine Xh rfl ?_)) (by show List.Sublist (Vv b oa1 c1 (A3++r.rounds.flatMap roundT)) (Vv b oa1 c1 (A3++(r.rounds.take r.rounds.length).flatMap roundT));rw [List.take_length];exact List.Sublist.refl _))
 obtain ⟨oa4,c4⟩:=z
 simp only
 generalize hA4:A3++r.rounds.flatMap roundT=A4
 have hA4l:A4.length=A3.length+(r.rounds.flatMap roundT).length:=by rw [←hA4,List.length_append]
 (repeat' (first|(apply Vs 49;refine StopW.out ?_)|refine Xf ?_))
 refine ⟨?_⟩
 refine Uy (fun z:Option Addr×Nat=>([(0,ex (.pointer (some ⟨b,0,none⟩))),(3,fp (Vc k r))],Vv b z.1 z.2 (A4++Xio r.prizes))) (fun _=>True) ?_ fun z _=>?_
 · by_cases h1:r.prizes=[]
   · have hh:Xio r.prizes=[]:=by unfold Xio;rw [if_pos h1]
     have hl0:r.prizes.length=0:=by rw [h1];rfl
     (repeat' (first|refine Xf ?_|refine Xb ?_|refine Xd ?_|(apply Xk;(first|exact Yag|exact Yaj|exact Ybo|exact Yaq);exact rfl)|refine Xs ?_|(refine Xo rfl (fun hb=>?_) (fun hb=>?_)<;>(repeat (first|replace hb:=X0 hb|replace hb:=X1 hb))<;>(try (exfalso;omega)))))
     all_goals (try (exfalso;omega))
     all_goals (refine Wc (Q:=fun _ _ _=>True) (_,_) trivial (Xg (by repeat (first|exact Xm|refine Xh rfl ?_)) (by show List.Sublist (Vv b _ _ (A4++Xio r.prizes)) _;rw [hh,List.append_nil];exact List.Sublist.refl _)))
   · have hh:Xio r.prizes=[.s [112,114,105,122,101,115],.il r.prizes,.s [59]].flatMap PutV.toks:=by unfold Xio;rw [if_neg h1];rfl
     have hl0:r.prizes.length≠0:=fun e=>h1 (List.length_eq_zero_iff.1 e)
     rw [hh] at hlen
     simp only [List.flatMap_cons,List.flatMap_nil,PutV.toks,List.length_append,List.length_cons,List.length_nil] at hlen
     (repeat' (first|(apply Xy 213;refine Wj (k:=0) (E:=Tq k) (t:=212) [.s [112,114,105,122,101,115],.il r.prizes,.s [59]] rfl rfl rfl rfl ?_ (hc:=by decide) (hby:=by show _ * 16≤140737488355328;decide))|refine Xf ?_|refine Xb ?_|refine Xd ?_|(apply Xk;(first|exact Xe rfl|exact Yag|exact Yaj|exact Ybo|exact Yaq|exact Yas);exact rfl)|(apply Xi;exact rfl;first|(apply Xn;(refine Xl (.one 0 rfl (.one 0 rfl .nil)) Tryz.func104 rfl (T9 k _ b _ _ _ Yah) rfl ?_;rintro _ _ ⟨oaw,cw,rfl⟩))|(apply X5;(refine Wq rfl Yac ?_);intro _))|(refine Xo rfl (fun hb=>?_) (fun hb=>?_)<;>(repeat (first|replace hb:=X0 hb|replace hb:=X1 hb))<;>(try (exfalso;omega)))))
     all_goals (try (exfalso;omega))
     all_goals (refine Wc (Q:=fun _ _ _=>True) (_,_) trivial (Xg (by repeat (first|exact Xm|refine Xh rfl ?_)) (by show List.Sublist (Vv b _ _ (A4++Xio r.prizes)) _;rw [hh];first|exact List.sublist_append_left _ _|exact List.Sublist.refl _)))
 obtain ⟨oa5,c5⟩:=z
 simp only
 generalize hA5:A4++Xio r.prizes=A5
 have hA5l:A5.length=A4.length+(Xio r.prizes).length:=by rw [←hA5,List.length_append]
 have hEnd:acc++([tkW wCompetition,tkW r.name,tkS sSemi]++r.crits.flatMap Ry++r.bonus.flatMap (Tu wBonus)++r.malus.flatMap (Tu wMalus)++r.ties.flatMap Xev++r.rounds.flatMap roundT++Xio r.prizes++Xnu r.points r.best)=A5++Xnu r.points r.best:=by
   rw [←hA5,←hA4,←hA3,←hA1];simp only [List.append_assoc]
 rw [hEnd]
 by_cases h1:r.points=[]
 · have hh:Xnu r.points r.best=[]:=by unfold Xnu;rw [if_pos h1]
   have hl0:r.points.length=0:=by rw [h1];rfl
   (repeat' (first|refine Xf ?_|refine Xb ?_|refine Xd ?_|(apply Xk;(first|exact Yag|exact Yaj|exact Ybo|exact Yaq);exact rfl)|refine Xs ?_|(refine Xo rfl (fun hb=>?_) (fun hb=>?_)<;>(repeat (first|replace hb:=X0 hb|replace hb:=X1 hb))<;>(try (exfalso;omega)))))
   all_goals (try (exfalso;omega))
   all_goals (exact ⟨.inl rfl,Rn (loc':=Vv b _ _ _) rfl (List.Sublist.refl _) ⟨_,_,by rw [hh,List.append_nil]⟩⟩)
 · have hh:Xnu r.points r.best=[.s [112,111,105,110,116,115],.il r.points,.s [98,101,115,116],.i r.best,.s [59]].flatMap PutV.toks:=by unfold Xnu;rw [if_neg h1];rfl
   have hl0:r.points.length≠0:=fun e=>h1 (List.length_eq_zero_iff.1 e)
   rw [hh] at hlen ⊢
   simp only [List.flatMap_cons,List.flatMap_nil,PutV.toks,List.length_append,List.length_cons,List.length_nil] at hlen
   (repeat' (first|(apply Xy 229;refine Wj (k:=0) (E:=Tq k) (t:=228) [.s [112,111,105,110,116,115],.il r.points,.s [98,101,115,116],.i r.best,.s [59]] rfl rfl rfl rfl ?_ (hc:=by decide) (hby:=by show _ * 16≤140737488355328;decide))|refine Xf ?_|refine Xb ?_|refine Xd ?_|(apply Xk;(first|exact Xe rfl|exact Yag|exact Yaj|exact Ybo|exact Yaq|exact Yas);exact rfl)|(apply Xi;exact rfl;first|(apply Xn;(refine Xl (.one 0 rfl (.one 0 rfl .nil)) Tryz.func104 rfl (T9 k _ b _ _ _ Yah) rfl ?_;rintro _ _ ⟨oaw,cw,rfl⟩))|(apply X5;(refine Wq rfl Yac ?_);intro _))|(refine Xo rfl (fun hb=>?_) (fun hb=>?_)<;>(repeat (first|replace hb:=X0 hb|replace hb:=X1 hb))<;>(try (exfalso;omega)))))
   all_goals (try (exfalso;omega))
   all_goals (exact ⟨.inl rfl,Rn (loc':=Vv b _ _ _) rfl (List.sublist_append_left _ _) ⟨_,_,rfl⟩⟩)
end Go.Proofs.YthdldeenpgeemaaGreatDoor
namespace Go.Proofs.YthdldeenpgeemaaGreatDoor
open Go Go.RowKit Go.Kx Go.Fr Go.Lx Go.Sx
theorem Xg2 (k:Nat) (r:RulesD) (hlen:(Uh r).length≤70000):FnC Tryz.prog 15 [agg (Vc k r)] [Lab] (fun p loc=>p=Xmq (Xd0 r)∧loc=[]):=by
 have hT:=Xmr (Uh r)
 have hR:=Xd4 (Uh r) 0 hlen
 refine X4 Tryz.func15 rfl Tryz.ntmps15 rfl fun w0 F0 out=>?_
 (repeat' (first|(apply Vs 2;refine StopW.out ?_)|refine Xf ?_|refine Xb ?_|refine Xd ?_|(apply Xk;(first|exact Xj rfl|exact Yca);exact rfl)|(apply Xi;exact rfl;(apply U7;refine V2 rfl ?_;intro _))))
 refine ⟨?_⟩
 rename_i b1 b9
 refine Wf (env':=[(1,ex (.pointer (some ⟨b1,0,none⟩))),(2,exT []),(3,exI .i64 0),(4,ex (.pointer (some ⟨b9,0,none⟩)))]) (loc':=[row b9 80 1 [ex (.slice none 0 0)],row b1 29 9 (Vc k r),Lab]) (Xg (by repeat (first|exact Xm|refine Xh rfl ?_)) (List.Sublist.refl _)) ?_
 refine Wf (Tw (k:=1) (t:=1) rfl rfl) ?_
 refine Wf (env':=[(1,fp (Vc k r)),(2,exT []),(3,exI .i64 0),(4,ex (.pointer (some ⟨b9,0,none⟩)))]) (loc':=Vv b9 none 0 []++[Lab]) ?_ ?_
 · exact Tc 40 4 ((Vj (.swap _ _ _)).trans (Xg (by repeat (first|exact Xm|refine Xh rfl ?_)) (List.Sublist.refl _)))
 (repeat' (first|(apply Vs 3;refine StopW.out ?_)|refine Xf ?_|refine Xb ?_|refine Xd ?_|(apply Xk;(first|exact Xe rfl|exact Yau);exact rfl)|(apply Xi;exact rfl;(apply Xn;(refine Xl (.one 0 rfl (.one 0 rfl .nil)) Tryz.func36 rfl (Xfr k r b9 none 0 [] (by simpa using hlen)) rfl ?_;rintro _ _ ⟨oa,c,rfl⟩)))))
 refine ⟨?_⟩
 refine Wf (env':=[(1,fp (Vc k r)),(2,exT []),(3,exI .i64 0),(4,ex (.pointer (some ⟨b9,0,none⟩)))]) (loc':=Vv b9 oa c (Uh r)++[Lab]) (Xg (by repeat (first|exact Xm|refine Xh rfl ?_)) (List.Sublist.refl _)) ?_
 unfold Vv
 refine Wf (Vo (j:=1) (k:=0) (i:=0) (E:=eTok) (Uh r) rfl rfl rfl rfl rfl rfl (hby:=by show _ * 40≤_;omega)) ?_
 refine Wf (env':=[(1,fp (Vc k r)),(2,exT []),(3,exI .i64 0),(4,ex (.pointer (some ⟨b9,0,none⟩)))]) (loc':=[row b9 80 1 [isl eTok (Uh r)],Lab]) (Xg (by repeat (first|exact Xm|refine Xh rfl ?_)) (List.Sublist.refl _)) ?_
 unfold Xd0
 by_cases hv:(Uh r).all V7=true
 · have e1:Xdq (Uh r)=(joinF ((Uh r).map word),0):=by unfold Xdq;rw [if_pos hv]
   rw [e1] at hT
   rw [hv,Bool.true_and]
   generalize Qg (Uh r) 0=z at hR ⊢
   by_cases h0:z.2.2=0
   · by_cases h1:z.1=r
     · rw [if_pos (by simp [h0,h1])]
       (repeat' (first|refine Xf ?_|refine Xb ?_|refine Xd ?_|(apply Xk;exact Ydb;exact rfl)|(apply Vh;exact rfl;exact rfl;exact rfl;(first|exact Yco|exact Yaw);exact rfl)|refine Xs ?_|refine Xz ?_|refine X2 rfl ?_|(apply Xi;exact rfl;first|(apply Xn;first|(refine Xl (.dup 1 rfl rfl .nil) Tryz.func19 rfl hT rfl ?_;rintro _ _ ⟨rfl,rfl⟩)|(refine X9 Tryz.func28 rfl hR rfl ?_;rintro _ _ ⟨⟨k2,rfl⟩,rfl⟩))|(apply Wh;refine X7 ?_;intro _)|(apply Xt;refine Xq (k:=0) (l0:=[]) rfl rfl rfl ?_))|(apply Vt;exact rfl;exact rfl;exact rfl;exact rfl;(apply Xn;(refine X9 Tryz.func37 rfl (Xdz _ _ _ _) rfl ?_;rintro _ _ ⟨rfl,rfl⟩)))|(refine W0 rfl rfl (fun hb=>?_) (fun hb=>?_)<;>(repeat (first|replace hb:=X0 hb|replace hb:=X1 hb|replace hb:=Vf hb|replace hb:=Vg hb))<;>(try (exfalso;contradiction)))|(refine Xo rfl (fun hb=>?_) (fun hb=>?_)<;>(repeat (first|replace hb:=X0 hb|replace hb:=X1 hb|replace hb:=Vf hb|replace hb:=Vg hb))<;>(try (exfalso;contradiction)))))
       all_goals (try (exfalso;first|contradiction|omega))
       all_goals (exact ⟨.inr rfl,Xkw rfl (.tmp rfl) (.tmp rfl) (List.nil_sublist _) ⟨rfl,rfl⟩⟩)
     · rw [if_neg (by simp [h1])]
       (repeat' (first|refine Xf ?_|refine Xb ?_|refine Xd ?_|(apply Xk;exact Ydb;exact rfl)|(apply Vh;exact rfl;exact rfl;exact rfl;(first|exact Yco|exact Yaw);exact rfl)|refine Xs ?_|refine Xz ?_|refine X2 rfl ?_|(apply Xi;exact rfl;first|(apply Xn;first|(refine Xl (.dup 1 rfl rfl .nil) Tryz.func19 rfl hT rfl ?_;rintro _ _ ⟨rfl,rfl⟩)|(refine X9 Tryz.func28 rfl hR rfl ?_;rintro _ _ ⟨⟨k2,rfl⟩,rfl⟩))|(apply Wh;refine X7 ?_;intro _)|(apply Xt;refine Xq (k:=0) (l0:=[]) rfl rfl rfl ?_))|(apply Vt;exact rfl;exact rfl;exact rfl;exact rfl;(apply Xn;(refine X9 Tryz.func37 rfl (Xdz _ _ _ _) rfl ?_;rintro _ _ ⟨rfl,rfl⟩)))|(refine W0 rfl rfl (fun hb=>?_) (fun hb=>?_)<;>(repeat (first|replace hb:=X0 hb|replace hb:=X1 hb|replace hb:=Vf hb|replace hb:=Vg hb))<;>(try (exfalso;contradiction)))|(refine Xo rfl (fun hb=>?_) (fun hb=>?_)<;>(repeat (first|replace hb:=X0 hb|replace hb:=X1 hb|replace hb:=Vf hb|replace hb:=Vg hb))<;>(try (exfalso;contradiction)))))
       all_goals (try (exfalso;first|contradiction|omega))
       all_goals (exact ⟨.inr rfl,Xkw rfl (.tmp rfl) (.tmp rfl) (List.nil_sublist _) ⟨rfl,rfl⟩⟩)
   · rw [if_neg (by simp [h0])]
     (repeat' (first|refine Xf ?_|refine Xb ?_|refine Xd ?_|(apply Xk;(first|exact Xe rfl|exact Xj rfl|exact Wk (b:=true) rfl (fun _=>rfl) (fun e=>by cases e)|exact Ybw|exact Yaf|exact Yad|exact Ybi|exact Yam);exact rfl)|(refine Ve rfl rfl rfl rfl rfl ?_)|refine Xs ?_|refine Xz ?_|refine Xx rfl ?_|refine X2 rfl ?_|(apply Xi;exact rfl;first|(apply Xn;first|(refine Xl (.dup 1 rfl rfl .nil) Tryz.func19 rfl hT rfl ?_;rintro _ _ ⟨rfl,rfl⟩)|(refine X9 Tryz.func28 rfl hR rfl ?_;rintro _ _ ⟨⟨k2,rfl⟩,rfl⟩))|(apply Wh;refine X7 ?_;intro _)|(apply Xt;refine Xq (k:=0) (l0:=[]) rfl rfl rfl ?_))|(refine W0 rfl rfl (fun hb=>?_) (fun hb=>?_)<;>(repeat (first|replace hb:=X0 hb|replace hb:=X1 hb|replace hb:=Vf hb|replace hb:=Vg hb))<;>(try (exfalso;contradiction)))))
     all_goals (try (exfalso;first|contradiction|omega))
     all_goals (exact ⟨.inr rfl,Xkw rfl (.tmp rfl) (.tmp rfl) (List.nil_sublist _) ⟨rfl,rfl⟩⟩)
 · have e1:Xdq (Uh r)=([],30):=by unfold Xdq;rw [if_neg hv]
   rw [e1] at hT
   rw [Bool.not_eq_true] at hv
   rw [hv,Bool.false_and,if_neg Yar]
   (repeat' (first|refine Xf ?_|refine Xb ?_|refine Xd ?_|(apply Xk;(first|exact Xe rfl|exact Xj rfl|exact Ybw|exact Yaf|exact Yad|exact Ybi|exact Yam);exact rfl)|refine Xz ?_|refine Xx rfl ?_|(apply Xi;exact rfl;(apply Xn;(refine Xl (.dup 1 rfl rfl .nil) Tryz.func19 rfl hT rfl ?_;rintro _ _ ⟨rfl,rfl⟩)))))
   all_goals (try (exfalso;first|contradiction|omega))
   all_goals (exact ⟨.inr rfl,Xkw rfl (.tmp rfl) (.tmp rfl) (List.nil_sublist _) ⟨rfl,rfl⟩⟩)
end Go.Proofs.YthdldeenpgeemaaGreatDoor
namespace Go.Proofs.YthdldeenpgeemaaGreatDoor
open Go Go.RowKit Go.Kx Go.Fr
theorem parts_any: ∀(k:Nat) (x:Ex) (m:Nat),m<2 ^ 60→FnC Tryz.prog 55 [agg (exV k x),exI .i64 m] [] (fun p loc=>p=exI .i64 (x.partsN m)∧loc=[]):=by
 intro k
 induction k with
 | zero=>intro x m _;exact Wl (i:=0) rfl Sm fun h=>h.elim
 | succ k ih=>
   intro x m hm
   refine Wl (i:=0) rfl (Ui (i:=4) (p:=isl (eEx k) x.l) rfl Ws) fun hlen=>?_
   show FnC Tryz.prog 55 [agg [exI .i64 x.kind,exT x.name,exI .i64 x.n,exI .i64 x.d,isl (eEx k) x.l],exI .i64 m] [] (fun p loc=>p=exI .i64 (x.partsN m)∧loc=[])
   rw [Ex.partsN_l]
   obtain ⟨hlen,-⟩:=hlen
   simp only [maxLen] at hlen
   refine X4 Tryz.func55 rfl Tryz.ntmps55 rfl fun w0 F0 out=>?_
   (repeat' (first|refine Xf ?_|refine Xb ?_|refine Xd ?_|(apply Xk;(exact Xj rfl);exact rfl)|refine Xp ?_|(apply Xi;exact rfl;(apply U7;refine V2 rfl ?_;intro _))))
   rename_i b
   refine W1 (fun s:Nat×Nat=>([(1,exI .i64 (m:Int)),(2,ex (.pointer (some ⟨b,0,none⟩))),(5,exI .i64 (s.2:Int)),(6,exI .i64 (s.1:Int))],[row b 52 5 [exI .i64 x.kind,exT x.name,exI .i64 x.n,exI .i64 x.d,isl (eEx k) x.l]])) (fun s=>s.1≤x.l.length∧s.2≤m+1∧Ex.partsL (x.l.drop s.1) m s.2=Ex.partsL x.l m 1) (fun s=>x.l.length-s.1) (0,1) ?_ ⟨Nat.zero_le _,by show 1≤m+1;omega,rfl⟩ fun s hs=>?_
   · exact Xg (by repeat (first|exact Xm|refine Xh rfl ?_)) (List.Sublist.refl _)
   obtain ⟨i,n⟩:=s
   obtain ⟨hi,hn,hp⟩:=hs
   simp only at hi hn hp ⊢
   by_cases hlt:i<x.l.length
   · rw [Ex.partsL_drop hlt] at hp
     by_cases hle:n≤m
     · rw [if_pos hle] at hp
       have hcall:=ih x.l[i] (m-n) Yan
       have hsp:=(Ex.partsN_spec x.l[i] (m-n)).1
       have e1:((m-n:Nat):Int)=(m:Int)-(n:Int):=by omega
       rw [e1] at hcall
       (repeat' (first|refine Xf ?_|refine Xb ?_|refine Xd ?_|(apply Xk;(first|exact Xe rfl|exact Xj rfl|exact Wk (b:=true) rfl (fun _=>rfl) (fun e=>by cases e)|exact Yb7|exact Yad|(apply V1;first|exact Qe rfl rfl|exact Sv rfl rfl|exact Xnp rfl rfl)|exact Yae|exact Yaq);exact rfl)|(apply Vh;exact rfl;exact rfl;exact rfl;(first|exact Xe rfl|(apply V1;exact Xjl rfl rfl));exact rfl)|refine Xp ?_|refine Xs ?_|(apply Xi;exact rfl;(apply Xn;(refine X9 Tryz.func55 rfl hcall rfl ?_;rintro _ _ ⟨rfl,rfl⟩)))|(refine W0 rfl rfl (fun hb=>?_) (fun hb=>?_)<;>(repeat (first|replace hb:=X0 hb|replace hb:=X1 hb))<;>(try (exfalso;omega)))|(refine Xo rfl (fun hb=>?_) (fun hb=>?_)<;>(repeat (first|replace hb:=X0 hb|replace hb:=X1 hb))<;>(try (exfalso;omega)))))
       all_goals (try (exfalso;omega))
       exact ⟨(i+1,n+x.l[i].partsN (m-n)),⟨by show i+1≤_;omega,by show n+_≤m+1;omega,hp⟩,by show x.l.length-(i+1)<x.l.length-i;omega,Xg (by repeat (first|exact Xm|refine Xh rfl ?_)) (List.Sublist.refl _)⟩
     · rw [if_neg hle] at hp
       (repeat' (first|refine Xf ?_|refine Xb ?_|refine Xd ?_|(apply Xk;(first|exact Xe rfl|exact Xj rfl|exact Wk (b:=true) rfl (fun _=>rfl) (fun e=>by cases e)|exact Yaf|exact Yad|exact Yak|exact Yaq);exact rfl)|(apply Vh;exact rfl;exact rfl;exact rfl;(first|exact Xe rfl|(apply V1;exact Xjl rfl rfl));exact rfl)|refine Xz ?_|refine Wy ?_|(refine W0 rfl rfl (fun hb=>?_) (fun hb=>?_)<;>(repeat (first|replace hb:=X0 hb|replace hb:=X1 hb))<;>(try (exfalso;omega)))|(refine Xo rfl (fun hb=>?_) (fun hb=>?_)<;>(repeat (first|replace hb:=X0 hb|replace hb:=X1 hb))<;>(try (exfalso;omega)))))
       all_goals (try (exfalso;omega))
       refine ⟨.inr rfl,Vk rfl (.tmp rfl) (List.nil_sublist _) ⟨by rw [←hp],rfl⟩⟩
   · have hk9:i=x.l.length:=by omega
     subst hk9
     rw [List.drop_length] at hp
     simp only [Ex.partsL] at hp
     (repeat' (first|refine Xf ?_|refine Xb ?_|refine Xd ?_|(apply Xk;(first|exact Xe rfl|exact Xj rfl|exact Wk (b:=false) rfl (fun e=>by cases e) (fun _=>rfl)|exact Yaf|exact Yad|exact Yak|exact Yaq);exact rfl)|(refine Ve rfl rfl rfl rfl rfl ?_)|refine Xz ?_|refine Wy ?_|refine X2 rfl ?_|(refine W0 rfl rfl (fun hb=>?_) (fun hb=>?_)<;>(repeat (first|replace hb:=X0 hb|replace hb:=X1 hb))<;>(try (exfalso;omega)))))
     all_goals (try (exfalso;omega))
     refine ⟨.inr rfl,Vk rfl (.tmp rfl) (List.nil_sublist _) ⟨by rw [←hp],rfl⟩⟩
theorem sameExpr_any: ∀(k j:Nat) (x y:Ex),FnC Tryz.prog 140 [agg (exV k x),agg (exV j y)] [] (fun p loc=>p=exB (decide (x=y))∧loc=[]):=by
 intro k
 induction k with
 | zero=>intro j x y;exact Wl (i:=0) rfl Sm fun h=>h.elim
 | succ k ih=>
   intro j x y
   cases j with
   | zero=>exact Wl (i:=1) rfl Sm fun h=>h.elim
   | succ j=>
     refine Wl (i:=0) rfl (Ui (i:=4) (p:=isl (eEx k) x.l) rfl Ws) fun hlen=>?_
     refine Wl (i:=1) rfl (Ui (i:=4) (p:=isl (eEx j) y.l) rfl Ws) fun hlen2=>?_
     show FnC Tryz.prog 140 [agg [exI .i64 x.kind,exT x.name,exI .i64 x.n,exI .i64 x.d,isl (eEx k) x.l],agg [exI .i64 y.kind,exT y.name,exI .i64 y.n,exI .i64 y.d,isl (eEx j) y.l]] [] (fun p loc=>p=exB (decide (x=y))∧loc=[])
     obtain ⟨hlen,-⟩:=hlen
     obtain ⟨hlen2,-⟩:=hlen2
     simp only [maxLen] at hlen hlen2
     refine X4 Tryz.func140 rfl Tryz.ntmps140 rfl fun w0 F0 out=>?_
     by_cases h0:x.kind=y.kind∧x.name=y.name∧x.n=y.n∧x.d=y.d∧x.l.length=y.l.length
     · obtain ⟨h1,h2,h3,h4,h5⟩:=h0
       (repeat' (first|refine Xf ?_|refine Xb ?_|refine Xd ?_|(apply Xk;exact Yct;exact rfl)|(refine Ve rfl rfl rfl rfl rfl ?_)|(apply Vh;exact rfl;exact rfl;exact rfl;(first|exact Yap|exact Yad|(apply V1;first|exact Xaw rfl rfl|exact Xbe rfl rfl)|exact Yaq);exact rfl)|refine Xp ?_|refine Xs ?_|refine Xz ?_|refine Xx rfl ?_|(apply Xi;exact rfl;(apply U7;refine V2 rfl ?_;intro _))|(refine W0 rfl rfl (fun hb=>?_) (fun hb=>?_)<;>(repeat (first|replace hb:=X0 hb|replace hb:=X1 hb|replace hb:=Vf hb|replace hb:=Vg hb))<;>(try (exfalso;omega)))|(refine Xo rfl (fun hb=>?_) (fun hb=>?_)<;>(repeat (first|replace hb:=X0 hb|replace hb:=X1 hb|replace hb:=Vf hb|replace hb:=Vg hb))<;>(try (exfalso;omega)))))
       all_goals (try (exfalso;first|contradiction|omega))
       rename_i b1 b2 _ _ _ _
       refine W1 (fun i:Nat=>([(2,ex (.pointer (some ⟨b1,0,none⟩))),(3,ex (.pointer (some ⟨b2,0,none⟩))),(5,exI .i64 (i:Int))],[row b2 52 5 [exI .i64 y.kind,exT y.name,exI .i64 y.n,exI .i64 y.d,isl (eEx j) y.l],row b1 52 5 [exI .i64 x.kind,exT x.name,exI .i64 x.n,exI .i64 x.d,isl (eEx k) x.l]])) (fun i=>i≤x.l.length∧x.l.take i=y.l.take i) (fun i=>x.l.length-i) 0 ?_ ⟨Nat.zero_le _,rfl⟩ fun i hi=>?_
       · exact Xg (by repeat (first|exact Xm|refine Xh rfl ?_)) (List.Sublist.refl _)
       obtain ⟨hi,ht⟩:=hi
       by_cases hlt:i<x.l.length
       · have hcall:=ih j x.l[i] (y.l[i]'Yan)
         by_cases he:x.l[i]=y.l[i]'Yan
         · (repeat' (first|refine Xf ?_|refine Xb ?_|refine Xd ?_|(apply Xk;exact Yb6;exact rfl)|refine Xp ?_|refine Xs ?_|(refine Xo rfl (fun hb=>?_) (fun hb=>?_)<;>(repeat (first|replace hb:=X0 hb|replace hb:=X1 hb))<;>(try (exfalso;omega)))))
           (refine W9 12 rfl ?_)
           all_goals ((apply Xc 0 rfl Yaa rfl Yab Xa;(exact Yad);exact rfl))
           all_goals ((apply Xu 1 rfl Yaa rfl Yaa Yab Xa;(exact Ya1);exact rfl))
           all_goals ((apply Xc 2 rfl Yaa rfl Yab Xa;(exact Xe rfl);exact rfl))
           all_goals ((apply Xc 3 rfl Yaa rfl Yab Xa;(exact Yae);exact rfl))
           all_goals ((apply Xu 4 rfl Yaa rfl Yaa Yab Xa;(exact Yau);exact rfl))
           all_goals ((apply Xc 5 rfl Yaa rfl Yab Xa;(exact Yad);exact rfl))
           all_goals ((apply Xu 6 rfl Yaa rfl Yaa Yab Xa;(exact Yaf);exact rfl))
           all_goals ((apply Xc 7 rfl Yaa rfl Yab Xa;(exact Xe rfl);exact rfl))
           all_goals ((apply Xc 8 rfl Yaa rfl Yab Xa;(exact Yae);exact rfl))
           all_goals ((apply Xu 9 rfl Yaa rfl Yaa Yab Xa;(exact Yau);exact rfl))
           all_goals ((apply Xr 10;exact Yaa;exact rfl;exact Xa;exact (fun _ _ h=>h);(apply Xn;(refine X9 Tryz.func140 rfl hcall rfl ?_;rintro _ _ ⟨rfl,rfl⟩))))
           all_goals ((apply Xc 11 rfl Yaa rfl Yab Xa;(exact Yaw);exact rfl))
           all_goals (refine X3 Yaa ?_)
           all_goals ((repeat' (first|refine Xf ?_|refine Xb ?_|refine Xd ?_|(apply Xk;exact Yay;exact rfl)|refine Xs ?_|refine Xz ?_|(refine Xo rfl (fun hb=>?_) (fun hb=>?_)<;>(repeat (first|replace hb:=X0 hb|replace hb:=X1 hb|replace hb:=Vf hb|replace hb:=Vg hb))<;>(try (exfalso;fail))))))
           all_goals (try (exfalso;simp_all;done))
           exact ⟨i+1,⟨by omega,by rw [List.take_succ_eq_append_getElem hlt,List.take_succ_eq_append_getElem Yan,ht,he]⟩,by omega,Xg (by repeat (first|exact Xm|refine Xh rfl ?_)) (List.Sublist.refl _)⟩
         · (repeat' (first|refine Xf ?_|refine Xb ?_|refine Xd ?_|(apply Xk;exact Yb6;exact rfl)|refine Xp ?_|refine Xs ?_|(refine Xo rfl (fun hb=>?_) (fun hb=>?_)<;>(repeat (first|replace hb:=X0 hb|replace hb:=X1 hb))<;>(try (exfalso;omega)))))
           (refine W9 12 rfl ?_)
           all_goals ((apply Xc 0 rfl Yaa rfl Yab Xa;(exact Yad);exact rfl))
           all_goals ((apply Xu 1 rfl Yaa rfl Yaa Yab Xa;(exact Ya1);exact rfl))
           all_goals ((apply Xc 2 rfl Yaa rfl Yab Xa;(exact Xe rfl);exact rfl))
           all_goals ((apply Xc 3 rfl Yaa rfl Yab Xa;(exact Yae);exact rfl))
           all_goals ((apply Xu 4 rfl Yaa rfl Yaa Yab Xa;(exact Yau);exact rfl))
           all_goals ((apply Xc 5 rfl Yaa rfl Yab Xa;(exact Yad);exact rfl))
           all_goals ((apply Xu 6 rfl Yaa rfl Yaa Yab Xa;(exact Yaf);exact rfl))
           all_goals ((apply Xc 7 rfl Yaa rfl Yab Xa;(exact Xe rfl);exact rfl))
           all_goals ((apply Xc 8 rfl Yaa rfl Yab Xa;(exact Yae);exact rfl))
           all_goals ((apply Xu 9 rfl Yaa rfl Yaa Yab Xa;(exact Yau);exact rfl))
           all_goals ((apply Xr 10;exact Yaa;exact rfl;exact Xa;exact (fun _ _ h=>h);(apply Xn;(refine X9 Tryz.func140 rfl hcall rfl ?_;rintro _ _ ⟨rfl,rfl⟩))))
           all_goals ((apply Xc 11 rfl Yaa rfl Yab Xa;(exact Yaw);exact rfl))
           all_goals (refine X3 Yaa ?_)
           all_goals ((repeat' (first|refine Xf ?_|refine Xb ?_|refine Xd ?_|(apply Xk;exact Yay;exact rfl)|refine Xs ?_|refine Xz ?_|(refine Xo rfl (fun hb=>?_) (fun hb=>?_)<;>(repeat (first|replace hb:=X0 hb|replace hb:=X1 hb|replace hb:=Vf hb|replace hb:=Vg hb))<;>(try (exfalso;fail))))))
           all_goals (try (exfalso;simp_all;done))
           refine ⟨.inr rfl,Vk rfl (.tmp rfl) (List.nil_sublist _) ⟨congrArg exB ?_,rfl⟩⟩
           exact (decide_eq_false fun e=>he Ydn).symm
       · have hk9:i=x.l.length:=by omega
         subst hk9
         rw [List.take_length,h5,List.take_length] at ht
         (repeat' (first|refine Xf ?_|refine Xb ?_|refine Xd ?_|(apply Xk;(first|exact Xe rfl|exact Xj rfl|exact Ya1|exact Yad|exact Yak|exact Yaq);exact rfl)|refine Xz ?_|refine Wy ?_|(refine Xo rfl (fun hb=>?_) (fun hb=>?_)<;>(repeat (first|replace hb:=X0 hb|replace hb:=X1 hb))<;>(try (exfalso;omega)))))
         all_goals (try (exfalso;omega))
         refine ⟨.inr rfl,Vk rfl (.tmp rfl) (List.nil_sublist _) ⟨congrArg exB ?_,rfl⟩⟩
         exact (decide_eq_true ((Ex.ext_iff' x y).2 ⟨h1,h2,h3,h4,ht⟩)).symm
     · have hn:x≠y:=fun e=>h0 (by subst e;exact ⟨rfl,rfl,rfl,rfl,rfl⟩)
       rw [decide_eq_false hn]
       (repeat' (first|refine Xf ?_|refine Xb ?_|refine Xd ?_|(apply Xk;exact Yct;exact rfl)|(refine Ve rfl rfl rfl rfl rfl ?_)|(apply Vh;exact rfl;exact rfl;exact rfl;(first|exact Yap|exact Yad|(apply V1;first|exact Xaw rfl rfl|exact Xbe rfl rfl)|exact Yaq);exact rfl)|refine Xp ?_|refine Xs ?_|refine Xz ?_|refine Xx rfl ?_|(apply Xi;exact rfl;(apply U7;refine V2 rfl ?_;intro _))|(refine W0 rfl rfl (fun hb=>?_) (fun hb=>?_)<;>(repeat (first|replace hb:=X0 hb|replace hb:=X1 hb|replace hb:=Vf hb|replace hb:=Vg hb))<;>(try (exfalso;fail)))|(refine Xo rfl (fun hb=>?_) (fun hb=>?_)<;>(repeat (first|replace hb:=X0 hb|replace hb:=X1 hb|replace hb:=Vf hb|replace hb:=Vg hb))<;>(try (exfalso;fail)))))
       all_goals first|exact ⟨.inr rfl,Vk rfl (.tmp rfl) (List.nil_sublist _) ⟨rfl,rfl⟩⟩|(exfalso;refine h0 ⟨?_,?_,?_,?_,?_⟩<;>first|assumption|omega)
end Go.Proofs.YthdldeenpgeemaaGreatDoor
namespace Go.Proofs.YthdldeenpgeemaaGreatDoor
open Go Go.RowKit Go.Kx Go.Fr
instance eqItemD:EqD Tryz.prog 106 itemV:=⟨_,rfl,by kernel_rfl,by kernel_rfl,fun a b=>⟨_,(.str rfl rfl rfl rfl (.int rfl rfl rfl rfl (.int rfl rfl rfl rfl .nil))),by rw [Bool.eq_iff_iff];cases a;cases b;simp⟩⟩
instance eqKeyD:EqD Tryz.prog 97 keyV:=⟨_,rfl,by kernel_rfl,by kernel_rfl,fun a b=>⟨_,(.int rfl rfl rfl rfl (.str rfl rfl rfl rfl (.int rfl rfl rfl rfl .nil))),by rw [Bool.eq_iff_iff];cases a;cases b;simp⟩⟩
instance eqCritD:EqD Tryz.prog 70 critV:=⟨_,rfl,by kernel_rfl,by kernel_rfl,fun a b=>⟨_,(.str rfl rfl rfl rfl (.int rfl rfl rfl rfl (.int rfl rfl rfl rfl (.int rfl rfl rfl rfl (.int rfl rfl rfl rfl (.int rfl rfl rfl rfl (.bool rfl rfl rfl rfl .nil))))))),by rw [Bool.eq_iff_iff];cases a;cases b;simp⟩⟩
theorem Xan (a b:List ItemD):FnC Tryz.prog 73 [isl eItem a,isl eItem b] [] (fun p loc=>p=exB (decide (a=b))∧loc=[]):=by
 refine Wl (i:=0) rfl Ws fun ha=>?_
 refine Wl (i:=1) rfl Ws fun hb=>?_
 obtain ⟨ha,-⟩:=ha
 obtain ⟨hb,-⟩:=hb
 simp only [maxLen] at ha hb
 refine X4 Tryz.func73 rfl Tryz.ntmps73 rfl fun w0 F0 out=>?_
 by_cases hl:a.length=b.length
 · (repeat' (first|refine Xf ?_|refine Xb ?_|refine Xd ?_|(apply Xk;exact Yai;exact rfl)|refine Xp ?_|refine Xs ?_|(refine Xo rfl (fun hb=>?_) (fun hb=>?_)<;>(repeat (first|replace hb:=X0 hb|replace hb:=X1 hb|replace hb:=Vf hb|replace hb:=Vg hb))<;>(try (exfalso;omega)))))
   all_goals (try (exfalso;omega))
   refine W1 (fun k:Nat=>([(0,isl eItem a),(1,isl eItem b),(5,exI .i64 k)],[])) (fun k=>k≤a.length∧a.take k=b.take k) (fun k=>a.length-k) 0 ?_ ⟨Nat.zero_le _,rfl⟩ fun k hk=>?_
   · exact Xg (by repeat (first|exact Xm|refine Xh rfl ?_)) (List.Sublist.refl _)
   obtain ⟨hk,ht⟩:=hk
   by_cases hlt:k<a.length
   · by_cases he:a[k]=b[k]'Yan
     · (repeat' (first|refine Xf ?_|refine Xb ?_|refine Xd ?_|(apply Xk;exact Ycu;exact rfl)|refine Xp ?_|refine Xs ?_|(refine Xo rfl (fun hb=>?_) (fun hb=>?_)<;>(repeat (first|replace hb:=X0 hb|replace hb:=X1 hb))<;>(try (exfalso;omega)))))
       (refine W9 9 rfl ?_)
       all_goals ((apply Xc 0 rfl Yaa rfl Yab Xa;(exact Xe rfl);exact rfl))
       all_goals ((apply Xc 1 rfl Yaa rfl Yab Xa;(exact Xe rfl);exact rfl))
       all_goals ((apply Xc 2 rfl Yaa rfl Yab Xa;(exact Yae);exact rfl))
       all_goals ((apply Xu 3 rfl Yaa rfl Yaa Yab Xa;(exact Yau);exact rfl))
       all_goals ((apply Xc 4 rfl Yaa rfl Yab Xa;(exact Xe rfl);exact rfl))
       all_goals ((apply Xc 5 rfl Yaa rfl Yab Xa;(exact Xe rfl);exact rfl))
       all_goals ((apply Xc 6 rfl Yaa rfl Yab Xa;(exact Yae);exact rfl))
       all_goals ((apply Xu 7 rfl Yaa rfl Yaa Yab Xa;(exact Yau);exact rfl))
       all_goals ((apply Xc 8 rfl Yaa rfl Yab Xa;(exact Ybp);exact rfl))
       all_goals (refine X3 Yaa ?_)
       all_goals ((repeat' (first|refine Xf ?_|refine Xb ?_|refine Xd ?_|(apply Xk;exact Yay;exact rfl)|refine Xs ?_|refine Xz ?_|(refine Xo rfl (fun hb=>?_) (fun hb=>?_)<;>(repeat (first|replace hb:=X0 hb|replace hb:=X1 hb|replace hb:=Vf hb|replace hb:=Vg hb))<;>(try (exfalso;fail))))))
       all_goals (try (exfalso;simp_all;done))
       exact ⟨k+1,⟨by omega,by rw [List.take_succ_eq_append_getElem hlt,List.take_succ_eq_append_getElem Yan,ht,he]⟩,by omega,Xg (by repeat (first|exact Xm|refine Xh rfl ?_)) (List.Sublist.refl _)⟩
     · (repeat' (first|refine Xf ?_|refine Xb ?_|refine Xd ?_|(apply Xk;exact Ycu;exact rfl)|refine Xp ?_|refine Xs ?_|(refine Xo rfl (fun hb=>?_) (fun hb=>?_)<;>(repeat (first|replace hb:=X0 hb|replace hb:=X1 hb))<;>(try (exfalso;omega)))))
       (refine W9 9 rfl ?_)
       all_goals ((apply Xc 0 rfl Yaa rfl Yab Xa;(exact Xe rfl);exact rfl))
       all_goals ((apply Xc 1 rfl Yaa rfl Yab Xa;(exact Xe rfl);exact rfl))
       all_goals ((apply Xc 2 rfl Yaa rfl Yab Xa;(exact Yae);exact rfl))
       all_goals ((apply Xu 3 rfl Yaa rfl Yaa Yab Xa;(exact Yau);exact rfl))
       all_goals ((apply Xc 4 rfl Yaa rfl Yab Xa;(exact Xe rfl);exact rfl))
       all_goals ((apply Xc 5 rfl Yaa rfl Yab Xa;(exact Xe rfl);exact rfl))
       all_goals ((apply Xc 6 rfl Yaa rfl Yab Xa;(exact Yae);exact rfl))
       all_goals ((apply Xu 7 rfl Yaa rfl Yaa Yab Xa;(exact Yau);exact rfl))
       all_goals ((apply Xc 8 rfl Yaa rfl Yab Xa;(exact Ybp);exact rfl))
       all_goals (refine X3 Yaa ?_)
       all_goals ((repeat' (first|refine Xf ?_|refine Xb ?_|refine Xd ?_|(apply Xk;exact Yay;exact rfl)|refine Xs ?_|refine Xz ?_|(refine Xo rfl (fun hb=>?_) (fun hb=>?_)<;>(repeat (first|replace hb:=X0 hb|replace hb:=X1 hb|replace hb:=Vf hb|replace hb:=Vg hb))<;>(try (exfalso;fail))))))
       all_goals (try (exfalso;simp_all;done))
       refine ⟨.inr rfl,Vk rfl (.tmp rfl) (List.nil_sublist _) ⟨congrArg exB ?_,rfl⟩⟩
       exact (decide_eq_false fun e=>he Ydn).symm
   · have hk9:k=a.length:=by omega
     subst hk9
     rw [List.take_length,hl,List.take_length] at ht
     (repeat' (first|refine Xf ?_|refine Xb ?_|refine Xd ?_|(apply Xk;exact Ycz;exact rfl)|refine Xz ?_|refine Wy ?_|(refine Xo rfl (fun hb=>?_) (fun hb=>?_)<;>(repeat (first|replace hb:=X0 hb|replace hb:=X1 hb))<;>(try (exfalso;omega)))))
     refine ⟨.inr rfl,Vk rfl (.tmp rfl) (List.nil_sublist _) ⟨congrArg exB ?_,rfl⟩⟩
     exact (decide_eq_true ht).symm
 · (repeat' (first|refine Xf ?_|refine Xb ?_|refine Xd ?_|(apply Xk;exact Yai;exact rfl)|refine Xz ?_|(refine Xo rfl (fun hb=>?_) (fun hb=>?_)<;>(repeat (first|replace hb:=X0 hb|replace hb:=X1 hb|replace hb:=Vf hb|replace hb:=Vg hb))<;>(try (exfalso;omega)))))
   all_goals (try (exfalso;omega))
   refine ⟨.inr rfl,Vk rfl (.tmp rfl) (List.nil_sublist _) ⟨congrArg exB ?_,rfl⟩⟩
   exact (decide_eq_false fun e=>hl (by rw [e])).symm
theorem Xb1 (a b:List TieD):FnC Tryz.prog 74 [isl eTie a,isl eTie b] [] (fun p loc=>p=exB (decide (a=b))∧loc=[]):=by
 refine Wl (i:=0) rfl Ws fun ha=>?_
 refine Wl (i:=1) rfl Ws fun hb=>?_
 obtain ⟨ha,-⟩:=ha
 obtain ⟨hb,-⟩:=hb
 simp only [maxLen] at ha hb
 refine X4 Tryz.func74 rfl Tryz.ntmps74 rfl fun w0 F0 out=>?_
 by_cases hl:a.length=b.length
 · (repeat' (first|refine Xf ?_|refine Xb ?_|refine Xd ?_|(apply Xk;exact Yai;exact rfl)|refine Xp ?_|refine Xs ?_|(refine Xo rfl (fun hb=>?_) (fun hb=>?_)<;>(repeat (first|replace hb:=X0 hb|replace hb:=X1 hb|replace hb:=Vf hb|replace hb:=Vg hb))<;>(try (exfalso;omega)))))
   all_goals (try (exfalso;omega))
   refine W1 (fun k:Nat=>([(0,isl eTie a),(1,isl eTie b),(5,exI .i64 k)],[])) (fun k=>k≤a.length∧a.take k=b.take k) (fun k=>a.length-k) 0 ?_ ⟨Nat.zero_le _,rfl⟩ fun k hk=>?_
   · exact Xg (by repeat (first|exact Xm|refine Xh rfl ?_)) (List.Sublist.refl _)
   obtain ⟨hk,ht⟩:=hk
   by_cases hlt:k<a.length
   · have hlt2:k<b.length:=by omega
     by_cases he:a[k].name=b[k].name∧a[k].keys.length=b[k].keys.length
     · obtain ⟨he1,he2⟩:=he
       (repeat' (first|refine Xf ?_|refine Xb ?_|refine Xd ?_|(apply Xk;exact Ycu;exact rfl)|refine Xp ?_|refine Xs ?_|(refine Xo rfl (fun hb=>?_) (fun hb=>?_)<;>(repeat (first|replace hb:=X0 hb|replace hb:=X1 hb))<;>(try (exfalso;omega)))))
       (refine W9 26 rfl ?_)
       all_goals ((apply Xc 0 rfl Yaa rfl Yab Xa;(exact Xe rfl);exact rfl))
       all_goals ((apply Xc 1 rfl Yaa rfl Yab Xa;(exact Xe rfl);exact rfl))
       all_goals ((apply Xc 2 rfl Yaa rfl Yab Xa;(exact Yae);exact rfl))
       all_goals ((apply Xc 3 rfl Yaa rfl Yab Xa;(exact Yaj);exact rfl))
       all_goals ((apply Xu 4 rfl Yaa rfl Yaa Yab Xa;(exact Yag);exact rfl))
       all_goals ((apply Xc 5 rfl Yaa rfl Yab Xa;(exact Xe rfl);exact rfl))
       all_goals ((apply Xc 6 rfl Yaa rfl Yab Xa;(exact Xe rfl);exact rfl))
       all_goals ((apply Xc 7 rfl Yaa rfl Yab Xa;(exact Yae);exact rfl))
       all_goals ((apply Xc 8 rfl Yaa rfl Yab Xa;(exact Yaj);exact rfl))
       all_goals ((apply Xu 9 rfl Yaa rfl Yaa Yab Xa;(exact Yag);exact rfl))
       all_goals ((apply Xc 10 rfl Yaa rfl Yab Xa;((apply V1;exact Xaw rfl rfl));exact rfl))
       all_goals ((apply Xc 11 rfl Yaa rfl Yab Xa;(exact Xe rfl);exact rfl))
       all_goals (first|(refine Rg 29 rfl (fun hb=>?_) (fun hb=>?_)<;>(repeat (first|replace hb:=X0 hb|replace hb:=X1 hb|replace hb:=Vf hb|replace hb:=Vg hb))<;>(try (exfalso;first|(cases hb;done)|omega)))|skip)
       all_goals (first|(refine W6 12 rfl Yaa rfl Yab rfl rfl rfl rfl rfl ?_)|(apply Xc 12 rfl Yaa rfl Yab (Wg rfl rfl rfl);(exact Xe rfl);exact rfl))
       all_goals (first|(refine W6 13 rfl Yaa rfl Yab rfl rfl rfl rfl rfl ?_)|(apply Xc 13 rfl Yaa rfl Yab (Wg rfl rfl rfl);(exact Xe rfl);exact rfl))
       all_goals (first|(refine W6 14 rfl Yaa rfl Yab rfl rfl rfl rfl rfl ?_)|(apply Xc 14 rfl Yaa rfl Yab (Wg rfl rfl rfl);(exact Yae);exact rfl))
       all_goals (first|(refine W6 15 rfl Yaa rfl Yab rfl rfl rfl rfl rfl ?_)|(apply Xc 15 rfl Yaa rfl Yab (Wg rfl rfl rfl);(exact Yaj);exact rfl))
       all_goals (first|(refine W6 16 rfl Yaa rfl Yab rfl rfl rfl rfl rfl ?_)|(apply Xu 16 rfl Yaa rfl Yaa Yab (Wg rfl rfl rfl);(exact Yag);exact rfl))
       all_goals (first|(refine W6 17 rfl Yaa rfl Yab rfl rfl rfl rfl rfl ?_)|(apply Xc 17 rfl Yaa rfl Yab (Wg rfl rfl rfl);(exact Yaq);exact rfl))
       all_goals (first|(refine W6 18 rfl Yaa rfl Yab rfl rfl rfl rfl rfl ?_)|(apply Xc 18 rfl Yaa rfl Yab (Wg rfl rfl rfl);(exact Xe rfl);exact rfl))
       all_goals (first|(refine W6 19 rfl Yaa rfl Yab rfl rfl rfl rfl rfl ?_)|(apply Xc 19 rfl Yaa rfl Yab (Wg rfl rfl rfl);(exact Xe rfl);exact rfl))
       all_goals (first|(refine W6 20 rfl Yaa rfl Yab rfl rfl rfl rfl rfl ?_)|(apply Xc 20 rfl Yaa rfl Yab (Wg rfl rfl rfl);(exact Yae);exact rfl))
       all_goals (first|(refine W6 21 rfl Yaa rfl Yab rfl rfl rfl rfl rfl ?_)|(apply Xc 21 rfl Yaa rfl Yab (Wg rfl rfl rfl);(exact Yaj);exact rfl))
       all_goals (first|(refine W6 22 rfl Yaa rfl Yab rfl rfl rfl rfl rfl ?_)|(apply Xu 22 rfl Yaa rfl Yaa Yab (Wg rfl rfl rfl);(exact Yag);exact rfl))
       all_goals (first|(refine W6 23 rfl Yaa rfl Yab rfl rfl rfl rfl rfl ?_)|(apply Xc 23 rfl Yaa rfl Yab (Wg rfl rfl rfl);(exact Yaq);exact rfl))
       all_goals (first|(refine W6 24 rfl Yaa rfl Yab rfl rfl rfl rfl rfl ?_)|(apply Xc 24 rfl Yaa rfl Yab (Wg rfl rfl rfl);(exact Ybi);exact rfl))
       all_goals ((apply Xc 25 rfl Yaa rfl Yab Xa;exact Ydu;exact rfl))
       all_goals (refine X3 Yaa ?_)
       all_goals (try (exfalso;first|contradiction|omega))
       refine Xmj (t:=34) rfl Ws fun hlk=>?_
       obtain ⟨hlk,-⟩:=hlk
       simp only [maxLen] at hlk
       (repeat' (first|refine Xf ?_|refine Xb ?_|refine Xd ?_|(apply Xk;(exact Xj rfl);exact rfl)|refine Xp ?_|refine Xs ?_|(refine Xo rfl (fun hb=>?_) (fun hb=>?_)<;>(repeat (first|replace hb:=X0 hb|replace hb:=X1 hb|replace hb:=Vf hb|replace hb:=Vg hb))<;>(try (exfalso;omega)))))
       all_goals (try (exfalso;first|contradiction|omega))
       refine W1 (fun q:Nat=>([(0,isl eTie a),(1,isl eTie b),(5,exI .i64 k),(6,exI .i64 q)],[])) (fun q=>q≤a[k].keys.length∧a[k].keys.take q=b[k].keys.take q) (fun q=>a[k].keys.length-q) 0 ?_ ⟨Nat.zero_le _,rfl⟩ fun q hq=>?_
       · exact Xg (by repeat (first|exact Xm|refine Xh rfl ?_)) (List.Sublist.refl _)
       obtain ⟨hq,htq⟩:=hq
       by_cases hltq:q<a[k].keys.length
       · by_cases hek:a[k].keys[q]=b[k].keys[q]'Yan
         · (repeat' (first|refine Xf ?_|refine Xb ?_|refine Xd ?_|(apply Xk;(first|exact Xe rfl|exact Yag|exact Yaj|exact Yak|exact Yae|exact Yaq);exact rfl)|refine Xp ?_|refine Xs ?_|(refine Xo rfl (fun hb=>?_) (fun hb=>?_)<;>(repeat (first|replace hb:=X0 hb|replace hb:=X1 hb))<;>(try (exfalso;omega)))))
           (refine W9 17 rfl ?_)
           all_goals ((apply Xc 0 rfl Yaa rfl Yab Xa;(exact Xe rfl);exact rfl))
           all_goals ((apply Xc 1 rfl Yaa rfl Yab Xa;(exact Xe rfl);exact rfl))
           all_goals ((apply Xc 2 rfl Yaa rfl Yab Xa;(exact Yae);exact rfl))
           all_goals ((apply Xc 3 rfl Yaa rfl Yab Xa;(exact Yaj);exact rfl))
           all_goals ((apply Xu 4 rfl Yaa rfl Yaa Yab Xa;(exact Yag);exact rfl))
           all_goals ((apply Xc 5 rfl Yaa rfl Yab Xa;(exact Xe rfl);exact rfl))
           all_goals ((apply Xc 6 rfl Yaa rfl Yab Xa;(exact Yae);exact rfl))
           all_goals ((apply Xu 7 rfl Yaa rfl Yaa Yab Xa;(exact Yau);exact rfl))
           all_goals ((apply Xc 8 rfl Yaa rfl Yab Xa;(exact Xe rfl);exact rfl))
           all_goals ((apply Xc 9 rfl Yaa rfl Yab Xa;(exact Xe rfl);exact rfl))
           all_goals ((apply Xc 10 rfl Yaa rfl Yab Xa;(exact Yae);exact rfl))
           all_goals ((apply Xc 11 rfl Yaa rfl Yab Xa;(exact Yaj);exact rfl))
           all_goals ((apply Xu 12 rfl Yaa rfl Yaa Yab Xa;(exact Yag);exact rfl))
           all_goals ((apply Xc 13 rfl Yaa rfl Yab Xa;(exact Xe rfl);exact rfl))
           all_goals ((apply Xc 14 rfl Yaa rfl Yab Xa;(exact Yae);exact rfl))
           all_goals ((apply Xu 15 rfl Yaa rfl Yaa Yab Xa;(exact Yau);exact rfl))
           all_goals ((apply Xc 16 rfl Yaa rfl Yab Xa;(exact Ybp);exact rfl))
           all_goals (refine X3 Yaa ?_)
           all_goals ((repeat' (first|refine Xf ?_|refine Xb ?_|refine Xd ?_|(apply Xk;exact Yay;exact rfl)|refine Xs ?_|refine Xz ?_|(refine Xo rfl (fun hb=>?_) (fun hb=>?_)<;>(repeat (first|replace hb:=X0 hb|replace hb:=X1 hb|replace hb:=Vf hb|replace hb:=Vg hb))<;>(try (exfalso;fail))))))
           all_goals (try (exfalso;simp_all;done))
           exact ⟨q+1,⟨by omega,by rw [List.take_succ_eq_append_getElem hltq,List.take_succ_eq_append_getElem Yan,htq,hek]⟩,by omega,Xg (by repeat (first|exact Xm|refine Xh rfl ?_)) (List.Sublist.refl _)⟩
         · (repeat' (first|refine Xf ?_|refine Xb ?_|refine Xd ?_|(apply Xk;(first|exact Xe rfl|exact Yag|exact Yaj|exact Yak|exact Yae|exact Yaq);exact rfl)|refine Xp ?_|refine Xs ?_|(refine Xo rfl (fun hb=>?_) (fun hb=>?_)<;>(repeat (first|replace hb:=X0 hb|replace hb:=X1 hb))<;>(try (exfalso;omega)))))
           (refine W9 17 rfl ?_)
           all_goals ((apply Xc 0 rfl Yaa rfl Yab Xa;(exact Xe rfl);exact rfl))
           all_goals ((apply Xc 1 rfl Yaa rfl Yab Xa;(exact Xe rfl);exact rfl))
           all_goals ((apply Xc 2 rfl Yaa rfl Yab Xa;(exact Yae);exact rfl))
           all_goals ((apply Xc 3 rfl Yaa rfl Yab Xa;(exact Yaj);exact rfl))
           all_goals ((apply Xu 4 rfl Yaa rfl Yaa Yab Xa;(exact Yag);exact rfl))
           all_goals ((apply Xc 5 rfl Yaa rfl Yab Xa;(exact Xe rfl);exact rfl))
           all_goals ((apply Xc 6 rfl Yaa rfl Yab Xa;(exact Yae);exact rfl))
           all_goals ((apply Xu 7 rfl Yaa rfl Yaa Yab Xa;(exact Yau);exact rfl))
           all_goals ((apply Xc 8 rfl Yaa rfl Yab Xa;(exact Xe rfl);exact rfl))
           all_goals ((apply Xc 9 rfl Yaa rfl Yab Xa;(exact Xe rfl);exact rfl))
           all_goals ((apply Xc 10 rfl Yaa rfl Yab Xa;(exact Yae);exact rfl))
           all_goals ((apply Xc 11 rfl Yaa rfl Yab Xa;(exact Yaj);exact rfl))
           all_goals ((apply Xu 12 rfl Yaa rfl Yaa Yab Xa;(exact Yag);exact rfl))
           all_goals ((apply Xc 13 rfl Yaa rfl Yab Xa;(exact Xe rfl);exact rfl))
           all_goals ((apply Xc 14 rfl Yaa rfl Yab Xa;(exact Yae);exact rfl))
           all_goals ((apply Xu 15 rfl Yaa rfl Yaa Yab Xa;(exact Yau);exact rfl))
           all_goals ((apply Xc 16 rfl Yaa rfl Yab Xa;(exact Ybp);exact rfl))
           all_goals (refine X3 Yaa ?_)
           all_goals ((repeat' (first|refine Xf ?_|refine Xb ?_|refine Xd ?_|(apply Xk;exact Yay;exact rfl)|refine Xs ?_|refine Xz ?_|(refine Xo rfl (fun hb=>?_) (fun hb=>?_)<;>(repeat (first|replace hb:=X0 hb|replace hb:=X1 hb|replace hb:=Vf hb|replace hb:=Vg hb))<;>(try (exfalso;fail))))))
           all_goals (try (exfalso;simp_all;done))
           refine ⟨.inr rfl,Vk rfl (.tmp rfl) (List.nil_sublist _) ⟨congrArg exB ?_,rfl⟩⟩
           exact (decide_eq_false fun e=>hek Ydn).symm
       · have hk9:q=a[k].keys.length:=by omega
         subst hk9
         rw [List.take_length,he2,List.take_length] at htq
         (repeat' (first|refine Xf ?_|refine Xb ?_|refine Xd ?_|(apply Xk;(first|exact Xe rfl|exact Xj rfl|exact Yag|exact Yaj|exact Ybe|exact Yae|exact Yaq);exact rfl)|refine Wy ?_|(refine Xo rfl (fun hb=>?_) (fun hb=>?_)<;>(repeat (first|replace hb:=X0 hb|replace hb:=X1 hb))<;>(try (exfalso;omega)))))
         all_goals (try (exfalso;omega))
         have hek:a[k]=b[k]:=by
           cases h1:a[k];cases h2:b[k]
           rw [h1,h2] at he1 htq
           simp only at he1 htq
           rw [he1,htq]
         exact ⟨k+1,⟨by omega,by rw [List.take_succ_eq_append_getElem hlt,List.take_succ_eq_append_getElem Yan,ht,hek]⟩,by omega,Xg (by repeat (first|exact Xm|refine Xh rfl ?_)) (List.Sublist.refl _)⟩
     · have hne:a≠b:=fun e=>he (by subst e;exact ⟨rfl,rfl⟩)
       rw [decide_eq_false hne]
       (repeat' (first|refine Xf ?_|refine Xb ?_|refine Xd ?_|(apply Xk;exact Ycu;exact rfl)|refine Xp ?_|refine Xs ?_|(refine Xo rfl (fun hb=>?_) (fun hb=>?_)<;>(repeat (first|replace hb:=X0 hb|replace hb:=X1 hb))<;>(try (exfalso;omega)))))
       (refine W9 26 rfl ?_)
       all_goals ((apply Xc 0 rfl Yaa rfl Yab Xa;(exact Xe rfl);exact rfl))
       all_goals ((apply Xc 1 rfl Yaa rfl Yab Xa;(exact Xe rfl);exact rfl))
       all_goals ((apply Xc 2 rfl Yaa rfl Yab Xa;(exact Yae);exact rfl))
       all_goals ((apply Xc 3 rfl Yaa rfl Yab Xa;(exact Yaj);exact rfl))
       all_goals ((apply Xu 4 rfl Yaa rfl Yaa Yab Xa;(exact Yag);exact rfl))
       all_goals ((apply Xc 5 rfl Yaa rfl Yab Xa;(exact Xe rfl);exact rfl))
       all_goals ((apply Xc 6 rfl Yaa rfl Yab Xa;(exact Xe rfl);exact rfl))
       all_goals ((apply Xc 7 rfl Yaa rfl Yab Xa;(exact Yae);exact rfl))
       all_goals ((apply Xc 8 rfl Yaa rfl Yab Xa;(exact Yaj);exact rfl))
       all_goals ((apply Xu 9 rfl Yaa rfl Yaa Yab Xa;(exact Yag);exact rfl))
       all_goals ((apply Xc 10 rfl Yaa rfl Yab Xa;((apply V1;exact Xaw rfl rfl));exact rfl))
       all_goals ((apply Xc 11 rfl Yaa rfl Yab Xa;(exact Xe rfl);exact rfl))
       all_goals (first|(refine Rg 29 rfl (fun hb=>?_) (fun hb=>?_)<;>(repeat (first|replace hb:=X0 hb|replace hb:=X1 hb|replace hb:=Vf hb|replace hb:=Vg hb))<;>(try (exfalso;first|(cases hb;done)|omega)))|skip)
       all_goals (first|(refine W6 12 rfl Yaa rfl Yab rfl rfl rfl rfl rfl ?_)|(apply Xc 12 rfl Yaa rfl Yab (Wg rfl rfl rfl);(exact Xe rfl);exact rfl))
       all_goals (first|(refine W6 13 rfl Yaa rfl Yab rfl rfl rfl rfl rfl ?_)|(apply Xc 13 rfl Yaa rfl Yab (Wg rfl rfl rfl);(exact Xe rfl);exact rfl))
       all_goals (first|(refine W6 14 rfl Yaa rfl Yab rfl rfl rfl rfl rfl ?_)|(apply Xc 14 rfl Yaa rfl Yab (Wg rfl rfl rfl);(exact Yae);exact rfl))
       all_goals (first|(refine W6 15 rfl Yaa rfl Yab rfl rfl rfl rfl rfl ?_)|(apply Xc 15 rfl Yaa rfl Yab (Wg rfl rfl rfl);(exact Yaj);exact rfl))
       all_goals (first|(refine W6 16 rfl Yaa rfl Yab rfl rfl rfl rfl rfl ?_)|(apply Xu 16 rfl Yaa rfl Yaa Yab (Wg rfl rfl rfl);(exact Yag);exact rfl))
       all_goals (first|(refine W6 17 rfl Yaa rfl Yab rfl rfl rfl rfl rfl ?_)|(apply Xc 17 rfl Yaa rfl Yab (Wg rfl rfl rfl);(exact Yaq);exact rfl))
       all_goals (first|(refine W6 18 rfl Yaa rfl Yab rfl rfl rfl rfl rfl ?_)|(apply Xc 18 rfl Yaa rfl Yab (Wg rfl rfl rfl);(exact Xe rfl);exact rfl))
       all_goals (first|(refine W6 19 rfl Yaa rfl Yab rfl rfl rfl rfl rfl ?_)|(apply Xc 19 rfl Yaa rfl Yab (Wg rfl rfl rfl);(exact Xe rfl);exact rfl))
       all_goals (first|(refine W6 20 rfl Yaa rfl Yab rfl rfl rfl rfl rfl ?_)|(apply Xc 20 rfl Yaa rfl Yab (Wg rfl rfl rfl);(exact Yae);exact rfl))
       all_goals (first|(refine W6 21 rfl Yaa rfl Yab rfl rfl rfl rfl rfl ?_)|(apply Xc 21 rfl Yaa rfl Yab (Wg rfl rfl rfl);(exact Yaj);exact rfl))
       all_goals (first|(refine W6 22 rfl Yaa rfl Yab rfl rfl rfl rfl rfl ?_)|(apply Xu 22 rfl Yaa rfl Yaa Yab (Wg rfl rfl rfl);(exact Yag);exact rfl))
       all_goals (first|(refine W6 23 rfl Yaa rfl Yab rfl rfl rfl rfl rfl ?_)|(apply Xc 23 rfl Yaa rfl Yab (Wg rfl rfl rfl);(exact Yaq);exact rfl))
       all_goals (first|(refine W6 24 rfl Yaa rfl Yab rfl rfl rfl rfl rfl ?_)|(apply Xc 24 rfl Yaa rfl Yab (Wg rfl rfl rfl);(exact Ybi);exact rfl))
       all_goals ((apply Xc 25 rfl Yaa rfl Yab Xa;exact Ydu;exact rfl))
       all_goals (refine X3 Yaa ?_)
       all_goals ((repeat' (first|refine Xf ?_|refine Xb ?_|refine Xd ?_|(apply Xk;(exact Xj rfl);exact rfl)|refine Xp ?_|refine Xs ?_|refine Xz ?_|refine Xx rfl ?_|(refine Xo rfl (fun hb=>?_) (fun hb=>?_)<;>(repeat (first|replace hb:=X0 hb|replace hb:=X1 hb|replace hb:=Vf hb|replace hb:=Vg hb))<;>(try (exfalso;fail))))))
       all_goals first|exact ⟨.inr rfl,Vk rfl (.tmp rfl) (List.nil_sublist _) ⟨rfl,rfl⟩⟩|(exfalso;refine he ⟨?_,?_⟩<;>first|assumption|omega)
   · have hk9:k=a.length:=by omega
     subst hk9
     rw [List.take_length,hl,List.take_length] at ht
     (repeat' (first|refine Xf ?_|refine Xb ?_|refine Xd ?_|(apply Xk;exact Ycz;exact rfl)|refine Xz ?_|refine Wy ?_|(refine Xo rfl (fun hb=>?_) (fun hb=>?_)<;>(repeat (first|replace hb:=X0 hb|replace hb:=X1 hb))<;>(try (exfalso;omega)))))
     refine ⟨.inr rfl,Vk rfl (.tmp rfl) (List.nil_sublist _) ⟨congrArg exB ?_,rfl⟩⟩
     exact (decide_eq_true ht).symm
 · (repeat' (first|refine Xf ?_|refine Xb ?_|refine Xd ?_|(apply Xk;exact Yai;exact rfl)|refine Xz ?_|(refine Xo rfl (fun hb=>?_) (fun hb=>?_)<;>(repeat (first|replace hb:=X0 hb|replace hb:=X1 hb|replace hb:=Vf hb|replace hb:=Vg hb))<;>(try (exfalso;omega)))))
   all_goals (try (exfalso;omega))
   refine ⟨.inr rfl,Vk rfl (.tmp rfl) (List.nil_sublist _) ⟨congrArg exB ?_,rfl⟩⟩
   exact (decide_eq_false fun e=>hl (by rw [e])).symm
end Go.Proofs.YthdldeenpgeemaaGreatDoor
namespace Go.Proofs.YthdldeenpgeemaaGreatDoor
open Go Go.RowKit Go.Kx Go.Fr
theorem Xfs (x y:RoundD):x=y↔x.name=y.name∧x.panel=y.panel∧x.quota=y.quota∧x.cut=y.cut∧x.places=y.places∧x.free=y.free∧x.tie=y.tie∧x.tieNo=y.tieNo∧x.score=y.score:=by
 cases x;cases y
 rw [RoundD.mk.injEq]
 exact ⟨fun ⟨h1,h2,h3,h4,h5,h6,h7,h8,h9⟩=>⟨h1,h2,h3,h4,h5,h6,h8,h9,h7⟩,fun ⟨h1,h2,h3,h4,h5,h6,h8,h9,h7⟩=>⟨h1,h2,h3,h4,h5,h6,h7,h8,h9⟩⟩
theorem Xao (k j:Nat) (x y:RoundD):FnC Tryz.prog 75 [agg (W3 k x),agg (W3 j y)] [] (fun p loc=>p=exB (decide (x=y))∧loc=[]):=by
 refine X4 Tryz.func75 rfl Tryz.ntmps75 rfl fun w0 F0 out=>?_
 (repeat' (first|refine Xf ?_|refine Xb ?_|refine Xd ?_|(apply Xk;(first|exact Xe rfl|exact Xj rfl|exact Wk (b:=true) rfl (fun _=>rfl) (fun e=>by cases e)|exact Wk (b:=false) rfl (fun e=>by cases e) (fun _=>rfl)|exact Yap|exact Yad|(apply V1;first|exact Xaw rfl rfl|exact Xpr rfl rfl rfl));exact rfl)|(refine Ve rfl rfl rfl rfl rfl ?_)|(apply Vh;exact rfl;exact rfl;exact rfl;(first|exact Yc7|exact Yad|(apply V1;first|exact Xav rfl rfl|exact Qf rfl rfl|exact Xbe rfl rfl|exact Xrp rfl rfl rfl));exact rfl)|refine Xs ?_|refine Xz ?_|refine Xx rfl ?_|(apply Xi;exact rfl;(apply U7;refine V2 rfl ?_;intro _))|(apply Vt;exact rfl;exact rfl;exact rfl;exact rfl;(apply Xn;(refine X9 Tryz.func140 rfl (sameExpr_any _ _ _ _) rfl ?_;rintro _ _ ⟨rfl,rfl⟩)))|(refine W0 rfl rfl (fun hb=>?_) (fun hb=>?_)<;>(repeat (first|replace hb:=X0 hb|replace hb:=X1 hb|replace hb:=Vf hb|replace hb:=Vg hb))<;>(try (exfalso;fail)))|(refine Xo rfl (fun hb=>?_) (fun hb=>?_)<;>(repeat (first|replace hb:=X0 hb|replace hb:=X1 hb|replace hb:=Vf hb|replace hb:=Vg hb))<;>(try (exfalso;fail)))))
 all_goals (refine ⟨.inr rfl,Vk rfl (.tmp rfl) (List.nil_sublist _) ⟨congrArg exB ?_,rfl⟩⟩)
 all_goals (rw [Bool.eq_iff_iff];simp only [decide_eq_true_eq,Xfs,Bool.false_eq_true,false_iff, *])
 all_goals simp
theorem Xkz (x y:RulesD):x=y↔x.name=y.name∧x.best=y.best∧x.bonus=y.bonus∧x.malus=y.malus∧x.ties=y.ties∧x.crits=y.crits∧x.rounds=y.rounds∧x.prizes=y.prizes∧x.points=y.points:=by
 cases x;cases y
 rw [RulesD.mk.injEq]
 exact ⟨fun ⟨h1,h2,h3,h4,h5,h6,h7,h8,h9⟩=>⟨h1,h9,h3,h4,h5,h2,h6,h7,h8⟩,fun ⟨h1,h9,h3,h4,h5,h2,h6,h7,h8⟩=>⟨h1,h2,h3,h4,h5,h6,h7,h8,h9⟩⟩
abbrev rul (k:Nat) (r:RulesD):SP:=agg (Vc k r)
theorem Xjp (k j:Nat) (x y:RulesD):FnC Tryz.prog 24 [rul k x,rul j y] [] (fun p loc=>p=exB (decide (x=y))∧loc=[]):=by
 refine Wl (i:=0) rfl (Ui (i:=1) rfl Ws) fun hc1=>?_
 refine Wl (i:=1) rfl (Ui (i:=1) rfl Ws) fun hc2=>?_
 refine Wl (i:=0) rfl (Ui (i:=5) rfl Ws) fun hr1=>?_
 refine Wl (i:=1) rfl (Ui (i:=5) rfl Ws) fun hr2=>?_
 refine Wl (i:=0) rfl (Ui (i:=6) rfl Ws) fun hp1=>?_
 refine Wl (i:=1) rfl (Ui (i:=6) rfl Ws) fun hp2=>?_
 refine Wl (i:=0) rfl (Ui (i:=7) rfl Ws) fun hq1=>?_
 refine Wl (i:=1) rfl (Ui (i:=7) rfl Ws) fun hq2=>?_
 replace hc1:=hc1.1;replace hc2:=hc2.1;replace hr1:=hr1.1;replace hr2:=hr2.1
 replace hp1:=hp1.2;replace hp2:=hp2.2;replace hq1:=hq1.2;replace hq2:=hq2.2
 simp only [eI] at hp1 hp2 hq1 hq2
 simp only [maxLen] at hc1 hc2 hr1 hr2
 refine X4 Tryz.func24 rfl Tryz.ntmps24 rfl fun w0 F0 out=>?_
 by_cases h0:x.name=y.name∧x.best=y.best∧x.crits.length=y.crits.length∧x.rounds.length=y.rounds.length∧x.bonus=y.bonus∧x.malus=y.malus∧x.ties=y.ties
 · obtain ⟨h1,h2,h3,h4,h5,h6,h7⟩:=h0
   (repeat' (first|refine Xf ?_|refine Xb ?_|refine Xd ?_|(apply Xk;exact Yck;exact rfl)|(refine Ve rfl rfl rfl rfl rfl ?_)|(apply Vh;exact rfl;exact rfl;exact rfl;(first|exact Yap|exact Yad|exact Ybi|exact Yaq|exact Yaw);exact rfl)|refine Xp ?_|refine Xs ?_|refine Xz ?_|refine Xx rfl ?_|(apply Xi;exact rfl;(apply U7;refine V2 rfl ?_;intro _))|(apply Vt;exact rfl;exact rfl;exact rfl;exact rfl;(apply Xn;first|(refine X9 Tryz.func73 rfl (Xan _ _) rfl ?_;rintro _ _ ⟨rfl,rfl⟩)|(refine X9 Tryz.func74 rfl (Xb1 _ _) rfl ?_;rintro _ _ ⟨rfl,rfl⟩)))|(refine W0 rfl rfl (fun hb=>?_) (fun hb=>?_)<;>(repeat (first|replace hb:=X0 hb|replace hb:=X1 hb|replace hb:=Vf hb|replace hb:=Vg hb))<;>(try (exfalso;omega)))|(refine Xo rfl (fun hb=>?_) (fun hb=>?_)<;>(repeat (first|replace hb:=X0 hb|replace hb:=X1 hb|replace hb:=Vf hb|replace hb:=Vg hb))<;>(try (exfalso;fail)))))
   all_goals (try (exfalso;first|contradiction|omega))
   rename_i b1 b2 _ _ _ _ _ _
   refine W1 (fun i:Nat=>([(2,ex (.pointer (some ⟨b1,0,none⟩))),(3,ex (.pointer (some ⟨b2,0,none⟩))),(5,exI .i64 (i:Int))],[row b2 29 9 (Vc j y),row b1 29 9 (Vc k x)])) (fun i=>i≤x.crits.length∧x.crits.take i=y.crits.take i) (fun i=>x.crits.length-i) 0 ?_ ⟨Nat.zero_le _,rfl⟩ fun i hi=>?_
   · exact Xg (by repeat (first|exact Xm|refine Xh rfl ?_)) (List.Sublist.refl _)
   obtain ⟨hi,ht⟩:=hi
   by_cases hlt:i<x.crits.length
   · by_cases he:x.crits[i]=y.crits[i]'Yan
     · (repeat' (first|refine Xf ?_|refine Xb ?_|refine Xd ?_|(apply Xk;exact Yb6;exact rfl)|refine Xp ?_|refine Xs ?_|(refine Xo rfl (fun hb=>?_) (fun hb=>?_)<;>(repeat (first|replace hb:=X0 hb|replace hb:=X1 hb))<;>(try (exfalso;omega)))))
       (refine W9 11 rfl ?_)
       all_goals ((apply Xc 0 rfl Yaa rfl Yab Xa;(exact Yad);exact rfl))
       all_goals ((apply Xu 1 rfl Yaa rfl Yaa Yab Xa;(exact Ya1);exact rfl))
       all_goals ((apply Xc 2 rfl Yaa rfl Yab Xa;(exact Xe rfl);exact rfl))
       all_goals ((apply Xc 3 rfl Yaa rfl Yab Xa;(exact Yae);exact rfl))
       all_goals ((apply Xu 4 rfl Yaa rfl Yaa Yab Xa;(exact Yau);exact rfl))
       all_goals ((apply Xc 5 rfl Yaa rfl Yab Xa;(exact Yad);exact rfl))
       all_goals ((apply Xu 6 rfl Yaa rfl Yaa Yab Xa;(exact Yaf);exact rfl))
       all_goals ((apply Xc 7 rfl Yaa rfl Yab Xa;(exact Xe rfl);exact rfl))
       all_goals ((apply Xc 8 rfl Yaa rfl Yab Xa;(exact Yae);exact rfl))
       all_goals ((apply Xu 9 rfl Yaa rfl Yaa Yab Xa;(exact Yau);exact rfl))
       all_goals ((apply Xc 10 rfl Yaa rfl Yab Xa;(exact Ybp);exact rfl))
       all_goals (refine X3 Yaa ?_)
       all_goals ((repeat' (first|refine Xf ?_|refine Xb ?_|refine Xd ?_|(apply Xk;exact Yay;exact rfl)|refine Xs ?_|refine Xz ?_|(refine Xo rfl (fun hb=>?_) (fun hb=>?_)<;>(repeat (first|replace hb:=X0 hb|replace hb:=X1 hb|replace hb:=Vf hb|replace hb:=Vg hb))<;>(try (exfalso;fail))))))
       all_goals (try (exfalso;simp_all;done))
       exact ⟨i+1,⟨by omega,by rw [List.take_succ_eq_append_getElem hlt,List.take_succ_eq_append_getElem Yan,ht,he]⟩,by omega,Xg (by repeat (first|exact Xm|refine Xh rfl ?_)) (List.Sublist.refl _)⟩
     · (repeat' (first|refine Xf ?_|refine Xb ?_|refine Xd ?_|(apply Xk;exact Yb6;exact rfl)|refine Xp ?_|refine Xs ?_|(refine Xo rfl (fun hb=>?_) (fun hb=>?_)<;>(repeat (first|replace hb:=X0 hb|replace hb:=X1 hb))<;>(try (exfalso;omega)))))
       (refine W9 11 rfl ?_)
       all_goals ((apply Xc 0 rfl Yaa rfl Yab Xa;(exact Yad);exact rfl))
       all_goals ((apply Xu 1 rfl Yaa rfl Yaa Yab Xa;(exact Ya1);exact rfl))
       all_goals ((apply Xc 2 rfl Yaa rfl Yab Xa;(exact Xe rfl);exact rfl))
       all_goals ((apply Xc 3 rfl Yaa rfl Yab Xa;(exact Yae);exact rfl))
       all_goals ((apply Xu 4 rfl Yaa rfl Yaa Yab Xa;(exact Yau);exact rfl))
       all_goals ((apply Xc 5 rfl Yaa rfl Yab Xa;(exact Yad);exact rfl))
       all_goals ((apply Xu 6 rfl Yaa rfl Yaa Yab Xa;(exact Yaf);exact rfl))
       all_goals ((apply Xc 7 rfl Yaa rfl Yab Xa;(exact Xe rfl);exact rfl))
       all_goals ((apply Xc 8 rfl Yaa rfl Yab Xa;(exact Yae);exact rfl))
       all_goals ((apply Xu 9 rfl Yaa rfl Yaa Yab Xa;(exact Yau);exact rfl))
       all_goals ((apply Xc 10 rfl Yaa rfl Yab Xa;(exact Ybp);exact rfl))
       all_goals (refine X3 Yaa ?_)
       all_goals ((repeat' (first|refine Xf ?_|refine Xb ?_|refine Xd ?_|(apply Xk;exact Yay;exact rfl)|refine Xs ?_|refine Xz ?_|(refine Xo rfl (fun hb=>?_) (fun hb=>?_)<;>(repeat (first|replace hb:=X0 hb|replace hb:=X1 hb|replace hb:=Vf hb|replace hb:=Vg hb))<;>(try (exfalso;fail))))))
       all_goals (try (exfalso;simp_all;done))
       refine ⟨.inr rfl,Vk rfl (.tmp rfl) (List.nil_sublist _) ⟨congrArg exB ?_,rfl⟩⟩
       exact (decide_eq_false fun e=>he Ydn).symm
   · have hk9:i=x.crits.length:=by omega
     subst hk9
     rw [List.take_length,h3,List.take_length] at ht
     (repeat' (first|refine Xf ?_|refine Xb ?_|refine Xd ?_|(apply Xk;(first|exact Xe rfl|exact Xj rfl|exact Ya1|exact Yad|exact Yak|exact Yaq);exact rfl)|refine Xp ?_|refine Wy ?_|(refine Xo rfl (fun hb=>?_) (fun hb=>?_)<;>(repeat (first|replace hb:=X0 hb|replace hb:=X1 hb))<;>(try (exfalso;omega)))))
     all_goals (try (exfalso;omega))
     refine W1 (fun i:Nat=>([(2,ex (.pointer (some ⟨b1,0,none⟩))),(3,ex (.pointer (some ⟨b2,0,none⟩))),(6,exI .i64 (i:Int))],[row b2 29 9 (Vc j y),row b1 29 9 (Vc k x)])) (fun i=>i≤x.rounds.length∧x.rounds.take i=y.rounds.take i) (fun i=>x.rounds.length-i) 0 ?_ ⟨Nat.zero_le _,rfl⟩ fun i hi=>?_
     · exact Xg (by repeat (first|exact Xm|refine Xh rfl ?_)) (List.Sublist.refl _)
     obtain ⟨hi,htr⟩:=hi
     by_cases hlt:i<x.rounds.length
     · by_cases he:x.rounds[i]=y.rounds[i]'Yan
       · (repeat' (first|refine Xf ?_|refine Xb ?_|refine Xd ?_|(apply Xk;exact Yb6;exact rfl)|refine Xp ?_|refine Xs ?_|(refine Xo rfl (fun hb=>?_) (fun hb=>?_)<;>(repeat (first|replace hb:=X0 hb|replace hb:=X1 hb))<;>(try (exfalso;omega)))))
         (refine W9 12 rfl ?_)
         all_goals ((apply Xc 0 rfl Yaa rfl Yab Xa;(exact Yad);exact rfl))
         all_goals ((apply Xu 1 rfl Yaa rfl Yaa Yab Xa;(exact Ya1);exact rfl))
         all_goals ((apply Xc 2 rfl Yaa rfl Yab Xa;(exact Xe rfl);exact rfl))
         all_goals ((apply Xc 3 rfl Yaa rfl Yab Xa;(exact Yae);exact rfl))
         all_goals ((apply Xu 4 rfl Yaa rfl Yaa Yab Xa;(exact Yau);exact rfl))
         all_goals ((apply Xc 5 rfl Yaa rfl Yab Xa;(exact Yad);exact rfl))
         all_goals ((apply Xu 6 rfl Yaa rfl Yaa Yab Xa;(exact Yaf);exact rfl))
         all_goals ((apply Xc 7 rfl Yaa rfl Yab Xa;(exact Xe rfl);exact rfl))
         all_goals ((apply Xc 8 rfl Yaa rfl Yab Xa;(exact Yae);exact rfl))
         all_goals ((apply Xu 9 rfl Yaa rfl Yaa Yab Xa;(exact Yau);exact rfl))
         all_goals ((apply Xr 10;exact Yaa;exact rfl;exact Xa;exact (fun _ _ h=>h);(apply Xn;(refine X9 Tryz.func75 rfl (Xao _ _ _ _) rfl ?_;rintro _ _ ⟨rfl,rfl⟩))))
         all_goals ((apply Xc 11 rfl Yaa rfl Yab Xa;(exact Yaw);exact rfl))
         all_goals (refine X3 Yaa ?_)
         all_goals ((repeat' (first|refine Xf ?_|refine Xb ?_|refine Xd ?_|(apply Xk;exact Yay;exact rfl)|refine Xs ?_|refine Xz ?_|(refine Xo rfl (fun hb=>?_) (fun hb=>?_)<;>(repeat (first|replace hb:=X0 hb|replace hb:=X1 hb|replace hb:=Vf hb|replace hb:=Vg hb))<;>(try (exfalso;fail))))))
         all_goals (try (exfalso;simp_all;done))
         exact ⟨i+1,⟨by omega,by rw [List.take_succ_eq_append_getElem hlt,List.take_succ_eq_append_getElem Yan,htr,he]⟩,by omega,Xg (by repeat (first|exact Xm|refine Xh rfl ?_)) (List.Sublist.refl _)⟩
       · (repeat' (first|refine Xf ?_|refine Xb ?_|refine Xd ?_|(apply Xk;exact Yb6;exact rfl)|refine Xp ?_|refine Xs ?_|(refine Xo rfl (fun hb=>?_) (fun hb=>?_)<;>(repeat (first|replace hb:=X0 hb|replace hb:=X1 hb))<;>(try (exfalso;omega)))))
         (refine W9 12 rfl ?_)
         all_goals ((apply Xc 0 rfl Yaa rfl Yab Xa;(exact Yad);exact rfl))
         all_goals ((apply Xu 1 rfl Yaa rfl Yaa Yab Xa;(exact Ya1);exact rfl))
         all_goals ((apply Xc 2 rfl Yaa rfl Yab Xa;(exact Xe rfl);exact rfl))
         all_goals ((apply Xc 3 rfl Yaa rfl Yab Xa;(exact Yae);exact rfl))
         all_goals ((apply Xu 4 rfl Yaa rfl Yaa Yab Xa;(exact Yau);exact rfl))
         all_goals ((apply Xc 5 rfl Yaa rfl Yab Xa;(exact Yad);exact rfl))
         all_goals ((apply Xu 6 rfl Yaa rfl Yaa Yab Xa;(exact Yaf);exact rfl))
         all_goals ((apply Xc 7 rfl Yaa rfl Yab Xa;(exact Xe rfl);exact rfl))
         all_goals ((apply Xc 8 rfl Yaa rfl Yab Xa;(exact Yae);exact rfl))
         all_goals ((apply Xu 9 rfl Yaa rfl Yaa Yab Xa;(exact Yau);exact rfl))
         all_goals ((apply Xr 10;exact Yaa;exact rfl;exact Xa;exact (fun _ _ h=>h);(apply Xn;(refine X9 Tryz.func75 rfl (Xao _ _ _ _) rfl ?_;rintro _ _ ⟨rfl,rfl⟩))))
         all_goals ((apply Xc 11 rfl Yaa rfl Yab Xa;(exact Yaw);exact rfl))
         all_goals (refine X3 Yaa ?_)
         all_goals ((repeat' (first|refine Xf ?_|refine Xb ?_|refine Xd ?_|(apply Xk;exact Yay;exact rfl)|refine Xs ?_|refine Xz ?_|(refine Xo rfl (fun hb=>?_) (fun hb=>?_)<;>(repeat (first|replace hb:=X0 hb|replace hb:=X1 hb|replace hb:=Vf hb|replace hb:=Vg hb))<;>(try (exfalso;fail))))))
         all_goals (try (exfalso;simp_all;done))
         refine ⟨.inr rfl,Vk rfl (.tmp rfl) (List.nil_sublist _) ⟨congrArg exB ?_,rfl⟩⟩
         exact (decide_eq_false fun e=>he Ydn).symm
     · have hk9:i=x.rounds.length:=by omega
       subst hk9
       rw [List.take_length,h4,List.take_length] at htr
       (repeat' (first|refine Xf ?_|refine Xb ?_|refine Xd ?_|(apply Xk;(first|exact Xe rfl|exact Xj rfl|exact Wk (b:=true) rfl (fun _=>rfl) (fun e=>by cases e)|exact Wk (b:=false) rfl (fun e=>by cases e) (fun _=>rfl)|exact Yap|exact Yad|exact Yak|exact Yaq);exact rfl)|(refine Ve rfl rfl rfl rfl rfl ?_)|(apply Vh;exact rfl;exact rfl;exact rfl;(first|exact Yap|exact Yad);exact rfl)|refine Xz ?_|refine Wy ?_|(apply Xi;exact rfl;(apply Xn;(refine X9 Tryz.func76 rfl (Xb2 _ _) rfl ?_;rintro _ _ ⟨rfl,rfl⟩)))|(apply Vt;exact rfl;exact rfl;exact rfl;exact rfl;(apply Xn;(refine X9 Tryz.func76 rfl (Xb2 _ _) rfl ?_;rintro _ _ ⟨rfl,rfl⟩)))|(refine W0 rfl rfl (fun hb=>?_) (fun hb=>?_)<;>(repeat (first|replace hb:=X0 hb|replace hb:=X1 hb))<;>(try (exfalso;fail)))|(refine Xo rfl (fun hb=>?_) (fun hb=>?_)<;>(repeat (first|replace hb:=X0 hb|replace hb:=X1 hb))<;>(try (exfalso;omega)))))
       all_goals (refine ⟨.inr rfl,Vk rfl (.tmp rfl) (List.nil_sublist _) ⟨congrArg exB ?_,rfl⟩⟩)
       all_goals (rw [Bool.eq_iff_iff];simp only [decide_eq_true_eq,Xkz,Bool.false_eq_true,false_iff, *])
       all_goals simp
 · have hn:x≠y:=fun e=>h0 (by subst e;exact ⟨rfl,rfl,rfl,rfl,rfl,rfl,rfl⟩)
   rw [decide_eq_false hn]
   (repeat' (first|refine Xf ?_|refine Xb ?_|refine Xd ?_|(apply Xk;exact Yck;exact rfl)|(refine Ve rfl rfl rfl rfl rfl ?_)|(apply Vh;exact rfl;exact rfl;exact rfl;(first|exact Yap|exact Yad|exact Ybi|exact Yaq|exact Yaw);exact rfl)|refine Xp ?_|refine Xs ?_|refine Xz ?_|refine Xx rfl ?_|(apply Xi;exact rfl;(apply U7;refine V2 rfl ?_;intro _))|(apply Vt;exact rfl;exact rfl;exact rfl;exact rfl;(apply Xn;first|(refine X9 Tryz.func73 rfl (Xan _ _) rfl ?_;rintro _ _ ⟨rfl,rfl⟩)|(refine X9 Tryz.func74 rfl (Xb1 _ _) rfl ?_;rintro _ _ ⟨rfl,rfl⟩)))|(refine W0 rfl rfl (fun hb=>?_) (fun hb=>?_)<;>(repeat (first|replace hb:=X0 hb|replace hb:=X1 hb|replace hb:=Vf hb|replace hb:=Vg hb))<;>(try (exfalso;fail)))|(refine Xo rfl (fun hb=>?_) (fun hb=>?_)<;>(repeat (first|replace hb:=X0 hb|replace hb:=X1 hb|replace hb:=Vf hb|replace hb:=Vg hb))<;>(try (exfalso;fail)))))
   all_goals first|exact ⟨.inr rfl,Vk rfl (.tmp rfl) (List.nil_sublist _) ⟨rfl,rfl⟩⟩|(exfalso;refine h0 ⟨?_,?_,?_,?_,?_,?_,?_⟩<;>first|assumption|omega)
end Go.Proofs.YthdldeenpgeemaaGreatDoor
namespace Go.Proofs.YthdldeenpgeemaaGreatDoor
open Go Go.RowKit Go.Kx Go.Fr
end Go.Proofs.YthdldeenpgeemaaGreatDoor
namespace Go.Sx
open Go.Lx Go.Fr
end Go.Sx
namespace Go.Proofs
open Go.Shelf
end Go.Proofs
namespace Go.Proofs.YthdldeenpgeemaaGreatDoor
open Go Go.RowKit Go.Kx Go.Fr Go.Lx Go.Sx
end Go.Proofs.YthdldeenpgeemaaGreatDoor
namespace Go.Fr
open Go.RowKit Go.Kx
def Xps (q:List UInt8×Int):List SP:=[exT q.1,exI .i64 q.2]
instance {q:List UInt8×Int}:Scs (Xps q):=by unfold Xps;infer_instance
instance:LenS Xps 2:=⟨fun _=>rfl⟩
end Go.Fr
namespace Go.Proofs.YthdldeenpgeemaaGreatDoor
open Go Go.RowKit Go.Kx Go.Fr Go.Lx Go.Sx
end Go.Proofs.YthdldeenpgeemaaGreatDoor
