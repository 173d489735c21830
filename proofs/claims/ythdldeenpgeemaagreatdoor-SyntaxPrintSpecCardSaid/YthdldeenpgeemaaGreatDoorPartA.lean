/- Chapter 13: the writer puts keys and items. -/
import Derived.Test.YthdldeenpgeemaaGreatDoorPart9
import Derived.Test.YthdldeenpgeemaaGreatDoorPart6
import Derived.Test.YthdldeenpgeemaaGreatDoorPart3
import Derived.Test.YthdldeenpgeemaaGreatDoorProg
import Derived.Shelf.Strings.OnBuilder
import Derived.Shelf.Small.Strs
import Derived.Shelf.LaysM
import Derived.Shelf.LaysC
import Derived.Shelf.Strings.Repeat
set_option maxHeartbeats 8000000
set_option maxRecDepth 100000
namespace Go.Sx
open Go.Lx Go.Fr
theorem fm_take {α:Type} (tk:α→List TokD) (l:List α) (i:Nat) (h:i<l.length):(l.take (i+1)).flatMap tk=(l.take i).flatMap tk++tk l[i]:=by
 rw [List.take_succ_eq_append_getElem h,List.flatMap_append,List.flatMap_cons,List.flatMap_nil,List.append_nil]
theorem Xhx {α:Type} (tk:α→List TokD) (l:List α) (i:Nat) (h:i<l.length):((l.take i).flatMap tk).length+(tk l[i]).length≤(l.flatMap tk).length:=by
 have e:l.flatMap tk=(l.take (i+1)).flatMap tk++(l.drop (i+1)).flatMap tk:=by rw [←List.flatMap_append,List.take_append_drop]
 rw [e,fm_take tk l i h];simp only [List.length_append];omega
end Go.Sx
namespace Go.Proofs.YthdldeenpgeemaaGreatDoor
open Go Go.RowKit Go.Kx Go.Fr Go.Lx Go.Sx
theorem Xi0 (k:Nat) (q:KeyD) (b:Nat) (oa:Option Addr) (c:Nat) (acc:List TokD) (hlen:acc.length+(Rr q).length≤70000):FnC Tryz.prog 106 [ex (.pointer (some ⟨b,0,none⟩)),agg (keyV q)] (Vt b oa c acc) (fun _ loc=> ∃oa' c',loc=Vt b oa' c' (acc++Rr q)):=by
 refine X3 Tryz.func106 rfl Tryz.ntmps106 rfl fun w0 F0 out=>?_
 (repeat' (first|(apply W2 1;refine StopW.out ?_)|refine Xe ?_|refine Xb ?_|refine Xc ?_|(apply Xh;exact rfl;(apply Vp;refine W4 rfl ?_;intro _))))
 refine ⟨?_⟩
 rename_i b3
 refine X7 ((Vq (k:=0) (t:=3) rfl rfl).trans (Xg (env':=[(0,ex (.pointer (some ⟨b,0,none⟩))),(3,fp [exI .i64 q.kind,exT q.name,exI .i64 q.n])]) (loc':=Vt b oa c acc) (by repeat (first|exact Xr|refine Xl rfl ?_)) (List.Sublist.refl _))) ?_
 by_cases k1:q.kind=1
 · skip
   have hT:Rr q=[.s [116,111,116,97,108],.nm q.name].flatMap PutV.toks:=by unfold Rr;rw [if_pos k1];rfl
   rw [hT] at hlen ⊢
   simp only [List.flatMap_cons,List.flatMap_nil,PutV.toks,List.length_append,List.length_cons,List.length_nil] at hlen
   (repeat' (first|(apply X4 18;refine Wj (k:=0) (E:=Tf k) (t:=17) [.s [116,111,116,97,108],.nm q.name] rfl rfl rfl rfl ?_ (hc:=by decide) (hby:=by show _ * 16≤140737488355328;decide))|refine Xe ?_|refine Xb ?_|refine Xc ?_|(apply Xn;exact Ybi;exact rfl)|refine Xo ?_|(apply Xh;exact rfl;first|(apply Xi;(refine Xk (.one 0 rfl (.one 0 rfl .nil)) Tryz.func104 rfl (T6 k _ b _ _ _ Yak) rfl ?_;rintro _ _ ⟨oaw,cw,rfl⟩))|(apply X5;(refine Wi rfl Yac ?_);intro _))|(refine Xp rfl (fun hb=>?_) (fun hb=>?_)<;>(repeat (first|replace hb:=Xz hb|replace hb:=X0 hb))<;>(try (exfalso;contradiction)))))
   all_goals (try (exfalso;omega))
   all_goals (exact ⟨.inl rfl,Rk (loc':=Vt b _ _ _) rfl (List.sublist_append_left _ _) ⟨_,_,rfl⟩⟩)
 by_cases k2:q.kind=2
 · skip
   have hT:Rr q=[.s [115,99,111,114,101],.nm q.name].flatMap PutV.toks:=by unfold Rr;rw [if_neg k1,if_pos k2];rfl
   rw [hT] at hlen ⊢
   simp only [List.flatMap_cons,List.flatMap_nil,PutV.toks,List.length_append,List.length_cons,List.length_nil] at hlen
   (repeat' (first|(apply X4 27;refine Wj (k:=0) (E:=Tf k) (t:=26) [.s [115,99,111,114,101],.nm q.name] rfl rfl rfl rfl ?_ (hc:=by decide) (hby:=by show _ * 16≤140737488355328;decide))|refine Xe ?_|refine Xb ?_|refine Xc ?_|(apply Xn;exact Ybi;exact rfl)|refine Xo ?_|(apply Xh;exact rfl;first|(apply Xi;(refine Xk (.one 0 rfl (.one 0 rfl .nil)) Tryz.func104 rfl (T6 k _ b _ _ _ Yak) rfl ?_;rintro _ _ ⟨oaw,cw,rfl⟩))|(apply X5;(refine Wi rfl Yac ?_);intro _))|(refine Xp rfl (fun hb=>?_) (fun hb=>?_)<;>(repeat (first|replace hb:=Xz hb|replace hb:=X0 hb))<;>(try (exfalso;contradiction)))))
   all_goals (try (exfalso;omega))
   all_goals (exact ⟨.inl rfl,Rk (loc':=Vt b _ _ _) rfl (List.sublist_append_left _ _) ⟨_,_,rfl⟩⟩)
 by_cases k5:q.kind=5
 · skip
   have hT:Rr q=[.s [114,117,108,101],.nm q.name].flatMap PutV.toks:=by unfold Rr;rw [if_neg k1,if_neg k2,if_pos k5];rfl
   rw [hT] at hlen ⊢
   simp only [List.flatMap_cons,List.flatMap_nil,PutV.toks,List.length_append,List.length_cons,List.length_nil] at hlen
   (repeat' (first|(apply X4 36;refine Wj (k:=0) (E:=Tf k) (t:=35) [.s [114,117,108,101],.nm q.name] rfl rfl rfl rfl ?_ (hc:=by decide) (hby:=by show _ * 16≤140737488355328;decide))|refine Xe ?_|refine Xb ?_|refine Xc ?_|(apply Xn;exact Ybi;exact rfl)|refine Xo ?_|(apply Xh;exact rfl;first|(apply Xi;(refine Xk (.one 0 rfl (.one 0 rfl .nil)) Tryz.func104 rfl (T6 k _ b _ _ _ Yak) rfl ?_;rintro _ _ ⟨oaw,cw,rfl⟩))|(apply X5;(refine Wi rfl Yac ?_);intro _))|(refine Xp rfl (fun hb=>?_) (fun hb=>?_)<;>(repeat (first|replace hb:=Xz hb|replace hb:=X0 hb))<;>(try (exfalso;contradiction)))))
   all_goals (try (exfalso;omega))
   all_goals (exact ⟨.inl rfl,Rk (loc':=Vt b _ _ _) rfl (List.sublist_append_left _ _) ⟨_,_,rfl⟩⟩)
 by_cases k3:q.kind=3
 · skip
   have hT:Rr q=[.s [104,105,103,104,101,115,116]].flatMap PutV.toks:=by unfold Rr;rw [if_neg k1,if_neg k2,if_neg k5,if_pos k3];rfl
   rw [hT] at hlen ⊢
   simp only [List.flatMap_cons,List.flatMap_nil,PutV.toks,List.length_append,List.length_cons,List.length_nil] at hlen
   (repeat' (first|(apply X4 42;refine Wj (k:=0) (E:=Tf k) (t:=41) [.s [104,105,103,104,101,115,116]] rfl rfl rfl rfl ?_ (hc:=by decide) (hby:=by show _ * 16≤140737488355328;decide))|refine Xe ?_|refine Xb ?_|refine Xc ?_|(apply Xn;exact Ybi;exact rfl)|refine Xo ?_|(apply Xh;exact rfl;first|(apply Xi;(refine Xk (.one 0 rfl (.one 0 rfl .nil)) Tryz.func104 rfl (T6 k _ b _ _ _ Yak) rfl ?_;rintro _ _ ⟨oaw,cw,rfl⟩))|(apply X5;(refine X6 rfl rfl ?_);intro _))|(refine Xp rfl (fun hb=>?_) (fun hb=>?_)<;>(repeat (first|replace hb:=Xz hb|replace hb:=X0 hb))<;>(try (exfalso;contradiction)))))
   all_goals (try (exfalso;omega))
   all_goals (exact ⟨.inl rfl,Rk (loc':=Vt b _ _ _) rfl (List.sublist_append_left _ _) ⟨_,_,rfl⟩⟩)
 by_cases k4:q.kind=4
 · skip
   have hT:Rr q=[.s [98,111,110,117,115]].flatMap PutV.toks:=by unfold Rr;rw [if_neg k1,if_neg k2,if_neg k5,if_neg k3,if_pos k4];rfl
   rw [hT] at hlen ⊢
   simp only [List.flatMap_cons,List.flatMap_nil,PutV.toks,List.length_append,List.length_cons,List.length_nil] at hlen
   (repeat' (first|(apply X4 48;refine Wj (k:=0) (E:=Tf k) (t:=47) [.s [98,111,110,117,115]] rfl rfl rfl rfl ?_ (hc:=by decide) (hby:=by show _ * 16≤140737488355328;decide))|refine Xe ?_|refine Xb ?_|refine Xc ?_|(apply Xn;exact Ybi;exact rfl)|refine Xo ?_|(apply Xh;exact rfl;first|(apply Xi;(refine Xk (.one 0 rfl (.one 0 rfl .nil)) Tryz.func104 rfl (T6 k _ b _ _ _ Yak) rfl ?_;rintro _ _ ⟨oaw,cw,rfl⟩))|(apply X5;(refine X6 rfl rfl ?_);intro _))|(refine Xp rfl (fun hb=>?_) (fun hb=>?_)<;>(repeat (first|replace hb:=Xz hb|replace hb:=X0 hb))<;>(try (exfalso;contradiction)))))
   all_goals (try (exfalso;omega))
   all_goals (exact ⟨.inl rfl,Rk (loc':=Vt b _ _ _) rfl (List.sublist_append_left _ _) ⟨_,_,rfl⟩⟩)
 · skip
   have hT:Rr q=[.s [108,111,116]].flatMap PutV.toks:=by unfold Rr;rw [if_neg k1,if_neg k2,if_neg k5,if_neg k3,if_neg k4];rfl
   rw [hT] at hlen ⊢
   simp only [List.flatMap_cons,List.flatMap_nil,PutV.toks,List.length_append,List.length_cons,List.length_nil] at hlen
   (repeat' (first|(apply X4 9;refine Wj (k:=0) (E:=Tf k) (t:=8) [.s [108,111,116]] rfl rfl rfl rfl ?_ (hc:=by decide) (hby:=by show _ * 16≤140737488355328;decide))|refine Xe ?_|refine Xb ?_|refine Xc ?_|(apply Xn;exact Ybi;exact rfl)|refine Xo ?_|(apply Xh;exact rfl;first|(apply Xi;(refine Xk (.one 0 rfl (.one 0 rfl .nil)) Tryz.func104 rfl (T6 k _ b _ _ _ Yak) rfl ?_;rintro _ _ ⟨oaw,cw,rfl⟩))|(apply X5;(refine X6 rfl rfl ?_);intro _))|(refine Xp rfl (fun hb=>?_) (fun hb=>?_)<;>(repeat (first|replace hb:=Xz hb|replace hb:=X0 hb))<;>(try (exfalso;contradiction)))))
   all_goals (try (exfalso;omega))
   all_goals (exact ⟨.inl rfl,Rk (loc':=Vt b _ _ _) rfl (List.sublist_append_left _ _) ⟨_,_,rfl⟩⟩)
theorem Xbo (k:Nat) (w:List UInt8) (hw:Us w=true) (l:List ItemD) (b:Nat) (oa:Option Addr) (c:Nat) (acc:List TokD) (hlen:acc.length+(l.flatMap (Un w)).length≤70000):FnC Tryz.prog 105 [ex (.pointer (some ⟨b,0,none⟩)),exT w,isl eItem l] (Vt b oa c acc) (fun _ loc=> ∃oa' c',loc=Vt b oa' c' (acc++l.flatMap (Un w))):=by
 refine Wp (i:=2) rfl Wu fun hl=>?_
 obtain ⟨hl,-⟩:=hl
 simp only [maxLen] at hl
 refine X3 Tryz.func105 rfl Tryz.ntmps105 rfl fun w0 F0 out=>?_
 (repeat' (first|refine Xe ?_|refine Xb ?_|refine Xc ?_|(apply Xn;(first|exact Xf rfl|exact Yaj);exact rfl)|refine Xo ?_))
 refine Ws (fun z:Nat×Option Addr×Nat=>([(0,ex (.pointer (some ⟨b,0,none⟩))),(1,exT w),(8,isl eItem l),(9,exI .i64 l.length),(10,exI .i64 (z.1:Int))],Vt b z.2.1 z.2.2 (acc++(l.take z.1).flatMap (Un w)))) (fun z=>z.1≤l.length) (fun z=>l.length-z.1) (0,oa,c) ?_ (Nat.zero_le _) fun z hz=>?_
 · exact Xg (by repeat (first|exact Xr|refine Xl rfl ?_)) (by show List.Sublist (Vt b oa c (acc++[])) _;rw [List.append_nil];exact List.Sublist.refl _)
 obtain ⟨i,oa1,c1⟩:=z
 simp only at hz
 by_cases hi:i<l.length
 · have hb1:=Xhx (Un w) l i hi
   have hb2:=fm_take (Un w) l i hi
   have hT:Un w l[i]=[.s w,.nm l[i].name,.s [118,97,108,117,101],.i l[i].value,.s [109,111,115,116],.i l[i].most,.s [59]].flatMap PutV.toks:=by
     show _=[sT w,_,_,_,_,_,_]
     unfold sT;rw [hw];rfl
   have hL:(Un w l[i]).length=7:=rfl
   generalize hA:acc++(l.take i).flatMap (Un w)=A
   have hAl:A.length+7≤70000:=by rw [←hA,List.length_append];omega
   (repeat' (first|(apply Wa 3;refine StopW.out ?_)|refine Xe ?_|refine Xb ?_|refine Xc ?_|(apply Xn;exact Ydp;exact rfl)|refine Xo ?_|refine Xs ?_|(apply Xh;exact rfl;first|(apply Wb;refine X8 ?_;intro _)|(apply Xt;refine Xj (k:=0) (l0:=[]) rfl rfl rfl ?_))|(refine Xp rfl (fun hb=>?_) (fun hb=>?_)<;>(repeat (first|replace hb:=Xz hb|replace hb:=X0 hb))<;>(try (exfalso;omega)))))
   refine ⟨?_⟩
   rename_i b7
   refine X7 (Vq (k:=0) (t:=7) rfl rfl) ?_
   refine X7 (env':=(7,fp (itemV l[i]))::[(0,ex (.pointer (some ⟨b,0,none⟩))),(1,exT w),(8,isl eItem l),(9,exI .i64 l.length),(10,exI .i64 (i:Int))]) (loc':=Vt b oa1 c1 A) (Xg (by repeat (first|exact Xr|refine Xl rfl ?_)) Yc0) ?_
   (repeat' (first|(apply X4 30;refine Wj (k:=0) (E:=Tf k) (t:=29) [.s w,.nm l[i].name,.s [118,97,108,117,101],.i l[i].value,.s [109,111,115,116],.i l[i].most,.s [59]] rfl rfl rfl rfl ?_ (hc:=by decide) (hby:=by show _ * 16≤140737488355328;decide))|refine Xb ?_|refine Xc ?_|(apply Xn;(first|exact Xf rfl|exact Yag|exact Yae|exact Ya7|exact Yax);exact rfl)|(apply Xh;exact rfl;first|(apply Xi;(refine Xk (.one 0 rfl (.one 0 rfl .nil)) Tryz.func104 rfl (T6 k _ b _ _ _ Yak) rfl ?_;rintro _ _ ⟨oaw,cw,rfl⟩))|(apply X5;(refine Wi rfl Yac ?_);intro _))))
   refine ⟨(i+1,_,_),by show i+1≤l.length;omega,by show l.length-(i+1)<l.length-i;omega,Xg (by repeat (first|exact Xr|refine Xl rfl ?_)) (by show List.Sublist (Vt b _ _ (acc++(l.take (i+1)).flatMap (Un w))) _;rw [hb2,←List.append_assoc,hA,hT];exact List.sublist_append_left _ _)⟩
 · (repeat' (first|refine Xe ?_|refine Xb ?_|refine Xc ?_|(apply Xn;(exact Yam);exact rfl)|refine Wm ?_|(refine Xp rfl (fun hb=>?_) (fun hb=>?_)<;>(repeat (first|replace hb:=Xz hb|replace hb:=X0 hb))<;>(try (exfalso;omega)))))
   have hq:i=l.length:=by omega
   subst hq
   refine ⟨.inl rfl,Rk (loc':=Vt b oa1 c1 (acc++l.flatMap (Un w))) rfl (by show List.Sublist _ (Vt b oa1 c1 (acc++(l.take l.length).flatMap (Un w)));rw [List.take_length];exact List.Sublist.refl _) ⟨oa1,c1,rfl⟩⟩
end Go.Proofs.YthdldeenpgeemaaGreatDoor
namespace Go.Sx
open Go.Lx Go.Fr
theorem keysT_take: ∀(l:List KeyD) (j:Nat) (h:j<l.length),keysT (l.take (j+1))=keysT (l.take j)++((if j=0 then [] else [tkS sComma])++Rr l[j])
 | x::l,0,_=>by show Rr x++[]=_;rw [List.append_nil];rfl
 | x::l,j+1,h=>by
   have h':j<l.length:=by simpa using h
   show Rr x++(l.take (j+1)).flatMap (fun y=>tkS sComma::Rr y)=(Rr x++(l.take j).flatMap (fun y=>tkS sComma::Rr y))++([tkS sComma]++Rr l[j])
   rw [List.take_succ_eq_append_getElem h',List.flatMap_append,List.append_assoc]
   simp
theorem keysT_mono: ∀(l:List KeyD) (i:Nat),(keysT (l.take i)).length≤(keysT l).length
 | l,0=>Nat.zero_le _
 | [],i+1=>Nat.le_refl _
 | x::l,i+1=>by
   show (Rr x++(l.take i).flatMap (fun y=>tkS sComma::Rr y)).length≤(Rr x++l.flatMap (fun y=>tkS sComma::Rr y)).length
   have h:l.flatMap (fun y=>tkS sComma::Rr y)=(l.take i).flatMap (fun y=>tkS sComma::Rr y)++(l.drop i).flatMap (fun y=>tkS sComma::Rr y):=by rw [←List.flatMap_append,List.take_append_drop]
   rw [h];simp only [List.length_append];omega
abbrev Xi1 (x:Crit):List TokD:=if x.rev then [tkW wReverse] else []
abbrev Xbb (x:RoundD):List TokD:=if x.free then [tkW wFree] else []
abbrev plT (x:RoundD):List TokD:=if x.places then [tkW wPlaces] else tkW wScore::exT' x.score
abbrev tiT (x:RoundD):List TokD:=if x.tieNo=0 then [tkW wTie,tkW x.tie] else []
theorem Xfc (x:Crit):(T3 x).length=8+(Xc0 x).length+(Xi1 x).length+1:=by unfold T3;simp only [List.length_append];rfl
theorem Xdc (x:RoundD):(roundT x).length=6+(Xb4 x.cut).length+(Xbb x).length+(plT x).length+(tiT x).length+1:=by unfold roundT;simp only [List.length_append];rfl
theorem Xhy (x:TieD):(Xbq x).length=2+(keysT x.keys).length+1:=by unfold Xbq;simp only [List.length_append];rfl
abbrev Xhz (l:List Int):List TokD:=if l=[] then [] else tkW wPrizes::commaT l++[tkS sSemi]
abbrev Xmm (l:List Int) (b:Int):List TokD:=if l=[] then [] else tkW wPoints::commaT l++[tkW wBest,tkN b,tkS sSemi]
end Go.Sx
namespace Go.Proofs.YthdldeenpgeemaaGreatDoor
open Go Go.RowKit Go.Kx Go.Fr Go.Lx Go.Sx
theorem Xfd (k:Nat) (r:RulesD) (b:Nat) (oa:Option Addr) (c:Nat) (acc:List TokD) (hlen:acc.length+(V2 r).length≤70000):FnC Tryz.prog 36 [ex (.pointer (some ⟨b,0,none⟩)),agg (Wq k r)] (Vt b oa c acc) (fun _ loc=> ∃oa' c',loc=Vt b oa' c' (acc++V2 r)):=by
 refine Wp (i:=1) rfl (Vo (i:=1) rfl Wu) fun hc1=>?_
 refine Wp (i:=1) rfl (Vo (i:=4) rfl Wu) fun hc2=>?_
 refine Wp (i:=1) rfl (Vo (i:=5) rfl Wu) fun hc3=>?_
 replace hc1:=hc1.1;replace hc2:=hc2.1;replace hc3:=hc3.1
 simp only [maxLen] at hc1 hc2 hc3
 have hRT:V2 r=[tkW wCompetition,tkW r.name,tkS sSemi]++r.crits.flatMap T3++r.bonus.flatMap (Un wBonus)++r.malus.flatMap (Un wMalus)++r.ties.flatMap Xbq++r.rounds.flatMap roundT++Xhz r.prizes++Xmm r.points r.best:=rfl
 rw [hRT] at hlen ⊢
 simp only [List.length_append,List.length_cons,List.length_nil] at hlen
 refine X3 Tryz.func36 rfl Tryz.ntmps36 rfl fun w0 F0 out=>?_
 (repeat' (first|(apply W2 1;refine StopW.out ?_)|refine Xe ?_|refine Xb ?_|refine Xc ?_|(apply Xh;exact rfl;(apply Vp;refine W4 rfl ?_;intro _))))
 refine ⟨?_⟩
 rename_i b3
 refine X7 ((Vq (k:=0) (t:=3) rfl rfl).trans (Xg (env':=[(0,ex (.pointer (some ⟨b,0,none⟩))),(3,fp (Wq k r))]) (loc':=Vt b oa c acc) (by repeat (first|exact Xr|refine Xl rfl ?_)) (List.Sublist.refl _))) ?_
 (repeat' (first|(apply W2 2;refine StopW.out ?_)|(apply X4 22;refine Wj (k:=0) (E:=Tf k) (t:=21) [.s [99,111,109,112,101,116,105,116,105,111,110],.nm r.name,.s [59]] rfl rfl rfl rfl ?_ (hc:=by decide) (hby:=by show _ * 16≤140737488355328;decide))|refine Xe ?_|refine Xb ?_|refine Xc ?_|(apply Xn;exact Yck;exact rfl)|(apply Xh;exact rfl;first|(apply Xi;(refine Xk (.one 0 rfl (.one 0 rfl .nil)) Tryz.func104 rfl (T6 k _ b _ _ _ Yak) rfl ?_;rintro _ _ ⟨oaw,cw,rfl⟩))|(apply X5;(refine Wi rfl Yac ?_);intro _))))
 refine ⟨?_⟩
 refine V1 (fun z:Option Addr×Nat=>([(0,ex (.pointer (some ⟨b,0,none⟩))),(3,fp (Wq k r))],Vt b z.1 z.2 (acc++[tkW wCompetition,tkW r.name,tkS sSemi]++r.crits.flatMap T3))) (fun _=>True) ?_ fun z _=>?_
 · generalize hA0:acc++[tkW wCompetition,tkW r.name,tkS sSemi]=A0
   have hA0l:A0.length=acc.length+3:=by rw [←hA0,List.length_append];rfl
   refine X7 (env':=[(0,ex (.pointer (some ⟨b,0,none⟩))),(3,fp (Wq k r))]) (loc':=Vt b _ _ A0) (Xg (by repeat (first|exact Xr|refine Xl rfl ?_)) (by subst hA0;exact List.sublist_append_left _ _)) ?_
   (repeat' (first|refine Xe ?_|refine Xb ?_|refine Xc ?_|(apply Xn;exact Yd9;exact rfl)|refine Xo ?_))
   refine Ws (fun z:Nat×Option Addr×Nat=>([(0,ex (.pointer (some ⟨b,0,none⟩))),(3,fp (Wq k r)),(24,isl eCrit r.crits),(25,exI .i64 r.crits.length),(26,exI .i64 (z.1:Int))],Vt b z.2.1 z.2.2 (A0++(r.crits.take z.1).flatMap T3))) (fun z=>z.1≤r.crits.length) (fun z=>r.crits.length-z.1) (0,oaw,cw) ?_ (Nat.zero_le _) fun z hz=>?_
   · exact Xg (by repeat (first|exact Xr|refine Xl rfl ?_)) (by show List.Sublist (Vt b _ _ (A0++[])) _;rw [List.append_nil];exact List.Sublist.refl _)
   obtain ⟨i,oa1,c1⟩:=z
   simp only at hz
   by_cases hi:i<r.crits.length
   · have hb1:=Xhx T3 r.crits i hi
     have hb2:=fm_take T3 r.crits i hi
     generalize hA:A0++(r.crits.take i).flatMap T3=A
     have hAl:A.length=A0.length+((r.crits.take i).flatMap T3).length:=by rw [←hA,List.length_append]
     (repeat' (first|(apply W2 5;refine StopW.out ?_)|refine Xe ?_|refine Xb ?_|refine Xc ?_|(apply Xn;exact Ydp;exact rfl)|refine Xo ?_|refine Xs ?_|(apply Xh;exact rfl;first|(apply Wb;refine X8 ?_;intro _)|(apply Xt;refine Xj (k:=0) (l0:=[]) rfl rfl rfl ?_))|(refine Xp rfl (fun hb=>?_) (fun hb=>?_)<;>(repeat (first|replace hb:=Xz hb|replace hb:=X0 hb))<;>(try (exfalso;omega)))))
     refine ⟨?_⟩
     rename_i b5
     refine X7 (Vq (k:=0) (t:=5) rfl rfl) ?_
     refine X7 (env':=[(0,ex (.pointer (some ⟨b,0,none⟩))),(3,fp (Wq k r)),(24,isl eCrit r.crits),(25,exI .i64 r.crits.length),(26,exI .i64 (i:Int)),(5,fp (critV r.crits[i]))]) (loc':=Vt b oa1 c1 A) (Xg (by repeat (first|exact Xr|refine Xl rfl ?_)) Yc0) ?_
     generalize hx:r.crits[i]=x at hb1 hb2
     have hxl:=Xfc x
     rw [hxl] at hb1
     (repeat' (first|(apply W2 6;refine StopW.out ?_)|(apply X4 48;refine Wj (k:=0) (E:=Tf k) (t:=47) [.s [99,114,105,116,101,114,105,111,110],.nm x.name,.s [102,114,111,109],.i x.low,.s [116,111],.i x.high,.s [115,116,101,112],.i x.step] rfl rfl rfl rfl ?_ (hc:=by decide) (hby:=by show _ * 16≤140737488355328;decide))|refine Xe ?_|refine Xb ?_|refine Xc ?_|(apply Xn;exact Yck;exact rfl)|(apply Xh;exact rfl;first|(apply Xi;(refine Xk (.one 0 rfl (.one 0 rfl .nil)) Tryz.func104 rfl (T6 k _ b _ _ _ Yak) rfl ?_;rintro _ _ ⟨oaw,cw,rfl⟩))|(apply X5;(refine Wi rfl Yac ?_);intro _))))
     refine ⟨?_⟩
     refine V1 (fun z:Option Addr×Nat=>([(0,ex (.pointer (some ⟨b,0,none⟩))),(3,fp (Wq k r)),(24,isl eCrit r.crits),(25,exI .i64 r.crits.length),(26,exI .i64 (i:Int)),(5,fp (critV x))],Vt b z.1 z.2 (A++[.s [99,114,105,116,101,114,105,111,110],.nm x.name,.s [102,114,111,109],.i x.low,.s [116,111],.i x.high,.s [115,116,101,112],.i x.step].flatMap PutV.toks++Xc0 x))) (fun _=>True) ?_ fun z _=>?_
     · by_cases h1:x.how=1
       · have hh:Xc0 x=[.s [115,117,109]].flatMap PutV.toks:=by unfold Xc0;rw [if_pos h1];rfl
         rw [hh] at hb1
         simp only [List.flatMap_cons,List.flatMap_nil,PutV.toks,List.length_append,List.length_cons,List.length_nil] at hb1
         (repeat' (first|(apply X4 60;refine Wj (k:=0) (E:=Tf k) (t:=59) [.s [115,117,109]] rfl rfl rfl rfl ?_ (hc:=by decide) (hby:=by show _ * 16≤140737488355328;decide))|refine Xe ?_|refine Xb ?_|refine Xc ?_|(apply Xn;exact Ybi;exact rfl)|refine Xo ?_|(apply Xh;exact rfl;first|(apply Xi;(refine Xk (.one 0 rfl (.one 0 rfl .nil)) Tryz.func104 rfl (T6 k _ b _ _ _ Yak) rfl ?_;rintro _ _ ⟨oaw,cw,rfl⟩))|(apply X5;(refine X6 rfl rfl ?_);intro _))|(refine Xp rfl (fun hb=>?_) (fun hb=>?_)<;>(repeat (first|replace hb:=Xz hb|replace hb:=X0 hb))<;>(try (exfalso;contradiction)))))
         all_goals (try (exfalso;omega))
         all_goals (refine Wo (Q:=fun _ _ _=>True) (_,_) trivial (Xg (by repeat (first|exact Xr|refine Xl rfl ?_)) Yb3))
       by_cases h2:x.how=2
       · have hh:Xc0 x=[.s [109,101,97,110],.s [116,114,105,109],.i x.trim].flatMap PutV.toks:=by unfold Xc0;rw [if_neg h1,if_pos h2];rfl
         rw [hh] at hb1
         simp only [List.flatMap_cons,List.flatMap_nil,PutV.toks,List.length_append,List.length_cons,List.length_nil] at hb1
         (repeat' (first|(apply X4 70;refine Wj (k:=0) (E:=Tf k) (t:=69) [.s [109,101,97,110],.s [116,114,105,109],.i x.trim] rfl rfl rfl rfl ?_ (hc:=by decide) (hby:=by show _ * 16≤140737488355328;decide))|refine Xe ?_|refine Xb ?_|refine Xc ?_|(apply Xn;exact Ybi;exact rfl)|refine Xo ?_|(apply Xh;exact rfl;first|(apply Xi;(refine Xk (.one 0 rfl (.one 0 rfl .nil)) Tryz.func104 rfl (T6 k _ b _ _ _ Yak) rfl ?_;rintro _ _ ⟨oaw,cw,rfl⟩))|(apply X5;(refine Wi rfl Yac ?_);intro _))|(refine Xp rfl (fun hb=>?_) (fun hb=>?_)<;>(repeat (first|replace hb:=Xz hb|replace hb:=X0 hb))<;>(try (exfalso;contradiction)))))
         all_goals (try (exfalso;omega))
         all_goals (refine Wo (Q:=fun _ _ _=>True) (_,_) trivial (Xg (by repeat (first|exact Xr|refine Xl rfl ?_)) Yb3))
       · have hh:Xc0 x=[.s [109,101,100,105,97,110]].flatMap PutV.toks:=by unfold Xc0;rw [if_neg h1,if_neg h2];rfl
         rw [hh] at hb1
         simp only [List.flatMap_cons,List.flatMap_nil,PutV.toks,List.length_append,List.length_cons,List.length_nil] at hb1
         (repeat' (first|(apply X4 54;refine Wj (k:=0) (E:=Tf k) (t:=53) [.s [109,101,100,105,97,110]] rfl rfl rfl rfl ?_ (hc:=by decide) (hby:=by show _ * 16≤140737488355328;decide))|refine Xe ?_|refine Xb ?_|refine Xc ?_|(apply Xn;exact Ybi;exact rfl)|refine Xo ?_|(apply Xh;exact rfl;first|(apply Xi;(refine Xk (.one 0 rfl (.one 0 rfl .nil)) Tryz.func104 rfl (T6 k _ b _ _ _ Yak) rfl ?_;rintro _ _ ⟨oaw,cw,rfl⟩))|(apply X5;(refine X6 rfl rfl ?_);intro _))|(refine Xp rfl (fun hb=>?_) (fun hb=>?_)<;>(repeat (first|replace hb:=Xz hb|replace hb:=X0 hb))<;>(try (exfalso;contradiction)))))
         all_goals (try (exfalso;omega))
         all_goals (refine Wo (Q:=fun _ _ _=>True) (_,_) trivial (Xg (by repeat (first|exact Xr|refine Xl rfl ?_)) Yb3))
     obtain ⟨oa2,c2⟩:=z
     simp only
     generalize hA2:A++[.s [99,114,105,116,101,114,105,111,110],.nm x.name,.s [102,114,111,109],.i x.low,.s [116,111],.i x.high,.s [115,116,101,112],.i x.step].flatMap PutV.toks++Xc0 x=A2
     have hA2l:A2.length=A.length+8+(Xc0 x).length:=by rw [←hA2,List.length_append,List.length_append];rfl
     (repeat' (first|(apply W2 12;refine StopW.out ?_)|refine Xe ?_))
     refine ⟨?_⟩
     refine V1 (fun z:Option Addr×Nat=>([(0,ex (.pointer (some ⟨b,0,none⟩))),(3,fp (Wq k r)),(24,isl eCrit r.crits),(25,exI .i64 r.crits.length),(26,exI .i64 (i:Int)),(5,fp (critV x))],Vt b z.1 z.2 (A2++Xi1 x))) (fun _=>True) ?_ fun z _=>?_
     · cases hr:x.rev
       · have hh:Xi1 x=[]:=by unfold Xi1;rw [hr];rfl
         (repeat' (first|refine Xe ?_|refine Xb ?_|refine Xc ?_|(apply Xn;exact Yck;exact rfl)|refine Xs ?_|(apply Xh;exact rfl;(apply X5;(refine X6 rfl rfl ?_);intro _))|(refine Xp rfl (fun hb=>?_) (fun hb=>?_)<;>(repeat (fail))<;>(try (exfalso;fail)))))
         all_goals (try (exfalso;simp_all;done))
         all_goals (refine Wo (Q:=fun _ _ _=>True) (_,_) trivial (Xg (by repeat (first|exact Xr|refine Xl rfl ?_)) (by show List.Sublist (Vt b _ _ (A2++Xi1 x)) _;rw [hh,List.append_nil];exact List.Sublist.refl _)))
       · have hh:Xi1 x=[.s [114,101,118,101,114,115,101]].flatMap PutV.toks:=by unfold Xi1;rw [hr];rfl
         rw [hh] at hb1
         simp only [List.flatMap_cons,List.flatMap_nil,PutV.toks,List.length_append,List.length_cons,List.length_nil] at hb1
         (repeat' (first|(apply X4 76;refine Wj (k:=0) (E:=Tf k) (t:=75) [.s [114,101,118,101,114,115,101]] rfl rfl rfl rfl ?_ (hc:=by decide) (hby:=by show _ * 16≤140737488355328;decide))|refine Xe ?_|refine Xb ?_|refine Xc ?_|(apply Xn;exact Yck;exact rfl)|refine Xs ?_|(apply Xh;exact rfl;first|(apply Xi;(refine Xk (.one 0 rfl (.one 0 rfl .nil)) Tryz.func104 rfl (T6 k _ b _ _ _ Yak) rfl ?_;rintro _ _ ⟨oaw,cw,rfl⟩))|(apply X5;(refine X6 rfl rfl ?_);intro _))|(refine Xp rfl (fun hb=>?_) (fun hb=>?_)<;>(repeat (fail))<;>(try (exfalso;fail)))))
         all_goals (try (exfalso;simp_all;done))
         all_goals (refine Wo (Q:=fun _ _ _=>True) (_,_) trivial (Xg (by repeat (first|exact Xr|refine Xl rfl ?_)) (by show List.Sublist (Vt b _ _ (A2++Xi1 x)) _;rw [hh];first|exact List.sublist_append_left _ _|exact List.Sublist.refl _)))
     obtain ⟨oa3,c3⟩:=z
     simp only
     generalize hA3:A2++Xi1 x=A3
     have hA3l:A3.length=A2.length+(Xi1 x).length:=by rw [←hA3,List.length_append]
     (repeat' (first|(apply X4 80;refine Wj (k:=0) (E:=Tf k) (t:=79) [.s [59]] rfl rfl rfl rfl ?_ (hc:=by decide) (hby:=by show _ * 16≤140737488355328;decide))|refine Xb ?_|refine Xc ?_|(apply Xn;(first|exact Xf rfl|exact Ya7|exact Yax);exact rfl)|(apply Xh;exact rfl;first|(apply Xi;(refine Xk (.one 0 rfl (.one 0 rfl .nil)) Tryz.func104 rfl (T6 k _ b _ _ _ Yak) rfl ?_;rintro _ _ ⟨oaw,cw,rfl⟩))|(apply X5;(refine X6 rfl rfl ?_);intro _))))
     refine ⟨(i+1,_,_),by show i+1≤r.crits.length;omega,by show r.crits.length-(i+1)<r.crits.length-i;omega,Xg (by repeat (first|exact Xr|refine Xl rfl ?_)) (by show List.Sublist (Vt b _ _ (A0++(r.crits.take (i+1)).flatMap T3)) _;rw [hb2,←List.append_assoc,hA,show T3 x=[.s [99,114,105,116,101,114,105,111,110],.nm x.name,.s [102,114,111,109],.i x.low,.s [116,111],.i x.high,.s [115,116,101,112],.i x.step].flatMap PutV.toks++Xc0 x++Xi1 x++[tkS sSemi] from rfl,←List.append_assoc,←List.append_assoc,←List.append_assoc,hA2,hA3];exact List.sublist_append_left _ _)⟩
   · (repeat' (first|refine Xe ?_|refine Xb ?_|refine Xc ?_|(apply Xn;(exact Yam);exact rfl)|refine Wm ?_|(refine Xp rfl (fun hb=>?_) (fun hb=>?_)<;>(repeat (first|replace hb:=Xz hb|replace hb:=X0 hb))<;>(try (exfalso;omega)))))
     have hq:i=r.crits.length:=by omega
     subst hq
     refine Wo (Q:=fun _ _ _=>True) (oa1,c1) trivial (Xg (by repeat (first|exact Xr|refine Xl rfl ?_)) (by show List.Sublist (Vt b oa1 c1 (A0++r.crits.flatMap T3)) (Vt b oa1 c1 (A0++(r.crits.take r.crits.length).flatMap T3));rw [List.take_length];exact List.Sublist.refl _))
 obtain ⟨oa2,c2⟩:=z
 simp only
 generalize hA1:acc++[tkW wCompetition,tkW r.name,tkS sSemi]++r.crits.flatMap T3=A1
 have hA1l:A1.length=acc.length+3+(r.crits.flatMap T3).length:=by rw [←hA1];simp only [List.length_append,List.length_cons,List.length_nil]
 have hI1:=fun oa c=>Xbo k wBonus Yao r.bonus b oa c A1 Yan
 have hI2:=fun oa c=>Xbo k wMalus Yao r.malus b oa c (A1++r.bonus.flatMap (Un wBonus)) Yb1
 (repeat' (first|(apply W2 18;refine StopW.out ?_)|refine Xe ?_|refine Xb ?_|refine Xc ?_|(apply Xn;(first|exact Xf rfl|exact Yag|exact Yae);exact rfl)|(apply Xh;exact rfl;(apply Xi;first|(refine Xk (.one 0 rfl (.one 0 rfl .nil)) Tryz.func105 rfl (hI1 _ _) rfl ?_;rintro _ _ ⟨oaw,cw,rfl⟩)|(refine Xk (.one 0 rfl (.one 0 rfl .nil)) Tryz.func105 rfl (hI2 _ _) rfl ?_;rintro _ _ ⟨oaw,cw,rfl⟩)))))
 refine ⟨?_⟩
 refine V1 (fun z:Option Addr×Nat=>([(0,ex (.pointer (some ⟨b,0,none⟩))),(3,fp (Wq k r))],Vt b z.1 z.2 (A1++r.bonus.flatMap (Un wBonus)++r.malus.flatMap (Un wMalus)++r.ties.flatMap Xbq))) (fun _=>True) ?_ fun z _=>?_
 · generalize hA2:A1++r.bonus.flatMap (Un wBonus)++r.malus.flatMap (Un wMalus)=A2
   have hA2l:A2.length=A1.length+(r.bonus.flatMap (Un wBonus)).length+(r.malus.flatMap (Un wMalus)).length:=by rw [←hA2,List.length_append,List.length_append]
   refine X7 (env':=[(0,ex (.pointer (some ⟨b,0,none⟩))),(3,fp (Wq k r))]) (loc':=Vt b _ _ A2) (Xg (by repeat (first|exact Xr|refine Xl rfl ?_)) (by subst hA2;exact List.sublist_append_left _ _)) ?_
   (repeat' (first|refine Xe ?_|refine Xb ?_|refine Xc ?_|(apply Xn;exact Yd9;exact rfl)|refine Xo ?_))
   refine Ws (fun z:Nat×Option Addr×Nat=>([(0,ex (.pointer (some ⟨b,0,none⟩))),(3,fp (Wq k r)),(91,isl eTie r.ties),(92,exI .i64 r.ties.length),(93,exI .i64 (z.1:Int))],Vt b z.2.1 z.2.2 (A2++(r.ties.take z.1).flatMap Xbq))) (fun z=>z.1≤r.ties.length) (fun z=>r.ties.length-z.1) (0,oaw,cw) ?_ (Nat.zero_le _) fun z hz=>?_
   · exact Xg (by repeat (first|exact Xr|refine Xl rfl ?_)) (by show List.Sublist (Vt b _ _ (A2++[])) _;rw [List.append_nil];exact List.Sublist.refl _)
   obtain ⟨i,oa1,c1⟩:=z
   simp only at hz
   by_cases hi:i<r.ties.length
   · have hb1:=Xhx Xbq r.ties i hi
     have hb2:=fm_take Xbq r.ties i hi
     generalize hA:A2++(r.ties.take i).flatMap Xbq=A
     have hAl:A.length=A2.length+((r.ties.take i).flatMap Xbq).length:=by rw [←hA,List.length_append]
     (repeat' (first|(apply W2 21;refine StopW.out ?_)|refine Xe ?_|refine Xb ?_|refine Xc ?_|(apply Xn;exact Ydp;exact rfl)|refine Xo ?_|refine Xs ?_|(apply Xh;exact rfl;first|(apply Wb;refine X8 ?_;intro _)|(apply Xt;refine Xj (k:=0) (l0:=[]) rfl rfl rfl ?_))|(refine Xp rfl (fun hb=>?_) (fun hb=>?_)<;>(repeat (first|replace hb:=Xz hb|replace hb:=X0 hb))<;>(try (exfalso;omega)))))
     refine ⟨?_⟩
     rename_i b7
     refine X7 (Vq (k:=0) (t:=7) rfl rfl) ?_
     refine X7 (env':=[(0,ex (.pointer (some ⟨b,0,none⟩))),(3,fp (Wq k r)),(91,isl eTie r.ties),(92,exI .i64 r.ties.length),(93,exI .i64 (i:Int)),(7,fp (Xb6 r.ties[i]))]) (loc':=Vt b oa1 c1 A) (Xg (by repeat (first|exact Xr|refine Xl rfl ?_)) Yc0) ?_
     generalize hx:r.ties[i]=x at hb1 hb2
     have hxl:=Xhy x
     rw [hxl] at hb1
     (repeat' (first|(apply W2 22;refine StopW.out ?_)|(apply X4 103;refine Wj (k:=0) (E:=Tf k) (t:=102) [.s [116,105,101],.nm x.name] rfl rfl rfl rfl ?_ (hc:=by decide) (hby:=by show _ * 16≤140737488355328;decide))|refine Xe ?_|refine Xb ?_|refine Xc ?_|(apply Xn;exact Yck;exact rfl)|(apply Xh;exact rfl;first|(apply Xi;(refine Xk (.one 0 rfl (.one 0 rfl .nil)) Tryz.func104 rfl (T6 k _ b _ _ _ Yak) rfl ?_;rintro _ _ ⟨oaw,cw,rfl⟩))|(apply X5;(refine Wi rfl Yac ?_);intro _))))
     refine ⟨?_⟩
     refine V1 (fun z:Option Addr×Nat=>([(0,ex (.pointer (some ⟨b,0,none⟩))),(3,fp (Wq k r)),(91,isl eTie r.ties),(92,exI .i64 r.ties.length),(93,exI .i64 (i:Int)),(7,fp (Xb6 x))],Vt b z.1 z.2 (A++[.s [116,105,101],.nm x.name].flatMap PutV.toks++keysT x.keys))) (fun _=>True) ?_ fun z _=>?_
     · generalize hB:A++[.s [116,105,101],.nm x.name].flatMap PutV.toks=B
       have hBl:B.length=A.length+2:=by rw [←hB,List.length_append];rfl
       refine X7 (env':=[(0,ex (.pointer (some ⟨b,0,none⟩))),(3,fp (Wq k r)),(91,isl eTie r.ties),(92,exI .i64 r.ties.length),(93,exI .i64 (i:Int)),(7,fp (Xb6 x))]) (loc':=Vt b _ _ B) (Xg (by repeat (first|exact Xr|refine Xl rfl ?_)) (by subst hB;exact List.sublist_append_left _ _)) ?_
       (repeat' (first|refine Xe ?_|refine Xb ?_|refine Xc ?_|(apply Xn;exact Yd9;exact rfl)|refine Xo ?_))
       refine Xo7 (t:=105) rfl Wu fun hkl=>?_
       obtain ⟨hkl,-⟩:=hkl
       simp only [maxLen] at hkl
       refine Ws (fun z:Nat×Option Addr×Nat=>([(0,ex (.pointer (some ⟨b,0,none⟩))),(3,fp (Wq k r)),(91,isl eTie r.ties),(92,exI .i64 r.ties.length),(93,exI .i64 (i:Int)),(7,fp (Xb6 x)),(105,isl eKey x.keys),(106,exI .i64 x.keys.length),(107,exI .i64 (z.1:Int))],Vt b z.2.1 z.2.2 (B++keysT (x.keys.take z.1)))) (fun z=>z.1≤x.keys.length) (fun z=>x.keys.length-z.1) (0,oaw,cw) ?_ (Nat.zero_le _) fun z hz=>?_
       · exact Xg (by repeat (first|exact Xr|refine Xl rfl ?_)) (by show List.Sublist (Vt b _ _ (B++[])) _;rw [List.append_nil];exact List.Sublist.refl _)
       obtain ⟨j,oa3,c3⟩:=z
       simp only at hz
       by_cases hj:j<x.keys.length
       · have hct:=keysT_take x.keys j hj
         have hcl:=keysT_mono x.keys (j+1)
         have hky:=Xi0 k x.keys[j] b
         rw [hct] at hcl
         simp only [List.length_append] at hcl
         by_cases hj0:j=0
         · rw [if_pos hj0,List.nil_append] at hct
           rw [if_pos hj0,List.length_nil] at hcl
           have hp:=fun oa c=>hky oa c (B++keysT (x.keys.take j)) Yb1
           rw [List.append_assoc,←hct] at hp
           (repeat' (first|refine Xe ?_|refine Xb ?_|refine Xc ?_|(apply Xn;(first|exact Xf rfl|exact Xm rfl|(apply V6;first|exact Rq rfl rfl|exact Vk (k:=0) rfl rfl rfl)|exact Ybw|exact Yah);exact rfl)|refine Xo ?_|refine Xs ?_|(apply Xh;exact rfl;first|(apply Xi;(refine Xk (.one 1 rfl (.one 1 rfl .nil)) Tryz.func106 rfl (hp _ _) rfl ?_;rintro _ _ ⟨oa4,c4,rfl⟩))|(apply Wb;refine X8 ?_;intro _)|(apply Xt;refine Xj (k:=0) (l0:=[]) rfl rfl rfl ?_))|(refine Xp rfl (fun hb=>?_) (fun hb=>?_)<;>(repeat (first|replace hb:=Xz hb|replace hb:=X0 hb))<;>(try (exfalso;omega)))))
           all_goals (try (exfalso;omega))
           exact ⟨(j+1,oa4,c4),by show j+1≤x.keys.length;omega,by show x.keys.length-(j+1)<x.keys.length-j;omega,Xg (by repeat (first|exact Xr|refine Xl rfl ?_)) (List.sublist_append_left _ _)⟩
         · rw [if_neg hj0] at hct
           rw [if_neg hj0,List.length_singleton] at hcl
           have hp:=fun oa c=>hky oa c (B++keysT (x.keys.take j)++[tkS sComma]) (by simp only [List.length_append,List.length_singleton];omega)
           rw [show B++keysT (x.keys.take j)++[tkS sComma]++Rr x.keys[j]=B++keysT (x.keys.take (j+1)) by rw [hct];simp only [List.append_assoc]] at hp
           (repeat' (first|(apply X4 117;refine Wj (k:=0) (E:=Tf k) (t:=116) [.s [44]] rfl rfl rfl rfl ?_ (hc:=by decide) (hby:=by show _ * 16≤140737488355328;decide))|refine Xe ?_|refine Xb ?_|refine Xc ?_|(apply Xn;(first|exact Xf rfl|exact Xm rfl|(apply V6;first|exact Rq rfl rfl|exact Vk (k:=2) rfl rfl rfl)|exact Ybw|exact Yah|exact Yax);exact rfl)|refine Xo ?_|refine Xs ?_|(apply Xh;exact rfl;first|(apply Xi;first|(refine Xk (.one 1 rfl (.one 1 rfl .nil)) Tryz.func104 rfl (T6 k _ b _ _ _ Yak) rfl ?_;rintro _ _ ⟨_,_,rfl⟩)|(refine Xk (.one 0 rfl (.one 0 rfl .nil)) Tryz.func106 rfl (hp _ _) rfl ?_;rintro _ _ ⟨oa4,c4,rfl⟩))|(apply Wb;refine X8 ?_;intro _)|(apply Xt;refine Xj (k:=0) (l0:=[]) rfl rfl rfl ?_)|(apply X5;(refine X6 rfl rfl ?_);intro _))|(refine Xp rfl (fun hb=>?_) (fun hb=>?_)<;>(repeat (first|replace hb:=Xz hb|replace hb:=X0 hb))<;>(try (exfalso;omega)))))
           all_goals (try (exfalso;omega))
           exact ⟨(j+1,oa4,c4),by show j+1≤x.keys.length;omega,by show x.keys.length-(j+1)<x.keys.length-j;omega,Xg (by repeat (first|exact Xr|refine Xl rfl ?_)) (List.sublist_append_left _ _)⟩
       · (repeat' (first|refine Xe ?_|refine Xb ?_|refine Xc ?_|(apply Xn;(exact Yam);exact rfl)|refine Wm ?_|(refine Xp rfl (fun hb=>?_) (fun hb=>?_)<;>(repeat (first|replace hb:=Xz hb|replace hb:=X0 hb))<;>(try (exfalso;omega)))))
         have hq:j=x.keys.length:=by omega
         subst hq
         refine Wo (Q:=fun _ _ _=>True) (oa3,c3) trivial (Xg (by repeat (first|exact Xr|refine Xl rfl ?_)) (by show List.Sublist (Vt b oa3 c3 (B++keysT x.keys)) (Vt b oa3 c3 (B++keysT (x.keys.take x.keys.length)));rw [List.take_length];exact List.Sublist.refl _))
     obtain ⟨oa2,c2⟩:=z
     simp only
     generalize hA3:A++[.s [116,105,101],.nm x.name].flatMap PutV.toks++keysT x.keys=A3
     have hA3l:A3.length=A.length+2+(keysT x.keys).length:=by rw [←hA3,List.length_append,List.length_append];rfl
     (repeat' (first|(apply X4 125;refine Wj (k:=0) (E:=Tf k) (t:=124) [.s [59]] rfl rfl rfl rfl ?_ (hc:=by decide) (hby:=by show _ * 16≤140737488355328;decide))|refine Xb ?_|refine Xc ?_|(apply Xn;(first|exact Xf rfl|exact Ya7|exact Yax);exact rfl)|(apply Xh;exact rfl;first|(apply Xi;(refine Xk (.one 0 rfl (.one 0 rfl .nil)) Tryz.func104 rfl (T6 k _ b _ _ _ Yak) rfl ?_;rintro _ _ ⟨oaw,cw,rfl⟩))|(apply X5;(refine X6 rfl rfl ?_);intro _))))
     refine ⟨(i+1,_,_),by show i+1≤r.ties.length;omega,by show r.ties.length-(i+1)<r.ties.length-i;omega,Xg (by repeat (first|exact Xr|refine Xl rfl ?_)) (by show List.Sublist (Vt b _ _ (A2++(r.ties.take (i+1)).flatMap Xbq)) _;rw [hb2,←List.append_assoc,hA,show Xbq x=[.s [116,105,101],.nm x.name].flatMap PutV.toks++keysT x.keys++[tkS sSemi] from rfl,←List.append_assoc,←List.append_assoc,hA3];exact List.sublist_append_left _ _)⟩
   · (repeat' (first|refine Xe ?_|refine Xb ?_|refine Xc ?_|(apply Xn;(exact Yam);exact rfl)|refine Wm ?_|(refine Xp rfl (fun hb=>?_) (fun hb=>?_)<;>(repeat (first|replace hb:=Xz hb|replace hb:=X0 hb))<;>(try (exfalso;omega)))))
     have hq:i=r.ties.length:=by omega
     subst hq
     refine Wo (Q:=fun _ _ _=>True) (oa1,c1) trivial (Xg (by repeat (first|exact Xr|refine Xl rfl ?_)) (by show List.Sublist (Vt b oa1 c1 (A2++r.ties.flatMap Xbq)) (Vt b oa1 c1 (A2++(r.ties.take r.ties.length).flatMap Xbq));rw [List.take_length];exact List.Sublist.refl _))
 obtain ⟨oa3,c3⟩:=z
 simp only
 generalize hA3:A1++r.bonus.flatMap (Un wBonus)++r.malus.flatMap (Un wMalus)++r.ties.flatMap Xbq=A3
 have hA3l:A3.length=A1.length+(r.bonus.flatMap (Un wBonus)).length+(r.malus.flatMap (Un wMalus)).length+(r.ties.flatMap Xbq).length:=by rw [←hA3];simp only [List.length_append]
 (repeat' (first|(apply W2 31;refine StopW.out ?_)|refine Xe ?_))
 refine ⟨?_⟩
 refine V1 (fun z:Option Addr×Nat=>([(0,ex (.pointer (some ⟨b,0,none⟩))),(3,fp (Wq k r))],Vt b z.1 z.2 (A3++r.rounds.flatMap roundT))) (fun _=>True) ?_ fun z _=>?_
 · skip
   (repeat' (first|refine Xe ?_|refine Xb ?_|refine Xc ?_|(apply Xn;exact Yd9;exact rfl)|refine Xo ?_))
   refine Ws (fun z:Nat×Option Addr×Nat=>([(0,ex (.pointer (some ⟨b,0,none⟩))),(3,fp (Wq k r)),(128,isl (U1 k) r.rounds),(129,exI .i64 r.rounds.length),(130,exI .i64 (z.1:Int))],Vt b z.2.1 z.2.2 (A3++(r.rounds.take z.1).flatMap roundT))) (fun z=>z.1≤r.rounds.length) (fun z=>r.rounds.length-z.1) (0,oa3,c3) ?_ (Nat.zero_le _) fun z hz=>?_
   · exact Xg (by repeat (first|exact Xr|refine Xl rfl ?_)) (by show List.Sublist (Vt b _ _ (A3++[])) _;rw [List.append_nil];exact List.Sublist.refl _)
   obtain ⟨i,oa1,c1⟩:=z
   simp only at hz
   by_cases hi:i<r.rounds.length
   · have hb1:=Xhx roundT r.rounds i hi
     have hb2:=fm_take roundT r.rounds i hi
     generalize hA:A3++(r.rounds.take i).flatMap roundT=A
     have hAl:A.length=A3.length+((r.rounds.take i).flatMap roundT).length:=by rw [←hA,List.length_append]
     (repeat' (first|(apply W2 34;refine StopW.out ?_)|refine Xe ?_|refine Xb ?_|refine Xc ?_|(apply Xn;exact Ydp;exact rfl)|refine Xo ?_|refine Xs ?_|(apply Xh;exact rfl;first|(apply Wb;refine X8 ?_;intro _)|(apply Xt;refine Xj (k:=0) (l0:=[]) rfl rfl rfl ?_))|(refine Xp rfl (fun hb=>?_) (fun hb=>?_)<;>(repeat (first|replace hb:=Xz hb|replace hb:=X0 hb))<;>(try (exfalso;omega)))))
     refine ⟨?_⟩
     rename_i b11
     refine X7 (Vq (k:=0) (t:=11) rfl rfl) ?_
     refine X7 (env':=[(0,ex (.pointer (some ⟨b,0,none⟩))),(3,fp (Wq k r)),(128,isl (U1 k) r.rounds),(129,exI .i64 r.rounds.length),(130,exI .i64 (i:Int)),(11,fp (V9 k r.rounds[i]))]) (loc':=Vt b oa1 c1 A) (Xg (by repeat (first|exact Xr|refine Xl rfl ?_)) Yc0) ?_
     generalize hx:r.rounds[i]=x at hb1 hb2
     have hxl:=Xdc x
     rw [hxl] at hb1
     (repeat' (first|(apply W2 35;refine StopW.out ?_)|(apply X4 148;refine Wj (k:=0) (E:=Tf k) (t:=147) [.s [114,111,117,110,100],.nm x.name,.s [112,97,110,101,108],.i x.panel,.s [113,117,111,116,97],.i x.quota] rfl rfl rfl rfl ?_ (hc:=by decide) (hby:=by show _ * 16≤140737488355328;decide))|refine Xe ?_|refine Xb ?_|refine Xc ?_|(apply Xn;exact Yck;exact rfl)|(apply Xh;exact rfl;first|(apply Xi;(refine Xk (.one 0 rfl (.one 0 rfl .nil)) Tryz.func104 rfl (T6 k _ b _ _ _ Yak) rfl ?_;rintro _ _ ⟨oaw,cw,rfl⟩))|(apply X5;(refine Wi rfl Yac ?_);intro _))))
     refine ⟨?_⟩
     generalize hB0:A++[.s [114,111,117,110,100],.nm x.name,.s [112,97,110,101,108],.i x.panel,.s [113,117,111,116,97],.i x.quota].flatMap PutV.toks=B0
     have hB0l:B0.length=A.length+6:=by rw [←hB0,List.length_append];rfl
     refine X7 (env':=[(0,ex (.pointer (some ⟨b,0,none⟩))),(3,fp (Wq k r)),(128,isl (U1 k) r.rounds),(129,exI .i64 r.rounds.length),(130,exI .i64 (i:Int)),(11,fp (V9 k x))]) (loc':=Vt b _ _ B0) (Xg (by repeat (first|exact Xr|refine Xl rfl ?_)) (by subst hB0;exact List.sublist_append_left _ _)) ?_
     (repeat' (first|(apply Xh;exact rfl;apply Xlh;refine Xij (κ:=Int) ?_;intro _)|(apply Xh;exact rfl;apply Xih;refine Xf4 (κ:=Int) (j:=0) (.inr rfl) rfl rfl rfl rfl rfl rfl ⟨_,rfl⟩ ?_)|(apply W2 36;refine StopW.out ?_)|refine Xe ?_|refine Xb ?_|refine Xc ?_|(apply Xn;exact Yba;exact rfl)))
     refine ⟨?_⟩
     refine V1 (fun z:Option Addr×Nat=>([(0,ex (.pointer (some ⟨b,0,none⟩))),(3,fp (Wq k r)),(128,isl (U1 k) r.rounds),(129,exI .i64 r.rounds.length),(130,exI .i64 (i:Int)),(11,fp (V9 k x))],Vt b z.1 z.2 (B0++Xb4 x.cut))) (fun _=>True) ?_ fun z _=>?_
     · by_cases h1:x.cut=1
       · skip
         have hh:Xb4 x.cut=[.s [111,118,101,114]].flatMap PutV.toks:=by unfold Xb4;rw [if_pos h1];rfl
         rw [hh] at hb1
         simp only [List.flatMap_cons,List.flatMap_nil,PutV.toks,List.length_append,List.length_cons,List.length_nil] at hb1
         (repeat' (first|(apply Xn;(apply Xb5;exact Xii (κ:=Int) (j:=0) rfl rfl rfl (by rw [h1];rfl) rfl rfl ⟨_,rfl⟩ trivial);exact rfl)|(apply X4 163;refine Wj (k:=0) (E:=Tf k) (t:=162) [.s [111,118,101,114]] rfl rfl rfl rfl ?_ (hc:=by decide) (hby:=by show _ * 16≤140737488355328;decide))|refine Xe ?_|refine Xb ?_|refine Xc ?_|(apply Xn;exact Ydz;exact rfl)|refine Xx rfl ?_|(apply Xh;exact rfl;first|(apply Xi;(refine Xk (.one 1 rfl (.one 1 rfl .nil)) Tryz.func104 rfl (T6 k _ b _ _ _ Yak) rfl ?_;rintro _ _ ⟨oaw,cw,rfl⟩))|(apply X5;(refine X6 rfl rfl ?_);intro _))))
         all_goals (try (exfalso;omega))
         all_goals (refine Wo (Q:=fun _ _ _=>True) (_,_) trivial (Xg (by repeat (first|exact Xr|refine Xl rfl ?_)) Ycy))
       by_cases h2:x.cut=2
       · skip
         have hh:Xb4 x.cut=[.s [117,110,100,101,114]].flatMap PutV.toks:=by unfold Xb4;rw [if_neg h1,if_pos h2];rfl
         rw [hh] at hb1
         simp only [List.flatMap_cons,List.flatMap_nil,PutV.toks,List.length_append,List.length_cons,List.length_nil] at hb1
         (repeat' (first|(apply Xn;(apply Xb5;exact Xii (κ:=Int) (j:=0) rfl rfl rfl (by rw [h2];rfl) rfl rfl ⟨_,rfl⟩ trivial);exact rfl)|(apply X4 163;refine Wj (k:=0) (E:=Tf k) (t:=162) [.s [117,110,100,101,114]] rfl rfl rfl rfl ?_ (hc:=by decide) (hby:=by show _ * 16≤140737488355328;decide))|refine Xe ?_|refine Xb ?_|refine Xc ?_|(apply Xn;exact Ydz;exact rfl)|refine Xx rfl ?_|(apply Xh;exact rfl;first|(apply Xi;(refine Xk (.one 1 rfl (.one 1 rfl .nil)) Tryz.func104 rfl (T6 k _ b _ _ _ Yak) rfl ?_;rintro _ _ ⟨oaw,cw,rfl⟩))|(apply X5;(refine X6 rfl rfl ?_);intro _))))
         all_goals (try (exfalso;omega))
         all_goals (refine Wo (Q:=fun _ _ _=>True) (_,_) trivial (Xg (by repeat (first|exact Xr|refine Xl rfl ?_)) Ycy))
       · skip
         have hh:Xb4 x.cut=[.s [108,111,116,115]].flatMap PutV.toks:=by unfold Xb4;rw [if_neg h1,if_neg h2];rfl
         rw [hh] at hb1
         simp only [List.flatMap_cons,List.flatMap_nil,PutV.toks,List.length_append,List.length_cons,List.length_nil] at hb1
         (repeat' (first|(apply Xn;(apply Xb5;exact Xli (κ:=Int) (j:=0) rfl rfl rfl (by simp only [Xlg,Qd,Int.reduceEq,if_false];rw [if_neg h1,if_neg h2]) rfl rfl ⟨_,rfl⟩ trivial);exact rfl)|(apply X4 167;refine Wj (k:=0) (E:=Tf k) (t:=166) [.s [108,111,116,115]] rfl rfl rfl rfl ?_ (hc:=by decide) (hby:=by show _ * 16≤140737488355328;decide))|refine Xe ?_|refine Xb ?_|refine Xc ?_|(apply Xn;exact Ydz;exact rfl)|refine Xy rfl ?_|(apply Xh;exact rfl;first|(apply Xi;(refine Xk (.one 1 rfl (.one 1 rfl .nil)) Tryz.func104 rfl (T6 k _ b _ _ _ Yak) rfl ?_;rintro _ _ ⟨oaw,cw,rfl⟩))|(apply X5;(refine X6 rfl rfl ?_);intro _))))
         all_goals (try (exfalso;omega))
         all_goals (refine Wo (Q:=fun _ _ _=>True) (_,_) trivial (Xg (by repeat (first|exact Xr|refine Xl rfl ?_)) Ycy))
     obtain ⟨oa2,c2⟩:=z
     simp only
     generalize hB1:B0++Xb4 x.cut=B1
     have hB1l:B1.length=B0.length+(Xb4 x.cut).length:=by rw [←hB1,List.length_append]
     (repeat' (first|(apply W2 40;refine StopW.out ?_)|refine Xe ?_))
     refine ⟨?_⟩
     refine V1 (fun z:Option Addr×Nat=>([(0,ex (.pointer (some ⟨b,0,none⟩))),(3,fp (Wq k r)),(128,isl (U1 k) r.rounds),(129,exI .i64 r.rounds.length),(130,exI .i64 (i:Int)),(11,fp (V9 k x))],Vt b z.1 z.2 (B1++Xbb x))) (fun _=>True) ?_ fun z _=>?_
     · cases hr:x.free
       · have hh:Xbb x=[]:=by unfold Xbb;rw [hr];rfl
         (repeat' (first|refine Xe ?_|refine Xb ?_|refine Xc ?_|(apply Xn;exact Yck;exact rfl)|refine Xs ?_|(apply Xh;exact rfl;(apply X5;(refine X6 rfl rfl ?_);intro _))|(refine Xp rfl (fun hb=>?_) (fun hb=>?_)<;>(repeat (fail))<;>(try (exfalso;fail)))))
         all_goals (try (exfalso;simp_all;done))
         all_goals (refine Wo (Q:=fun _ _ _=>True) (_,_) trivial (Xg (by repeat (first|exact Xr|refine Xl rfl ?_)) (by show List.Sublist (Vt b _ _ (B1++Xbb x)) _;rw [hh,List.append_nil];exact List.Sublist.refl _)))
       · have hh:Xbb x=[.s [102,114,101,101]].flatMap PutV.toks:=by unfold Xbb;rw [hr];rfl
         rw [hh] at hb1
         simp only [List.flatMap_cons,List.flatMap_nil,PutV.toks,List.length_append,List.length_cons,List.length_nil] at hb1
         (repeat' (first|(apply X4 173;refine Wj (k:=0) (E:=Tf k) (t:=172) [.s [102,114,101,101]] rfl rfl rfl rfl ?_ (hc:=by decide) (hby:=by show _ * 16≤140737488355328;decide))|refine Xe ?_|refine Xb ?_|refine Xc ?_|(apply Xn;exact Yck;exact rfl)|refine Xs ?_|(apply Xh;exact rfl;first|(apply Xi;(refine Xk (.one 0 rfl (.one 0 rfl .nil)) Tryz.func104 rfl (T6 k _ b _ _ _ Yak) rfl ?_;rintro _ _ ⟨oaw,cw,rfl⟩))|(apply X5;(refine X6 rfl rfl ?_);intro _))|(refine Xp rfl (fun hb=>?_) (fun hb=>?_)<;>(repeat (fail))<;>(try (exfalso;fail)))))
         all_goals (try (exfalso;simp_all;done))
         all_goals (refine Wo (Q:=fun _ _ _=>True) (_,_) trivial (Xg (by repeat (first|exact Xr|refine Xl rfl ?_)) (by show List.Sublist (Vt b _ _ (B1++Xbb x)) _;rw [hh];first|exact List.sublist_append_left _ _|exact List.Sublist.refl _)))
     obtain ⟨oa3,c3⟩:=z
     simp only
     generalize hB2:B1++Xbb x=B2
     have hB2l:B2.length=B1.length+(Xbb x).length:=by rw [←hB2,List.length_append]
     (repeat' (first|(apply W2 42;refine StopW.out ?_)|refine Xe ?_))
     refine ⟨?_⟩
     refine V1 (fun z:Option Addr×Nat=>([(0,ex (.pointer (some ⟨b,0,none⟩))),(3,fp (Wq k r)),(128,isl (U1 k) r.rounds),(129,exI .i64 r.rounds.length),(130,exI .i64 (i:Int)),(11,fp (V9 k x))],Vt b z.1 z.2 (B2++plT x))) (fun _=>True) ?_ fun z _=>?_
     · cases hr:x.places
       · have hh:plT x=[.s [115,99,111,114,101],.xx x.score].flatMap PutV.toks:=by unfold plT;rw [hr];show _=sT [115,99,111,114,101]::(exT' x.score++[]);rw [List.append_nil];rfl
         rw [hh] at hb1
         simp only [List.flatMap_cons,List.flatMap_nil,PutV.toks,List.length_append,List.length_cons,List.length_nil] at hb1
         (repeat' (first|(apply X4 186;refine Wj (k:=0) (E:=Tf k) (t:=185) [.s [115,99,111,114,101],.xx x.score] rfl rfl rfl rfl ?_ (hc:=by decide) (hby:=by show _ * 16≤140737488355328;decide))|refine Xe ?_|refine Xb ?_|refine Xc ?_|(apply Xn;(first|exact Xf rfl|exact Ybj|exact Yae|exact Yax);exact rfl)|(apply Xh;exact rfl;first|(apply Xi;(refine Xk (.one 0 rfl (.one 0 rfl .nil)) Tryz.func104 rfl (T6 k _ b _ _ _ Yak) rfl ?_;rintro _ _ ⟨oaw,cw,rfl⟩))|(apply X5;(first|refine X6 rfl rfl ?_|refine Wi rfl Yac ?_);intro _))|(refine Xp rfl (fun hb=>?_) (fun hb=>?_)<;>(repeat (fail))<;>(try (exfalso;fail)))))
         all_goals (try (exfalso;simp_all;done))
         all_goals (refine Wo (Q:=fun _ _ _=>True) (_,_) trivial (Xg (by repeat (first|exact Xr|refine Xl rfl ?_)) Yeu))
       · have hh:plT x=[.s [112,108,97,99,101,115]].flatMap PutV.toks:=by unfold plT;rw [hr];rfl
         rw [hh] at hb1
         simp only [List.flatMap_cons,List.flatMap_nil,PutV.toks,List.length_append,List.length_cons,List.length_nil] at hb1
         (repeat' (first|(apply X4 179;refine Wj (k:=0) (E:=Tf k) (t:=178) [.s [112,108,97,99,101,115]] rfl rfl rfl rfl ?_ (hc:=by decide) (hby:=by show _ * 16≤140737488355328;decide))|refine Xe ?_|refine Xb ?_|refine Xc ?_|(apply Xn;(first|exact Xf rfl|exact Ybj|exact Yae|exact Yax);exact rfl)|(apply Xh;exact rfl;first|(apply Xi;(refine Xk (.one 0 rfl (.one 0 rfl .nil)) Tryz.func104 rfl (T6 k _ b _ _ _ Yak) rfl ?_;rintro _ _ ⟨oaw,cw,rfl⟩))|(apply X5;(first|refine X6 rfl rfl ?_|refine Wi rfl Yac ?_);intro _))|(refine Xp rfl (fun hb=>?_) (fun hb=>?_)<;>(repeat (fail))<;>(try (exfalso;fail)))))
         all_goals (try (exfalso;simp_all;done))
         all_goals (refine Wo (Q:=fun _ _ _=>True) (_,_) trivial (Xg (by repeat (first|exact Xr|refine Xl rfl ?_)) Yeu))
     obtain ⟨oa4,c4⟩:=z
     simp only
     generalize hB3:B2++plT x=B3
     have hB3l:B3.length=B2.length+(plT x).length:=by rw [←hB3,List.length_append]
     (repeat' (first|(apply W2 45;refine StopW.out ?_)|refine Xe ?_))
     refine ⟨?_⟩
     refine V1 (fun z:Option Addr×Nat=>([(0,ex (.pointer (some ⟨b,0,none⟩))),(3,fp (Wq k r)),(128,isl (U1 k) r.rounds),(129,exI .i64 r.rounds.length),(130,exI .i64 (i:Int)),(11,fp (V9 k x))],Vt b z.1 z.2 (B3++tiT x))) (fun _=>True) ?_ fun z _=>?_
     · by_cases h1:x.tieNo=0
       · have hh:tiT x=[.s [116,105,101],.nm x.tie].flatMap PutV.toks:=by unfold tiT;rw [if_pos h1];rfl
         rw [hh] at hb1
         simp only [List.flatMap_cons,List.flatMap_nil,PutV.toks,List.length_append,List.length_cons,List.length_nil] at hb1
         (repeat' (first|(apply X4 196;refine Wj (k:=0) (E:=Tf k) (t:=195) [.s [116,105,101],.nm x.tie] rfl rfl rfl rfl ?_ (hc:=by decide) (hby:=by show _ * 16≤140737488355328;decide))|refine Xe ?_|refine Xb ?_|refine Xc ?_|(apply Xn;(first|exact Xf rfl|exact Yag|exact Yae|exact Yar|exact Yax);exact rfl)|(apply Xh;exact rfl;first|(apply Xi;(refine Xk (.one 0 rfl (.one 0 rfl .nil)) Tryz.func104 rfl (T6 k _ b _ _ _ Yak) rfl ?_;rintro _ _ ⟨oaw,cw,rfl⟩))|(apply X5;(refine Wi rfl Yac ?_);intro _))|(refine Xp rfl (fun hb=>?_) (fun hb=>?_)<;>(repeat (first|replace hb:=Xz hb|replace hb:=X0 hb))<;>(try (exfalso;contradiction)))))
         all_goals (try (exfalso;omega))
         all_goals (refine Wo (Q:=fun _ _ _=>True) (_,_) trivial (Xg (by repeat (first|exact Xr|refine Xl rfl ?_)) (by show List.Sublist (Vt b _ _ (B3++tiT x)) _;rw [hh];first|exact List.sublist_append_left _ _|exact List.Sublist.refl _)))
       · have hh:tiT x=[]:=by unfold tiT;rw [if_neg h1]
         (repeat' (first|refine Xe ?_|refine Xb ?_|refine Xc ?_|(apply Xn;(first|exact Yag|exact Yae|exact Yar);exact rfl)|refine Xs ?_|(refine Xp rfl (fun hb=>?_) (fun hb=>?_)<;>(repeat (first|replace hb:=Xz hb|replace hb:=X0 hb))<;>(try (exfalso;contradiction)))))
         all_goals (try (exfalso;omega))
         all_goals (refine Wo (Q:=fun _ _ _=>True) (_,_) trivial (Xg (by repeat (first|exact Xr|refine Xl rfl ?_)) (by show List.Sublist (Vt b _ _ (B3++tiT x)) _;rw [hh,List.append_nil];exact List.Sublist.refl _)))
     obtain ⟨oa5,c5⟩:=z
     simp only
     generalize hB4:B3++tiT x=B4
     have hB4l:B4.length=B3.length+(tiT x).length:=by rw [←hB4,List.length_append]
     (repeat' (first|(apply X4 200;refine Wj (k:=0) (E:=Tf k) (t:=199) [.s [59]] rfl rfl rfl rfl ?_ (hc:=by decide) (hby:=by show _ * 16≤140737488355328;decide))|refine Xb ?_|refine Xc ?_|(apply Xn;(first|exact Xf rfl|exact Ya7|exact Yax);exact rfl)|(apply Xh;exact rfl;first|(apply Xi;(refine Xk (.one 0 rfl (.one 0 rfl .nil)) Tryz.func104 rfl (T6 k _ b _ _ _ Yak) rfl ?_;rintro _ _ ⟨oaw,cw,rfl⟩))|(apply X5;(refine X6 rfl rfl ?_);intro _))))
     refine ⟨(i+1,_,_),by show i+1≤r.rounds.length;omega,by show r.rounds.length-(i+1)<r.rounds.length-i;omega,Xg (by repeat (first|exact Xr|refine Xl rfl ?_)) (by show List.Sublist (Vt b _ _ (A3++(r.rounds.take (i+1)).flatMap roundT)) _;rw [hb2,←List.append_assoc,hA,show roundT x=[.s [114,111,117,110,100],.nm x.name,.s [112,97,110,101,108],.i x.panel,.s [113,117,111,116,97],.i x.quota].flatMap PutV.toks++Xb4 x.cut++Xbb x++plT x++tiT x++[tkS sSemi] from rfl,←List.append_assoc,←List.append_assoc,←List.append_assoc,←List.append_assoc,←List.append_assoc,hB0,hB1,hB2,hB3,hB4];exact List.sublist_append_left _ _)⟩
   · (repeat' (first|refine Xe ?_|refine Xb ?_|refine Xc ?_|(apply Xn;(exact Yam);exact rfl)|refine Wm ?_|(refine Xp rfl (fun hb=>?_) (fun hb=>?_)<;>(repeat (first|replace hb:=Xz hb|replace hb:=X0 hb))<;>(try (exfalso;omega)))))
     have hq:i=r.rounds.length:=by omega
     subst hq
     refine Wo (Q:=fun _ _ _=>True) (oa1,c1) trivial (Xg (by repeat (first|exact Xr|refine Xl rfl ?_)) (by show List.Sublist (Vt b oa1 c1 (A3++r.rounds.flatMap roundT)) (Vt b oa1 c1 (A3++(r.rounds.take r.rounds.length).flatMap roundT));rw [List.take_length];exact List.Sublist.refl _))
 obtain ⟨oa4,c4⟩:=z
 simp only
 generalize hA4:A3++r.rounds.flatMap roundT=A4
 have hA4l:A4.length=A3.length+(r.rounds.flatMap roundT).length:=by rw [←hA4,List.length_append]
 (repeat' (first|(apply W2 49;refine StopW.out ?_)|refine Xe ?_))
 refine ⟨?_⟩
 refine V1 (fun z:Option Addr×Nat=>([(0,ex (.pointer (some ⟨b,0,none⟩))),(3,fp (Wq k r))],Vt b z.1 z.2 (A4++Xhz r.prizes))) (fun _=>True) ?_ fun z _=>?_
 · by_cases h1:r.prizes=[]
   · have hh:Xhz r.prizes=[]:=by unfold Xhz;rw [if_pos h1]
     have hl0:r.prizes.length=0:=by rw [h1];rfl
     (repeat' (first|refine Xe ?_|refine Xb ?_|refine Xc ?_|(apply Xn;exact Ydv;exact rfl)|refine Xs ?_|(refine Xp rfl (fun hb=>?_) (fun hb=>?_)<;>(repeat (first|replace hb:=Xz hb|replace hb:=X0 hb))<;>(try (exfalso;omega)))))
     all_goals (try (exfalso;omega))
     all_goals (refine Wo (Q:=fun _ _ _=>True) (_,_) trivial (Xg (by repeat (first|exact Xr|refine Xl rfl ?_)) (by show List.Sublist (Vt b _ _ (A4++Xhz r.prizes)) _;rw [hh,List.append_nil];exact List.Sublist.refl _)))
   · have hh:Xhz r.prizes=[.s [112,114,105,122,101,115],.il r.prizes,.s [59]].flatMap PutV.toks:=by unfold Xhz;rw [if_neg h1];rfl
     have hl0:r.prizes.length≠0:=fun e=>h1 (List.length_eq_zero_iff.1 e)
     rw [hh] at hlen
     simp only [List.flatMap_cons,List.flatMap_nil,PutV.toks,List.length_append,List.length_cons,List.length_nil] at hlen
     (repeat' (first|(apply X4 213;refine Wj (k:=0) (E:=Tf k) (t:=212) [.s [112,114,105,122,101,115],.il r.prizes,.s [59]] rfl rfl rfl rfl ?_ (hc:=by decide) (hby:=by show _ * 16≤140737488355328;decide))|refine Xe ?_|refine Xb ?_|refine Xc ?_|(apply Xn;(first|exact Xf rfl|exact Yag|exact Yae|exact Ybr|exact Yaj|exact Yax);exact rfl)|(apply Xh;exact rfl;first|(apply Xi;(refine Xk (.one 0 rfl (.one 0 rfl .nil)) Tryz.func104 rfl (T6 k _ b _ _ _ Yak) rfl ?_;rintro _ _ ⟨oaw,cw,rfl⟩))|(apply X5;(refine Wi rfl Yac ?_);intro _))|(refine Xp rfl (fun hb=>?_) (fun hb=>?_)<;>(repeat (first|replace hb:=Xz hb|replace hb:=X0 hb))<;>(try (exfalso;omega)))))
     all_goals (try (exfalso;omega))
     all_goals (refine Wo (Q:=fun _ _ _=>True) (_,_) trivial (Xg (by repeat (first|exact Xr|refine Xl rfl ?_)) (by show List.Sublist (Vt b _ _ (A4++Xhz r.prizes)) _;rw [hh];first|exact List.sublist_append_left _ _|exact List.Sublist.refl _)))
 obtain ⟨oa5,c5⟩:=z
 simp only
 generalize hA5:A4++Xhz r.prizes=A5
 have hA5l:A5.length=A4.length+(Xhz r.prizes).length:=by rw [←hA5,List.length_append]
 have hEnd:acc++([tkW wCompetition,tkW r.name,tkS sSemi]++r.crits.flatMap T3++r.bonus.flatMap (Un wBonus)++r.malus.flatMap (Un wMalus)++r.ties.flatMap Xbq++r.rounds.flatMap roundT++Xhz r.prizes++Xmm r.points r.best)=A5++Xmm r.points r.best:=by
   rw [←hA5,←hA4,←hA3,←hA1];simp only [List.append_assoc]
 rw [hEnd]
 by_cases h1:r.points=[]
 · have hh:Xmm r.points r.best=[]:=by unfold Xmm;rw [if_pos h1]
   have hl0:r.points.length=0:=by rw [h1];rfl
   (repeat' (first|refine Xe ?_|refine Xb ?_|refine Xc ?_|(apply Xn;exact Ydv;exact rfl)|refine Xs ?_|(refine Xp rfl (fun hb=>?_) (fun hb=>?_)<;>(repeat (first|replace hb:=Xz hb|replace hb:=X0 hb))<;>(try (exfalso;omega)))))
   all_goals (try (exfalso;omega))
   all_goals (exact ⟨.inl rfl,Rk (loc':=Vt b _ _ _) rfl (List.Sublist.refl _) ⟨_,_,by rw [hh,List.append_nil]⟩⟩)
 · have hh:Xmm r.points r.best=[.s [112,111,105,110,116,115],.il r.points,.s [98,101,115,116],.i r.best,.s [59]].flatMap PutV.toks:=by unfold Xmm;rw [if_neg h1];rfl
   have hl0:r.points.length≠0:=fun e=>h1 (List.length_eq_zero_iff.1 e)
   rw [hh] at hlen ⊢
   simp only [List.flatMap_cons,List.flatMap_nil,PutV.toks,List.length_append,List.length_cons,List.length_nil] at hlen
   (repeat' (first|(apply X4 229;refine Wj (k:=0) (E:=Tf k) (t:=228) [.s [112,111,105,110,116,115],.il r.points,.s [98,101,115,116],.i r.best,.s [59]] rfl rfl rfl rfl ?_ (hc:=by decide) (hby:=by show _ * 16≤140737488355328;decide))|refine Xe ?_|refine Xb ?_|refine Xc ?_|(apply Xn;(first|exact Xf rfl|exact Yag|exact Yae|exact Ybr|exact Yaj|exact Yax);exact rfl)|(apply Xh;exact rfl;first|(apply Xi;(refine Xk (.one 0 rfl (.one 0 rfl .nil)) Tryz.func104 rfl (T6 k _ b _ _ _ Yak) rfl ?_;rintro _ _ ⟨oaw,cw,rfl⟩))|(apply X5;(refine Wi rfl Yac ?_);intro _))|(refine Xp rfl (fun hb=>?_) (fun hb=>?_)<;>(repeat (first|replace hb:=Xz hb|replace hb:=X0 hb))<;>(try (exfalso;omega)))))
   all_goals (try (exfalso;omega))
   all_goals (exact ⟨.inl rfl,Rk (loc':=Vt b _ _ _) rfl (List.sublist_append_left _ _) ⟨_,_,rfl⟩⟩)
end Go.Proofs.YthdldeenpgeemaaGreatDoor
namespace Go.Proofs.YthdldeenpgeemaaGreatDoor
open Go Go.RowKit Go.Kx Go.Fr Go.Lx Go.Sx
theorem Ry (k:Nat) (r:RulesD) (hlen:(V2 r).length≤70000):FnC Tryz.prog 15 [agg (Wq k r)] [Lab] (fun p loc=>p=Xf9 (Sz r)∧loc=[]):=by
 have hT:=Xln (V2 r)
 have hR:=Xdo (V2 r) 0 hlen
 refine X3 Tryz.func15 rfl Tryz.ntmps15 rfl fun w0 F0 out=>?_
 (repeat' (first|(apply W2 2;refine StopW.out ?_)|refine Xe ?_|refine Xb ?_|refine Xc ?_|(apply Xn;(first|exact Xm rfl|exact Ybq);exact rfl)|(apply Xh;exact rfl;(apply Vp;refine W4 rfl ?_;intro _))))
 refine ⟨?_⟩
 rename_i b1 b9
 refine X7 (env':=[(1,ex (.pointer (some ⟨b1,0,none⟩))),(2,exT []),(3,exI .i64 0),(4,ex (.pointer (some ⟨b9,0,none⟩)))]) (loc':=[row b9 80 1 [ex (.slice none 0 0)],row b1 29 9 (Wq k r),Lab]) (Xg (by repeat (first|exact Xr|refine Xl rfl ?_)) (List.Sublist.refl _)) ?_
 refine X7 (Vq (k:=1) (t:=1) rfl rfl) ?_
 refine X7 (env':=[(1,fp (Wq k r)),(2,exT []),(3,exI .i64 0),(4,ex (.pointer (some ⟨b9,0,none⟩)))]) (loc':=Vt b9 none 0 []++[Lab]) ?_ ?_
 · exact Uq 40 4 ((Uo (.swap _ _ _)).trans (Xg (by repeat (first|exact Xr|refine Xl rfl ?_)) (List.Sublist.refl _)))
 (repeat' (first|(apply W2 3;refine StopW.out ?_)|refine Xe ?_|refine Xb ?_|refine Xc ?_|(apply Xn;(first|exact Xf rfl|exact Yav);exact rfl)|(apply Xh;exact rfl;(apply Xi;(refine Xk (.one 0 rfl (.one 0 rfl .nil)) Tryz.func36 rfl (Xfd k r b9 none 0 [] (by simpa using hlen)) rfl ?_;rintro _ _ ⟨oa,c,rfl⟩)))))
 refine ⟨?_⟩
 refine X7 (env':=[(1,fp (Wq k r)),(2,exT []),(3,exI .i64 0),(4,ex (.pointer (some ⟨b9,0,none⟩)))]) (loc':=Vt b9 oa c (V2 r)++[Lab]) (Xg (by repeat (first|exact Xr|refine Xl rfl ?_)) (List.Sublist.refl _)) ?_
 unfold Vt
 refine X7 (Vi (j:=1) (k:=0) (i:=0) (E:=eTok) (V2 r) rfl rfl rfl rfl rfl rfl (hby:=by show _ * 40≤_;omega)) ?_
 refine X7 (env':=[(1,fp (Wq k r)),(2,exT []),(3,exI .i64 0),(4,ex (.pointer (some ⟨b9,0,none⟩)))]) (loc':=[row b9 80 1 [isl eTok (V2 r)],Lab]) (Xg (by repeat (first|exact Xr|refine Xl rfl ?_)) (List.Sublist.refl _)) ?_
 unfold Sz
 by_cases hv:(V2 r).all V0=true
 · have e1:Xad (V2 r)=(joinF ((V2 r).map word),0):=by unfold Xad;rw [if_pos hv]
   rw [e1] at hT
   rw [hv,Bool.true_and]
   generalize Qr (V2 r) 0=z at hR ⊢
   by_cases h0:z.2.2=0
   · by_cases h1:z.1=r
     · rw [if_pos (by simp [h0,h1])]
       (repeat' (first|refine Xe ?_|refine Xb ?_|refine Xc ?_|(apply Xn;exact Yd7;exact rfl)|(apply W0;exact rfl;exact rfl;exact rfl;(first|exact Yej|exact Yaz);exact rfl)|refine Xs ?_|refine Xw ?_|refine Xy rfl ?_|(apply Xh;exact rfl;first|(apply Xi;first|(refine Xk (.dup 1 rfl rfl .nil) Tryz.func19 rfl hT rfl ?_;rintro _ _ ⟨rfl,rfl⟩)|(refine Xq Tryz.func28 rfl hR rfl ?_;rintro _ _ ⟨⟨k2,rfl⟩,rfl⟩))|(apply Wb;refine X8 ?_;intro _)|(apply Xt;refine Xj (k:=0) (l0:=[]) rfl rfl rfl ?_))|(apply Vm;exact rfl;exact rfl;exact rfl;exact rfl;(apply Xi;(refine Xq Tryz.func37 rfl (Xdk _ _ _ _) rfl ?_;rintro _ _ ⟨rfl,rfl⟩)))|(refine Wf rfl rfl (fun hb=>?_) (fun hb=>?_)<;>(repeat (first|replace hb:=Xz hb|replace hb:=X0 hb|replace hb:=W5 hb|replace hb:=W6 hb))<;>(try (exfalso;contradiction)))|(refine Xp rfl (fun hb=>?_) (fun hb=>?_)<;>(repeat (first|replace hb:=Xz hb|replace hb:=X0 hb|replace hb:=W5 hb|replace hb:=W6 hb))<;>(try (exfalso;contradiction)))))
       all_goals (try (exfalso;first|contradiction|omega))
       all_goals (exact ⟨.inr rfl,S8 rfl (.tmp rfl) (.tmp rfl) (List.nil_sublist _) ⟨rfl,rfl⟩⟩)
     · rw [if_neg (by simp [h1])]
       (repeat' (first|refine Xe ?_|refine Xb ?_|refine Xc ?_|(apply Xn;exact Yd7;exact rfl)|(apply W0;exact rfl;exact rfl;exact rfl;(first|exact Yej|exact Yaz);exact rfl)|refine Xs ?_|refine Xw ?_|refine Xy rfl ?_|(apply Xh;exact rfl;first|(apply Xi;first|(refine Xk (.dup 1 rfl rfl .nil) Tryz.func19 rfl hT rfl ?_;rintro _ _ ⟨rfl,rfl⟩)|(refine Xq Tryz.func28 rfl hR rfl ?_;rintro _ _ ⟨⟨k2,rfl⟩,rfl⟩))|(apply Wb;refine X8 ?_;intro _)|(apply Xt;refine Xj (k:=0) (l0:=[]) rfl rfl rfl ?_))|(apply Vm;exact rfl;exact rfl;exact rfl;exact rfl;(apply Xi;(refine Xq Tryz.func37 rfl (Xdk _ _ _ _) rfl ?_;rintro _ _ ⟨rfl,rfl⟩)))|(refine Wf rfl rfl (fun hb=>?_) (fun hb=>?_)<;>(repeat (first|replace hb:=Xz hb|replace hb:=X0 hb|replace hb:=W5 hb|replace hb:=W6 hb))<;>(try (exfalso;contradiction)))|(refine Xp rfl (fun hb=>?_) (fun hb=>?_)<;>(repeat (first|replace hb:=Xz hb|replace hb:=X0 hb|replace hb:=W5 hb|replace hb:=W6 hb))<;>(try (exfalso;contradiction)))))
       all_goals (try (exfalso;first|contradiction|omega))
       all_goals (exact ⟨.inr rfl,S8 rfl (.tmp rfl) (.tmp rfl) (List.nil_sublist _) ⟨rfl,rfl⟩⟩)
   · rw [if_neg (by simp [h0])]
     (repeat' (first|refine Xe ?_|refine Xb ?_|refine Xc ?_|(apply Xn;(first|exact Xf rfl|exact Xm rfl|exact Wd (b:=true) rfl (fun _=>rfl) (fun e=>by cases e)|exact Ybb|exact Yai|exact Yad|exact Ybo|exact Yat);exact rfl)|(refine Wv rfl rfl rfl rfl rfl ?_)|refine Xs ?_|refine Xw ?_|refine Xx rfl ?_|refine Xy rfl ?_|(apply Xh;exact rfl;first|(apply Xi;first|(refine Xk (.dup 1 rfl rfl .nil) Tryz.func19 rfl hT rfl ?_;rintro _ _ ⟨rfl,rfl⟩)|(refine Xq Tryz.func28 rfl hR rfl ?_;rintro _ _ ⟨⟨k2,rfl⟩,rfl⟩))|(apply Wb;refine X8 ?_;intro _)|(apply Xt;refine Xj (k:=0) (l0:=[]) rfl rfl rfl ?_))|(refine Wf rfl rfl (fun hb=>?_) (fun hb=>?_)<;>(repeat (first|replace hb:=Xz hb|replace hb:=X0 hb|replace hb:=W5 hb|replace hb:=W6 hb))<;>(try (exfalso;contradiction)))))
     all_goals (try (exfalso;first|contradiction|omega))
     all_goals (exact ⟨.inr rfl,S8 rfl (.tmp rfl) (.tmp rfl) (List.nil_sublist _) ⟨rfl,rfl⟩⟩)
 · have e1:Xad (V2 r)=([],30):=by unfold Xad;rw [if_neg hv]
   rw [e1] at hT
   rw [Bool.not_eq_true] at hv
   rw [hv,Bool.false_and,if_neg Yao]
   (repeat' (first|refine Xe ?_|refine Xb ?_|refine Xc ?_|(apply Xn;(first|exact Xf rfl|exact Xm rfl|exact Ybb|exact Yai|exact Yad|exact Ybo|exact Yat);exact rfl)|refine Xw ?_|refine Xx rfl ?_|(apply Xh;exact rfl;(apply Xi;(refine Xk (.dup 1 rfl rfl .nil) Tryz.func19 rfl hT rfl ?_;rintro _ _ ⟨rfl,rfl⟩)))))
   all_goals (try (exfalso;first|contradiction|omega))
   all_goals (exact ⟨.inr rfl,S8 rfl (.tmp rfl) (.tmp rfl) (List.nil_sublist _) ⟨rfl,rfl⟩⟩)
end Go.Proofs.YthdldeenpgeemaaGreatDoor
namespace Go.Proofs.YthdldeenpgeemaaGreatDoor
open Go Go.RowKit Go.Kx Go.Fr
end Go.Proofs.YthdldeenpgeemaaGreatDoor
namespace Go.Proofs.YthdldeenpgeemaaGreatDoor
open Go Go.RowKit Go.Kx Go.Fr
instance eqItemD:EqD Tryz.prog 106 itemV:=⟨_,rfl,by kernel_rfl,by kernel_rfl,fun a b=>⟨_,(.str rfl rfl rfl rfl (.int rfl rfl rfl rfl (.int rfl rfl rfl rfl .nil))),by rw [Bool.eq_iff_iff];cases a;cases b;simp⟩⟩
instance eqKeyD:EqD Tryz.prog 97 keyV:=⟨_,rfl,by kernel_rfl,by kernel_rfl,fun a b=>⟨_,(.int rfl rfl rfl rfl (.str rfl rfl rfl rfl (.int rfl rfl rfl rfl .nil))),by rw [Bool.eq_iff_iff];cases a;cases b;simp⟩⟩
instance eqCritD:EqD Tryz.prog 70 critV:=⟨_,rfl,by kernel_rfl,by kernel_rfl,fun a b=>⟨_,(.str rfl rfl rfl rfl (.int rfl rfl rfl rfl (.int rfl rfl rfl rfl (.int rfl rfl rfl rfl (.int rfl rfl rfl rfl (.int rfl rfl rfl rfl (.bool rfl rfl rfl rfl .nil))))))),by rw [Bool.eq_iff_iff];cases a;cases b;simp⟩⟩
end Go.Proofs.YthdldeenpgeemaaGreatDoor
namespace Go.Proofs.YthdldeenpgeemaaGreatDoor
open Go Go.RowKit Go.Kx Go.Fr
theorem Xjz (x y:RoundD):x=y↔x.name=y.name∧x.panel=y.panel∧x.quota=y.quota∧x.cut=y.cut∧x.places=y.places∧x.free=y.free∧x.tie=y.tie∧x.tieNo=y.tieNo∧x.score=y.score:=by
 cases x;cases y
 rw [RoundD.mk.injEq]
 exact ⟨fun ⟨h1,h2,h3,h4,h5,h6,h7,h8,h9⟩=>⟨h1,h2,h3,h4,h5,h6,h8,h9,h7⟩,fun ⟨h1,h2,h3,h4,h5,h6,h8,h9,h7⟩=>⟨h1,h2,h3,h4,h5,h6,h7,h8,h9⟩⟩
theorem Xj0 (x y:RulesD):x=y↔x.name=y.name∧x.best=y.best∧x.bonus=y.bonus∧x.malus=y.malus∧x.ties=y.ties∧x.crits=y.crits∧x.rounds=y.rounds∧x.prizes=y.prizes∧x.points=y.points:=by
 cases x;cases y
 rw [RulesD.mk.injEq]
 exact ⟨fun ⟨h1,h2,h3,h4,h5,h6,h7,h8,h9⟩=>⟨h1,h9,h3,h4,h5,h2,h6,h7,h8⟩,fun ⟨h1,h9,h3,h4,h5,h2,h6,h7,h8⟩=>⟨h1,h2,h3,h4,h5,h6,h7,h8,h9⟩⟩
abbrev rul (k:Nat) (r:RulesD):SP:=agg (Wq k r)
end Go.Proofs.YthdldeenpgeemaaGreatDoor
namespace Go.Proofs.YthdldeenpgeemaaGreatDoor
open Go Go.RowKit Go.Kx Go.Fr
theorem r13sameExpr_any: ∀(k j:Nat) (x y:Ex),FnC Tryz.prog 27 [agg (exV k x),agg (exV j y)] [] (fun p loc=>p=exB (decide (x=y))∧loc=[]):=by
 intro k
 induction k with
 | zero=>intro j x y;exact Wp (i:=0) rfl R4 fun h=>h.elim
 | succ k ih=>
   intro j x y
   cases j with
   | zero=>exact Wp (i:=1) rfl R4 fun h=>h.elim
   | succ j=>
     refine Wp (i:=0) rfl (Vo (i:=4) (p:=isl (eEx k) x.l) rfl Wu) fun hlen=>?_
     refine Wp (i:=1) rfl (Vo (i:=4) (p:=isl (eEx j) y.l) rfl Wu) fun hlen2=>?_
     show FnC Tryz.prog 27 [agg [exI .i64 x.kind,exT x.name,exI .i64 x.n,exI .i64 x.d,isl (eEx k) x.l],agg [exI .i64 y.kind,exT y.name,exI .i64 y.n,exI .i64 y.d,isl (eEx j) y.l]] [] (fun p loc=>p=exB (decide (x=y))∧loc=[])
     obtain ⟨hlen,-⟩:=hlen
     obtain ⟨hlen2,-⟩:=hlen2
     simp only [maxLen] at hlen hlen2
     refine X3 Tryz.func27 rfl Tryz.ntmps27 rfl fun w0 F0 out=>?_
     by_cases h0:x.kind=y.kind∧x.name=y.name∧x.n=y.n∧x.d=y.d∧x.l.length=y.l.length
     · obtain ⟨h1,h2,h3,h4,h5⟩:=h0
       (repeat' (first|refine Xe ?_|refine Xb ?_|refine Xc ?_|(apply Xn;exact Ydh;exact rfl)|(refine Wv rfl rfl rfl rfl rfl ?_)|(apply W0;exact rfl;exact rfl;exact rfl;(first|exact Yap|exact Yad|(apply Vx;first|exact Xdj rfl rfl|exact Qz rfl rfl)|exact Yaj);exact rfl)|refine Xo ?_|refine Xs ?_|refine Xw ?_|refine Xx rfl ?_|(apply Xh;exact rfl;(apply Vp;refine W4 rfl ?_;intro _))|(refine Wf rfl rfl (fun hb=>?_) (fun hb=>?_)<;>(repeat (first|replace hb:=Xz hb|replace hb:=X0 hb|replace hb:=W5 hb|replace hb:=W6 hb))<;>(try (exfalso;omega)))|(refine Xp rfl (fun hb=>?_) (fun hb=>?_)<;>(repeat (first|replace hb:=Xz hb|replace hb:=X0 hb|replace hb:=W5 hb|replace hb:=W6 hb))<;>(try (exfalso;omega)))))
       all_goals (try (exfalso;first|contradiction|omega))
       rename_i b1 b2 _ _ _ _
       refine Ws (fun i:Nat=>([(2,ex (.pointer (some ⟨b1,0,none⟩))),(3,ex (.pointer (some ⟨b2,0,none⟩))),(5,exI .i64 (i:Int))],[row b2 52 5 [exI .i64 y.kind,exT y.name,exI .i64 y.n,exI .i64 y.d,isl (eEx j) y.l],row b1 52 5 [exI .i64 x.kind,exT x.name,exI .i64 x.n,exI .i64 x.d,isl (eEx k) x.l]])) (fun i=>i≤x.l.length∧x.l.take i=y.l.take i) (fun i=>x.l.length-i) 0 ?_ ⟨Nat.zero_le _,rfl⟩ fun i hi=>?_
       · exact Xg (by repeat (first|exact Xr|refine Xl rfl ?_)) (List.Sublist.refl _)
       obtain ⟨hi,ht⟩:=hi
       by_cases hlt:i<x.l.length
       · have hcall:=ih j x.l[i] (y.l[i]'Yan)
         by_cases he:x.l[i]=y.l[i]'Yan
         · (repeat' (first|refine Xe ?_|refine Xb ?_|refine Xc ?_|(apply Xn;exact Yb5;exact rfl)|refine Xo ?_|refine Xs ?_|(refine Xp rfl (fun hb=>?_) (fun hb=>?_)<;>(repeat (first|replace hb:=Xz hb|replace hb:=X0 hb))<;>(try (exfalso;omega)))))
           (refine Wt 12 rfl ?_)
           all_goals ((apply Xd 0 rfl Yaa rfl Yab Xa;(exact Yad);exact rfl))
           all_goals ((apply Xv 1 rfl Yaa rfl Yaa Yab Xa;(exact Ya0);exact rfl))
           all_goals ((apply Xd 2 rfl Yaa rfl Yab Xa;(exact Xf rfl);exact rfl))
           all_goals ((apply Xd 3 rfl Yaa rfl Yab Xa;(exact Yah);exact rfl))
           all_goals ((apply Xv 4 rfl Yaa rfl Yaa Yab Xa;(exact Yav);exact rfl))
           all_goals ((apply Xd 5 rfl Yaa rfl Yab Xa;(exact Yad);exact rfl))
           all_goals ((apply Xv 6 rfl Yaa rfl Yaa Yab Xa;(exact Yai);exact rfl))
           all_goals ((apply Xd 7 rfl Yaa rfl Yab Xa;(exact Xf rfl);exact rfl))
           all_goals ((apply Xd 8 rfl Yaa rfl Yab Xa;(exact Yah);exact rfl))
           all_goals ((apply Xv 9 rfl Yaa rfl Yaa Yab Xa;(exact Yav);exact rfl))
           all_goals ((apply Xu 10;exact Yaa;exact rfl;exact Xa;exact (fun _ _ h=>h);(apply Xi;(refine Xq Tryz.func27 rfl hcall rfl ?_;rintro _ _ ⟨rfl,rfl⟩))))
           all_goals ((apply Xd 11 rfl Yaa rfl Yab Xa;(exact Yaz);exact rfl))
           all_goals (refine X9 Yaa ?_)
           all_goals ((repeat' (first|refine Xe ?_|refine Xb ?_|refine Xc ?_|(apply Xn;exact Ybn;exact rfl)|refine Xs ?_|refine Xw ?_|(refine Xp rfl (fun hb=>?_) (fun hb=>?_)<;>(repeat (first|replace hb:=Xz hb|replace hb:=X0 hb|replace hb:=W5 hb|replace hb:=W6 hb))<;>(try (exfalso;fail))))))
           all_goals (try (exfalso;simp_all;done))
           exact ⟨i+1,⟨by omega,by rw [List.take_succ_eq_append_getElem hlt,List.take_succ_eq_append_getElem Yan,ht,he]⟩,by omega,Xg (by repeat (first|exact Xr|refine Xl rfl ?_)) (List.Sublist.refl _)⟩
         · (repeat' (first|refine Xe ?_|refine Xb ?_|refine Xc ?_|(apply Xn;exact Yb5;exact rfl)|refine Xo ?_|refine Xs ?_|(refine Xp rfl (fun hb=>?_) (fun hb=>?_)<;>(repeat (first|replace hb:=Xz hb|replace hb:=X0 hb))<;>(try (exfalso;omega)))))
           (refine Wt 12 rfl ?_)
           all_goals ((apply Xd 0 rfl Yaa rfl Yab Xa;(exact Yad);exact rfl))
           all_goals ((apply Xv 1 rfl Yaa rfl Yaa Yab Xa;(exact Ya0);exact rfl))
           all_goals ((apply Xd 2 rfl Yaa rfl Yab Xa;(exact Xf rfl);exact rfl))
           all_goals ((apply Xd 3 rfl Yaa rfl Yab Xa;(exact Yah);exact rfl))
           all_goals ((apply Xv 4 rfl Yaa rfl Yaa Yab Xa;(exact Yav);exact rfl))
           all_goals ((apply Xd 5 rfl Yaa rfl Yab Xa;(exact Yad);exact rfl))
           all_goals ((apply Xv 6 rfl Yaa rfl Yaa Yab Xa;(exact Yai);exact rfl))
           all_goals ((apply Xd 7 rfl Yaa rfl Yab Xa;(exact Xf rfl);exact rfl))
           all_goals ((apply Xd 8 rfl Yaa rfl Yab Xa;(exact Yah);exact rfl))
           all_goals ((apply Xv 9 rfl Yaa rfl Yaa Yab Xa;(exact Yav);exact rfl))
           all_goals ((apply Xu 10;exact Yaa;exact rfl;exact Xa;exact (fun _ _ h=>h);(apply Xi;(refine Xq Tryz.func27 rfl hcall rfl ?_;rintro _ _ ⟨rfl,rfl⟩))))
           all_goals ((apply Xd 11 rfl Yaa rfl Yab Xa;(exact Yaz);exact rfl))
           all_goals (refine X9 Yaa ?_)
           all_goals ((repeat' (first|refine Xe ?_|refine Xb ?_|refine Xc ?_|(apply Xn;exact Ybn;exact rfl)|refine Xs ?_|refine Xw ?_|(refine Xp rfl (fun hb=>?_) (fun hb=>?_)<;>(repeat (first|replace hb:=Xz hb|replace hb:=X0 hb|replace hb:=W5 hb|replace hb:=W6 hb))<;>(try (exfalso;fail))))))
           all_goals (try (exfalso;simp_all;done))
           refine ⟨.inr rfl,Vd rfl (.tmp rfl) (List.nil_sublist _) ⟨congrArg exB ?_,rfl⟩⟩
           exact (decide_eq_false fun e=>he Yen).symm
       · have hk9:i=x.l.length:=by omega
         subst hk9
         rw [List.take_length,h5,List.take_length] at ht
         (repeat' (first|refine Xe ?_|refine Xb ?_|refine Xc ?_|(apply Xn;exact Yc1;exact rfl)|refine Xw ?_|refine Wm ?_|(refine Xp rfl (fun hb=>?_) (fun hb=>?_)<;>(repeat (first|replace hb:=Xz hb|replace hb:=X0 hb))<;>(try (exfalso;omega)))))
         all_goals (try (exfalso;omega))
         refine ⟨.inr rfl,Vd rfl (.tmp rfl) (List.nil_sublist _) ⟨congrArg exB ?_,rfl⟩⟩
         exact (decide_eq_true ((Ex.ext_iff' x y).2 ⟨h1,h2,h3,h4,ht⟩)).symm
     · have hn:x≠y:=fun e=>h0 (by subst e;exact ⟨rfl,rfl,rfl,rfl,rfl⟩)
       rw [decide_eq_false hn]
       (repeat' (first|refine Xe ?_|refine Xb ?_|refine Xc ?_|(apply Xn;exact Ydh;exact rfl)|(refine Wv rfl rfl rfl rfl rfl ?_)|(apply W0;exact rfl;exact rfl;exact rfl;(first|exact Yap|exact Yad|(apply Vx;first|exact Xdj rfl rfl|exact Qz rfl rfl)|exact Yaj);exact rfl)|refine Xo ?_|refine Xs ?_|refine Xw ?_|refine Xx rfl ?_|(apply Xh;exact rfl;(apply Vp;refine W4 rfl ?_;intro _))|(refine Wf rfl rfl (fun hb=>?_) (fun hb=>?_)<;>(repeat (first|replace hb:=Xz hb|replace hb:=X0 hb|replace hb:=W5 hb|replace hb:=W6 hb))<;>(try (exfalso;fail)))|(refine Xp rfl (fun hb=>?_) (fun hb=>?_)<;>(repeat (first|replace hb:=Xz hb|replace hb:=X0 hb|replace hb:=W5 hb|replace hb:=W6 hb))<;>(try (exfalso;fail)))))
       all_goals first|exact ⟨.inr rfl,Vd rfl (.tmp rfl) (List.nil_sublist _) ⟨rfl,rfl⟩⟩|(exfalso;refine h0 ⟨?_,?_,?_,?_,?_⟩<;>first|assumption|omega)
theorem R8 (a b:List ItemD):FnC Tryz.prog 31 [isl eItem a,isl eItem b] [] (fun p loc=>p=exB (decide (a=b))∧loc=[]):=by
 refine Wp (i:=0) rfl Wu fun ha=>?_
 refine Wp (i:=1) rfl Wu fun hb=>?_
 obtain ⟨ha,-⟩:=ha
 obtain ⟨hb,-⟩:=hb
 simp only [maxLen] at ha hb
 refine X3 Tryz.func31 rfl Tryz.ntmps31 rfl fun w0 F0 out=>?_
 by_cases hl:a.length=b.length
 · (repeat' (first|refine Xe ?_|refine Xb ?_|refine Xc ?_|(apply Xn;exact Ya3;exact rfl)|refine Xo ?_|refine Xs ?_|(refine Xp rfl (fun hb=>?_) (fun hb=>?_)<;>(repeat (first|replace hb:=Xz hb|replace hb:=X0 hb|replace hb:=W5 hb|replace hb:=W6 hb))<;>(try (exfalso;omega)))))
   all_goals (try (exfalso;omega))
   refine Ws (fun k:Nat=>([(0,isl eItem a),(1,isl eItem b),(5,exI .i64 k)],[])) (fun k=>k≤a.length∧a.take k=b.take k) (fun k=>a.length-k) 0 ?_ ⟨Nat.zero_le _,rfl⟩ fun k hk=>?_
   · exact Xg (by repeat (first|exact Xr|refine Xl rfl ?_)) (List.Sublist.refl _)
   obtain ⟨hk,ht⟩:=hk
   by_cases hlt:k<a.length
   · by_cases he:a[k]=b[k]'Yan
     · (repeat' (first|refine Xe ?_|refine Xb ?_|refine Xc ?_|(apply Xn;exact Ye0;exact rfl)|refine Xo ?_|refine Xs ?_|(refine Xp rfl (fun hb=>?_) (fun hb=>?_)<;>(repeat (first|replace hb:=Xz hb|replace hb:=X0 hb))<;>(try (exfalso;omega)))))
       (refine Wt 9 rfl ?_)
       all_goals ((apply Xd 0 rfl Yaa rfl Yab Xa;(exact Xf rfl);exact rfl))
       all_goals ((apply Xd 1 rfl Yaa rfl Yab Xa;(exact Xf rfl);exact rfl))
       all_goals ((apply Xd 2 rfl Yaa rfl Yab Xa;(exact Yah);exact rfl))
       all_goals ((apply Xv 3 rfl Yaa rfl Yaa Yab Xa;(exact Yav);exact rfl))
       all_goals ((apply Xd 4 rfl Yaa rfl Yab Xa;(exact Xf rfl);exact rfl))
       all_goals ((apply Xd 5 rfl Yaa rfl Yab Xa;(exact Xf rfl);exact rfl))
       all_goals ((apply Xd 6 rfl Yaa rfl Yab Xa;(exact Yah);exact rfl))
       all_goals ((apply Xv 7 rfl Yaa rfl Yaa Yab Xa;(exact Yav);exact rfl))
       all_goals ((apply Xd 8 rfl Yaa rfl Yab Xa;(exact Yce);exact rfl))
       all_goals (refine X9 Yaa ?_)
       all_goals ((repeat' (first|refine Xe ?_|refine Xb ?_|refine Xc ?_|(apply Xn;exact Ybn;exact rfl)|refine Xs ?_|refine Xw ?_|(refine Xp rfl (fun hb=>?_) (fun hb=>?_)<;>(repeat (first|replace hb:=Xz hb|replace hb:=X0 hb|replace hb:=W5 hb|replace hb:=W6 hb))<;>(try (exfalso;fail))))))
       all_goals (try (exfalso;simp_all;done))
       exact ⟨k+1,⟨by omega,by rw [List.take_succ_eq_append_getElem hlt,List.take_succ_eq_append_getElem Yan,ht,he]⟩,by omega,Xg (by repeat (first|exact Xr|refine Xl rfl ?_)) (List.Sublist.refl _)⟩
     · (repeat' (first|refine Xe ?_|refine Xb ?_|refine Xc ?_|(apply Xn;exact Ye0;exact rfl)|refine Xo ?_|refine Xs ?_|(refine Xp rfl (fun hb=>?_) (fun hb=>?_)<;>(repeat (first|replace hb:=Xz hb|replace hb:=X0 hb))<;>(try (exfalso;omega)))))
       (refine Wt 9 rfl ?_)
       all_goals ((apply Xd 0 rfl Yaa rfl Yab Xa;(exact Xf rfl);exact rfl))
       all_goals ((apply Xd 1 rfl Yaa rfl Yab Xa;(exact Xf rfl);exact rfl))
       all_goals ((apply Xd 2 rfl Yaa rfl Yab Xa;(exact Yah);exact rfl))
       all_goals ((apply Xv 3 rfl Yaa rfl Yaa Yab Xa;(exact Yav);exact rfl))
       all_goals ((apply Xd 4 rfl Yaa rfl Yab Xa;(exact Xf rfl);exact rfl))
       all_goals ((apply Xd 5 rfl Yaa rfl Yab Xa;(exact Xf rfl);exact rfl))
       all_goals ((apply Xd 6 rfl Yaa rfl Yab Xa;(exact Yah);exact rfl))
       all_goals ((apply Xv 7 rfl Yaa rfl Yaa Yab Xa;(exact Yav);exact rfl))
       all_goals ((apply Xd 8 rfl Yaa rfl Yab Xa;(exact Yce);exact rfl))
       all_goals (refine X9 Yaa ?_)
       all_goals ((repeat' (first|refine Xe ?_|refine Xb ?_|refine Xc ?_|(apply Xn;exact Ybn;exact rfl)|refine Xs ?_|refine Xw ?_|(refine Xp rfl (fun hb=>?_) (fun hb=>?_)<;>(repeat (first|replace hb:=Xz hb|replace hb:=X0 hb|replace hb:=W5 hb|replace hb:=W6 hb))<;>(try (exfalso;fail))))))
       all_goals (try (exfalso;simp_all;done))
       refine ⟨.inr rfl,Vd rfl (.tmp rfl) (List.nil_sublist _) ⟨congrArg exB ?_,rfl⟩⟩
       exact (decide_eq_false fun e=>he Yen).symm
   · have hk9:k=a.length:=by omega
     subst hk9
     rw [List.take_length,hl,List.take_length] at ht
     (repeat' (first|refine Xe ?_|refine Xb ?_|refine Xc ?_|(apply Xn;exact Yc2;exact rfl)|refine Xw ?_|refine Wm ?_|(refine Xp rfl (fun hb=>?_) (fun hb=>?_)<;>(repeat (first|replace hb:=Xz hb|replace hb:=X0 hb))<;>(try (exfalso;omega)))))
     refine ⟨.inr rfl,Vd rfl (.tmp rfl) (List.nil_sublist _) ⟨congrArg exB ?_,rfl⟩⟩
     exact (decide_eq_true ht).symm
 · (repeat' (first|refine Xe ?_|refine Xb ?_|refine Xc ?_|(apply Xn;exact Ya3;exact rfl)|refine Xw ?_|(refine Xp rfl (fun hb=>?_) (fun hb=>?_)<;>(repeat (first|replace hb:=Xz hb|replace hb:=X0 hb|replace hb:=W5 hb|replace hb:=W6 hb))<;>(try (exfalso;omega)))))
   all_goals (try (exfalso;omega))
   refine ⟨.inr rfl,Vd rfl (.tmp rfl) (List.nil_sublist _) ⟨congrArg exB ?_,rfl⟩⟩
   exact (decide_eq_false fun e=>hl (by rw [e])).symm
theorem Qe (a b:List Int):FnC Tryz.prog 34 [isl eI a,isl eI b] [] (fun p loc=>p=exB (decide (a=b))∧loc=[]):=by
 refine Wp (i:=0) rfl Wu fun ha=>?_
 refine Wp (i:=1) rfl Wu fun hb=>?_
 replace ha:=ha.1
 replace hb:=hb.1
 simp only [maxLen] at ha hb
 refine X3 Tryz.func34 rfl Tryz.ntmps34 rfl fun w0 F0 out=>?_
 by_cases hl:a.length=b.length
 · (repeat' (first|refine Xe ?_|refine Xb ?_|refine Xc ?_|(apply Xn;exact Ya3;exact rfl)|refine Xo ?_|refine Xs ?_|(refine Xp rfl (fun hb=>?_) (fun hb=>?_)<;>(repeat (first|replace hb:=Xz hb|replace hb:=X0 hb|replace hb:=W5 hb|replace hb:=W6 hb))<;>(try (exfalso;omega)))))
   all_goals (try (exfalso;omega))
   refine Ws (fun k:Nat=>([(0,isl eI a),(1,isl eI b),(5,exI .i64 k)],[])) (fun k=>k≤a.length∧a.take k=b.take k) (fun k=>a.length-k) 0 ?_ ⟨Nat.zero_le _,rfl⟩ fun k hk=>?_
   · exact Xg (by repeat (first|exact Xr|refine Xl rfl ?_)) (List.Sublist.refl _)
   obtain ⟨hk,ht⟩:=hk
   by_cases hlt:k<a.length
   · by_cases he:a[k]=b[k]'Yan
     · (repeat' (first|refine Xe ?_|refine Xb ?_|refine Xc ?_|(apply Xn;exact Ye0;exact rfl)|refine Xo ?_|refine Xs ?_|(refine Xp rfl (fun hb=>?_) (fun hb=>?_)<;>(repeat (first|replace hb:=Xz hb|replace hb:=X0 hb))<;>(try (exfalso;omega)))))
       (refine Wt 9 rfl ?_)
       all_goals ((apply Xd 0 rfl Yaa rfl Yab Xa;(exact Xf rfl);exact rfl))
       all_goals ((apply Xd 1 rfl Yaa rfl Yab Xa;(exact Xf rfl);exact rfl))
       all_goals ((apply Xd 2 rfl Yaa rfl Yab Xa;(exact Yah);exact rfl))
       all_goals ((apply Xv 3 rfl Yaa rfl Yaa Yab Xa;(exact Yag);exact rfl))
       all_goals ((apply Xd 4 rfl Yaa rfl Yab Xa;(exact Xf rfl);exact rfl))
       all_goals ((apply Xd 5 rfl Yaa rfl Yab Xa;(exact Xf rfl);exact rfl))
       all_goals ((apply Xd 6 rfl Yaa rfl Yab Xa;(exact Yah);exact rfl))
       all_goals ((apply Xv 7 rfl Yaa rfl Yaa Yab Xa;(exact Yag);exact rfl))
       all_goals ((apply Xd 8 rfl Yaa rfl Yab Xa;(exact Ybo);exact rfl))
       all_goals (refine X9 Yaa ?_)
       all_goals ((repeat' (first|refine Xb ?_|refine Xc ?_|(apply Xn;exact Ybn;exact rfl)|refine Xs ?_|(refine Xp rfl (fun hb=>?_) (fun hb=>?_)<;>(repeat (first|replace hb:=Xz hb|replace hb:=X0 hb|replace hb:=W5 hb|replace hb:=W6 hb))<;>(try (exfalso;omega))))))
       all_goals (try (exfalso;simp_all;done))
       exact ⟨k+1,⟨by omega,by rw [List.take_succ_eq_append_getElem hlt,List.take_succ_eq_append_getElem Yan,ht,he]⟩,by omega,Xg (by repeat (first|exact Xr|refine Xl rfl ?_)) (List.Sublist.refl _)⟩
     · (repeat' (first|refine Xe ?_|refine Xb ?_|refine Xc ?_|(apply Xn;exact Ye0;exact rfl)|refine Xo ?_|refine Xs ?_|(refine Xp rfl (fun hb=>?_) (fun hb=>?_)<;>(repeat (first|replace hb:=Xz hb|replace hb:=X0 hb))<;>(try (exfalso;omega)))))
       (refine Wt 9 rfl ?_)
       all_goals ((apply Xd 0 rfl Yaa rfl Yab Xa;(exact Xf rfl);exact rfl))
       all_goals ((apply Xd 1 rfl Yaa rfl Yab Xa;(exact Xf rfl);exact rfl))
       all_goals ((apply Xd 2 rfl Yaa rfl Yab Xa;(exact Yah);exact rfl))
       all_goals ((apply Xv 3 rfl Yaa rfl Yaa Yab Xa;(exact Yag);exact rfl))
       all_goals ((apply Xd 4 rfl Yaa rfl Yab Xa;(exact Xf rfl);exact rfl))
       all_goals ((apply Xd 5 rfl Yaa rfl Yab Xa;(exact Xf rfl);exact rfl))
       all_goals ((apply Xd 6 rfl Yaa rfl Yab Xa;(exact Yah);exact rfl))
       all_goals ((apply Xv 7 rfl Yaa rfl Yaa Yab Xa;(exact Yag);exact rfl))
       all_goals ((apply Xd 8 rfl Yaa rfl Yab Xa;(exact Ybo);exact rfl))
       all_goals (refine X9 Yaa ?_)
       all_goals ((repeat' (first|refine Xe ?_|refine Xb ?_|refine Xc ?_|(apply Xn;(exact Xm rfl);exact rfl)|refine Xw ?_|(refine Xp rfl (fun hb=>?_) (fun hb=>?_)<;>(repeat (first|replace hb:=Xz hb|replace hb:=X0 hb|replace hb:=W5 hb|replace hb:=W6 hb))<;>(try (exfalso;omega))))))
       all_goals (try (exfalso;simp_all;done))
       refine ⟨.inr rfl,Vd rfl (.tmp rfl) (List.nil_sublist _) ⟨congrArg exB ?_,rfl⟩⟩
       exact (decide_eq_false fun e=>he Yen).symm
   · have hk9:k=a.length:=by omega
     subst hk9
     rw [List.take_length,hl,List.take_length] at ht
     (repeat' (first|refine Xe ?_|refine Xb ?_|refine Xc ?_|(apply Xn;exact Yc2;exact rfl)|refine Xw ?_|refine Wm ?_|(refine Xp rfl (fun hb=>?_) (fun hb=>?_)<;>(repeat (first|replace hb:=Xz hb|replace hb:=X0 hb))<;>(try (exfalso;omega)))))
     refine ⟨.inr rfl,Vd rfl (.tmp rfl) (List.nil_sublist _) ⟨congrArg exB ?_,rfl⟩⟩
     exact (decide_eq_true ht).symm
 · (repeat' (first|refine Xe ?_|refine Xb ?_|refine Xc ?_|(apply Xn;exact Ya3;exact rfl)|refine Xw ?_|(refine Xp rfl (fun hb=>?_) (fun hb=>?_)<;>(repeat (first|replace hb:=Xz hb|replace hb:=X0 hb|replace hb:=W5 hb|replace hb:=W6 hb))<;>(try (exfalso;omega)))))
   all_goals (try (exfalso;omega))
   refine ⟨.inr rfl,Vd rfl (.tmp rfl) (List.nil_sublist _) ⟨congrArg exB ?_,rfl⟩⟩
   exact (decide_eq_false fun e=>hl (by rw [e])).symm
theorem Xae (a b:TieD):FnC Tryz.prog 32 [agg (Xb6 a),agg (Xb6 b)] [] (fun p loc=>p=exB (decide (a=b))∧loc=[]):=by
 refine Wp (i:=0) rfl (Vo (i:=1) rfl Wu) fun hk1=>?_
 refine Wp (i:=1) rfl (Vo (i:=1) rfl Wu) fun hk2=>?_
 replace hk1:=hk1.1;replace hk2:=hk2.1
 simp only [maxLen] at hk1 hk2
 refine X3 Tryz.func32 rfl Tryz.ntmps32 rfl fun w0 F0 out=>?_
 by_cases h0:a.name=b.name∧a.keys.length=b.keys.length
 · obtain ⟨h1,h2⟩:=h0
   (repeat' (first|refine Xe ?_|refine Xb ?_|refine Xc ?_|(apply Xn;exact Ybv;exact rfl)|(refine Wv rfl rfl rfl rfl rfl ?_)|(apply W0;exact rfl;exact rfl;exact rfl;(first|exact Yap|exact Yad|exact Ybo|exact Yaj);exact rfl)|refine Xo ?_|refine Xs ?_|refine Xw ?_|refine Xx rfl ?_|(apply Xh;exact rfl;(apply Vp;refine W4 rfl ?_;intro _))|(refine Wf rfl rfl (fun hb=>?_) (fun hb=>?_)<;>(repeat (first|replace hb:=Xz hb|replace hb:=X0 hb|replace hb:=W5 hb|replace hb:=W6 hb))<;>(try (exfalso;fail)))|(refine Xp rfl (fun hb=>?_) (fun hb=>?_)<;>(repeat (first|replace hb:=Xz hb|replace hb:=X0 hb|replace hb:=W5 hb|replace hb:=W6 hb))<;>(try (exfalso;omega)))))
   all_goals (try (exfalso;first|contradiction|omega))
   rename_i b1 b2 _
   refine Ws (fun q:Nat=>([(2,ex (.pointer (some ⟨b1,0,none⟩))),(3,ex (.pointer (some ⟨b2,0,none⟩))),(5,exI .i64 (q:Int))],[row b2 74 2 (Xb6 b),row b1 74 2 (Xb6 a)])) (fun q=>q≤a.keys.length∧a.keys.take q=b.keys.take q) (fun q=>a.keys.length-q) 0 ?_ ⟨Nat.zero_le _,rfl⟩ fun q hq=>?_
   · exact Xg (by repeat (first|exact Xr|refine Xl rfl ?_)) (List.Sublist.refl _)
   obtain ⟨hq,htq⟩:=hq
   by_cases hltq:q<a.keys.length
   · by_cases hek:a.keys[q]=b.keys[q]'Yan
     · (repeat' (first|refine Xe ?_|refine Xb ?_|refine Xc ?_|(apply Xn;exact Yb5;exact rfl)|refine Xo ?_|refine Xs ?_|(refine Xp rfl (fun hb=>?_) (fun hb=>?_)<;>(repeat (first|replace hb:=Xz hb|replace hb:=X0 hb))<;>(try (exfalso;omega)))))
       (refine Wt 11 rfl ?_)
       all_goals ((apply Xd 0 rfl Yaa rfl Yab Xa;(exact Yad);exact rfl))
       all_goals ((apply Xv 1 rfl Yaa rfl Yaa Yab Xa;(exact Ya0);exact rfl))
       all_goals ((apply Xd 2 rfl Yaa rfl Yab Xa;(exact Xf rfl);exact rfl))
       all_goals ((apply Xd 3 rfl Yaa rfl Yab Xa;(exact Yah);exact rfl))
       all_goals ((apply Xv 4 rfl Yaa rfl Yaa Yab Xa;(exact Yav);exact rfl))
       all_goals ((apply Xd 5 rfl Yaa rfl Yab Xa;(exact Yad);exact rfl))
       all_goals ((apply Xv 6 rfl Yaa rfl Yaa Yab Xa;(exact Yai);exact rfl))
       all_goals ((apply Xd 7 rfl Yaa rfl Yab Xa;(exact Xf rfl);exact rfl))
       all_goals ((apply Xd 8 rfl Yaa rfl Yab Xa;(exact Yah);exact rfl))
       all_goals ((apply Xv 9 rfl Yaa rfl Yaa Yab Xa;(exact Yav);exact rfl))
       all_goals ((apply Xd 10 rfl Yaa rfl Yab Xa;(exact Yce);exact rfl))
       all_goals (refine X9 Yaa ?_)
       all_goals ((repeat' (first|refine Xe ?_|refine Xb ?_|refine Xc ?_|(apply Xn;exact Ybn;exact rfl)|refine Xs ?_|refine Xw ?_|(refine Xp rfl (fun hb=>?_) (fun hb=>?_)<;>(repeat (first|replace hb:=Xz hb|replace hb:=X0 hb|replace hb:=W5 hb|replace hb:=W6 hb))<;>(try (exfalso;fail))))))
       all_goals (try (exfalso;simp_all;done))
       exact ⟨q+1,⟨by omega,by rw [List.take_succ_eq_append_getElem hltq,List.take_succ_eq_append_getElem Yan,htq,hek]⟩,by omega,Xg (by repeat (first|exact Xr|refine Xl rfl ?_)) (List.Sublist.refl _)⟩
     · (repeat' (first|refine Xe ?_|refine Xb ?_|refine Xc ?_|(apply Xn;exact Yb5;exact rfl)|refine Xo ?_|refine Xs ?_|(refine Xp rfl (fun hb=>?_) (fun hb=>?_)<;>(repeat (first|replace hb:=Xz hb|replace hb:=X0 hb))<;>(try (exfalso;omega)))))
       (refine Wt 11 rfl ?_)
       all_goals ((apply Xd 0 rfl Yaa rfl Yab Xa;(exact Yad);exact rfl))
       all_goals ((apply Xv 1 rfl Yaa rfl Yaa Yab Xa;(exact Ya0);exact rfl))
       all_goals ((apply Xd 2 rfl Yaa rfl Yab Xa;(exact Xf rfl);exact rfl))
       all_goals ((apply Xd 3 rfl Yaa rfl Yab Xa;(exact Yah);exact rfl))
       all_goals ((apply Xv 4 rfl Yaa rfl Yaa Yab Xa;(exact Yav);exact rfl))
       all_goals ((apply Xd 5 rfl Yaa rfl Yab Xa;(exact Yad);exact rfl))
       all_goals ((apply Xv 6 rfl Yaa rfl Yaa Yab Xa;(exact Yai);exact rfl))
       all_goals ((apply Xd 7 rfl Yaa rfl Yab Xa;(exact Xf rfl);exact rfl))
       all_goals ((apply Xd 8 rfl Yaa rfl Yab Xa;(exact Yah);exact rfl))
       all_goals ((apply Xv 9 rfl Yaa rfl Yaa Yab Xa;(exact Yav);exact rfl))
       all_goals ((apply Xd 10 rfl Yaa rfl Yab Xa;(exact Yce);exact rfl))
       all_goals (refine X9 Yaa ?_)
       all_goals ((repeat' (first|refine Xe ?_|refine Xb ?_|refine Xc ?_|(apply Xn;exact Ybn;exact rfl)|refine Xs ?_|refine Xw ?_|(refine Xp rfl (fun hb=>?_) (fun hb=>?_)<;>(repeat (first|replace hb:=Xz hb|replace hb:=X0 hb|replace hb:=W5 hb|replace hb:=W6 hb))<;>(try (exfalso;fail))))))
       all_goals (try (exfalso;simp_all;done))
       refine ⟨.inr rfl,Vd rfl (.tmp rfl) (List.nil_sublist _) ⟨congrArg exB ?_,rfl⟩⟩
       exact (decide_eq_false fun e=>hek Yen).symm
   · have hk9:q=a.keys.length:=by omega
     subst hk9
     rw [List.take_length,h2,List.take_length] at htq
     (repeat' (first|refine Xe ?_|refine Xb ?_|refine Xc ?_|(apply Xn;exact Yc1;exact rfl)|refine Xw ?_|refine Wm ?_|(refine Xp rfl (fun hb=>?_) (fun hb=>?_)<;>(repeat (first|replace hb:=Xz hb|replace hb:=X0 hb))<;>(try (exfalso;omega)))))
     all_goals (try (exfalso;omega))
     refine ⟨.inr rfl,Vd rfl (.tmp rfl) (List.nil_sublist _) ⟨congrArg exB ?_,rfl⟩⟩
     refine (decide_eq_true ?_).symm
     cases a;cases b
     simp only at h1 htq
     rw [h1,htq]
 · have hne:a≠b:=fun e=>h0 (by subst e;exact ⟨rfl,rfl⟩)
   rw [decide_eq_false hne]
   (repeat' (first|refine Xe ?_|refine Xb ?_|refine Xc ?_|(apply Xn;exact Ybv;exact rfl)|(refine Wv rfl rfl rfl rfl rfl ?_)|(apply W0;exact rfl;exact rfl;exact rfl;(first|exact Yap|exact Yad|exact Ybo|exact Yaj);exact rfl)|refine Xo ?_|refine Xs ?_|refine Xw ?_|refine Xx rfl ?_|(apply Xh;exact rfl;(apply Vp;refine W4 rfl ?_;intro _))|(refine Wf rfl rfl (fun hb=>?_) (fun hb=>?_)<;>(repeat (first|replace hb:=Xz hb|replace hb:=X0 hb|replace hb:=W5 hb|replace hb:=W6 hb))<;>(try (exfalso;fail)))|(refine Xp rfl (fun hb=>?_) (fun hb=>?_)<;>(repeat (first|replace hb:=Xz hb|replace hb:=X0 hb|replace hb:=W5 hb|replace hb:=W6 hb))<;>(try (exfalso;fail)))))
   all_goals first|exact ⟨.inr rfl,Vd rfl (.tmp rfl) (List.nil_sublist _) ⟨rfl,rfl⟩⟩|(exfalso;refine h0 ⟨?_,?_⟩<;>first|assumption|omega)
theorem R9 (k j:Nat) (x y:RoundD):FnC Tryz.prog 33 [agg (V9 k x),agg (V9 j y)] [] (fun p loc=>p=exB (decide (x=y))∧loc=[]):=by
 refine X3 Tryz.func33 rfl Tryz.ntmps33 rfl fun w0 F0 out=>?_
 (repeat' (first|refine Xe ?_|refine Xb ?_|refine Xc ?_|(apply Xn;(first|exact Xf rfl|exact Xm rfl|exact Wd (b:=true) rfl (fun _=>rfl) (fun e=>by cases e)|exact Wd (b:=false) rfl (fun e=>by cases e) (fun _=>rfl)|exact Yd2|exact Yad|(apply Vx;exact Xdj rfl rfl));exact rfl)|(refine Wv rfl rfl rfl rfl rfl ?_)|(apply W0;exact rfl;exact rfl;exact rfl;(first|exact Yap|exact Yad|(apply Vx;first|exact Sy rfl rfl|exact Rw rfl rfl|exact Qz rfl rfl|exact Xqt rfl rfl rfl));exact rfl)|refine Xs ?_|refine Xw ?_|refine Xx rfl ?_|(apply Xh;exact rfl;first|(apply Xi;(refine Xq Tryz.func27 rfl (r13sameExpr_any _ _ _ _) rfl ?_;rintro _ _ ⟨rfl,rfl⟩))|(apply Vp;refine W4 rfl ?_;intro _))|(refine Wf rfl rfl (fun hb=>?_) (fun hb=>?_)<;>(repeat (first|replace hb:=Xz hb|replace hb:=X0 hb|replace hb:=W5 hb|replace hb:=W6 hb))<;>(try (exfalso;fail)))|(refine Xp rfl (fun hb=>?_) (fun hb=>?_)<;>(repeat (first|replace hb:=Xz hb|replace hb:=X0 hb|replace hb:=W5 hb|replace hb:=W6 hb))<;>(try (exfalso;fail)))))
 all_goals (refine ⟨.inr rfl,Vd rfl (.tmp rfl) (List.nil_sublist _) ⟨congrArg exB ?_,rfl⟩⟩)
 all_goals (rw [Bool.eq_iff_iff];simp only [decide_eq_true_eq,Xjz,Bool.false_eq_true,false_iff, *])
 all_goals simp
theorem Sv (k j:Nat) (x y:RulesD):FnC Tryz.prog 13 [rul k x,rul j y] [] (fun p loc=>p=exB (decide (x=y))∧loc=[]):=by
 refine Wp (i:=0) rfl (Vo (i:=1) rfl Wu) fun hc1=>?_
 refine Wp (i:=1) rfl (Vo (i:=1) rfl Wu) fun hc2=>?_
 refine Wp (i:=0) rfl (Vo (i:=5) rfl Wu) fun hr1=>?_
 refine Wp (i:=1) rfl (Vo (i:=5) rfl Wu) fun hr2=>?_
 refine Wp (i:=0) rfl (Vo (i:=4) rfl Wu) fun ht1=>?_
 refine Wp (i:=1) rfl (Vo (i:=4) rfl Wu) fun ht2=>?_
 replace ht1:=ht1.1;replace ht2:=ht2.1
 refine Wp (i:=0) rfl (Vo (i:=6) rfl Wu) fun hp1=>?_
 refine Wp (i:=1) rfl (Vo (i:=6) rfl Wu) fun hp2=>?_
 refine Wp (i:=0) rfl (Vo (i:=7) rfl Wu) fun hq1=>?_
 refine Wp (i:=1) rfl (Vo (i:=7) rfl Wu) fun hq2=>?_
 replace hc1:=hc1.1;replace hc2:=hc2.1;replace hr1:=hr1.1;replace hr2:=hr2.1
 replace hp1:=hp1.2;replace hp2:=hp2.2;replace hq1:=hq1.2;replace hq2:=hq2.2
 simp only [eI] at hp1 hp2 hq1 hq2
 simp only [maxLen] at hc1 hc2 hr1 hr2 ht1 ht2
 refine X3 Tryz.func13 rfl Tryz.ntmps13 rfl fun w0 F0 out=>?_
 by_cases h0:x.name=y.name∧x.crits.length=y.crits.length∧x.rounds.length=y.rounds.length∧x.bonus=y.bonus∧x.malus=y.malus∧x.ties.length=y.ties.length
 · obtain ⟨h1,h3,h4,h5,h6,h7⟩:=h0
   (repeat' (first|refine Xe ?_|refine Xb ?_|refine Xc ?_|(apply Xn;exact Ybv;exact rfl)|(refine Wv rfl rfl rfl rfl rfl ?_)|(apply W0;exact rfl;exact rfl;exact rfl;(first|exact Yap|exact Yad|exact Ybo|exact Yaj|exact Yaz);exact rfl)|refine Xo ?_|refine Xs ?_|refine Xw ?_|refine Xx rfl ?_|(apply Xh;exact rfl;(apply Vp;refine W4 rfl ?_;intro _))|(apply Vm;exact rfl;exact rfl;exact rfl;exact rfl;(apply Xi;(refine Xq Tryz.func31 rfl (R8 _ _) rfl ?_;rintro _ _ ⟨rfl,rfl⟩)))|(refine Wf rfl rfl (fun hb=>?_) (fun hb=>?_)<;>(repeat (first|replace hb:=Xz hb|replace hb:=X0 hb|replace hb:=W5 hb|replace hb:=W6 hb))<;>(try (exfalso;omega)))|(refine Xp rfl (fun hb=>?_) (fun hb=>?_)<;>(repeat (first|replace hb:=Xz hb|replace hb:=X0 hb|replace hb:=W5 hb|replace hb:=W6 hb))<;>(try (exfalso;omega)))))
   all_goals (try (exfalso;first|contradiction|omega))
   rename_i b1 b2 _ _ _ _ _
   refine Ws (fun i:Nat=>([(2,ex (.pointer (some ⟨b1,0,none⟩))),(3,ex (.pointer (some ⟨b2,0,none⟩))),(5,exI .i64 (i:Int))],[row b2 29 9 (Wq j y),row b1 29 9 (Wq k x)])) (fun i=>i≤x.crits.length∧x.crits.take i=y.crits.take i) (fun i=>x.crits.length-i) 0 ?_ ⟨Nat.zero_le _,rfl⟩ fun i hi=>?_
   · exact Xg (by repeat (first|exact Xr|refine Xl rfl ?_)) (List.Sublist.refl _)
   obtain ⟨hi,ht⟩:=hi
   by_cases hlt:i<x.crits.length
   · by_cases he:x.crits[i]=y.crits[i]'Yan
     · (repeat' (first|refine Xe ?_|refine Xb ?_|refine Xc ?_|(apply Xn;exact Yb5;exact rfl)|refine Xo ?_|refine Xs ?_|(refine Xp rfl (fun hb=>?_) (fun hb=>?_)<;>(repeat (first|replace hb:=Xz hb|replace hb:=X0 hb))<;>(try (exfalso;omega)))))
       (refine Wt 11 rfl ?_)
       all_goals ((apply Xd 0 rfl Yaa rfl Yab Xa;(exact Yad);exact rfl))
       all_goals ((apply Xv 1 rfl Yaa rfl Yaa Yab Xa;(exact Ya0);exact rfl))
       all_goals ((apply Xd 2 rfl Yaa rfl Yab Xa;(exact Xf rfl);exact rfl))
       all_goals ((apply Xd 3 rfl Yaa rfl Yab Xa;(exact Yah);exact rfl))
       all_goals ((apply Xv 4 rfl Yaa rfl Yaa Yab Xa;(exact Yav);exact rfl))
       all_goals ((apply Xd 5 rfl Yaa rfl Yab Xa;(exact Yad);exact rfl))
       all_goals ((apply Xv 6 rfl Yaa rfl Yaa Yab Xa;(exact Yai);exact rfl))
       all_goals ((apply Xd 7 rfl Yaa rfl Yab Xa;(exact Xf rfl);exact rfl))
       all_goals ((apply Xd 8 rfl Yaa rfl Yab Xa;(exact Yah);exact rfl))
       all_goals ((apply Xv 9 rfl Yaa rfl Yaa Yab Xa;(exact Yav);exact rfl))
       all_goals ((apply Xd 10 rfl Yaa rfl Yab Xa;(exact Yce);exact rfl))
       all_goals (refine X9 Yaa ?_)
       all_goals ((repeat' (first|refine Xe ?_|refine Xb ?_|refine Xc ?_|(apply Xn;exact Ybn;exact rfl)|refine Xs ?_|refine Xw ?_|(refine Xp rfl (fun hb=>?_) (fun hb=>?_)<;>(repeat (first|replace hb:=Xz hb|replace hb:=X0 hb|replace hb:=W5 hb|replace hb:=W6 hb))<;>(try (exfalso;fail))))))
       all_goals (try (exfalso;simp_all;done))
       exact ⟨i+1,⟨by omega,by rw [List.take_succ_eq_append_getElem hlt,List.take_succ_eq_append_getElem Yan,ht,he]⟩,by omega,Xg (by repeat (first|exact Xr|refine Xl rfl ?_)) (List.Sublist.refl _)⟩
     · (repeat' (first|refine Xe ?_|refine Xb ?_|refine Xc ?_|(apply Xn;exact Yb5;exact rfl)|refine Xo ?_|refine Xs ?_|(refine Xp rfl (fun hb=>?_) (fun hb=>?_)<;>(repeat (first|replace hb:=Xz hb|replace hb:=X0 hb))<;>(try (exfalso;omega)))))
       (refine Wt 11 rfl ?_)
       all_goals ((apply Xd 0 rfl Yaa rfl Yab Xa;(exact Yad);exact rfl))
       all_goals ((apply Xv 1 rfl Yaa rfl Yaa Yab Xa;(exact Ya0);exact rfl))
       all_goals ((apply Xd 2 rfl Yaa rfl Yab Xa;(exact Xf rfl);exact rfl))
       all_goals ((apply Xd 3 rfl Yaa rfl Yab Xa;(exact Yah);exact rfl))
       all_goals ((apply Xv 4 rfl Yaa rfl Yaa Yab Xa;(exact Yav);exact rfl))
       all_goals ((apply Xd 5 rfl Yaa rfl Yab Xa;(exact Yad);exact rfl))
       all_goals ((apply Xv 6 rfl Yaa rfl Yaa Yab Xa;(exact Yai);exact rfl))
       all_goals ((apply Xd 7 rfl Yaa rfl Yab Xa;(exact Xf rfl);exact rfl))
       all_goals ((apply Xd 8 rfl Yaa rfl Yab Xa;(exact Yah);exact rfl))
       all_goals ((apply Xv 9 rfl Yaa rfl Yaa Yab Xa;(exact Yav);exact rfl))
       all_goals ((apply Xd 10 rfl Yaa rfl Yab Xa;(exact Yce);exact rfl))
       all_goals (refine X9 Yaa ?_)
       all_goals ((repeat' (first|refine Xe ?_|refine Xb ?_|refine Xc ?_|(apply Xn;exact Ybn;exact rfl)|refine Xs ?_|refine Xw ?_|(refine Xp rfl (fun hb=>?_) (fun hb=>?_)<;>(repeat (first|replace hb:=Xz hb|replace hb:=X0 hb|replace hb:=W5 hb|replace hb:=W6 hb))<;>(try (exfalso;fail))))))
       all_goals (try (exfalso;simp_all;done))
       refine ⟨.inr rfl,Vd rfl (.tmp rfl) (List.nil_sublist _) ⟨congrArg exB ?_,rfl⟩⟩
       exact (decide_eq_false fun e=>he Yen).symm
   · have hk9:i=x.crits.length:=by omega
     subst hk9
     rw [List.take_length,h3,List.take_length] at ht
     (repeat' (first|refine Xe ?_|refine Xb ?_|refine Xc ?_|(apply Xn;exact Yc1;exact rfl)|refine Xo ?_|refine Wm ?_|(refine Xp rfl (fun hb=>?_) (fun hb=>?_)<;>(repeat (first|replace hb:=Xz hb|replace hb:=X0 hb))<;>(try (exfalso;omega)))))
     all_goals (try (exfalso;omega))
     refine Ws (fun i:Nat=>([(2,ex (.pointer (some ⟨b1,0,none⟩))),(3,ex (.pointer (some ⟨b2,0,none⟩))),(6,exI .i64 (i:Int))],[row b2 29 9 (Wq j y),row b1 29 9 (Wq k x)])) (fun i=>i≤x.ties.length∧x.ties.take i=y.ties.take i) (fun i=>x.ties.length-i) 0 ?_ ⟨Nat.zero_le _,rfl⟩ fun i hi=>?_
     · exact Xg (by repeat (first|exact Xr|refine Xl rfl ?_)) (List.Sublist.refl _)
     obtain ⟨hi,htt⟩:=hi
     by_cases hlt:i<x.ties.length
     · by_cases he:x.ties[i]=y.ties[i]'Yan
       · (repeat' (first|refine Xe ?_|refine Xb ?_|refine Xc ?_|(apply Xn;exact Yb5;exact rfl)|refine Xo ?_|refine Xs ?_|(refine Xp rfl (fun hb=>?_) (fun hb=>?_)<;>(repeat (first|replace hb:=Xz hb|replace hb:=X0 hb))<;>(try (exfalso;omega)))))
         (refine Wt 12 rfl ?_)
         all_goals ((apply Xd 0 rfl Yaa rfl Yab Xa;(exact Yad);exact rfl))
         all_goals ((apply Xv 1 rfl Yaa rfl Yaa Yab Xa;(exact Ya0);exact rfl))
         all_goals ((apply Xd 2 rfl Yaa rfl Yab Xa;(exact Xf rfl);exact rfl))
         all_goals ((apply Xd 3 rfl Yaa rfl Yab Xa;(exact Yah);exact rfl))
         all_goals ((apply Xv 4 rfl Yaa rfl Yaa Yab Xa;(exact Yav);exact rfl))
         all_goals ((apply Xd 5 rfl Yaa rfl Yab Xa;(exact Yad);exact rfl))
         all_goals ((apply Xv 6 rfl Yaa rfl Yaa Yab Xa;(exact Yai);exact rfl))
         all_goals ((apply Xd 7 rfl Yaa rfl Yab Xa;(exact Xf rfl);exact rfl))
         all_goals ((apply Xd 8 rfl Yaa rfl Yab Xa;(exact Yah);exact rfl))
         all_goals ((apply Xv 9 rfl Yaa rfl Yaa Yab Xa;(exact Yav);exact rfl))
         all_goals ((apply Xu 10;exact Yaa;exact rfl;exact Xa;exact (fun _ _ h=>h);(apply Xi;(refine Xq Tryz.func32 rfl (Xae _ _) rfl ?_;rintro _ _ ⟨rfl,rfl⟩))))
         all_goals ((apply Xd 11 rfl Yaa rfl Yab Xa;(exact Yaz);exact rfl))
         all_goals (refine X9 Yaa ?_)
         all_goals ((repeat' (first|refine Xe ?_|refine Xb ?_|refine Xc ?_|(apply Xn;exact Ybn;exact rfl)|refine Xs ?_|refine Xw ?_|(refine Xp rfl (fun hb=>?_) (fun hb=>?_)<;>(repeat (first|replace hb:=Xz hb|replace hb:=X0 hb|replace hb:=W5 hb|replace hb:=W6 hb))<;>(try (exfalso;fail))))))
         all_goals (try (exfalso;simp_all;done))
         exact ⟨i+1,⟨by omega,by rw [List.take_succ_eq_append_getElem hlt,List.take_succ_eq_append_getElem Yan,htt,he]⟩,by omega,Xg (by repeat (first|exact Xr|refine Xl rfl ?_)) (List.Sublist.refl _)⟩
       · (repeat' (first|refine Xe ?_|refine Xb ?_|refine Xc ?_|(apply Xn;exact Yb5;exact rfl)|refine Xo ?_|refine Xs ?_|(refine Xp rfl (fun hb=>?_) (fun hb=>?_)<;>(repeat (first|replace hb:=Xz hb|replace hb:=X0 hb))<;>(try (exfalso;omega)))))
         (refine Wt 12 rfl ?_)
         all_goals ((apply Xd 0 rfl Yaa rfl Yab Xa;(exact Yad);exact rfl))
         all_goals ((apply Xv 1 rfl Yaa rfl Yaa Yab Xa;(exact Ya0);exact rfl))
         all_goals ((apply Xd 2 rfl Yaa rfl Yab Xa;(exact Xf rfl);exact rfl))
         all_goals ((apply Xd 3 rfl Yaa rfl Yab Xa;(exact Yah);exact rfl))
         all_goals ((apply Xv 4 rfl Yaa rfl Yaa Yab Xa;(exact Yav);exact rfl))
         all_goals ((apply Xd 5 rfl Yaa rfl Yab Xa;(exact Yad);exact rfl))
         all_goals ((apply Xv 6 rfl Yaa rfl Yaa Yab Xa;(exact Yai);exact rfl))
         all_goals ((apply Xd 7 rfl Yaa rfl Yab Xa;(exact Xf rfl);exact rfl))
         all_goals ((apply Xd 8 rfl Yaa rfl Yab Xa;(exact Yah);exact rfl))
         all_goals ((apply Xv 9 rfl Yaa rfl Yaa Yab Xa;(exact Yav);exact rfl))
         all_goals ((apply Xu 10;exact Yaa;exact rfl;exact Xa;exact (fun _ _ h=>h);(apply Xi;(refine Xq Tryz.func32 rfl (Xae _ _) rfl ?_;rintro _ _ ⟨rfl,rfl⟩))))
         all_goals ((apply Xd 11 rfl Yaa rfl Yab Xa;(exact Yaz);exact rfl))
         all_goals (refine X9 Yaa ?_)
         all_goals ((repeat' (first|refine Xe ?_|refine Xb ?_|refine Xc ?_|(apply Xn;exact Ybn;exact rfl)|refine Xs ?_|refine Xw ?_|(refine Xp rfl (fun hb=>?_) (fun hb=>?_)<;>(repeat (first|replace hb:=Xz hb|replace hb:=X0 hb|replace hb:=W5 hb|replace hb:=W6 hb))<;>(try (exfalso;fail))))))
         all_goals (try (exfalso;simp_all;done))
         refine ⟨.inr rfl,Vd rfl (.tmp rfl) (List.nil_sublist _) ⟨congrArg exB ?_,rfl⟩⟩
         exact (decide_eq_false fun e=>he Yen).symm
     · have hk9:i=x.ties.length:=by omega
       subst hk9
       rw [List.take_length,h7,List.take_length] at htt
       (repeat' (first|refine Xe ?_|refine Xb ?_|refine Xc ?_|(apply Xn;exact Yc1;exact rfl)|refine Xo ?_|refine Wm ?_|(refine Xp rfl (fun hb=>?_) (fun hb=>?_)<;>(repeat (first|replace hb:=Xz hb|replace hb:=X0 hb))<;>(try (exfalso;omega)))))
       all_goals (try (exfalso;omega))
       refine Ws (fun i:Nat=>([(2,ex (.pointer (some ⟨b1,0,none⟩))),(3,ex (.pointer (some ⟨b2,0,none⟩))),(7,exI .i64 (i:Int))],[row b2 29 9 (Wq j y),row b1 29 9 (Wq k x)])) (fun i=>i≤x.rounds.length∧x.rounds.take i=y.rounds.take i) (fun i=>x.rounds.length-i) 0 ?_ ⟨Nat.zero_le _,rfl⟩ fun i hi=>?_
       · exact Xg (by repeat (first|exact Xr|refine Xl rfl ?_)) (List.Sublist.refl _)
       obtain ⟨hi,htr⟩:=hi
       by_cases hlt:i<x.rounds.length
       · by_cases he:x.rounds[i]=y.rounds[i]'Yan
         · (repeat' (first|refine Xe ?_|refine Xb ?_|refine Xc ?_|(apply Xn;exact Yb5;exact rfl)|refine Xo ?_|refine Xs ?_|(refine Xp rfl (fun hb=>?_) (fun hb=>?_)<;>(repeat (first|replace hb:=Xz hb|replace hb:=X0 hb))<;>(try (exfalso;omega)))))
           (refine Wt 12 rfl ?_)
           all_goals ((apply Xd 0 rfl Yaa rfl Yab Xa;(exact Yad);exact rfl))
           all_goals ((apply Xv 1 rfl Yaa rfl Yaa Yab Xa;(exact Ya0);exact rfl))
           all_goals ((apply Xd 2 rfl Yaa rfl Yab Xa;(exact Xf rfl);exact rfl))
           all_goals ((apply Xd 3 rfl Yaa rfl Yab Xa;(exact Yah);exact rfl))
           all_goals ((apply Xv 4 rfl Yaa rfl Yaa Yab Xa;(exact Yav);exact rfl))
           all_goals ((apply Xd 5 rfl Yaa rfl Yab Xa;(exact Yad);exact rfl))
           all_goals ((apply Xv 6 rfl Yaa rfl Yaa Yab Xa;(exact Yai);exact rfl))
           all_goals ((apply Xd 7 rfl Yaa rfl Yab Xa;(exact Xf rfl);exact rfl))
           all_goals ((apply Xd 8 rfl Yaa rfl Yab Xa;(exact Yah);exact rfl))
           all_goals ((apply Xv 9 rfl Yaa rfl Yaa Yab Xa;(exact Yav);exact rfl))
           all_goals ((apply Xu 10;exact Yaa;exact rfl;exact Xa;exact (fun _ _ h=>h);(apply Xi;(refine Xq Tryz.func33 rfl (R9 _ _ _ _) rfl ?_;rintro _ _ ⟨rfl,rfl⟩))))
           all_goals ((apply Xd 11 rfl Yaa rfl Yab Xa;(exact Yaz);exact rfl))
           all_goals (refine X9 Yaa ?_)
           all_goals ((repeat' (first|refine Xe ?_|refine Xb ?_|refine Xc ?_|(apply Xn;exact Ybn;exact rfl)|refine Xs ?_|refine Xw ?_|(refine Xp rfl (fun hb=>?_) (fun hb=>?_)<;>(repeat (first|replace hb:=Xz hb|replace hb:=X0 hb|replace hb:=W5 hb|replace hb:=W6 hb))<;>(try (exfalso;fail))))))
           all_goals (try (exfalso;simp_all;done))
           exact ⟨i+1,⟨by omega,by rw [List.take_succ_eq_append_getElem hlt,List.take_succ_eq_append_getElem Yan,htr,he]⟩,by omega,Xg (by repeat (first|exact Xr|refine Xl rfl ?_)) (List.Sublist.refl _)⟩
         · (repeat' (first|refine Xe ?_|refine Xb ?_|refine Xc ?_|(apply Xn;exact Yb5;exact rfl)|refine Xo ?_|refine Xs ?_|(refine Xp rfl (fun hb=>?_) (fun hb=>?_)<;>(repeat (first|replace hb:=Xz hb|replace hb:=X0 hb))<;>(try (exfalso;omega)))))
           (refine Wt 12 rfl ?_)
           all_goals ((apply Xd 0 rfl Yaa rfl Yab Xa;(exact Yad);exact rfl))
           all_goals ((apply Xv 1 rfl Yaa rfl Yaa Yab Xa;(exact Ya0);exact rfl))
           all_goals ((apply Xd 2 rfl Yaa rfl Yab Xa;(exact Xf rfl);exact rfl))
           all_goals ((apply Xd 3 rfl Yaa rfl Yab Xa;(exact Yah);exact rfl))
           all_goals ((apply Xv 4 rfl Yaa rfl Yaa Yab Xa;(exact Yav);exact rfl))
           all_goals ((apply Xd 5 rfl Yaa rfl Yab Xa;(exact Yad);exact rfl))
           all_goals ((apply Xv 6 rfl Yaa rfl Yaa Yab Xa;(exact Yai);exact rfl))
           all_goals ((apply Xd 7 rfl Yaa rfl Yab Xa;(exact Xf rfl);exact rfl))
           all_goals ((apply Xd 8 rfl Yaa rfl Yab Xa;(exact Yah);exact rfl))
           all_goals ((apply Xv 9 rfl Yaa rfl Yaa Yab Xa;(exact Yav);exact rfl))
           all_goals ((apply Xu 10;exact Yaa;exact rfl;exact Xa;exact (fun _ _ h=>h);(apply Xi;(refine Xq Tryz.func33 rfl (R9 _ _ _ _) rfl ?_;rintro _ _ ⟨rfl,rfl⟩))))
           all_goals ((apply Xd 11 rfl Yaa rfl Yab Xa;(exact Yaz);exact rfl))
           all_goals (refine X9 Yaa ?_)
           all_goals ((repeat' (first|refine Xe ?_|refine Xb ?_|refine Xc ?_|(apply Xn;exact Ybn;exact rfl)|refine Xs ?_|refine Xw ?_|(refine Xp rfl (fun hb=>?_) (fun hb=>?_)<;>(repeat (first|replace hb:=Xz hb|replace hb:=X0 hb|replace hb:=W5 hb|replace hb:=W6 hb))<;>(try (exfalso;fail))))))
           all_goals (try (exfalso;simp_all;done))
           refine ⟨.inr rfl,Vd rfl (.tmp rfl) (List.nil_sublist _) ⟨congrArg exB ?_,rfl⟩⟩
           exact (decide_eq_false fun e=>he Yen).symm
       · have hk9:i=x.rounds.length:=by omega
         subst hk9
         rw [List.take_length,h4,List.take_length] at htr
         (repeat' (first|refine Xe ?_|refine Xb ?_|refine Xc ?_|(apply Xn;(first|exact Xf rfl|exact Xm rfl|exact Wd (b:=true) rfl (fun _=>rfl) (fun e=>by cases e)|exact Wd (b:=false) rfl (fun e=>by cases e) (fun _=>rfl)|exact Yap|exact Yad|exact Yam|exact Yaj);exact rfl)|(refine Wv rfl rfl rfl rfl rfl ?_)|(apply W0;exact rfl;exact rfl;exact rfl;(first|exact Yap|exact Yad|exact Yar);exact rfl)|refine Xw ?_|refine Wm ?_|(apply Xh;exact rfl;(apply Xi;(refine Xq Tryz.func34 rfl (Qe _ _) rfl ?_;rintro _ _ ⟨rfl,rfl⟩)))|(apply Vm;exact rfl;exact rfl;exact rfl;exact rfl;(apply Xi;(refine Xq Tryz.func34 rfl (Qe _ _) rfl ?_;rintro _ _ ⟨rfl,rfl⟩)))|(refine Wf rfl rfl (fun hb=>?_) (fun hb=>?_)<;>(repeat (first|replace hb:=Xz hb|replace hb:=X0 hb))<;>(try (exfalso;fail)))|(refine Xp rfl (fun hb=>?_) (fun hb=>?_)<;>(repeat (first|replace hb:=Xz hb|replace hb:=X0 hb))<;>(try (exfalso;omega)))))
         all_goals (refine ⟨.inr rfl,Vd rfl (.tmp rfl) (List.nil_sublist _) ⟨congrArg exB ?_,rfl⟩⟩)
         all_goals (rw [Bool.eq_iff_iff];simp only [decide_eq_true_eq,Xj0,Bool.false_eq_true,false_iff, *])
         all_goals simp
 · have hn:x≠y:=fun e=>h0 (by subst e;exact ⟨rfl,rfl,rfl,rfl,rfl,rfl⟩)
   rw [decide_eq_false hn]
   (repeat' (first|refine Xe ?_|refine Xb ?_|refine Xc ?_|(apply Xn;exact Ybv;exact rfl)|(refine Wv rfl rfl rfl rfl rfl ?_)|(apply W0;exact rfl;exact rfl;exact rfl;(first|exact Yap|exact Yad|exact Ybo|exact Yaj|exact Yaz);exact rfl)|refine Xo ?_|refine Xs ?_|refine Xw ?_|refine Xx rfl ?_|(apply Xh;exact rfl;(apply Vp;refine W4 rfl ?_;intro _))|(apply Vm;exact rfl;exact rfl;exact rfl;exact rfl;(apply Xi;(refine Xq Tryz.func31 rfl (R8 _ _) rfl ?_;rintro _ _ ⟨rfl,rfl⟩)))|(refine Wf rfl rfl (fun hb=>?_) (fun hb=>?_)<;>(repeat (first|replace hb:=Xz hb|replace hb:=X0 hb|replace hb:=W5 hb|replace hb:=W6 hb))<;>(try (exfalso;fail)))|(refine Xp rfl (fun hb=>?_) (fun hb=>?_)<;>(repeat (first|replace hb:=Xz hb|replace hb:=X0 hb|replace hb:=W5 hb|replace hb:=W6 hb))<;>(try (exfalso;fail)))))
   all_goals first|exact ⟨.inr rfl,Vd rfl (.tmp rfl) (List.nil_sublist _) ⟨rfl,rfl⟩⟩|(exfalso;refine h0 ⟨?_,?_,?_,?_,?_,?_⟩<;>first|assumption|omega)
end Go.Proofs.YthdldeenpgeemaaGreatDoor
namespace Go.Sx
open Go.Lx Go.Fr
abbrev sWhole:List UInt8:=[99,111,109,112,101,116,105,116,105,111,110,32,99,117,112,32,59,32,99,114,105,116,101,114,105,111,110,32,99,32,102,114,111,109,32,48,32,116,111,32,49,48,32,115,116,101,112,32,50,32,109,101,97,110,32,116,114,105,109,32,49,32,114,101,118,101,114,115,101,32,59,32,98,111,110,117,115,32,98,32,118,97,108,117,101,32,51,32,109,111,115,116,32,50,32,59,32,109,97,108,117,115,32,109,32,118,97,108,117,101,32,52,32,109,111,115,116,32,49,32,59,32,116,105,101,32,116,32,116,111,116,97,108,32,99,32,44,32,104,105,103,104,101,115,116,32,44,32,108,111,116,32,59,32,114,111,117,110,100,32,111,110,101,32,112,97,110,101,108,32,51,32,113,117,111,116,97,32,52,32,117,110,100,101,114,32,102,114,101,101,32,115,99,111,114,101,32,99,32,45,32,40,32,98,111,110,117,115,32,43,32,49,32,47,32,50,32,42,32,109,97,108,117,115,32,41,32,116,105,101,32,116,32,59,32,114,111,117,110,100,32,116,119,111,32,112,97,110,101,108,32,51,32,113,117,111,116,97,32,49,32,108,111,116,115,32,112,108,97,99,101,115,32,59,32,112,114,105,122,101,115,32,53,48,32,44,32,50,48,32,59,32,112,111,105,110,116,115,32,53,32,44,32,51,32,98,101,115,116,32,50,32,59]
abbrev sBegin:List UInt8:=[99,111,109,112,101,116,105,116,105,111,110,32,97,59,114,111,117,110,100,32,98,32,112,97,110,101,108,32,49,32,113,117,111,116,97,32,49,32,111,118,101,114,32,115,99,111,114,101,32]
abbrev sSrc2:List UInt8:=[99,111,109,112,101,116,105,116,105,111,110,32,97,59,114,111,117,110,100,32,98,32,112,97,110,101,108,32,49,32,113,117,111,116,97,32,49,32,111,118,101,114,32,115,99,111,114,101,40,99,43,40,50,47,49,42,40,100,41,41,41,116,105,101,32,116,59]
abbrev sShort:List UInt8:=[99,111,109,112,101,116,105,116,105,111,110,32,97,32,59,32,114,111,117,110,100,32,98,32,112,97,110,101,108,32,49,32,113,117,111,116,97,32,49,32,111,118,101,114,32,115,99,111,114,101,32,99,32,43,32,50,32,42,32,100,32,116,105,101,32,116,32,59]
abbrev sOne:List UInt8:=[99,111,109,112,101,116,105,116,105,111,110,32,97,59]
abbrev casesS:List (List UInt8×Int):=[([],0),([99,111,109,112,101,116,105,116,105,111,110,32,97,59,112,114,105,122,101,115,32,49,59,114,111,117,110,100],23),([99,111,109,112,101,116,105,116,105,111,110,32,115,117,109,59],12),([99,111,109,112,101,116,105,116,105,111,110,32,97,59,114,111,117,110,100,32,98,32,112,97,110,101,108,32,49,32,113,117,111,116,97,32,49,32,111,118,101,114,32,115,99,111,114,101,32,49,47,48,59],51)]
abbrev sDeep:List UInt8:=sBegin++List.replicate 16 40++[49]++List.replicate 16 41++[59]
abbrev sDeep2:List UInt8:=sBegin++List.replicate 17 40
def rOne:RulesD:={ zeroR with name:=[97] }
def rSrc2:RulesD:={ zeroR with name:=[97],rounds:=[⟨[98],1,1,1,false,false,.mk 6 [] 0 0 [.mk 2 [99] 0 0 [],.mk 8 [] 2 1 [.mk 2 [100] 0 0 []]],[116],0⟩] }
def rDeep:RulesD:={ zeroR with name:=[97],rounds:=[⟨[98],1,1,1,false,false,.mk 1 [] 1 1 [],[],-1⟩] }
theorem sane_cases: ∀q∈casesS,(Tl q.1).2.1=q.2∧(Tl q.1).2.2=130:=by decide +kernel
theorem sane_deep:Tl sDeep=(rDeep,0,0):=by decide +kernel
theorem sane_deep2:(Tl sDeep2).2=(65,130):=by decide +kernel
theorem sane_whole:Tl sWhole=(declR,0,0):=by decide +kernel
theorem sane_print:Sz declR=(sWhole,0):=by decide +kernel
theorem sane_one:Tl sOne=(rOne,0,0):=by decide +kernel
theorem sane_src2:Tl sSrc2=(rSrc2,0,0):=by decide +kernel
theorem sane_short:Sz rSrc2=(sShort,0):=by decide +kernel
theorem sane_zero:Sz zeroR=([],130):=by decide +kernel
end Go.Sx
namespace Go.Proofs
open Go.Shelf
def Tryz.lays105_ren:Go.Shelf.Ren:=⟨fun|105=>25|212=>77|99=>20|165=>78|166=>79|170=>80|169=>81|263=>141|264=>142|206=>52|240=>143|241=>144|276=>181|277=>182|n=>n,fun|9=>9|3=>3|4=>4|20=>20|0=>0|46=>45|109=>125|5=>5|72=>130|76=>134|51=>193|146=>194|53=>196|148=>197|70=>127|37=>128|75=>133|127=>199|164=>236|80=>137|n=>n,fun|n=>n⟩
theorem Tryz.lays105:Go.Proofs.Lays.n105 Tryz.prog Tryz.lays105_ren:={
 mixed:=by kernel_rfl
 f99:=Tryz.func20.trans (congrArg some Yaw)
 f105:=Tryz.func25.trans (congrArg some Yaw)
 f165:=Tryz.func78.trans (congrArg some Yaw)
 f166:=Tryz.func79.trans (congrArg some Yaw)
 f169:=Tryz.func81.trans (congrArg some Yaw)
 f170:=Tryz.func80.trans (congrArg some Yaw)
 f206:=Tryz.func52.trans (congrArg some Yaw)
 f212:=Tryz.func77.trans (congrArg some Yaw)
 f240:=Tryz.func143.trans (congrArg some Yaw)
 f241:=Tryz.func144.trans (congrArg some Yaw)
 f263:=Tryz.func141.trans (congrArg some Yaw)
 f264:=Tryz.func142.trans (congrArg some Yaw)
 f276:=Tryz.func181.trans (congrArg some Yaw)
 f277:=Tryz.func182.trans (congrArg some Yaw)
 t0:=Tryz.underlying0
 a0:=Tryz.isAgg0
 z0:=Tryz.sizeOf0
 v0:=Tryz.zeroValue0
 t3:=Tryz.underlying3
 a3:=Tryz.isAgg3
 z3:=Tryz.sizeOf3
 v3:=Tryz.zeroValue3
 t4:=Tryz.underlying4
 a4:=Tryz.isAgg4
 z4:=Tryz.sizeOf4
 v4:=Tryz.zeroValue4
 t5:=Tryz.underlying5
 a5:=Tryz.isAgg5
 z5:=Tryz.sizeOf5
 v5:=Tryz.zeroValue5
 t9:=Tryz.underlying9
 a9:=Tryz.isAgg9
 z9:=Tryz.sizeOf9
 v9:=Tryz.zeroValue9
 t20:=Tryz.underlying20
 a20:=Tryz.isAgg20
 z20:=Tryz.sizeOf20
 v20:=Tryz.zeroValue20
 t37:=Tryz.underlying128
 a37:=Tryz.isAgg128
 z37:=Tryz.sizeOf128
 v37:=Tryz.zeroValue128
 t46:=Tryz.underlying45
 a46:=Tryz.isAgg45
 z46:=Tryz.sizeOf45
 v46:=Tryz.zeroValue45
 t51:=Tryz.underlying193
 a51:=Tryz.isAgg193
 z51:=Tryz.sizeOf193
 v51:=Tryz.zeroValue193
 t53:=Tryz.underlying196
 a53:=Tryz.isAgg196
 z53:=Tryz.sizeOf196
 v53:=Tryz.zeroValue196
 t70:=Tryz.underlying127
 a70:=Tryz.isAgg127
 z70:=Tryz.sizeOf127
 v70:=Tryz.zeroValue127
 t72:=Tryz.underlying130
 a72:=Tryz.isAgg130
 z72:=Tryz.sizeOf130
 v72:=Tryz.zeroValue130
 t75:=Tryz.underlying133
 a75:=Tryz.isAgg133
 z75:=Tryz.sizeOf133
 v75:=Tryz.zeroValue133
 t76:=Tryz.underlying134
 a76:=Tryz.isAgg134
 z76:=Tryz.sizeOf134
 v76:=Tryz.zeroValue134
 t109:=Tryz.underlying125
 a109:=Tryz.isAgg125
 z109:=Tryz.sizeOf125
 v109:=Tryz.zeroValue125
 t127:=Tryz.underlying199
 a127:=Tryz.isAgg199
 z127:=Tryz.sizeOf199
 v127:=Tryz.zeroValue199
 t146:=Tryz.underlying194
 a146:=Tryz.isAgg194
 z146:=Tryz.sizeOf194
 v146:=Tryz.zeroValue194
 t148:=Tryz.underlying197
 a148:=Tryz.isAgg197
 z148:=Tryz.sizeOf197
 v148:=Tryz.zeroValue197
 t164:=Tryz.underlying236
 a164:=Tryz.isAgg236
 z164:=Tryz.sizeOf236
 v164:=Tryz.zeroValue236 }
theorem Tryz.Builder_Extra_105:Builder.Extra Tryz.prog Tryz.lays105_ren:={
 sizeBuilder:=by kernel_rfl
 liesBuilder:=by kernel_rfl
 t5:=Tryz.underlying5
 a5:=Tryz.isAgg5
 z5:=Tryz.sizeOf5
 v5:=Tryz.zeroValue5
 infoByte:=by kernel_rfl
 cellsByte:=by kernel_rfl
 sizeByte:=by kernel_rfl
 neB5:=by decide }
open Go.RowKit Go.Lib in
theorem Tryz.strings_Repeat (s:ByteArray) (c:Nat) (w:World) (hc:c≤9223372036854775807) (hlen:s.size * c≤140737488355328):
   Calls Tryz.prog 25 #[.string s,.int .i64 c] w fun e w'=>e= .returned (.string ⟨(Lib.repeatL s.data.toList c).toArray⟩)∧Below w.heap.size w w':=Any.strings_Repeat Tryz.lays105 Tryz.Builder_Extra_105 s c w hc hlen
end Go.Proofs
namespace Go.Proofs.YthdldeenpgeemaaGreatDoor
open Go Go.RowKit Go.Kx Go.Fr Go.Lx Go.Sx
theorem declared13_any:FnC Tryz.prog 26 [] [] (fun p loc=>p=agg (Wq 4 declR)∧loc=[]):=by
 refine X3 Tryz.func26 rfl Tryz.ntmps26 rfl fun w0 F0 out=>?_
 (repeat' (first|(apply X4 5;refine Tb (k:=0) (E:=eEx 1) (t:=4) [.mk 4 [] 0 0 []] rfl rfl (by repeat (first|exact Ims.nil|refine Ims.cons Im.nil ?_|refine Ims.cons (Im.refl _) ?_)) rfl ?_ (hc:=by decide) (hby:=by decide))|(apply X4 7;refine Tb (k:=0) (E:=eEx 2) (t:=6) [.mk 3 [] 0 0 [],.mk 8 [] 1 2 [.mk 4 [] 0 0 []]] rfl rfl (by repeat (first|exact Ims.nil|refine Ims.cons Im.nil ?_|refine Ims.cons (Im.refl _) ?_)) rfl ?_ (hc:=by decide) (hby:=by decide))|(apply X4 10;refine Tb (k:=0) (E:=eCrit) (t:=9) declR.crits rfl rfl (by repeat (first|exact Ims.nil|refine Ims.cons (Im.refl _) ?_)) rfl ?_ (hc:=by decide) (hby:=by decide))|(apply X4 12;refine Tb (k:=0) (E:=eItem) (t:=11) declR.bonus rfl rfl (by repeat (first|exact Ims.nil|refine Ims.cons (Im.refl _) ?_)) rfl ?_ (hc:=by decide) (hby:=by decide))|(apply X4 14;refine Tb (k:=0) (E:=eItem) (t:=13) declR.malus rfl rfl (by repeat (first|exact Ims.nil|refine Ims.cons (Im.refl _) ?_)) rfl ?_ (hc:=by decide) (hby:=by decide))|(apply X4 18;refine Tb (k:=0) (E:=eKey) (t:=17) [⟨1,[99],0⟩,⟨3,[],0⟩,⟨6,[],0⟩] rfl rfl (by repeat (first|exact Ims.nil|refine Ims.cons (Im.refl _) ?_)) rfl ?_ (hc:=by decide) (hby:=by decide))|(apply X4 20;refine Tb (k:=0) (E:=eTie) (t:=19) declR.ties rfl rfl (by repeat (first|exact Ims.nil|refine Ims.cons (Im.refl _) ?_)) rfl ?_ (hc:=by decide) (hby:=by decide))|(apply X4 23;refine Tb (k:=0) (E:=eEx 3) (t:=22) [.mk 2 [99] 0 0 [],.mk 6 [] 0 0 [.mk 3 [] 0 0 [],.mk 8 [] 1 2 [.mk 4 [] 0 0 []]]] rfl rfl (by repeat (first|exact Ims.nil|refine Ims.cons Im.nil ?_|refine Ims.cons (Im.refl _) ?_)) rfl ?_ (hc:=by decide) (hby:=by decide))|(apply X4 27;refine Tb (k:=0) (E:=U1 4) (t:=26) declR.rounds rfl rfl (by repeat (first|exact Ims.nil|refine Ims.cons Im.nil ?_|refine Ims.cons (Im.refl _) ?_)) rfl ?_ (hc:=by decide) (hby:=by decide))|(apply X4 28;refine Tb (k:=0) (E:=eI) (t:=27) declR.prizes rfl rfl (by repeat (first|exact Ims.nil|refine Ims.cons (Im.refl _) ?_)) rfl ?_ (hc:=by decide) (hby:=by decide))|(apply X4 29;refine Tb (k:=0) (E:=eI) (t:=28) declR.points rfl rfl (by repeat (first|exact Ims.nil|refine Ims.cons (Im.refl _) ?_)) rfl ?_ (hc:=by decide) (hby:=by decide))|refine Xe ?_|refine Xb ?_|refine Xc ?_|(apply Xn;(first|exact Ybg|exact Yay);exact rfl)|refine Xw ?_|(apply Xh;exact rfl;first|(apply Wb;refine X8 ?_;intro _)|(apply Xt;first|refine Xj (k:=0) (l0:=[]) rfl rfl rfl ?_|refine Xj (k:=1) (l0:=[]) rfl rfl rfl ?_)|(apply X5;(first|refine X6 rfl rfl ?_|refine Wi rfl Yac ?_);intro _))))
 refine ⟨.inr rfl,Xbz (loc':=[]) (Vd rfl (by first|exact .cella (k:=0) rfl rfl rfl rfl inferInstance rfl|exact .cella (k:=1) rfl rfl rfl rfl inferInstance rfl) (List.nil_sublist _) ⟨rfl,rfl⟩) ?_ ⟨rfl,rfl⟩⟩
 exact Ims.agg (by repeat (first|exact Ims.nil|refine Ims.cons Im.nil ?_|refine Ims.cons (Im.refl _) ?_))
theorem Xbc (s:List UInt8) (c:Nat) (hc:c≤1000000) (hs:s.length≤1000):FnC Tryz.prog 25 [exT s,exI .i64 (c:Int)] [] (fun p loc=>p=exT (Lib.repeatL s c)∧loc=[]):=by
 refine Xfk fun F w vals h=>?_
 obtain ⟨v,u,rfl,rfl,rfl⟩:=h.two
 have hm:s.length * c≤1000 * 1000000:=Nat.mul_le_mul hs hc
 refine (Tryz.strings_Repeat ⟨s.toArray⟩ c w Yan (by show s.toArray.size * c≤_;rw [List.size_toArray];omega)).mono ?_
 rintro e w' ⟨rfl,hb⟩
 exact ⟨_,_,rfl,⟨rfl,rfl⟩,rfl,hb⟩
end Go.Proofs.YthdldeenpgeemaaGreatDoor
namespace Go.Fr
open Go.RowKit Go.Kx
def Xmq (q:List UInt8×Int):List SP:=[exT q.1,exI .i64 q.2]
instance {q:List UInt8×Int}:Scs (Xmq q):=by unfold Xmq;infer_instance
instance:LenS Xmq 2:=⟨fun _=>rfl⟩
abbrev eCase:Enc (List UInt8×Int):=Xhh Xmq 2 24
end Go.Fr
namespace Go.Proofs.YthdldeenpgeemaaGreatDoor
open Go Go.RowKit Go.Kx Go.Fr Go.Lx Go.Sx
theorem sane13_any:FnC Tryz.prog 10 [] [Lab] (fun p loc=>p=exB true∧loc=[]):=by
 refine X3 Tryz.func10 rfl Tryz.ntmps10 rfl fun w0 F0 out=>?_
 (repeat' (first|(apply X4 33;refine Wj (k:=0) (E:=eCase) (t:=32) casesS rfl rfl rfl rfl ?_ (hc:=by decide) (hby:=by decide))|refine Xe ?_|refine Xb ?_|refine Xc ?_|(apply Xn;(first|exact Xf rfl|exact Xm rfl|exact Yaj|exact Yay);exact rfl)|refine Xo ?_|(apply Xh;exact rfl;(apply X5;(refine Wi rfl Yac ?_);intro _))))
 refine Ws (fun i:Nat=>([(32,isl eCase casesS),(33,exI .i64 4),(34,exI .i64 (i:Int))],[Lab])) (fun i=>i≤4) (fun i=>4-i) 0 ?_ (Nat.zero_le _) fun i hi=>?_
 · exact Xg (by repeat (first|exact Xr|refine Xl rfl ?_)) (List.Sublist.refl _)
 have hcl:casesS.length=4:=rfl
 by_cases hlt:i<4
 · have hq:=sane_cases (casesS[i]) (List.getElem_mem _)
   have hc:=Ts (casesS[i]).1
   generalize Tl (casesS[i]).1=z at hc hq
   obtain ⟨h1,h2⟩:=hq
   (repeat' (first|refine Xe ?_|refine Xb ?_|refine Xc ?_|(apply Xn;(first|exact Xf rfl|exact Xm rfl|exact Wd (b:=false) rfl (fun e=>by cases e) (fun _=>rfl)|exact Ybb|exact Yc7|exact Yad|(apply Vx;first|exact S4 rfl rfl|exact Qz rfl rfl|exact S5 rfl rfl)|exact Yah);exact rfl)|(apply W0;exact rfl;exact rfl;exact rfl;(first|exact Xf rfl|exact Ya0|exact Yad|exact Ybo);exact rfl)|refine Xo ?_|refine Xs ?_|(apply Xh;exact rfl;first|(apply Xi;(refine Xk (.dup 1 rfl rfl .nil) Tryz.func11 rfl hc rfl ?_;rintro _ _ ⟨⟨kz,rfl⟩,rfl⟩))|(apply Wb;refine X8 ?_;intro _)|(apply Xt;refine Xj (k:=0) (l0:=[]) rfl rfl rfl ?_))|(refine Wf rfl rfl (fun hb=>?_) (fun hb=>?_)<;>(repeat (first|replace hb:=Xz hb|replace hb:=X0 hb|replace hb:=W5 hb|replace hb:=W6 hb))<;>(try (exfalso;contradiction)))|(refine Xp rfl (fun hb=>?_) (fun hb=>?_)<;>(repeat (first|replace hb:=Xz hb|replace hb:=X0 hb|replace hb:=W5 hb|replace hb:=W6 hb))<;>(try (exfalso;first|contradiction|omega)))))
   all_goals (try (exfalso;first|contradiction|omega))
   exact ⟨i+1,by show i+1≤4;omega,by show 4-(i+1)<4-i;omega,Xg (by repeat (first|exact Xr|refine Xl rfl ?_)) Ydc⟩
 have hd:=Ts sDeep
 rw [sane_deep] at hd
 have hd2:=Ts sDeep2
 have hz2:=sane_deep2
 generalize Tl sDeep2=z2 at hd2 hz2
 obtain ⟨z2r,z2a,z2e⟩:=z2
 injection hz2 with hz2a hz2e
 subst hz2a hz2e
 have hw:=Ts sWhole
 rw [sane_whole] at hw
 have ho:=Ts sOne
 rw [sane_one] at ho
 have hs:=Ts sSrc2
 rw [sane_src2] at hs
 have hP1:=Ry 4 declR Yaa
 rw [sane_print] at hP1
 have hP2:=fun k=>Ry k rSrc2 Yaa
 rw [sane_short] at hP2
 have hP3:FnC Tryz.prog 15 [agg [ex (.string ⟨#[]⟩),ex (.slice none 0 0),ex (.slice none 0 0),ex (.slice none 0 0),ex (.slice none 0 0),ex (.slice none 0 0),ex (.slice none 0 0),ex (.slice none 0 0),exI .i64 0]] [Lab] (fun p loc=>p=Xf9 ([],130)∧loc=[]):=by
   have h:=Ry 1 zeroR Yaa
   rw [sane_zero] at h
   exact Xeb h (.cons (Ims.agg zero_im) .nil)
 have hr1:=Xbc [40] 16 Yao Yao
 have hr2:=Xbc [41] 16 Yao Yao
 have hr3:=Xbc [40] 17 Yao Yao
 rw [show Lib.repeatL [40] 16=List.replicate 16 40 from rfl] at hr1
 rw [show Lib.repeatL [41] 16=List.replicate 16 41 from rfl] at hr2
 rw [show Lib.repeatL [40] 17=List.replicate 17 40 from rfl] at hr3
 (repeat' (first|(apply W2 9;refine StopW.out ?_)|refine Xe ?_|refine Xb ?_|refine Xc ?_|(apply Xn;exact Ycq;exact rfl)|refine Wm ?_|(refine Xp rfl (fun hb=>?_) (fun hb=>?_)<;>(repeat (first|replace hb:=Xz hb|replace hb:=X0 hb))<;>(try (exfalso;omega)))))
 refine ⟨?_⟩
 refine X7 (env':=[(6,exT sBegin)]) (loc':=[Lab]) (Xg (by repeat (first|exact Xr|refine Xl rfl ?_)) (List.Sublist.refl _)) ?_
 (repeat' (first|(apply W2 10;refine StopW.out ?_)|(apply Xn;(apply Vx;exact Xeq rfl rfl (by (simp;done)));exact rfl)|refine Xe ?_|refine Xb ?_|refine Xc ?_|(apply Xn;exact Ycm;exact rfl)|(apply Xh;exact rfl;first|(apply Xi;first|(refine Xq Tryz.func25 rfl hr1 rfl ?_;rintro _ _ ⟨rfl,rfl⟩)|(refine Xq Tryz.func25 rfl hr2 rfl ?_;rintro _ _ ⟨rfl,rfl⟩)|(refine Xk (.dup 0 rfl rfl .nil) Tryz.func11 rfl hd rfl ?_;rintro _ _ ⟨⟨k1,rfl⟩,rfl⟩))|(apply Wb;refine X8 ?_;intro _)|(apply Xt;refine Xj (k:=0) (l0:=[]) rfl rfl rfl ?_))))
 refine ⟨?_⟩
 refine X7 (Vq (k:=0) (t:=7) rfl rfl) ?_
 refine X7 (env':=[(6,exT sBegin),(7,fp (Wq k1 rDeep)),(8,exI .i64 0),(9,exI .i64 0)]) (loc':=[Lab]) (Xg (by repeat (first|exact Xr|refine Xl rfl ?_)) Ycg) ?_
 (repeat' (first|(apply W2 11;refine StopW.out ?_)|(apply Xn;(apply Vx;exact Xeq rfl rfl (by (simp;done)));exact rfl)|refine Xe ?_|refine Xb ?_|refine Xc ?_|(apply Xn;exact Ycm;exact rfl)|(apply Xh;exact rfl;first|(apply Xi;first|(refine Xq Tryz.func25 rfl hr3 rfl ?_;rintro _ _ ⟨rfl,rfl⟩)|(refine Xk (.dup 0 rfl rfl .nil) Tryz.func11 rfl hd2 rfl ?_;rintro _ _ ⟨⟨k2,rfl⟩,rfl⟩))|(apply Wb;refine X8 ?_;intro _)|(apply Xt;refine Xj (k:=0) (l0:=[]) rfl rfl rfl ?_))))
 refine ⟨?_⟩
 refine X7 (env':=[(6,exT sBegin),(7,fp (Wq k1 rDeep)),(8,exI .i64 0),(9,exI .i64 0),(11,exI .i64 65),(12,exI .i64 130)]) (loc':=[Lab]) (Xg (by repeat (first|exact Xr|refine Xl rfl ?_)) Ycg) ?_
 have hsl:sBegin.length=49:=rfl
 generalize sBegin=sb at hsl ⊢
 (repeat' (first|(apply W2 12;refine StopW.out ?_)|refine Xe ?_|refine Xb ?_|refine Xc ?_|(apply Xn;exact Ycm;exact rfl)|(apply Xh;exact rfl;first|(apply Xi;(refine Xk (.dup 0 rfl rfl .nil) Tryz.func11 rfl hw rfl ?_;rintro _ _ ⟨⟨k3,rfl⟩,rfl⟩))|(apply Wb;refine X8 ?_;intro _)|(apply Xt;refine Xj (k:=0) (l0:=[]) rfl rfl rfl ?_))))
 refine ⟨?_⟩
 refine X7 (Vq (k:=0) (t:=13) rfl rfl) ?_
 refine X7 (env':=[(6,exT sb),(7,fp (Wq k1 rDeep)),(8,exI .i64 0),(9,exI .i64 0),(11,exI .i64 65),(12,exI .i64 130),(13,fp (Wq k3 declR)),(15,exI .i64 0)]) (loc':=[Lab]) (Xg (by repeat (first|exact Xr|refine Xl rfl ?_)) Ycg) ?_
 (repeat' (first|(apply W2 13;refine StopW.out ?_)|refine Xe ?_|refine Xb ?_|refine Xc ?_|(apply Xn;exact Ycm;exact rfl)|(apply Xh;exact rfl;(apply Xi;first|(refine Xq Tryz.func26 rfl declared13_any rfl ?_;rintro _ _ ⟨rfl,rfl⟩)|(refine Xk (.dup 0 rfl rfl .nil) Tryz.func15 rfl hP1 rfl ?_;rintro _ _ ⟨rfl,rfl⟩)))))
 refine ⟨?_⟩
 refine X7 (env':=[(6,exT sb),(7,fp (Wq k1 rDeep)),(8,exI .i64 0),(9,exI .i64 0),(11,exI .i64 65),(12,exI .i64 130),(13,fp (Wq k3 declR)),(15,exI .i64 0),(16,exT sWhole),(17,exI .i64 0)]) (loc':=[Lab]) (Xg (by repeat (first|exact Xr|refine Xl rfl ?_)) Ycg) ?_
 (repeat' (first|(apply W2 14;refine StopW.out ?_)|refine Xe ?_|refine Xb ?_|refine Xc ?_|(apply Xn;exact Ycm;exact rfl)|(apply Xh;exact rfl;first|(apply Xi;(refine Xk (.dup 0 rfl rfl .nil) Tryz.func11 rfl ho rfl ?_;rintro _ _ ⟨⟨k4,rfl⟩,rfl⟩))|(apply Wb;refine X8 ?_;intro _)|(apply Xt;refine Xj (k:=0) (l0:=[]) rfl rfl rfl ?_))))
 refine ⟨?_⟩
 refine X7 (Vq (k:=0) (t:=18) rfl rfl) ?_
 refine X7 (env':=[(6,exT sb),(7,fp (Wq k1 rDeep)),(8,exI .i64 0),(9,exI .i64 0),(11,exI .i64 65),(12,exI .i64 130),(13,fp (Wq k3 declR)),(15,exI .i64 0),(16,exT sWhole),(17,exI .i64 0),(18,fp (Wq k4 rOne)),(20,exI .i64 0)]) (loc':=[Lab]) (Xg (by repeat (first|exact Xr|refine Xl rfl ?_)) Ycg) ?_
 (repeat' (first|(apply W2 15;refine StopW.out ?_)|refine Xe ?_|refine Xb ?_|refine Xc ?_|(apply Xn;exact Ycm;exact rfl)|(apply Xh;exact rfl;first|(apply Xi;(refine Xk (.dup 0 rfl rfl .nil) Tryz.func11 rfl hs rfl ?_;rintro _ _ ⟨⟨k5,rfl⟩,rfl⟩))|(apply Wb;refine X8 ?_;intro _)|(apply Xt;refine Xj (k:=0) (l0:=[]) rfl rfl rfl ?_))))
 refine ⟨?_⟩
 refine X7 (Vq (k:=0) (t:=21) rfl rfl) ?_
 refine X7 (env':=[(6,exT sb),(7,fp (Wq k1 rDeep)),(8,exI .i64 0),(9,exI .i64 0),(11,exI .i64 65),(12,exI .i64 130),(13,fp (Wq k3 declR)),(15,exI .i64 0),(16,exT sWhole),(17,exI .i64 0),(18,fp (Wq k4 rOne)),(20,exI .i64 0),(21,fp (Wq k5 rSrc2)),(23,exI .i64 0)]) (loc':=[Lab]) (Xg (by repeat (first|exact Xr|refine Xl rfl ?_)) Ycg) ?_
 (repeat' (first|(apply W2 16;refine StopW.out ?_)|refine Xe ?_|refine Xb ?_|refine Xc ?_|(apply Xn;(first|exact Xf rfl|exact Xm rfl|exact Ybb|exact Yav);exact rfl)|(apply Xh;exact rfl;(apply Xi;(refine Xk (.dup 0 rfl rfl .nil) Tryz.func15 rfl (hP2 k5) rfl ?_;rintro _ _ ⟨rfl,rfl⟩)))))
 refine ⟨?_⟩
 refine X7 (env':=[(6,exT sb),(7,fp (Wq k1 rDeep)),(8,exI .i64 0),(9,exI .i64 0),(11,exI .i64 65),(12,exI .i64 130),(13,fp (Wq k3 declR)),(15,exI .i64 0),(16,exT sWhole),(17,exI .i64 0),(18,fp (Wq k4 rOne)),(20,exI .i64 0),(21,fp (Wq k5 rSrc2)),(23,exI .i64 0),(24,exT sShort),(25,exI .i64 0)]) (loc':=[Lab]) (Xg (by repeat (first|exact Xr|refine Xl rfl ?_)) Ycg) ?_
 (repeat' (first|(apply W2 17;refine StopW.out ?_)|refine Xe ?_|refine Xb ?_|refine Xc ?_|(apply Xn;(first|exact Xf rfl|exact Xm rfl|exact Ybb|exact Ybq);exact rfl)|(apply Xh;exact rfl;(apply Xi;(refine Xk (.dup 0 rfl rfl .nil) Tryz.func15 rfl hP3 rfl ?_;rintro _ _ ⟨rfl,rfl⟩)))))
 refine ⟨?_⟩
 refine X7 (env':=[(6,exT sb),(7,fp (Wq k1 rDeep)),(8,exI .i64 0),(9,exI .i64 0),(11,exI .i64 65),(12,exI .i64 130),(13,fp (Wq k3 declR)),(15,exI .i64 0),(16,exT sWhole),(17,exI .i64 0),(18,fp (Wq k4 rOne)),(20,exI .i64 0),(21,fp (Wq k5 rSrc2)),(23,exI .i64 0),(24,exT sShort),(25,exI .i64 0),(27,exI .i64 130)]) (loc':=[Lab]) (Xg (by repeat (first|exact Xr|refine Xl rfl ?_)) Ycg) ?_
 have hdl:rDeep.rounds.length=1:=rfl
 have hX:FnC Tryz.prog 27 [agg (exV k1 rDeep.rounds[0].score),agg [exI .i64 1,ex (.string ⟨#[]⟩),exI .i64 1,exI .i64 1,ex (.slice none 0 0)]] [] (fun p loc=>p=exB true∧loc=[]):=by
   have h:=r13sameExpr_any k1 1 rDeep.rounds[0].score (.mk 1 [] 1 1 [])
   rw [show decide (rDeep.rounds[0].score=Ex.mk 1 [] 1 1 [])=true from decide_eq_true rfl] at h
   exact Xeb h (.cons (Im.refl _) (.cons (Ims.agg (by repeat (first|exact Ims.nil|refine Ims.cons Im.nil ?_|refine Ims.cons (Im.refl _) ?_))) .nil))
 have hO:FnC Tryz.prog 13 [rul k4 rOne,agg [ex (.string ⟨#[97]⟩),ex (.slice none 0 0),ex (.slice none 0 0),ex (.slice none 0 0),ex (.slice none 0 0),ex (.slice none 0 0),ex (.slice none 0 0),ex (.slice none 0 0),exI .i64 0]] [] (fun p loc=>p=exB true∧loc=[]):=by
   have h:=Sv k4 1 rOne rOne
   rw [decide_eq_true rfl] at h
   exact Xeb h (.cons (Im.refl _) (.cons (Ims.agg (by repeat (first|exact Ims.nil|refine Ims.cons Im.nil ?_|refine Ims.cons (Im.refl _) ?_))) .nil))
 have hD:=Sv k3 4 declR declR
 rw [decide_eq_true rfl] at hD
 (repeat' (first|(apply W2 21;refine StopW.out ?_)|refine Xe ?_|refine Xb ?_|refine Xc ?_|(apply Xn;(first|exact Xf rfl|exact Wd (b:=false) rfl (fun e=>by cases e) (fun _=>rfl)|exact Yag|exact Yae|exact Ybo|exact Yaj);exact rfl)|(apply W0;exact rfl;exact rfl;exact rfl;(first|exact Xf rfl|exact Ybj|exact Yae|(apply Vx;first|exact Qz rfl rfl|exact S5 rfl rfl)|exact Yah|exact Yau|exact Yaz|exact Yay);exact rfl)|refine Xs ?_|refine Xy rfl ?_|(apply Vm;exact rfl;exact rfl;exact rfl;exact rfl;(apply Xi;first|(refine Xq Tryz.func27 rfl hX rfl ?_;rintro _ _ ⟨rfl,rfl⟩)|(refine Xq Tryz.func13 rfl hO rfl ?_;rintro _ _ ⟨rfl,rfl⟩)))|(refine Wf rfl rfl (fun hb=>?_) (fun hb=>?_)<;>(repeat (first|replace hb:=Xz hb|replace hb:=X0 hb|replace hb:=W5 hb|replace hb:=W6 hb))<;>(try (exfalso;omega)))))
 all_goals (try (exfalso;first|contradiction|omega))
 refine ⟨?_⟩
 refine X7 (env':=[(13,fp (Wq k3 declR)),(16,exT sWhole),(24,exT sShort)]) (loc':=[]) (Xg (by repeat (first|exact Xr|refine Xl rfl ?_)) (List.nil_sublist _)) ?_
 have e1:decide (sWhole=sWhole)=true:=decide_eq_true rfl
 have e2:decide (sShort=sShort)=true:=decide_eq_true rfl
 refine Xe ?_
 (refine Vh ([]) 12 rfl ?_)
 all_goals ((apply Xv 0 rfl Yaa rfl Yaa Yab Xa;(exact Yav);exact rfl))
 all_goals ((apply Xu 1;exact Yaa;exact rfl;exact Xa;exact (fun _ _ h=>h);(apply Xi;(refine Xq Tryz.func26 rfl declared13_any rfl ?_;rintro _ _ ⟨rfl,rfl⟩))))
 all_goals ((apply Xu 2;exact Yaa;exact rfl;exact Xa;exact (fun _ _ h=>h);(apply Xi;(refine Xq Tryz.func13 rfl hD rfl ?_;rintro _ _ ⟨rfl,rfl⟩))))
 all_goals ((apply Xd 3 rfl Yaa rfl Yab Xa;(exact Xf rfl);exact rfl))
 all_goals (first|(refine So 168 rfl (fun hb=>?_) (fun hb=>?_)<;>(repeat (first|replace hb:=Xz hb|replace hb:=X0 hb|replace hb:=W5 hb|replace hb:=W6 hb))<;>(try (exfalso;first|(cases hb;done)|contradiction|omega)))|skip)
 all_goals ((apply Xd 4 rfl Yaa rfl Yab (W1 rfl rfl rfl);(exact Xf rfl);exact rfl))
 all_goals ((apply Xd 5 rfl Yaa rfl Yab (W1 rfl rfl rfl);((apply Vx;exact Sy rfl rfl));exact rfl))
 all_goals ((apply Xd 6 rfl Yaa rfl Yab Xa;(exact Wd (b:=true) rfl (fun _=>rfl) (fun e=>by cases e));exact rfl))
 all_goals ((apply Xd 7 rfl Yaa rfl Yab Xa;(exact Xf rfl);exact rfl))
 all_goals (first|(refine So 172 rfl (fun hb=>?_) (fun hb=>?_)<;>(repeat (first|replace hb:=Xz hb|replace hb:=X0 hb|replace hb:=W5 hb|replace hb:=W6 hb))<;>(try (exfalso;first|(cases hb;done)|contradiction|omega)))|skip)
 all_goals ((apply Xd 8 rfl Yaa rfl Yab (W1 rfl rfl rfl);(exact Xf rfl);exact rfl))
 all_goals ((apply Xd 9 rfl Yaa rfl Yab (W1 rfl rfl rfl);((apply Vx;exact Sy rfl rfl));exact rfl))
 all_goals ((apply Xd 10 rfl Yaa rfl Yab Xa;(exact Wd (b:=true) rfl (fun _=>rfl) (fun e=>by cases e));exact rfl))
 all_goals ((apply Xd 11 rfl Yaa rfl Yab Xa;(exact Xm rfl);exact rfl))
 all_goals (refine X9 Yaa ?_)
 all_goals ((repeat' (refine Xw ?_)))
 all_goals (refine ⟨.inr rfl,Vd rfl (.tmp rfl) (List.nil_sublist _) ⟨by first|rfl|(exact congrArg exB Yb9),rfl⟩⟩)
end Go.Proofs.YthdldeenpgeemaaGreatDoor
