/- names.Resolve behind the maps. -/
import Derived.Test.YthdldeenpgeemaaGreatDoorPartD
namespace Go.Proofs.YthdldeenpgeemaaGreatDoor
open Go Go.RowKit Go.Kx Go.Fr
set_option maxHeartbeats 4000000 in
set_option maxRecDepth 100000 in
theorem Xky (k:Nat) (r:RulesD) (hf:r.few=true) (M0 M2 M3:List (List UInt8×SP)) (h0: ∀s,Uq M0 s=(Ex.lookF r.n0 s).map (exI .i64)) (h2: ∀s,Uq M2 s=(Ex.lookF r.n2 s).map (exI .i64)) (h3: ∀s,Uq M3 s=(Ex.lookF r.n3 s).map (exI .i64)) (w0:World) (F0:Nat→Prop) (out:List Ent) (b1 b2 bl b4 b7 b17 b18:Nat):
   WP ⟨Tryz.prog,w0,F0,T8 [Tab],out,218,[]⟩ (rights 13 (Tryz.f23.body.getD .skip)) (Xjk ⟨Tryz.prog,w0,F0,T8 [Tab],out,218,[]⟩ Tryz.f23 (fun p loc=>p=tup [rul k (if !r.allOk then (RulesD.zero,(140:Int)) else (r.resolved,0)).1,exI .i64 (if !r.allOk then (RulesD.zero,(140:Int)) else (r.resolved,0)).2]∧loc=[]))
     [(1,ex (.pointer (some ⟨b1,0,none⟩))),(2,ex (.pointer (some ⟨b2,0,none⟩))),(4,fpx b4 [U0 M0]),(6,U0 M2),(7,fpx b7 [U0 M3]),(16,ex (.pointer (some ⟨bl,0,none⟩))),(17,fpx b17 [ex (Xbi bl)]),(18,fpx b18 [ex (Xbj b17 b4 b7 b18)])] [row bl 4 1 [exB false],row b2 29 9 [ex (.string .empty),ex (.slice none 0 0),ex (.slice none 0 0),ex (.slice none 0 0),ex (.slice none 0 0),ex (.slice none 0 0),ex (.slice none 0 0),ex (.slice none 0 0),ex (.int .i64 0)],row b1 29 9 (Vc k r)]:=by
 obtain ⟨hf1,hf2,hf3,hf4,hf5,hf6,hf7,hf8,hf9⟩:=Xay hf
 unfold Vc
 (repeat' (first|(apply Vs 17;refine Stop.out ?_)|refine Xf ?_|refine Xb ?_|refine Xd ?_|(apply Xk;(exact Yc6);exact rfl)|(apply Xi;exact rfl;(apply Xt;refine Xq (k:=1) (l0:=[]) rfl rfl rfl ?_))))
 refine ⟨Rc 17 (fun s:(Option Addr×Nat)×(Option Addr×Nat)=>([(2,ex (.pointer (some ⟨b2,0,none⟩))),(4,fpx b4 [U0 M0]),(6,U0 M2),(7,fpx b7 [U0 M3]),(16,ex (.pointer (some ⟨bl,0,none⟩))),(17,fpx b17 [ex (Xbi bl)]),(18,fpx b18 [ex (Xbj b17 b4 b7 b18)])],[vec (.slice s.1.1 r.ties.length s.1.2) 74 2 r.ties.length (r.ties.flatMap tieV),vec (.slice s.2.1 r.rounds.length s.2.2) 54 13 r.rounds.length (r.rounds.flatMap (W3 k)),row bl 4 1 [exB false],row b2 29 9 [exT r.name,isl eCrit r.crits,isl eItem r.bonus,isl eItem r.malus,ex (.slice s.1.1 r.ties.length s.1.2),ex (.slice s.2.1 r.rounds.length s.2.2),isl eI r.prizes,isl eI r.points,exI .i64 r.best]])) (fun _=>True) ?_ fun s _=>?_⟩
 · skip
   (refine W9 6 rfl ?_)
   (try (first|(refine Wt (k:=0) rfl ?_;intro oa1 c1 hv;subst hv)|(refine Wt (k:=1) rfl ?_;intro oa2 c2 hv;subst hv)))
   (apply Xc 0 rfl Yaa rfl Yab Xa;(exact Yad);exact rfl)
   (try (first|(refine Wt (k:=0) rfl ?_;intro oa1 c1 hv;subst hv)|(refine Wt (k:=1) rfl ?_;intro oa2 c2 hv;subst hv)))
   (apply Xu 1 rfl Yaa rfl Yaa Yab Xa;(exact Yb3);exact rfl)
   (try (first|(refine Wt (k:=0) rfl ?_;intro oa1 c1 hv;subst hv)|(refine Wt (k:=1) rfl ?_;intro oa2 c2 hv;subst hv)))
   (apply Xc 3 rfl Yaa rfl Yab Xa;(exact Yad);exact rfl)
   (try (first|(refine Wt (k:=0) rfl ?_;intro oa1 c1 hv;subst hv)|(refine Wt (k:=1) rfl ?_;intro oa2 c2 hv;subst hv)))
   (refine V3 (H2:=fun _=>True) 2 4 Yaa rfl Xa (fun _ _ h=>h) rfl Xa (fun _ _ _=>trivial) ?_ ?_)
   ·
     ((apply Xn;first|(refine X9 Tryz.func70 rfl (Th _) rfl ?_;rintro _ _ ⟨v1,rfl,rfl⟩)|(refine X9 Tryz.func71 rfl (Ux k _) rfl ?_;rintro _ _ ⟨v2,rfl,rfl⟩)))
     (try (first|(refine Wt (k:=0) rfl ?_;intro oa1 c1 hv;subst hv)|(refine Wt (k:=1) rfl ?_;intro oa2 c2 hv;subst hv)))
     (refine V3 (H1:=fun _=>True) (H2:=fun _=>True) 4 6 Yaa rfl Xa (fun _ _ _=>trivial) rfl Xa (fun _ _ _=>trivial) ?_ ?_)
     ·
       ((apply V6 (H:=fun _=>True);(exact Yb9);exact rfl))
       (try (first|(refine Wt (k:=0) rfl ?_;intro oa1 c1 hv;subst hv)|(refine Wt (k:=1) rfl ?_;intro oa2 c2 hv;subst hv)))
       (refine V3 (H2:=fun _=>True) 5 6 Yaa rfl Xa (fun _ _ h=>h) rfl Xa (fun _ _ _=>trivial) ?_ ?_)
       ·
         ((apply Xn;first|(refine X9 Tryz.func70 rfl (Th _) rfl ?_;rintro _ _ ⟨v1,rfl,rfl⟩)|(refine X9 Tryz.func71 rfl (Ux k _) rfl ?_;rintro _ _ ⟨v2,rfl,rfl⟩)))
         (try (first|(refine Wt (k:=0) rfl ?_;intro oa1 c1 hv;subst hv)|(refine Wt (k:=1) rfl ?_;intro oa2 c2 hv;subst hv)))
         (refine Xr (H':=fun _=>True) 6 Yaa rfl Xa (fun _ _ _=>trivial) ?_)
         ((apply V6 (H:=fun _=>True);(exact Yad);exact rfl))
         (try (first|(refine Wt (k:=0) rfl ?_;intro oa1 c1 hv;subst hv)|(refine Wt (k:=1) rfl ?_;intro oa2 c2 hv;subst hv)))
         (refine Xr (H':=U6 []) 7 Yaa rfl Xa (fun h=>absurd h Yar) ?_)
         ((apply Xt;refine Xq (k:=3) (l0:=[]) rfl rfl rfl ?_))
         (try (first|(refine Wt (k:=0) rfl ?_;intro oa1 c1 hv;subst hv)|(refine Wt (k:=1) rfl ?_;intro oa2 c2 hv;subst hv)))
         (refine Xr (H':=fun _=>True) 8 Yaa rfl Xa (fun _ _ _=>trivial) ?_)
         ((apply V6 (H:=fun _=>True);(exact Yad);exact rfl))
         (try (first|(refine Wt (k:=0) rfl ?_;intro oa1 c1 hv;subst hv)|(refine Wt (k:=1) rfl ?_;intro oa2 c2 hv;subst hv)))
         (refine Xr (H':=U6 []) 9 Yaa rfl Xa (fun h=>absurd h Yar) ?_)
         ((apply Xt;refine Xq (k:=3) (l0:=[]) rfl rfl rfl ?_))
         (try (first|(refine Wt (k:=0) rfl ?_;intro oa1 c1 hv;subst hv)|(refine Wt (k:=1) rfl ?_;intro oa2 c2 hv;subst hv)))
         refine X3 Yaa ?_
         (first|exact Wc ((_,_),(_,_)) trivial (Xg (by repeat (first|exact Xm|refine Xh rfl ?_)) (.cons_cons _ (.cons_cons _ (.cons_cons _ (.cons_cons _ (.cons _ .slnil))))))|exact Wc ((_,_),(_,_)) trivial ((Vj (List.Perm.swap _ _ _)).trans (Xg (by repeat (first|exact Xm|refine Xh rfl ?_)) (.cons_cons _ (.cons_cons _ (.cons_cons _ (.cons_cons _ (.cons _ .slnil))))))))
       ·
         ((apply V6 (H:=fun _=>True);(exact Yad);exact rfl))
         (try (first|(refine Wt (k:=0) rfl ?_;intro oa1 c1 hv;subst hv)|(refine Wt (k:=1) rfl ?_;intro oa2 c2 hv;subst hv)))
         (refine Xr 5 Yaa rfl Xa (fun _ _ h=>h) ?_)
         ((apply Xn;first|(refine X9 Tryz.func70 rfl (Th _) rfl ?_;rintro _ _ ⟨v1,rfl,rfl⟩)|(refine X9 Tryz.func71 rfl (Ux k _) rfl ?_;rintro _ _ ⟨v2,rfl,rfl⟩)))
         (try (first|(refine Wt (k:=0) rfl ?_;intro oa1 c1 hv;subst hv)|(refine Wt (k:=1) rfl ?_;intro oa2 c2 hv;subst hv)))
         (refine Xr (H':=U6 []) 7 Yaa rfl Xa (fun h=>absurd h Yar) ?_)
         ((apply Xt;refine Xq (k:=3) (l0:=[]) rfl rfl rfl ?_))
         (try (first|(refine Wt (k:=0) rfl ?_;intro oa1 c1 hv;subst hv)|(refine Wt (k:=1) rfl ?_;intro oa2 c2 hv;subst hv)))
         (refine Xr (H':=fun _=>True) 8 Yaa rfl Xa (fun _ _ _=>trivial) ?_)
         ((apply V6 (H:=fun _=>True);(exact Yad);exact rfl))
         (try (first|(refine Wt (k:=0) rfl ?_;intro oa1 c1 hv;subst hv)|(refine Wt (k:=1) rfl ?_;intro oa2 c2 hv;subst hv)))
         (refine Xr (H':=U6 []) 9 Yaa rfl Xa (fun h=>absurd h Yar) ?_)
         ((apply Xt;refine Xq (k:=3) (l0:=[]) rfl rfl rfl ?_))
         (try (first|(refine Wt (k:=0) rfl ?_;intro oa1 c1 hv;subst hv)|(refine Wt (k:=1) rfl ?_;intro oa2 c2 hv;subst hv)))
         refine X3 Yaa ?_
         (first|exact Wc ((_,_),(_,_)) trivial (Xg (by repeat (first|exact Xm|refine Xh rfl ?_)) (.cons_cons _ (.cons_cons _ (.cons_cons _ (.cons_cons _ (.cons _ .slnil))))))|exact Wc ((_,_),(_,_)) trivial ((Vj (List.Perm.swap _ _ _)).trans (Xg (by repeat (first|exact Xm|refine Xh rfl ?_)) (.cons_cons _ (.cons_cons _ (.cons_cons _ (.cons_cons _ (.cons _ .slnil))))))))
     ·
       ((apply V6 (H:=fun _=>True);(exact Yad);exact rfl))
       (try (first|(refine Wt (k:=0) rfl ?_;intro oa1 c1 hv;subst hv)|(refine Wt (k:=1) rfl ?_;intro oa2 c2 hv;subst hv)))
       (refine Xr (H':=fun _=>True) 4 Yaa rfl Xa (fun _ _ _=>trivial) ?_)
       ((apply V6 (H:=fun _=>True);(exact Yb9);exact rfl))
       (try (first|(refine Wt (k:=0) rfl ?_;intro oa1 c1 hv;subst hv)|(refine Wt (k:=1) rfl ?_;intro oa2 c2 hv;subst hv)))
       (refine Xr 5 Yaa rfl Xa (fun _ _ h=>h) ?_)
       ((apply Xn;first|(refine X9 Tryz.func70 rfl (Th _) rfl ?_;rintro _ _ ⟨v1,rfl,rfl⟩)|(refine X9 Tryz.func71 rfl (Ux k _) rfl ?_;rintro _ _ ⟨v2,rfl,rfl⟩)))
       (try (first|(refine Wt (k:=0) rfl ?_;intro oa1 c1 hv;subst hv)|(refine Wt (k:=1) rfl ?_;intro oa2 c2 hv;subst hv)))
       (refine Xr (H':=U6 []) 7 Yaa rfl Xa (fun h=>absurd h Yar) ?_)
       ((apply Xt;refine Xq (k:=3) (l0:=[]) rfl rfl rfl ?_))
       (try (first|(refine Wt (k:=0) rfl ?_;intro oa1 c1 hv;subst hv)|(refine Wt (k:=1) rfl ?_;intro oa2 c2 hv;subst hv)))
       (refine Xr (H':=fun _=>True) 8 Yaa rfl Xa (fun _ _ _=>trivial) ?_)
       ((apply V6 (H:=fun _=>True);(exact Yad);exact rfl))
       (try (first|(refine Wt (k:=0) rfl ?_;intro oa1 c1 hv;subst hv)|(refine Wt (k:=1) rfl ?_;intro oa2 c2 hv;subst hv)))
       (refine Xr (H':=U6 []) 9 Yaa rfl Xa (fun h=>absurd h Yar) ?_)
       ((apply Xt;refine Xq (k:=3) (l0:=[]) rfl rfl rfl ?_))
       (try (first|(refine Wt (k:=0) rfl ?_;intro oa1 c1 hv;subst hv)|(refine Wt (k:=1) rfl ?_;intro oa2 c2 hv;subst hv)))
       refine X3 Yaa ?_
       (first|exact Wc ((_,_),(_,_)) trivial (Xg (by repeat (first|exact Xm|refine Xh rfl ?_)) (.cons_cons _ (.cons_cons _ (.cons_cons _ (.cons_cons _ (.cons _ .slnil))))))|exact Wc ((_,_),(_,_)) trivial ((Vj (List.Perm.swap _ _ _)).trans (Xg (by repeat (first|exact Xm|refine Xh rfl ?_)) (.cons_cons _ (.cons_cons _ (.cons_cons _ (.cons_cons _ (.cons _ .slnil))))))))
   ·
     ((apply V6 (H:=fun _=>True);(exact Yb3);exact rfl))
     (try (first|(refine Wt (k:=0) rfl ?_;intro oa1 c1 hv;subst hv)|(refine Wt (k:=1) rfl ?_;intro oa2 c2 hv;subst hv)))
     (refine Xr 2 Yaa rfl Xa (fun _ _ h=>h) ?_)
     ((apply Xn;first|(refine X9 Tryz.func70 rfl (Th _) rfl ?_;rintro _ _ ⟨v1,rfl,rfl⟩)|(refine X9 Tryz.func71 rfl (Ux k _) rfl ?_;rintro _ _ ⟨v2,rfl,rfl⟩)))
     (try (first|(refine Wt (k:=0) rfl ?_;intro oa1 c1 hv;subst hv)|(refine Wt (k:=1) rfl ?_;intro oa2 c2 hv;subst hv)))
     (refine V3 (H2:=fun _=>True) 5 6 Yaa rfl Xa (fun _ _ h=>h) rfl Xa (fun _ _ _=>trivial) ?_ ?_)
     ·
       ((apply Xn;first|(refine X9 Tryz.func70 rfl (Th _) rfl ?_;rintro _ _ ⟨v1,rfl,rfl⟩)|(refine X9 Tryz.func71 rfl (Ux k _) rfl ?_;rintro _ _ ⟨v2,rfl,rfl⟩)))
       (try (first|(refine Wt (k:=0) rfl ?_;intro oa1 c1 hv;subst hv)|(refine Wt (k:=1) rfl ?_;intro oa2 c2 hv;subst hv)))
       (refine Xr (H':=fun _=>True) 6 Yaa rfl Xa (fun _ _ _=>trivial) ?_)
       ((apply V6 (H:=fun _=>True);(exact Yad);exact rfl))
       (try (first|(refine Wt (k:=0) rfl ?_;intro oa1 c1 hv;subst hv)|(refine Wt (k:=1) rfl ?_;intro oa2 c2 hv;subst hv)))
       (refine Xr (H':=U6 []) 7 Yaa rfl Xa (fun h=>absurd h Yar) ?_)
       ((apply Xt;refine Xq (k:=3) (l0:=[]) rfl rfl rfl ?_))
       (try (first|(refine Wt (k:=0) rfl ?_;intro oa1 c1 hv;subst hv)|(refine Wt (k:=1) rfl ?_;intro oa2 c2 hv;subst hv)))
       (refine Xr (H':=fun _=>True) 8 Yaa rfl Xa (fun _ _ _=>trivial) ?_)
       ((apply V6 (H:=fun _=>True);(exact Yad);exact rfl))
       (try (first|(refine Wt (k:=0) rfl ?_;intro oa1 c1 hv;subst hv)|(refine Wt (k:=1) rfl ?_;intro oa2 c2 hv;subst hv)))
       (refine Xr (H':=U6 []) 9 Yaa rfl Xa (fun h=>absurd h Yar) ?_)
       ((apply Xt;refine Xq (k:=3) (l0:=[]) rfl rfl rfl ?_))
       (try (first|(refine Wt (k:=0) rfl ?_;intro oa1 c1 hv;subst hv)|(refine Wt (k:=1) rfl ?_;intro oa2 c2 hv;subst hv)))
       refine X3 Yaa ?_
       (first|exact Wc ((_,_),(_,_)) trivial (Xg (by repeat (first|exact Xm|refine Xh rfl ?_)) (.cons_cons _ (.cons_cons _ (.cons_cons _ (.cons_cons _ (.cons _ .slnil))))))|exact Wc ((_,_),(_,_)) trivial ((Vj (List.Perm.swap _ _ _)).trans (Xg (by repeat (first|exact Xm|refine Xh rfl ?_)) (.cons_cons _ (.cons_cons _ (.cons_cons _ (.cons_cons _ (.cons _ .slnil))))))))
     ·
       ((apply V6 (H:=fun _=>True);(exact Yad);exact rfl))
       (try (first|(refine Wt (k:=0) rfl ?_;intro oa1 c1 hv;subst hv)|(refine Wt (k:=1) rfl ?_;intro oa2 c2 hv;subst hv)))
       (refine Xr 5 Yaa rfl Xa (fun _ _ h=>h) ?_)
       ((apply Xn;first|(refine X9 Tryz.func70 rfl (Th _) rfl ?_;rintro _ _ ⟨v1,rfl,rfl⟩)|(refine X9 Tryz.func71 rfl (Ux k _) rfl ?_;rintro _ _ ⟨v2,rfl,rfl⟩)))
       (try (first|(refine Wt (k:=0) rfl ?_;intro oa1 c1 hv;subst hv)|(refine Wt (k:=1) rfl ?_;intro oa2 c2 hv;subst hv)))
       (refine Xr (H':=U6 []) 7 Yaa rfl Xa (fun h=>absurd h Yar) ?_)
       ((apply Xt;refine Xq (k:=3) (l0:=[]) rfl rfl rfl ?_))
       (try (first|(refine Wt (k:=0) rfl ?_;intro oa1 c1 hv;subst hv)|(refine Wt (k:=1) rfl ?_;intro oa2 c2 hv;subst hv)))
       (refine Xr (H':=fun _=>True) 8 Yaa rfl Xa (fun _ _ _=>trivial) ?_)
       ((apply V6 (H:=fun _=>True);(exact Yad);exact rfl))
       (try (first|(refine Wt (k:=0) rfl ?_;intro oa1 c1 hv;subst hv)|(refine Wt (k:=1) rfl ?_;intro oa2 c2 hv;subst hv)))
       (refine Xr (H':=U6 []) 9 Yaa rfl Xa (fun h=>absurd h Yar) ?_)
       ((apply Xt;refine Xq (k:=3) (l0:=[]) rfl rfl rfl ?_))
       (try (first|(refine Wt (k:=0) rfl ?_;intro oa1 c1 hv;subst hv)|(refine Wt (k:=1) rfl ?_;intro oa2 c2 hv;subst hv)))
       refine X3 Yaa ?_
       (first|exact Wc ((_,_),(_,_)) trivial (Xg (by repeat (first|exact Xm|refine Xh rfl ?_)) (.cons_cons _ (.cons_cons _ (.cons_cons _ (.cons_cons _ (.cons _ .slnil))))))|exact Wc ((_,_),(_,_)) trivial ((Vj (List.Perm.swap _ _ _)).trans (Xg (by repeat (first|exact Xm|refine Xh rfl ?_)) (.cons_cons _ (.cons_cons _ (.cons_cons _ (.cons_cons _ (.cons _ .slnil))))))))
 obtain ⟨⟨oa1,c1⟩,oa2,c2⟩:=s
 simp only
 (repeat' (first|refine Xf ?_|refine Xb ?_|refine Xd ?_|(apply Xk;(first|exact Xe rfl|exact Yb9|exact Yad|exact Yed);exact rfl)|refine Xp ?_))
 refine W1 (fun n:Nat=>([(2,ex (.pointer (some ⟨b2,0,none⟩))),(4,fpx b4 [U0 M0]),(6,U0 M2),(7,fpx b7 [U0 M3]),(16,ex (.pointer (some ⟨bl,0,none⟩))),(17,fpx b17 [ex (Xbi bl)]),(18,fpx b18 [ex (Xbj b17 b4 b7 b18)]),(115,exI .i64 (r.ties.length:Int)),(116,exI .i64 (n:Int))],[vec (.slice oa1 r.ties.length c1) 74 2 r.ties.length (((r.ties.take n).map r.tieP++r.ties.drop n).flatMap tieV),vec (.slice oa2 r.rounds.length c2) 54 13 r.rounds.length (r.rounds.flatMap (W3 k)),row bl 4 1 [exB (!(r.ties.take n).all r.tiePok)],row b2 29 9 [exT r.name,isl eCrit r.crits,isl eItem r.bonus,isl eItem r.malus,ex (.slice oa1 r.ties.length c1),ex (.slice oa2 r.rounds.length c2),isl eI r.prizes,isl eI r.points,exI .i64 r.best]])) (fun n=>n≤r.ties.length) (fun n=>r.ties.length-n) 0 ?_ (Nat.zero_le _) fun n hn=>?_
 · simp only [List.take_zero,List.map_nil,List.drop_zero,List.nil_append,List.all_nil,Bool.not_true]
   exact Xg (by repeat (first|exact Xm|refine Xh rfl ?_)) (List.Sublist.refl _)
 by_cases hlt:n<r.ties.length
 · have eL:=Xeo r.ties r.tieP n hlt
   have hLl:=Xhc r.ties r.tieP n hlt
   have hLi:=Xlg r.ties r.tieP n hlt
   have eA:(!(r.ties.take (n+1)).all r.tiePok)=(!(r.ties.take n).all r.tiePok|| !r.ties[n].keys.all r.keyPok):=by
     rw [Xcu hlt,Bool.not_and];rfl
   generalize ((r.ties.take n).map r.tieP++r.ties.drop n)=L at eL hLl hLi ⊢
   generalize (!(r.ties.take n).all r.tiePok)=lo at eA ⊢
   have hnL:n<L.length:=by omega
   have hkl:=hf8 _ (List.getElem_mem hlt)
   have hTl:(L.flatMap tieV).length=L.length * 2:=Ud (fs:=tieV) (s:=2) (fun _=>rfl) L
   have hT1:(L.flatMap tieV)[0+n * 2+1]?=some (isl eKey r.ties[n].keys):=by
     rw [Nat.zero_add,Xaf (fs:=tieV) (s:=2) (fun _=>rfl) L n hnL 1 Yar,hLi hnL];rfl
   refine Xag (k:=0) rfl Yan fun bT c1' hv hnc hcm=>?_
   cases hv
   (repeat' (first|(apply Xi0;refine Xml (k:=0) rfl ?_;intro oa3 c3 hv;subst hv)|(apply Vs 23;refine Stop.out ?_)|refine Xf ?_|refine Xb ?_|refine Xd ?_|(apply Xk;(first|exact Xe rfl|exact Xj rfl|(apply Vu;first|exact Vr (k:=3) rfl rfl rfl rfl|exact Vr (k:=0) rfl rfl (by assumption) rfl)|exact Yad|exact Yak|exact Ya6|exact Yam);exact rfl)|refine Xp ?_|refine Xs ?_|(apply Xi;exact rfl;first|(apply Xn;(refine X9 Tryz.func72 rfl (Xgd _) rfl ?_;rintro _ _ ⟨v3,rfl,rfl⟩))|(apply Xt;refine Uu (k:=1) (l0:=[]) rfl rfl rfl ?_))|(refine Xo rfl (fun hb=>?_) (fun hb=>?_)<;>(repeat (first|replace hb:=X0 hb|replace hb:=X1 hb))<;>(try (exfalso;omega)))))
   have hPS1:((L.flatMap tieV).set (0+n * 2+1) (ex (.slice oa3 r.ties[n].keys.length c3)))[0+n * 2+1]?=some (ex (.slice oa3 r.ties[n].keys.length c3)):=List.getElem?_set_self Yan
   have hPS2: ∀t:TieD,((tieV L[n]).set 1 (isl eKey t.keys)=tieV t)→((L.flatMap tieV).set (0+n * 2+1) (ex (.slice oa3 r.ties[n].keys.length c3))).set (0+n * 2+1) (isl eKey t.keys)=(L.set n t).flatMap tieV:=fun t ht=>by
     rw [List.set_set,Nat.zero_add]
     exact Xa6 (fs:=tieV) (s:=2) (fun _=>rfl) L n hnL 1 Yar _ _ ht
   generalize (L.flatMap tieV).set (0+n * 2+1) (ex (.slice oa3 r.ties[n].keys.length c3))=PS at hPS1 hPS2 ⊢
   constructor
   (repeat' (first|refine Xf ?_|refine Xb ?_|refine Xd ?_|(apply Xk;(first|exact Xe rfl|exact Ya8|exact Yad|exact Yed|exact Yam);exact rfl)|refine Xp ?_))
   refine W1 (fun q:Nat=>([(2,ex (.pointer (some ⟨b2,0,none⟩))),(4,fpx b4 [U0 M0]),(6,U0 M2),(7,fpx b7 [U0 M3]),(16,ex (.pointer (some ⟨bl,0,none⟩))),(17,fpx b17 [ex (Xbi bl)]),(18,fpx b18 [ex (Xbj b17 b4 b7 b18)]),(20,ex (.pointer (some ⟨bT,0+n * 2,none⟩))),(115,exI .i64 (r.ties.length:Int)),(116,exI .i64 (n:Int)),(135,exI .i64 (r.ties[n].keys.length:Int)),(136,exI .i64 (q:Int))],[vec (.slice oa3 r.ties[n].keys.length c3) 97 3 r.ties[n].keys.length (((r.ties[n].keys.take q).map r.keyP++r.ties[n].keys.drop q).flatMap keyV),row bT 74 (c1 * 2) PS,vec (.slice oa2 r.rounds.length c2) 54 13 r.rounds.length (r.rounds.flatMap (W3 k)),row bl 4 1 [exB (lo|| !(r.ties[n].keys.take q).all r.keyPok)],row b2 29 9 [exT r.name,isl eCrit r.crits,isl eItem r.bonus,isl eItem r.malus,ex (.slice (some ⟨bT,0,none⟩) r.ties.length c1),ex (.slice oa2 r.rounds.length c2),isl eI r.prizes,isl eI r.points,exI .i64 r.best]])) (fun q=>q≤r.ties[n].keys.length) (fun q=>r.ties[n].keys.length-q) 0 ?_ (Nat.zero_le _) fun q hq=>?_
   · simp only [List.take_zero,List.map_nil,List.drop_zero,List.nil_append,List.all_nil,Bool.not_true,Bool.or_false]
     exact Xg (by repeat (first|exact Xm|refine Xh rfl ?_)) (List.Sublist.refl _)
   by_cases hlq:q<r.ties[n].keys.length
   · have eK:=Xeo r.ties[n].keys r.keyP q hlq
     have hKl:=Xhc r.ties[n].keys r.keyP q hlq
     have hKi:=Xlg r.ties[n].keys r.keyP q hlq
     have eB:(lo|| !(r.ties[n].keys.take (q+1)).all r.keyPok)=((lo|| !(r.ties[n].keys.take q).all r.keyPok)|| !r.keyPok r.ties[n].keys[q]):=by
       rw [Xcu hlq,Bool.not_and,Bool.or_assoc]
     generalize ((r.ties[n].keys.take q).map r.keyP++r.ties[n].keys.drop q)=K at eK hKl hKi ⊢
     generalize (lo|| !(r.ties[n].keys.take q).all r.keyPok)=lo2 at eB ⊢
     have hqK:q<K.length:=by omega
     have hKi:=hKi hqK
     generalize hkey:r.ties[n].keys[q]=key at eK eB hKi
     have hKn:(K.flatMap keyV).length=K.length * 3:=Ud (fs:=keyV) (s:=3) (fun _=>rfl) K
     have hK0:(K.flatMap keyV)[0+q * 3+0]?=some (exI .i64 key.kind):=by
       rw [Nat.zero_add,Xaf (fs:=keyV) (s:=3) (fun _=>rfl) K q hqK 0 Yar,hKi];rfl
     have hK1:(K.flatMap keyV)[0+q * 3+1]?=some (exT key.name):=by
       rw [Nat.zero_add,Xaf (fs:=keyV) (s:=3) (fun _=>rfl) K q hqK 1 Yar,hKi];rfl
     have hKset: ∀m:Int,(K.flatMap keyV).set (0+q * 3+2) (exI .i64 m)=(K.set q { key with n:=m }).flatMap keyV:=fun m=>by
       rw [Nat.zero_add]
       exact Xa6 (fs:=keyV) (s:=3) (fun _=>rfl) K q hqK 2 Yar _ _ (by rw [hKi];rfl)
     refine Xag (k:=0) rfl Yan fun bK c3' hv hnc3 hcm3=>?_
     cases hv
     by_cases hk1:key.kind=1
     · rw [hk1] at hK0
       (repeat' (first|(apply Vs 26;refine Stop.out ?_)|refine Xf ?_|refine Xb ?_|refine Xd ?_|(apply Xk;exact Yba;exact rfl)|refine Xp ?_|refine Xs ?_|(refine Xo rfl (fun hb=>?_) (fun hb=>?_)<;>(repeat (first|replace hb:=X0 hb|replace hb:=X1 hb))<;>(try (exfalso;omega)))))
       all_goals (try (exfalso;omega))
       refine ⟨Rc 26 (fun _:Unit=>([(2,ex (.pointer (some ⟨b2,0,none⟩))),(4,fpx b4 [U0 M0]),(6,U0 M2),(7,fpx b7 [U0 M3]),(16,ex (.pointer (some ⟨bl,0,none⟩))),(17,fpx b17 [ex (Xbi bl)]),(18,fpx b18 [ex (Xbj b17 b4 b7 b18)]),(20,ex (.pointer (some ⟨bT,0+n * 2,none⟩))),(115,exI .i64 (r.ties.length:Int)),(116,exI .i64 (n:Int)),(135,exI .i64 (r.ties[n].keys.length:Int)),(136,exI .i64 (q:Int)),(21,exI .i64 (q:Int)),(22,U0 M0),(23,exB true)],[row bK 97 (c3 * 3) (K.flatMap keyV),row bT 74 (c1 * 2) PS,vec (.slice oa2 r.rounds.length c2) 54 13 r.rounds.length (r.rounds.flatMap (W3 k)),row bl 4 1 [exB lo2],row b2 29 9 [exT r.name,isl eCrit r.crits,isl eItem r.bonus,isl eItem r.malus,ex (.slice (some ⟨bT,0,none⟩) r.ties.length c1),ex (.slice oa2 r.rounds.length c2),isl eI r.prizes,isl eI r.points,exI .i64 r.best]])) (fun _=>True) ?_ fun _ _=>?_⟩
       · skip
         (refine W9 22 rfl ?_)
         (apply Xu 1 rfl Yaa rfl Yaa Yab Xa;(exact Yb1);exact rfl)
         (apply Xu 3 rfl Yaa rfl Yaa Yab Xa;(exact Yb1);exact rfl)
         (apply Xc 5 rfl Yaa rfl Yab Xa;(exact Xe rfl);exact rfl)
         (apply Xc 8 rfl Yaa rfl Yab Xa;(exact Xe rfl);exact rfl)
         (apply Xc 9 rfl Yaa rfl Yab Xa;(exact Yam);exact rfl)
         (apply Xc 10 rfl Yaa rfl Yab Xa;(exact Yad);exact rfl)
         (apply Xu 11 rfl Yaa rfl Yaa Yab Xa;(exact Ya8);exact rfl)
         (apply Xc 12 rfl Yaa rfl Yab Xa;(exact Xe rfl);exact rfl)
         (apply Xc 13 rfl Yaa rfl Yab Xa;(exact Ya6);exact rfl)
         (apply Xc 14 rfl Yaa rfl Yab Xa;(exact Yad);exact rfl)
         (apply Xu 15 rfl Yaa rfl Yaa Yab Xa;(exact Ybr);exact rfl)
         (refine Xr 0 Yaa rfl Xa (fun _ _ h=>h) ?_)
         ((apply Xai;refine R0 (κ:=Int) ?_;intro _))
         (refine Xau 2 4 6 Yaa rfl Xa (fun _ _ h=>h) rfl Xa (fun _ _ h=>h) rfl Xa (fun _ _ h=>h) ?_ ?_ ?_)
         ·
           ((apply Wo;refine Wa (κ:=Int) (k:=1) (j:=0) (l0:=_) (.inr rfl) rfl rfl rfl rfl rfl rfl ⟨_,rfl⟩ ?_ (hH:=List.Sublist.refl _)))
           (refine V3 4 6 Yaa rfl Xa (fun _ _ h=>h) rfl Xa (fun _ _ h=>h) ?_ ?_)
           ·
             ((apply Wo;refine Wa (κ:=Int) (k:=2) (j:=0) (l0:=_) (.inr rfl) rfl rfl rfl rfl rfl rfl ⟨_,rfl⟩ ?_ (hH:=List.Sublist.refl _)))
             (refine Xr 6 Yaa rfl Xa (fun _ _ h=>h) ?_)
             ((apply Wo;refine Wa (κ:=Int) (k:=5) (j:=0) (l0:=_) (.inr rfl) rfl rfl rfl rfl rfl rfl ⟨_,rfl⟩ ?_ (hH:=List.Sublist.refl _)))
             (apply Xc 7 rfl Yaa rfl Yab Xa;(exact Xe rfl);exact rfl)
             (refine Xr 16 Yaa rfl Xa (fun _ _ h=>h) ?_)
             ((apply V6;(apply Vd;exact V0 (κ:=Int) (k:=1) (j:=0) rfl rfl rfl rfl rfl rfl ⟨_,rfl⟩ trivial);exact rfl))
             (apply Xc 17 rfl Yaa rfl Yab Xa;(exact Xe rfl);exact rfl)
             (apply Xc 18 rfl Yaa rfl Yab Xa;(exact Wi rfl rfl);exact rfl)
             (apply Xc 19 rfl Yaa rfl Yab Xa;(exact Wi rfl rfl);exact rfl)
             (apply Xc 20 rfl Yaa rfl Yab Xa;(exact Xj rfl);exact rfl)
             (apply Xc 21 rfl Yaa rfl Yab Xa;(exact Xj rfl);exact rfl)
             refine X3 Yaa ?_
             exact Wc () trivial (Wu 1 (by repeat (first|exact Xm|refine Xh rfl ?_)) rfl)
           ·
             ((apply Wo;refine Wa (κ:=Int) (k:=5) (j:=0) (l0:=_) (.inr rfl) rfl rfl rfl rfl rfl rfl ⟨_,rfl⟩ ?_ (hH:=List.Sublist.refl _)))
             (refine Xr 4 Yaa rfl Xa (fun _ _ h=>h) ?_)
             ((apply Wo;refine Wa (κ:=Int) (k:=2) (j:=0) (l0:=_) (.inr rfl) rfl rfl rfl rfl rfl rfl ⟨_,rfl⟩ ?_ (hH:=List.Sublist.refl _)))
             (apply Xc 7 rfl Yaa rfl Yab Xa;(exact Xe rfl);exact rfl)
             (refine Xr 16 Yaa rfl Xa (fun _ _ h=>h) ?_)
             ((apply V6;(apply Vd;exact V0 (κ:=Int) (k:=1) (j:=0) rfl rfl rfl rfl rfl rfl ⟨_,rfl⟩ trivial);exact rfl))
             (apply Xc 17 rfl Yaa rfl Yab Xa;(exact Xe rfl);exact rfl)
             (apply Xc 18 rfl Yaa rfl Yab Xa;(exact Wi rfl rfl);exact rfl)
             (apply Xc 19 rfl Yaa rfl Yab Xa;(exact Wi rfl rfl);exact rfl)
             (apply Xc 20 rfl Yaa rfl Yab Xa;(exact Xj rfl);exact rfl)
             (apply Xc 21 rfl Yaa rfl Yab Xa;(exact Xj rfl);exact rfl)
             refine X3 Yaa ?_
             exact Wc () trivial (Wu 1 (by repeat (first|exact Xm|refine Xh rfl ?_)) rfl)
         ·
           ((apply Wo;refine Wa (κ:=Int) (k:=2) (j:=0) (l0:=_) (.inr rfl) rfl rfl rfl rfl rfl rfl ⟨_,rfl⟩ ?_ (hH:=List.Sublist.refl _)))
           (refine V3 2 6 Yaa rfl Xa (fun _ _ h=>h) rfl Xa (fun _ _ h=>h) ?_ ?_)
           ·
             ((apply Wo;refine Wa (κ:=Int) (k:=1) (j:=0) (l0:=_) (.inr rfl) rfl rfl rfl rfl rfl rfl ⟨_,rfl⟩ ?_ (hH:=List.Sublist.refl _)))
             (refine Xr 6 Yaa rfl Xa (fun _ _ h=>h) ?_)
             ((apply Wo;refine Wa (κ:=Int) (k:=5) (j:=0) (l0:=_) (.inr rfl) rfl rfl rfl rfl rfl rfl ⟨_,rfl⟩ ?_ (hH:=List.Sublist.refl _)))
             (apply Xc 7 rfl Yaa rfl Yab Xa;(exact Xe rfl);exact rfl)
             (refine Xr 16 Yaa rfl Xa (fun _ _ h=>h) ?_)
             ((apply V6;(apply Vd;exact V0 (κ:=Int) (k:=1) (j:=0) rfl rfl rfl rfl rfl rfl ⟨_,rfl⟩ trivial);exact rfl))
             (apply Xc 17 rfl Yaa rfl Yab Xa;(exact Xe rfl);exact rfl)
             (apply Xc 18 rfl Yaa rfl Yab Xa;(exact Wi rfl rfl);exact rfl)
             (apply Xc 19 rfl Yaa rfl Yab Xa;(exact Wi rfl rfl);exact rfl)
             (apply Xc 20 rfl Yaa rfl Yab Xa;(exact Xj rfl);exact rfl)
             (apply Xc 21 rfl Yaa rfl Yab Xa;(exact Xj rfl);exact rfl)
             refine X3 Yaa ?_
             exact Wc () trivial (Wu 1 (by repeat (first|exact Xm|refine Xh rfl ?_)) rfl)
           ·
             ((apply Wo;refine Wa (κ:=Int) (k:=5) (j:=0) (l0:=_) (.inr rfl) rfl rfl rfl rfl rfl rfl ⟨_,rfl⟩ ?_ (hH:=List.Sublist.refl _)))
             (refine Xr 2 Yaa rfl Xa (fun _ _ h=>h) ?_)
             ((apply Wo;refine Wa (κ:=Int) (k:=1) (j:=0) (l0:=_) (.inr rfl) rfl rfl rfl rfl rfl rfl ⟨_,rfl⟩ ?_ (hH:=List.Sublist.refl _)))
             (apply Xc 7 rfl Yaa rfl Yab Xa;(exact Xe rfl);exact rfl)
             (refine Xr 16 Yaa rfl Xa (fun _ _ h=>h) ?_)
             ((apply V6;(apply Vd;exact V0 (κ:=Int) (k:=1) (j:=0) rfl rfl rfl rfl rfl rfl ⟨_,rfl⟩ trivial);exact rfl))
             (apply Xc 17 rfl Yaa rfl Yab Xa;(exact Xe rfl);exact rfl)
             (apply Xc 18 rfl Yaa rfl Yab Xa;(exact Wi rfl rfl);exact rfl)
             (apply Xc 19 rfl Yaa rfl Yab Xa;(exact Wi rfl rfl);exact rfl)
             (apply Xc 20 rfl Yaa rfl Yab Xa;(exact Xj rfl);exact rfl)
             (apply Xc 21 rfl Yaa rfl Yab Xa;(exact Xj rfl);exact rfl)
             refine X3 Yaa ?_
             exact Wc () trivial (Wu 1 (by repeat (first|exact Xm|refine Xh rfl ?_)) rfl)
         ·
           ((apply Wo;refine Wa (κ:=Int) (k:=5) (j:=0) (l0:=_) (.inr rfl) rfl rfl rfl rfl rfl rfl ⟨_,rfl⟩ ?_ (hH:=List.Sublist.refl _)))
           (refine V3 2 4 Yaa rfl Xa (fun _ _ h=>h) rfl Xa (fun _ _ h=>h) ?_ ?_)
           ·
             ((apply Wo;refine Wa (κ:=Int) (k:=1) (j:=0) (l0:=_) (.inr rfl) rfl rfl rfl rfl rfl rfl ⟨_,rfl⟩ ?_ (hH:=List.Sublist.refl _)))
             (refine Xr 4 Yaa rfl Xa (fun _ _ h=>h) ?_)
             ((apply Wo;refine Wa (κ:=Int) (k:=2) (j:=0) (l0:=_) (.inr rfl) rfl rfl rfl rfl rfl rfl ⟨_,rfl⟩ ?_ (hH:=List.Sublist.refl _)))
             (apply Xc 7 rfl Yaa rfl Yab Xa;(exact Xe rfl);exact rfl)
             (refine Xr 16 Yaa rfl Xa (fun _ _ h=>h) ?_)
             ((apply V6;(apply Vd;exact V0 (κ:=Int) (k:=1) (j:=0) rfl rfl rfl rfl rfl rfl ⟨_,rfl⟩ trivial);exact rfl))
             (apply Xc 17 rfl Yaa rfl Yab Xa;(exact Xe rfl);exact rfl)
             (apply Xc 18 rfl Yaa rfl Yab Xa;(exact Wi rfl rfl);exact rfl)
             (apply Xc 19 rfl Yaa rfl Yab Xa;(exact Wi rfl rfl);exact rfl)
             (apply Xc 20 rfl Yaa rfl Yab Xa;(exact Xj rfl);exact rfl)
             (apply Xc 21 rfl Yaa rfl Yab Xa;(exact Xj rfl);exact rfl)
             refine X3 Yaa ?_
             exact Wc () trivial (Wu 1 (by repeat (first|exact Xm|refine Xh rfl ?_)) rfl)
           ·
             ((apply Wo;refine Wa (κ:=Int) (k:=2) (j:=0) (l0:=_) (.inr rfl) rfl rfl rfl rfl rfl rfl ⟨_,rfl⟩ ?_ (hH:=List.Sublist.refl _)))
             (refine Xr 2 Yaa rfl Xa (fun _ _ h=>h) ?_)
             ((apply Wo;refine Wa (κ:=Int) (k:=1) (j:=0) (l0:=_) (.inr rfl) rfl rfl rfl rfl rfl rfl ⟨_,rfl⟩ ?_ (hH:=List.Sublist.refl _)))
             (apply Xc 7 rfl Yaa rfl Yab Xa;(exact Xe rfl);exact rfl)
             (refine Xr 16 Yaa rfl Xa (fun _ _ h=>h) ?_)
             ((apply V6;(apply Vd;exact V0 (κ:=Int) (k:=1) (j:=0) rfl rfl rfl rfl rfl rfl ⟨_,rfl⟩ trivial);exact rfl))
             (apply Xc 17 rfl Yaa rfl Yab Xa;(exact Xe rfl);exact rfl)
             (apply Xc 18 rfl Yaa rfl Yab Xa;(exact Wi rfl rfl);exact rfl)
             (apply Xc 19 rfl Yaa rfl Yab Xa;(exact Wi rfl rfl);exact rfl)
             (apply Xc 20 rfl Yaa rfl Yab Xa;(exact Xj rfl);exact rfl)
             (apply Xc 21 rfl Yaa rfl Yab Xa;(exact Xj rfl);exact rfl)
             refine X3 Yaa ?_
             exact Wc () trivial (Wu 1 (by repeat (first|exact Xm|refine Xh rfl ?_)) rfl)
       have ek:r.keyL key.kind key.name=some (Ex.lookF r.n0 key.name):=by unfold RulesD.keyL;rw [if_pos hk1]
       have eP:r.keyP key={ key with n:=(Ex.lookF r.n0 key.name).getD 0 }:=by unfold RulesD.keyP;rw [ek]
       have eQ:(!r.keyPok key)=(Ex.lookF r.n0 key.name).isNone:=by
         unfold RulesD.keyPok;rw [ek];cases Ex.lookF r.n0 key.name<;>rfl
       rw [eP] at eK
       have hfnd:=Qz M0 key.name (Ex.lookF r.n0 key.name) bl lo2 (h0 _)
       (repeat' (first|(apply W2 28;refine Stop.out ?_)|refine Xf ?_|refine Xb ?_|refine Xd ?_|(apply Xk;(exact Xe rfl);exact rfl)|refine Xx rfl ?_))
       constructor
       refine Uy (fun _:Unit=>([(2,ex (.pointer (some ⟨b2,0,none⟩))),(4,fpx b4 [U0 M0]),(6,U0 M2),(7,fpx b7 [U0 M3]),(16,ex (.pointer (some ⟨bl,0,none⟩))),(17,fpx b17 [ex (Xbi bl)]),(18,fpx b18 [ex (Xbj b17 b4 b7 b18)]),(20,ex (.pointer (some ⟨bT,0+n * 2,none⟩))),(115,exI .i64 (r.ties.length:Int)),(116,exI .i64 (n:Int)),(135,exI .i64 (r.ties[n].keys.length:Int)),(136,exI .i64 (q:Int))],[row bl 4 1 [exB (lo2||(Ex.lookF r.n0 key.name).isNone)],row bK 97 (c3 * 3) ((K.flatMap keyV).set (0+q * 3+2) (exI .i64 ((Ex.lookF r.n0 key.name).getD 0))),row bT 74 (c1 * 2) PS,vec (.slice oa2 r.rounds.length c2) 54 13 r.rounds.length (r.rounds.flatMap (W3 k)),row b2 29 9 [exT r.name,isl eCrit r.crits,isl eItem r.bonus,isl eItem r.malus,ex (.slice (some ⟨bT,0,none⟩) r.ties.length c1),ex (.slice oa2 r.rounds.length c2),isl eI r.prizes,isl eI r.points,exI .i64 r.best]])) (fun _=>True) ?_ fun _ _=>?_
       · skip
         (refine W9 15 rfl ?_)
         (apply Xc 0 rfl Yaa rfl Yab Xa;(exact Xe rfl);exact rfl)
         (apply Xc 1 rfl Yaa rfl Yab Xa;(exact Yam);exact rfl)
         (apply Xc 2 rfl Yaa rfl Yab Xa;(exact Yad);exact rfl)
         (apply Xc 4 rfl Yaa rfl Yab Xa;(exact Xe rfl);exact rfl)
         (apply Xu 5 rfl Yaa rfl Yaa Yab Xa;(exact Yb1);exact rfl)
         (apply Xc 6 rfl Yaa rfl Yab Xa;(exact Xe rfl);exact rfl)
         (apply Xc 7 rfl Yaa rfl Yab Xa;(exact Xe rfl);exact rfl)
         (apply Xc 8 rfl Yaa rfl Yab Xa;(exact Yam);exact rfl)
         (apply Xc 9 rfl Yaa rfl Yab Xa;(exact Yad);exact rfl)
         (apply Xc 11 rfl Yaa rfl Yab Xa;(exact Xe rfl);exact rfl)
         (refine V3 (H1:=fun _=>True) (H2:=fun _=>True) 3 10 Yaa rfl Xa (fun _ _ _=>trivial) rfl Xa (fun _ _ _=>trivial) ?_ ?_)
         ·
           ((apply V6 (H:=fun _=>True);(exact Ya8);exact rfl))
           (refine Xr (H':=fun _=>True) 10 Yaa rfl Xa (fun _ _ _=>trivial) ?_)
           ((apply V6 (H:=fun _=>True);(exact Ya8);exact rfl))
           (apply Xc 12 rfl Yaa rfl Yab Xa;(exact Ya6);exact rfl)
           (apply Xc 13 rfl Yaa rfl Yab Xa;(exact Yad);exact rfl)
           (apply Xu 14 rfl Yaa rfl Yaa Yab Xa;(exact Ybr);exact rfl)
           (refine Xr (H':=U6 []) 15 Yaa rfl Xa (fun h=>absurd h Yar) ?_)
           ((apply Xn;(refine Uk (vs:=[.pointer (some ⟨bl,0,none⟩)]) (caps:=[ex (.pointer (some ⟨bl,0,none⟩))]) (args:=[_,_]) rfl (.ex .nil) (.one 3 rfl .nil) Tryz.func67 rfl hfnd rfl ?_;rintro _ _ ⟨rfl,rfl⟩)))
           (refine Xr (H':=fun _=>True) 16 Yaa rfl Xa (fun _ _ _=>trivial) ?_)
           ((apply V6 (H:=fun _=>True);(exact Ya6);exact rfl))
           (refine Xr (H':=fun _=>True) 17 Yaa rfl Xa (fun _ _ _=>trivial) ?_)
           ((apply V6 (H:=fun _=>True);(exact Yad);exact rfl))
           (refine Xr (H':=U6 []) 18 Yaa rfl Xa (fun h=>absurd h Yar) ?_)
           ((apply Xt;refine Uu (k:=1) (l0:=[]) rfl rfl rfl ?_))
           refine X3 Yaa ?_
           exact Wc () trivial (Xg (by repeat (first|exact Xm|refine Xh rfl ?_)) (List.Sublist.refl _))
         ·
           ((apply V6 (H:=fun _=>True);(exact Ya8);exact rfl))
           (apply Xc 12 rfl Yaa rfl Yab Xa;(exact Ya6);exact rfl)
           (apply Xc 13 rfl Yaa rfl Yab Xa;(exact Yad);exact rfl)
           (apply Xu 14 rfl Yaa rfl Yaa Yab Xa;(exact Ybr);exact rfl)
           (refine V3 (H1:=fun _=>True) (H2:=U6 []) 3 15 Yaa rfl Xa (fun _ _ _=>trivial) rfl Xa (fun h=>absurd h Yar) ?_ ?_)
           ·
             ((apply V6 (H:=fun _=>True);(exact Ya8);exact rfl))
             (refine Xr (H':=U6 []) 15 Yaa rfl Xa (fun h=>absurd h Yar) ?_)
             ((apply Xn;(refine Uk (vs:=[.pointer (some ⟨bl,0,none⟩)]) (caps:=[ex (.pointer (some ⟨bl,0,none⟩))]) (args:=[_,_]) rfl (.ex .nil) (.one 3 rfl .nil) Tryz.func67 rfl hfnd rfl ?_;rintro _ _ ⟨rfl,rfl⟩)))
             (refine Xr (H':=fun _=>True) 16 Yaa rfl Xa (fun _ _ _=>trivial) ?_)
             ((apply V6 (H:=fun _=>True);(exact Ya6);exact rfl))
             (refine Xr (H':=fun _=>True) 17 Yaa rfl Xa (fun _ _ _=>trivial) ?_)
             ((apply V6 (H:=fun _=>True);(exact Yad);exact rfl))
             (refine Xr (H':=U6 []) 18 Yaa rfl Xa (fun h=>absurd h Yar) ?_)
             ((apply Xt;refine Uu (k:=1) (l0:=[]) rfl rfl rfl ?_))
             refine X3 Yaa ?_
             exact Wc () trivial (Xg (by repeat (first|exact Xm|refine Xh rfl ?_)) (List.Sublist.refl _))
           ·
             ((apply Xn;(refine Uk (vs:=[.pointer (some ⟨bl,0,none⟩)]) (caps:=[ex (.pointer (some ⟨bl,0,none⟩))]) (args:=[_,_]) rfl (.ex .nil) (.one 3 rfl .nil) Tryz.func67 rfl hfnd rfl ?_;rintro _ _ ⟨rfl,rfl⟩)))
             (refine Xr (H':=fun _=>True) 3 Yaa rfl Xa (fun _ _ _=>trivial) ?_)
             ((apply V6 (H:=fun _=>True);(exact Yea);exact rfl))
             (refine Xr (H':=fun _=>True) 16 Yaa rfl Xa (fun _ _ _=>trivial) ?_)
             ((apply V6 (H:=fun _=>True);(exact Ya6);exact rfl))
             (refine Xr (H':=fun _=>True) 17 Yaa rfl Xa (fun _ _ _=>trivial) ?_)
             ((apply V6 (H:=fun _=>True);(exact Yad);exact rfl))
             (refine Xr (H':=U6 []) 18 Yaa rfl Xa (fun h=>absurd h Yar) ?_)
             ((apply Xt;refine Uu (k:=1) (l0:=[]) rfl rfl rfl ?_))
             refine X3 Yaa ?_
             exact Wc () trivial (Xg (by repeat (first|exact Xm|refine Xh rfl ?_)) (List.Sublist.refl _))
       (repeat' (first|refine Xb ?_|refine Xd ?_|(apply Xk;exact Ya5;exact rfl)))
       refine ⟨q+1,by omega,by omega,?_⟩
       rw [eK,eB,eQ,←hKset]
       refine (Vj ((List.perm_append_comm (l₁:=[_]) (l₂:=[_,_,_])).append_right [_])).trans ?_
       refine Vi (k:=0) (sz:=3) (n:=r.ties[n].keys.length) (c:=c3) rfl rfl ?_ Yar hcm3 ?_
       · rw [List.length_set,hKn,hKl]
       exact Xg (by repeat (first|exact Xm|refine Xh rfl ?_)) (List.Sublist.refl _)
     by_cases hk2:key.kind=2
     · rw [hk2] at hK0
       (repeat' (first|(apply Vs 26;refine Stop.out ?_)|refine Xf ?_|refine Xb ?_|refine Xd ?_|(apply Xk;exact Yba;exact rfl)|refine Xp ?_|refine Xs ?_|(refine Xo rfl (fun hb=>?_) (fun hb=>?_)<;>(repeat (first|replace hb:=X0 hb|replace hb:=X1 hb))<;>(try (exfalso;omega)))))
       all_goals (try (exfalso;omega))
       refine ⟨Rc 26 (fun _:Unit=>([(2,ex (.pointer (some ⟨b2,0,none⟩))),(4,fpx b4 [U0 M0]),(6,U0 M2),(7,fpx b7 [U0 M3]),(16,ex (.pointer (some ⟨bl,0,none⟩))),(17,fpx b17 [ex (Xbi bl)]),(18,fpx b18 [ex (Xbj b17 b4 b7 b18)]),(20,ex (.pointer (some ⟨bT,0+n * 2,none⟩))),(115,exI .i64 (r.ties.length:Int)),(116,exI .i64 (n:Int)),(135,exI .i64 (r.ties[n].keys.length:Int)),(136,exI .i64 (q:Int)),(21,exI .i64 (q:Int)),(22,U0 M3),(23,exB true)],[row bK 97 (c3 * 3) (K.flatMap keyV),row bT 74 (c1 * 2) PS,vec (.slice oa2 r.rounds.length c2) 54 13 r.rounds.length (r.rounds.flatMap (W3 k)),row bl 4 1 [exB lo2],row b2 29 9 [exT r.name,isl eCrit r.crits,isl eItem r.bonus,isl eItem r.malus,ex (.slice (some ⟨bT,0,none⟩) r.ties.length c1),ex (.slice oa2 r.rounds.length c2),isl eI r.prizes,isl eI r.points,exI .i64 r.best]])) (fun _=>True) ?_ fun _ _=>?_⟩
       · skip
         (refine W9 22 rfl ?_)
         (apply Xu 1 rfl Yaa rfl Yaa Yab Xa;(exact Yb1);exact rfl)
         (apply Xu 3 rfl Yaa rfl Yaa Yab Xa;(exact Yb1);exact rfl)
         (apply Xc 5 rfl Yaa rfl Yab Xa;(exact Xe rfl);exact rfl)
         (apply Xc 8 rfl Yaa rfl Yab Xa;(exact Xe rfl);exact rfl)
         (apply Xc 9 rfl Yaa rfl Yab Xa;(exact Yam);exact rfl)
         (apply Xc 10 rfl Yaa rfl Yab Xa;(exact Yad);exact rfl)
         (apply Xu 11 rfl Yaa rfl Yaa Yab Xa;(exact Ya8);exact rfl)
         (apply Xc 12 rfl Yaa rfl Yab Xa;(exact Xe rfl);exact rfl)
         (apply Xc 13 rfl Yaa rfl Yab Xa;(exact Ya6);exact rfl)
         (apply Xc 14 rfl Yaa rfl Yab Xa;(exact Yad);exact rfl)
         (apply Xu 15 rfl Yaa rfl Yaa Yab Xa;(exact Ybr);exact rfl)
         (refine Xr 0 Yaa rfl Xa (fun _ _ h=>h) ?_)
         ((apply Xai;refine R0 (κ:=Int) ?_;intro _))
         (refine Xau 2 4 6 Yaa rfl Xa (fun _ _ h=>h) rfl Xa (fun _ _ h=>h) rfl Xa (fun _ _ h=>h) ?_ ?_ ?_)
         ·
           ((apply Wo;refine Wa (κ:=Int) (k:=1) (j:=0) (l0:=_) (.inr rfl) rfl rfl rfl rfl rfl rfl ⟨_,rfl⟩ ?_ (hH:=List.Sublist.refl _)))
           (refine V3 4 6 Yaa rfl Xa (fun _ _ h=>h) rfl Xa (fun _ _ h=>h) ?_ ?_)
           ·
             ((apply Wo;refine Wa (κ:=Int) (k:=2) (j:=0) (l0:=_) (.inr rfl) rfl rfl rfl rfl rfl rfl ⟨_,rfl⟩ ?_ (hH:=List.Sublist.refl _)))
             (refine Xr 6 Yaa rfl Xa (fun _ _ h=>h) ?_)
             ((apply Wo;refine Wa (κ:=Int) (k:=5) (j:=0) (l0:=_) (.inr rfl) rfl rfl rfl rfl rfl rfl ⟨_,rfl⟩ ?_ (hH:=List.Sublist.refl _)))
             (apply Xc 7 rfl Yaa rfl Yab Xa;(exact Xe rfl);exact rfl)
             (refine Xr 16 Yaa rfl Xa (fun _ _ h=>h) ?_)
             ((apply V6;(apply Vd;exact V0 (κ:=Int) (k:=2) (j:=0) rfl rfl rfl rfl rfl rfl ⟨_,rfl⟩ trivial);exact rfl))
             (apply Xc 17 rfl Yaa rfl Yab Xa;(exact Xe rfl);exact rfl)
             (apply Xc 18 rfl Yaa rfl Yab Xa;(exact Wi rfl rfl);exact rfl)
             (apply Xc 19 rfl Yaa rfl Yab Xa;(exact Wi rfl rfl);exact rfl)
             (apply Xc 20 rfl Yaa rfl Yab Xa;(exact Xj rfl);exact rfl)
             (apply Xc 21 rfl Yaa rfl Yab Xa;(exact Xj rfl);exact rfl)
             refine X3 Yaa ?_
             exact Wc () trivial (Wu 1 (by repeat (first|exact Xm|refine Xh rfl ?_)) rfl)
           ·
             ((apply Wo;refine Wa (κ:=Int) (k:=5) (j:=0) (l0:=_) (.inr rfl) rfl rfl rfl rfl rfl rfl ⟨_,rfl⟩ ?_ (hH:=List.Sublist.refl _)))
             (refine Xr 4 Yaa rfl Xa (fun _ _ h=>h) ?_)
             ((apply Wo;refine Wa (κ:=Int) (k:=2) (j:=0) (l0:=_) (.inr rfl) rfl rfl rfl rfl rfl rfl ⟨_,rfl⟩ ?_ (hH:=List.Sublist.refl _)))
             (apply Xc 7 rfl Yaa rfl Yab Xa;(exact Xe rfl);exact rfl)
             (refine Xr 16 Yaa rfl Xa (fun _ _ h=>h) ?_)
             ((apply V6;(apply Vd;exact V0 (κ:=Int) (k:=2) (j:=0) rfl rfl rfl rfl rfl rfl ⟨_,rfl⟩ trivial);exact rfl))
             (apply Xc 17 rfl Yaa rfl Yab Xa;(exact Xe rfl);exact rfl)
             (apply Xc 18 rfl Yaa rfl Yab Xa;(exact Wi rfl rfl);exact rfl)
             (apply Xc 19 rfl Yaa rfl Yab Xa;(exact Wi rfl rfl);exact rfl)
             (apply Xc 20 rfl Yaa rfl Yab Xa;(exact Xj rfl);exact rfl)
             (apply Xc 21 rfl Yaa rfl Yab Xa;(exact Xj rfl);exact rfl)
             refine X3 Yaa ?_
             exact Wc () trivial (Wu 1 (by repeat (first|exact Xm|refine Xh rfl ?_)) rfl)
         ·
           ((apply Wo;refine Wa (κ:=Int) (k:=2) (j:=0) (l0:=_) (.inr rfl) rfl rfl rfl rfl rfl rfl ⟨_,rfl⟩ ?_ (hH:=List.Sublist.refl _)))
           (refine V3 2 6 Yaa rfl Xa (fun _ _ h=>h) rfl Xa (fun _ _ h=>h) ?_ ?_)
           ·
             ((apply Wo;refine Wa (κ:=Int) (k:=1) (j:=0) (l0:=_) (.inr rfl) rfl rfl rfl rfl rfl rfl ⟨_,rfl⟩ ?_ (hH:=List.Sublist.refl _)))
             (refine Xr 6 Yaa rfl Xa (fun _ _ h=>h) ?_)
             ((apply Wo;refine Wa (κ:=Int) (k:=5) (j:=0) (l0:=_) (.inr rfl) rfl rfl rfl rfl rfl rfl ⟨_,rfl⟩ ?_ (hH:=List.Sublist.refl _)))
             (apply Xc 7 rfl Yaa rfl Yab Xa;(exact Xe rfl);exact rfl)
             (refine Xr 16 Yaa rfl Xa (fun _ _ h=>h) ?_)
             ((apply V6;(apply Vd;exact V0 (κ:=Int) (k:=2) (j:=0) rfl rfl rfl rfl rfl rfl ⟨_,rfl⟩ trivial);exact rfl))
             (apply Xc 17 rfl Yaa rfl Yab Xa;(exact Xe rfl);exact rfl)
             (apply Xc 18 rfl Yaa rfl Yab Xa;(exact Wi rfl rfl);exact rfl)
             (apply Xc 19 rfl Yaa rfl Yab Xa;(exact Wi rfl rfl);exact rfl)
             (apply Xc 20 rfl Yaa rfl Yab Xa;(exact Xj rfl);exact rfl)
             (apply Xc 21 rfl Yaa rfl Yab Xa;(exact Xj rfl);exact rfl)
             refine X3 Yaa ?_
             exact Wc () trivial (Wu 1 (by repeat (first|exact Xm|refine Xh rfl ?_)) rfl)
           ·
             ((apply Wo;refine Wa (κ:=Int) (k:=5) (j:=0) (l0:=_) (.inr rfl) rfl rfl rfl rfl rfl rfl ⟨_,rfl⟩ ?_ (hH:=List.Sublist.refl _)))
             (refine Xr 2 Yaa rfl Xa (fun _ _ h=>h) ?_)
             ((apply Wo;refine Wa (κ:=Int) (k:=1) (j:=0) (l0:=_) (.inr rfl) rfl rfl rfl rfl rfl rfl ⟨_,rfl⟩ ?_ (hH:=List.Sublist.refl _)))
             (apply Xc 7 rfl Yaa rfl Yab Xa;(exact Xe rfl);exact rfl)
             (refine Xr 16 Yaa rfl Xa (fun _ _ h=>h) ?_)
             ((apply V6;(apply Vd;exact V0 (κ:=Int) (k:=2) (j:=0) rfl rfl rfl rfl rfl rfl ⟨_,rfl⟩ trivial);exact rfl))
             (apply Xc 17 rfl Yaa rfl Yab Xa;(exact Xe rfl);exact rfl)
             (apply Xc 18 rfl Yaa rfl Yab Xa;(exact Wi rfl rfl);exact rfl)
             (apply Xc 19 rfl Yaa rfl Yab Xa;(exact Wi rfl rfl);exact rfl)
             (apply Xc 20 rfl Yaa rfl Yab Xa;(exact Xj rfl);exact rfl)
             (apply Xc 21 rfl Yaa rfl Yab Xa;(exact Xj rfl);exact rfl)
             refine X3 Yaa ?_
             exact Wc () trivial (Wu 1 (by repeat (first|exact Xm|refine Xh rfl ?_)) rfl)
         ·
           ((apply Wo;refine Wa (κ:=Int) (k:=5) (j:=0) (l0:=_) (.inr rfl) rfl rfl rfl rfl rfl rfl ⟨_,rfl⟩ ?_ (hH:=List.Sublist.refl _)))
           (refine V3 2 4 Yaa rfl Xa (fun _ _ h=>h) rfl Xa (fun _ _ h=>h) ?_ ?_)
           ·
             ((apply Wo;refine Wa (κ:=Int) (k:=1) (j:=0) (l0:=_) (.inr rfl) rfl rfl rfl rfl rfl rfl ⟨_,rfl⟩ ?_ (hH:=List.Sublist.refl _)))
             (refine Xr 4 Yaa rfl Xa (fun _ _ h=>h) ?_)
             ((apply Wo;refine Wa (κ:=Int) (k:=2) (j:=0) (l0:=_) (.inr rfl) rfl rfl rfl rfl rfl rfl ⟨_,rfl⟩ ?_ (hH:=List.Sublist.refl _)))
             (apply Xc 7 rfl Yaa rfl Yab Xa;(exact Xe rfl);exact rfl)
             (refine Xr 16 Yaa rfl Xa (fun _ _ h=>h) ?_)
             ((apply V6;(apply Vd;exact V0 (κ:=Int) (k:=2) (j:=0) rfl rfl rfl rfl rfl rfl ⟨_,rfl⟩ trivial);exact rfl))
             (apply Xc 17 rfl Yaa rfl Yab Xa;(exact Xe rfl);exact rfl)
             (apply Xc 18 rfl Yaa rfl Yab Xa;(exact Wi rfl rfl);exact rfl)
             (apply Xc 19 rfl Yaa rfl Yab Xa;(exact Wi rfl rfl);exact rfl)
             (apply Xc 20 rfl Yaa rfl Yab Xa;(exact Xj rfl);exact rfl)
             (apply Xc 21 rfl Yaa rfl Yab Xa;(exact Xj rfl);exact rfl)
             refine X3 Yaa ?_
             exact Wc () trivial (Wu 1 (by repeat (first|exact Xm|refine Xh rfl ?_)) rfl)
           ·
             ((apply Wo;refine Wa (κ:=Int) (k:=2) (j:=0) (l0:=_) (.inr rfl) rfl rfl rfl rfl rfl rfl ⟨_,rfl⟩ ?_ (hH:=List.Sublist.refl _)))
             (refine Xr 2 Yaa rfl Xa (fun _ _ h=>h) ?_)
             ((apply Wo;refine Wa (κ:=Int) (k:=1) (j:=0) (l0:=_) (.inr rfl) rfl rfl rfl rfl rfl rfl ⟨_,rfl⟩ ?_ (hH:=List.Sublist.refl _)))
             (apply Xc 7 rfl Yaa rfl Yab Xa;(exact Xe rfl);exact rfl)
             (refine Xr 16 Yaa rfl Xa (fun _ _ h=>h) ?_)
             ((apply V6;(apply Vd;exact V0 (κ:=Int) (k:=2) (j:=0) rfl rfl rfl rfl rfl rfl ⟨_,rfl⟩ trivial);exact rfl))
             (apply Xc 17 rfl Yaa rfl Yab Xa;(exact Xe rfl);exact rfl)
             (apply Xc 18 rfl Yaa rfl Yab Xa;(exact Wi rfl rfl);exact rfl)
             (apply Xc 19 rfl Yaa rfl Yab Xa;(exact Wi rfl rfl);exact rfl)
             (apply Xc 20 rfl Yaa rfl Yab Xa;(exact Xj rfl);exact rfl)
             (apply Xc 21 rfl Yaa rfl Yab Xa;(exact Xj rfl);exact rfl)
             refine X3 Yaa ?_
             exact Wc () trivial (Wu 1 (by repeat (first|exact Xm|refine Xh rfl ?_)) rfl)
       have ek:r.keyL key.kind key.name=some (Ex.lookF r.n3 key.name):=by unfold RulesD.keyL;rw [if_neg hk1,if_pos hk2]
       have eP:r.keyP key={ key with n:=(Ex.lookF r.n3 key.name).getD 0 }:=by unfold RulesD.keyP;rw [ek]
       have eQ:(!r.keyPok key)=(Ex.lookF r.n3 key.name).isNone:=by
         unfold RulesD.keyPok;rw [ek];cases Ex.lookF r.n3 key.name<;>rfl
       rw [eP] at eK
       have hfnd:=Qz M3 key.name (Ex.lookF r.n3 key.name) bl lo2 (h3 _)
       (repeat' (first|(apply W2 28;refine Stop.out ?_)|refine Xf ?_|refine Xb ?_|refine Xd ?_|(apply Xk;(exact Xe rfl);exact rfl)|refine Xx rfl ?_))
       constructor
       refine Uy (fun _:Unit=>([(2,ex (.pointer (some ⟨b2,0,none⟩))),(4,fpx b4 [U0 M0]),(6,U0 M2),(7,fpx b7 [U0 M3]),(16,ex (.pointer (some ⟨bl,0,none⟩))),(17,fpx b17 [ex (Xbi bl)]),(18,fpx b18 [ex (Xbj b17 b4 b7 b18)]),(20,ex (.pointer (some ⟨bT,0+n * 2,none⟩))),(115,exI .i64 (r.ties.length:Int)),(116,exI .i64 (n:Int)),(135,exI .i64 (r.ties[n].keys.length:Int)),(136,exI .i64 (q:Int))],[row bl 4 1 [exB (lo2||(Ex.lookF r.n3 key.name).isNone)],row bK 97 (c3 * 3) ((K.flatMap keyV).set (0+q * 3+2) (exI .i64 ((Ex.lookF r.n3 key.name).getD 0))),row bT 74 (c1 * 2) PS,vec (.slice oa2 r.rounds.length c2) 54 13 r.rounds.length (r.rounds.flatMap (W3 k)),row b2 29 9 [exT r.name,isl eCrit r.crits,isl eItem r.bonus,isl eItem r.malus,ex (.slice (some ⟨bT,0,none⟩) r.ties.length c1),ex (.slice oa2 r.rounds.length c2),isl eI r.prizes,isl eI r.points,exI .i64 r.best]])) (fun _=>True) ?_ fun _ _=>?_
       · skip
         (refine W9 15 rfl ?_)
         (apply Xc 0 rfl Yaa rfl Yab Xa;(exact Xe rfl);exact rfl)
         (apply Xc 1 rfl Yaa rfl Yab Xa;(exact Yam);exact rfl)
         (apply Xc 2 rfl Yaa rfl Yab Xa;(exact Yad);exact rfl)
         (apply Xc 4 rfl Yaa rfl Yab Xa;(exact Xe rfl);exact rfl)
         (apply Xu 5 rfl Yaa rfl Yaa Yab Xa;(exact Yb1);exact rfl)
         (apply Xc 6 rfl Yaa rfl Yab Xa;(exact Xe rfl);exact rfl)
         (apply Xc 7 rfl Yaa rfl Yab Xa;(exact Xe rfl);exact rfl)
         (apply Xc 8 rfl Yaa rfl Yab Xa;(exact Yam);exact rfl)
         (apply Xc 9 rfl Yaa rfl Yab Xa;(exact Yad);exact rfl)
         (apply Xc 11 rfl Yaa rfl Yab Xa;(exact Xe rfl);exact rfl)
         (refine V3 (H1:=fun _=>True) (H2:=fun _=>True) 3 10 Yaa rfl Xa (fun _ _ _=>trivial) rfl Xa (fun _ _ _=>trivial) ?_ ?_)
         ·
           ((apply V6 (H:=fun _=>True);(exact Ya8);exact rfl))
           (refine Xr (H':=fun _=>True) 10 Yaa rfl Xa (fun _ _ _=>trivial) ?_)
           ((apply V6 (H:=fun _=>True);(exact Ya8);exact rfl))
           (apply Xc 12 rfl Yaa rfl Yab Xa;(exact Ya6);exact rfl)
           (apply Xc 13 rfl Yaa rfl Yab Xa;(exact Yad);exact rfl)
           (apply Xu 14 rfl Yaa rfl Yaa Yab Xa;(exact Ybr);exact rfl)
           (refine Xr (H':=U6 []) 15 Yaa rfl Xa (fun h=>absurd h Yar) ?_)
           ((apply Xn;(refine Uk (vs:=[.pointer (some ⟨bl,0,none⟩)]) (caps:=[ex (.pointer (some ⟨bl,0,none⟩))]) (args:=[_,_]) rfl (.ex .nil) (.one 3 rfl .nil) Tryz.func67 rfl hfnd rfl ?_;rintro _ _ ⟨rfl,rfl⟩)))
           (refine Xr (H':=fun _=>True) 16 Yaa rfl Xa (fun _ _ _=>trivial) ?_)
           ((apply V6 (H:=fun _=>True);(exact Ya6);exact rfl))
           (refine Xr (H':=fun _=>True) 17 Yaa rfl Xa (fun _ _ _=>trivial) ?_)
           ((apply V6 (H:=fun _=>True);(exact Yad);exact rfl))
           (refine Xr (H':=U6 []) 18 Yaa rfl Xa (fun h=>absurd h Yar) ?_)
           ((apply Xt;refine Uu (k:=1) (l0:=[]) rfl rfl rfl ?_))
           refine X3 Yaa ?_
           exact Wc () trivial (Xg (by repeat (first|exact Xm|refine Xh rfl ?_)) (List.Sublist.refl _))
         ·
           ((apply V6 (H:=fun _=>True);(exact Ya8);exact rfl))
           (apply Xc 12 rfl Yaa rfl Yab Xa;(exact Ya6);exact rfl)
           (apply Xc 13 rfl Yaa rfl Yab Xa;(exact Yad);exact rfl)
           (apply Xu 14 rfl Yaa rfl Yaa Yab Xa;(exact Ybr);exact rfl)
           (refine V3 (H1:=fun _=>True) (H2:=U6 []) 3 15 Yaa rfl Xa (fun _ _ _=>trivial) rfl Xa (fun h=>absurd h Yar) ?_ ?_)
           ·
             ((apply V6 (H:=fun _=>True);(exact Ya8);exact rfl))
             (refine Xr (H':=U6 []) 15 Yaa rfl Xa (fun h=>absurd h Yar) ?_)
             ((apply Xn;(refine Uk (vs:=[.pointer (some ⟨bl,0,none⟩)]) (caps:=[ex (.pointer (some ⟨bl,0,none⟩))]) (args:=[_,_]) rfl (.ex .nil) (.one 3 rfl .nil) Tryz.func67 rfl hfnd rfl ?_;rintro _ _ ⟨rfl,rfl⟩)))
             (refine Xr (H':=fun _=>True) 16 Yaa rfl Xa (fun _ _ _=>trivial) ?_)
             ((apply V6 (H:=fun _=>True);(exact Ya6);exact rfl))
             (refine Xr (H':=fun _=>True) 17 Yaa rfl Xa (fun _ _ _=>trivial) ?_)
             ((apply V6 (H:=fun _=>True);(exact Yad);exact rfl))
             (refine Xr (H':=U6 []) 18 Yaa rfl Xa (fun h=>absurd h Yar) ?_)
             ((apply Xt;refine Uu (k:=1) (l0:=[]) rfl rfl rfl ?_))
             refine X3 Yaa ?_
             exact Wc () trivial (Xg (by repeat (first|exact Xm|refine Xh rfl ?_)) (List.Sublist.refl _))
           ·
             ((apply Xn;(refine Uk (vs:=[.pointer (some ⟨bl,0,none⟩)]) (caps:=[ex (.pointer (some ⟨bl,0,none⟩))]) (args:=[_,_]) rfl (.ex .nil) (.one 3 rfl .nil) Tryz.func67 rfl hfnd rfl ?_;rintro _ _ ⟨rfl,rfl⟩)))
             (refine Xr (H':=fun _=>True) 3 Yaa rfl Xa (fun _ _ _=>trivial) ?_)
             ((apply V6 (H:=fun _=>True);(exact Yea);exact rfl))
             (refine Xr (H':=fun _=>True) 16 Yaa rfl Xa (fun _ _ _=>trivial) ?_)
             ((apply V6 (H:=fun _=>True);(exact Ya6);exact rfl))
             (refine Xr (H':=fun _=>True) 17 Yaa rfl Xa (fun _ _ _=>trivial) ?_)
             ((apply V6 (H:=fun _=>True);(exact Yad);exact rfl))
             (refine Xr (H':=U6 []) 18 Yaa rfl Xa (fun h=>absurd h Yar) ?_)
             ((apply Xt;refine Uu (k:=1) (l0:=[]) rfl rfl rfl ?_))
             refine X3 Yaa ?_
             exact Wc () trivial (Xg (by repeat (first|exact Xm|refine Xh rfl ?_)) (List.Sublist.refl _))
       (repeat' (first|refine Xb ?_|refine Xd ?_|(apply Xk;exact Ya5;exact rfl)))
       refine ⟨q+1,by omega,by omega,?_⟩
       rw [eK,eB,eQ,←hKset]
       refine (Vj ((List.perm_append_comm (l₁:=[_]) (l₂:=[_,_,_])).append_right [_])).trans ?_
       refine Vi (k:=0) (sz:=3) (n:=r.ties[n].keys.length) (c:=c3) rfl rfl ?_ Yar hcm3 ?_
       · rw [List.length_set,hKn,hKl]
       exact Xg (by repeat (first|exact Xm|refine Xh rfl ?_)) (List.Sublist.refl _)
     by_cases hk5:key.kind=5
     · rw [hk5] at hK0
       (repeat' (first|(apply Vs 26;refine Stop.out ?_)|refine Xf ?_|refine Xb ?_|refine Xd ?_|(apply Xk;exact Yba;exact rfl)|refine Xp ?_|refine Xs ?_|(refine Xo rfl (fun hb=>?_) (fun hb=>?_)<;>(repeat (first|replace hb:=X0 hb|replace hb:=X1 hb))<;>(try (exfalso;omega)))))
       all_goals (try (exfalso;omega))
       refine ⟨Rc 26 (fun _:Unit=>([(2,ex (.pointer (some ⟨b2,0,none⟩))),(4,fpx b4 [U0 M0]),(6,U0 M2),(7,fpx b7 [U0 M3]),(16,ex (.pointer (some ⟨bl,0,none⟩))),(17,fpx b17 [ex (Xbi bl)]),(18,fpx b18 [ex (Xbj b17 b4 b7 b18)]),(20,ex (.pointer (some ⟨bT,0+n * 2,none⟩))),(115,exI .i64 (r.ties.length:Int)),(116,exI .i64 (n:Int)),(135,exI .i64 (r.ties[n].keys.length:Int)),(136,exI .i64 (q:Int)),(21,exI .i64 (q:Int)),(22,U0 M2),(23,exB true)],[row bK 97 (c3 * 3) (K.flatMap keyV),row bT 74 (c1 * 2) PS,vec (.slice oa2 r.rounds.length c2) 54 13 r.rounds.length (r.rounds.flatMap (W3 k)),row bl 4 1 [exB lo2],row b2 29 9 [exT r.name,isl eCrit r.crits,isl eItem r.bonus,isl eItem r.malus,ex (.slice (some ⟨bT,0,none⟩) r.ties.length c1),ex (.slice oa2 r.rounds.length c2),isl eI r.prizes,isl eI r.points,exI .i64 r.best]])) (fun _=>True) ?_ fun _ _=>?_⟩
       · skip
         (refine W9 22 rfl ?_)
         (apply Xu 1 rfl Yaa rfl Yaa Yab Xa;(exact Yb1);exact rfl)
         (apply Xu 3 rfl Yaa rfl Yaa Yab Xa;(exact Yb1);exact rfl)
         (apply Xc 5 rfl Yaa rfl Yab Xa;(exact Xe rfl);exact rfl)
         (apply Xc 8 rfl Yaa rfl Yab Xa;(exact Xe rfl);exact rfl)
         (apply Xc 9 rfl Yaa rfl Yab Xa;(exact Yam);exact rfl)
         (apply Xc 10 rfl Yaa rfl Yab Xa;(exact Yad);exact rfl)
         (apply Xu 11 rfl Yaa rfl Yaa Yab Xa;(exact Ya8);exact rfl)
         (apply Xc 12 rfl Yaa rfl Yab Xa;(exact Xe rfl);exact rfl)
         (apply Xc 13 rfl Yaa rfl Yab Xa;(exact Ya6);exact rfl)
         (apply Xc 14 rfl Yaa rfl Yab Xa;(exact Yad);exact rfl)
         (apply Xu 15 rfl Yaa rfl Yaa Yab Xa;(exact Ybr);exact rfl)
         (refine Xr 0 Yaa rfl Xa (fun _ _ h=>h) ?_)
         ((apply Xai;refine R0 (κ:=Int) ?_;intro _))
         (refine Xau 2 4 6 Yaa rfl Xa (fun _ _ h=>h) rfl Xa (fun _ _ h=>h) rfl Xa (fun _ _ h=>h) ?_ ?_ ?_)
         ·
           ((apply Wo;refine Wa (κ:=Int) (k:=1) (j:=0) (l0:=_) (.inr rfl) rfl rfl rfl rfl rfl rfl ⟨_,rfl⟩ ?_ (hH:=List.Sublist.refl _)))
           (refine V3 4 6 Yaa rfl Xa (fun _ _ h=>h) rfl Xa (fun _ _ h=>h) ?_ ?_)
           ·
             ((apply Wo;refine Wa (κ:=Int) (k:=2) (j:=0) (l0:=_) (.inr rfl) rfl rfl rfl rfl rfl rfl ⟨_,rfl⟩ ?_ (hH:=List.Sublist.refl _)))
             (refine Xr 6 Yaa rfl Xa (fun _ _ h=>h) ?_)
             ((apply Wo;refine Wa (κ:=Int) (k:=5) (j:=0) (l0:=_) (.inr rfl) rfl rfl rfl rfl rfl rfl ⟨_,rfl⟩ ?_ (hH:=List.Sublist.refl _)))
             (apply Xc 7 rfl Yaa rfl Yab Xa;(exact Xe rfl);exact rfl)
             (refine Xr 16 Yaa rfl Xa (fun _ _ h=>h) ?_)
             ((apply V6;(apply Vd;exact V0 (κ:=Int) (k:=5) (j:=0) rfl rfl rfl rfl rfl rfl ⟨_,rfl⟩ trivial);exact rfl))
             (apply Xc 17 rfl Yaa rfl Yab Xa;(exact Xe rfl);exact rfl)
             (apply Xc 18 rfl Yaa rfl Yab Xa;(exact Wi rfl rfl);exact rfl)
             (apply Xc 19 rfl Yaa rfl Yab Xa;(exact Wi rfl rfl);exact rfl)
             (apply Xc 20 rfl Yaa rfl Yab Xa;(exact Xj rfl);exact rfl)
             (apply Xc 21 rfl Yaa rfl Yab Xa;(exact Xj rfl);exact rfl)
             refine X3 Yaa ?_
             exact Wc () trivial (Wu 1 (by repeat (first|exact Xm|refine Xh rfl ?_)) rfl)
           ·
             ((apply Wo;refine Wa (κ:=Int) (k:=5) (j:=0) (l0:=_) (.inr rfl) rfl rfl rfl rfl rfl rfl ⟨_,rfl⟩ ?_ (hH:=List.Sublist.refl _)))
             (refine Xr 4 Yaa rfl Xa (fun _ _ h=>h) ?_)
             ((apply Wo;refine Wa (κ:=Int) (k:=2) (j:=0) (l0:=_) (.inr rfl) rfl rfl rfl rfl rfl rfl ⟨_,rfl⟩ ?_ (hH:=List.Sublist.refl _)))
             (apply Xc 7 rfl Yaa rfl Yab Xa;(exact Xe rfl);exact rfl)
             (refine Xr 16 Yaa rfl Xa (fun _ _ h=>h) ?_)
             ((apply V6;(apply Vd;exact V0 (κ:=Int) (k:=5) (j:=0) rfl rfl rfl rfl rfl rfl ⟨_,rfl⟩ trivial);exact rfl))
             (apply Xc 17 rfl Yaa rfl Yab Xa;(exact Xe rfl);exact rfl)
             (apply Xc 18 rfl Yaa rfl Yab Xa;(exact Wi rfl rfl);exact rfl)
             (apply Xc 19 rfl Yaa rfl Yab Xa;(exact Wi rfl rfl);exact rfl)
             (apply Xc 20 rfl Yaa rfl Yab Xa;(exact Xj rfl);exact rfl)
             (apply Xc 21 rfl Yaa rfl Yab Xa;(exact Xj rfl);exact rfl)
             refine X3 Yaa ?_
             exact Wc () trivial (Wu 1 (by repeat (first|exact Xm|refine Xh rfl ?_)) rfl)
         ·
           ((apply Wo;refine Wa (κ:=Int) (k:=2) (j:=0) (l0:=_) (.inr rfl) rfl rfl rfl rfl rfl rfl ⟨_,rfl⟩ ?_ (hH:=List.Sublist.refl _)))
           (refine V3 2 6 Yaa rfl Xa (fun _ _ h=>h) rfl Xa (fun _ _ h=>h) ?_ ?_)
           ·
             ((apply Wo;refine Wa (κ:=Int) (k:=1) (j:=0) (l0:=_) (.inr rfl) rfl rfl rfl rfl rfl rfl ⟨_,rfl⟩ ?_ (hH:=List.Sublist.refl _)))
             (refine Xr 6 Yaa rfl Xa (fun _ _ h=>h) ?_)
             ((apply Wo;refine Wa (κ:=Int) (k:=5) (j:=0) (l0:=_) (.inr rfl) rfl rfl rfl rfl rfl rfl ⟨_,rfl⟩ ?_ (hH:=List.Sublist.refl _)))
             (apply Xc 7 rfl Yaa rfl Yab Xa;(exact Xe rfl);exact rfl)
             (refine Xr 16 Yaa rfl Xa (fun _ _ h=>h) ?_)
             ((apply V6;(apply Vd;exact V0 (κ:=Int) (k:=5) (j:=0) rfl rfl rfl rfl rfl rfl ⟨_,rfl⟩ trivial);exact rfl))
             (apply Xc 17 rfl Yaa rfl Yab Xa;(exact Xe rfl);exact rfl)
             (apply Xc 18 rfl Yaa rfl Yab Xa;(exact Wi rfl rfl);exact rfl)
             (apply Xc 19 rfl Yaa rfl Yab Xa;(exact Wi rfl rfl);exact rfl)
             (apply Xc 20 rfl Yaa rfl Yab Xa;(exact Xj rfl);exact rfl)
             (apply Xc 21 rfl Yaa rfl Yab Xa;(exact Xj rfl);exact rfl)
             refine X3 Yaa ?_
             exact Wc () trivial (Wu 1 (by repeat (first|exact Xm|refine Xh rfl ?_)) rfl)
           ·
             ((apply Wo;refine Wa (κ:=Int) (k:=5) (j:=0) (l0:=_) (.inr rfl) rfl rfl rfl rfl rfl rfl ⟨_,rfl⟩ ?_ (hH:=List.Sublist.refl _)))
             (refine Xr 2 Yaa rfl Xa (fun _ _ h=>h) ?_)
             ((apply Wo;refine Wa (κ:=Int) (k:=1) (j:=0) (l0:=_) (.inr rfl) rfl rfl rfl rfl rfl rfl ⟨_,rfl⟩ ?_ (hH:=List.Sublist.refl _)))
             (apply Xc 7 rfl Yaa rfl Yab Xa;(exact Xe rfl);exact rfl)
             (refine Xr 16 Yaa rfl Xa (fun _ _ h=>h) ?_)
             ((apply V6;(apply Vd;exact V0 (κ:=Int) (k:=5) (j:=0) rfl rfl rfl rfl rfl rfl ⟨_,rfl⟩ trivial);exact rfl))
             (apply Xc 17 rfl Yaa rfl Yab Xa;(exact Xe rfl);exact rfl)
             (apply Xc 18 rfl Yaa rfl Yab Xa;(exact Wi rfl rfl);exact rfl)
             (apply Xc 19 rfl Yaa rfl Yab Xa;(exact Wi rfl rfl);exact rfl)
             (apply Xc 20 rfl Yaa rfl Yab Xa;(exact Xj rfl);exact rfl)
             (apply Xc 21 rfl Yaa rfl Yab Xa;(exact Xj rfl);exact rfl)
             refine X3 Yaa ?_
             exact Wc () trivial (Wu 1 (by repeat (first|exact Xm|refine Xh rfl ?_)) rfl)
         ·
           ((apply Wo;refine Wa (κ:=Int) (k:=5) (j:=0) (l0:=_) (.inr rfl) rfl rfl rfl rfl rfl rfl ⟨_,rfl⟩ ?_ (hH:=List.Sublist.refl _)))
           (refine V3 2 4 Yaa rfl Xa (fun _ _ h=>h) rfl Xa (fun _ _ h=>h) ?_ ?_)
           ·
             ((apply Wo;refine Wa (κ:=Int) (k:=1) (j:=0) (l0:=_) (.inr rfl) rfl rfl rfl rfl rfl rfl ⟨_,rfl⟩ ?_ (hH:=List.Sublist.refl _)))
             (refine Xr 4 Yaa rfl Xa (fun _ _ h=>h) ?_)
             ((apply Wo;refine Wa (κ:=Int) (k:=2) (j:=0) (l0:=_) (.inr rfl) rfl rfl rfl rfl rfl rfl ⟨_,rfl⟩ ?_ (hH:=List.Sublist.refl _)))
             (apply Xc 7 rfl Yaa rfl Yab Xa;(exact Xe rfl);exact rfl)
             (refine Xr 16 Yaa rfl Xa (fun _ _ h=>h) ?_)
             ((apply V6;(apply Vd;exact V0 (κ:=Int) (k:=5) (j:=0) rfl rfl rfl rfl rfl rfl ⟨_,rfl⟩ trivial);exact rfl))
             (apply Xc 17 rfl Yaa rfl Yab Xa;(exact Xe rfl);exact rfl)
             (apply Xc 18 rfl Yaa rfl Yab Xa;(exact Wi rfl rfl);exact rfl)
             (apply Xc 19 rfl Yaa rfl Yab Xa;(exact Wi rfl rfl);exact rfl)
             (apply Xc 20 rfl Yaa rfl Yab Xa;(exact Xj rfl);exact rfl)
             (apply Xc 21 rfl Yaa rfl Yab Xa;(exact Xj rfl);exact rfl)
             refine X3 Yaa ?_
             exact Wc () trivial (Wu 1 (by repeat (first|exact Xm|refine Xh rfl ?_)) rfl)
           ·
             ((apply Wo;refine Wa (κ:=Int) (k:=2) (j:=0) (l0:=_) (.inr rfl) rfl rfl rfl rfl rfl rfl ⟨_,rfl⟩ ?_ (hH:=List.Sublist.refl _)))
             (refine Xr 2 Yaa rfl Xa (fun _ _ h=>h) ?_)
             ((apply Wo;refine Wa (κ:=Int) (k:=1) (j:=0) (l0:=_) (.inr rfl) rfl rfl rfl rfl rfl rfl ⟨_,rfl⟩ ?_ (hH:=List.Sublist.refl _)))
             (apply Xc 7 rfl Yaa rfl Yab Xa;(exact Xe rfl);exact rfl)
             (refine Xr 16 Yaa rfl Xa (fun _ _ h=>h) ?_)
             ((apply V6;(apply Vd;exact V0 (κ:=Int) (k:=5) (j:=0) rfl rfl rfl rfl rfl rfl ⟨_,rfl⟩ trivial);exact rfl))
             (apply Xc 17 rfl Yaa rfl Yab Xa;(exact Xe rfl);exact rfl)
             (apply Xc 18 rfl Yaa rfl Yab Xa;(exact Wi rfl rfl);exact rfl)
             (apply Xc 19 rfl Yaa rfl Yab Xa;(exact Wi rfl rfl);exact rfl)
             (apply Xc 20 rfl Yaa rfl Yab Xa;(exact Xj rfl);exact rfl)
             (apply Xc 21 rfl Yaa rfl Yab Xa;(exact Xj rfl);exact rfl)
             refine X3 Yaa ?_
             exact Wc () trivial (Wu 1 (by repeat (first|exact Xm|refine Xh rfl ?_)) rfl)
       have ek:r.keyL key.kind key.name=some (Ex.lookF r.n2 key.name):=by unfold RulesD.keyL;rw [if_neg hk1,if_neg hk2,if_pos hk5]
       have eP:r.keyP key={ key with n:=(Ex.lookF r.n2 key.name).getD 0 }:=by unfold RulesD.keyP;rw [ek]
       have eQ:(!r.keyPok key)=(Ex.lookF r.n2 key.name).isNone:=by
         unfold RulesD.keyPok;rw [ek];cases Ex.lookF r.n2 key.name<;>rfl
       rw [eP] at eK
       have hfnd:=Qz M2 key.name (Ex.lookF r.n2 key.name) bl lo2 (h2 _)
       (repeat' (first|(apply W2 28;refine Stop.out ?_)|refine Xf ?_|refine Xb ?_|refine Xd ?_|(apply Xk;(exact Xe rfl);exact rfl)|refine Xx rfl ?_))
       constructor
       refine Uy (fun _:Unit=>([(2,ex (.pointer (some ⟨b2,0,none⟩))),(4,fpx b4 [U0 M0]),(6,U0 M2),(7,fpx b7 [U0 M3]),(16,ex (.pointer (some ⟨bl,0,none⟩))),(17,fpx b17 [ex (Xbi bl)]),(18,fpx b18 [ex (Xbj b17 b4 b7 b18)]),(20,ex (.pointer (some ⟨bT,0+n * 2,none⟩))),(115,exI .i64 (r.ties.length:Int)),(116,exI .i64 (n:Int)),(135,exI .i64 (r.ties[n].keys.length:Int)),(136,exI .i64 (q:Int))],[row bl 4 1 [exB (lo2||(Ex.lookF r.n2 key.name).isNone)],row bK 97 (c3 * 3) ((K.flatMap keyV).set (0+q * 3+2) (exI .i64 ((Ex.lookF r.n2 key.name).getD 0))),row bT 74 (c1 * 2) PS,vec (.slice oa2 r.rounds.length c2) 54 13 r.rounds.length (r.rounds.flatMap (W3 k)),row b2 29 9 [exT r.name,isl eCrit r.crits,isl eItem r.bonus,isl eItem r.malus,ex (.slice (some ⟨bT,0,none⟩) r.ties.length c1),ex (.slice oa2 r.rounds.length c2),isl eI r.prizes,isl eI r.points,exI .i64 r.best]])) (fun _=>True) ?_ fun _ _=>?_
       · skip
         (refine W9 15 rfl ?_)
         (apply Xc 0 rfl Yaa rfl Yab Xa;(exact Xe rfl);exact rfl)
         (apply Xc 1 rfl Yaa rfl Yab Xa;(exact Yam);exact rfl)
         (apply Xc 2 rfl Yaa rfl Yab Xa;(exact Yad);exact rfl)
         (apply Xc 4 rfl Yaa rfl Yab Xa;(exact Xe rfl);exact rfl)
         (apply Xu 5 rfl Yaa rfl Yaa Yab Xa;(exact Yb1);exact rfl)
         (apply Xc 6 rfl Yaa rfl Yab Xa;(exact Xe rfl);exact rfl)
         (apply Xc 7 rfl Yaa rfl Yab Xa;(exact Xe rfl);exact rfl)
         (apply Xc 8 rfl Yaa rfl Yab Xa;(exact Yam);exact rfl)
         (apply Xc 9 rfl Yaa rfl Yab Xa;(exact Yad);exact rfl)
         (apply Xc 11 rfl Yaa rfl Yab Xa;(exact Xe rfl);exact rfl)
         (refine V3 (H1:=fun _=>True) (H2:=fun _=>True) 3 10 Yaa rfl Xa (fun _ _ _=>trivial) rfl Xa (fun _ _ _=>trivial) ?_ ?_)
         ·
           ((apply V6 (H:=fun _=>True);(exact Ya8);exact rfl))
           (refine Xr (H':=fun _=>True) 10 Yaa rfl Xa (fun _ _ _=>trivial) ?_)
           ((apply V6 (H:=fun _=>True);(exact Ya8);exact rfl))
           (apply Xc 12 rfl Yaa rfl Yab Xa;(exact Ya6);exact rfl)
           (apply Xc 13 rfl Yaa rfl Yab Xa;(exact Yad);exact rfl)
           (apply Xu 14 rfl Yaa rfl Yaa Yab Xa;(exact Ybr);exact rfl)
           (refine Xr (H':=U6 []) 15 Yaa rfl Xa (fun h=>absurd h Yar) ?_)
           ((apply Xn;(refine Uk (vs:=[.pointer (some ⟨bl,0,none⟩)]) (caps:=[ex (.pointer (some ⟨bl,0,none⟩))]) (args:=[_,_]) rfl (.ex .nil) (.one 3 rfl .nil) Tryz.func67 rfl hfnd rfl ?_;rintro _ _ ⟨rfl,rfl⟩)))
           (refine Xr (H':=fun _=>True) 16 Yaa rfl Xa (fun _ _ _=>trivial) ?_)
           ((apply V6 (H:=fun _=>True);(exact Ya6);exact rfl))
           (refine Xr (H':=fun _=>True) 17 Yaa rfl Xa (fun _ _ _=>trivial) ?_)
           ((apply V6 (H:=fun _=>True);(exact Yad);exact rfl))
           (refine Xr (H':=U6 []) 18 Yaa rfl Xa (fun h=>absurd h Yar) ?_)
           ((apply Xt;refine Uu (k:=1) (l0:=[]) rfl rfl rfl ?_))
           refine X3 Yaa ?_
           exact Wc () trivial (Xg (by repeat (first|exact Xm|refine Xh rfl ?_)) (List.Sublist.refl _))
         ·
           ((apply V6 (H:=fun _=>True);(exact Ya8);exact rfl))
           (apply Xc 12 rfl Yaa rfl Yab Xa;(exact Ya6);exact rfl)
           (apply Xc 13 rfl Yaa rfl Yab Xa;(exact Yad);exact rfl)
           (apply Xu 14 rfl Yaa rfl Yaa Yab Xa;(exact Ybr);exact rfl)
           (refine V3 (H1:=fun _=>True) (H2:=U6 []) 3 15 Yaa rfl Xa (fun _ _ _=>trivial) rfl Xa (fun h=>absurd h Yar) ?_ ?_)
           ·
             ((apply V6 (H:=fun _=>True);(exact Ya8);exact rfl))
             (refine Xr (H':=U6 []) 15 Yaa rfl Xa (fun h=>absurd h Yar) ?_)
             ((apply Xn;(refine Uk (vs:=[.pointer (some ⟨bl,0,none⟩)]) (caps:=[ex (.pointer (some ⟨bl,0,none⟩))]) (args:=[_,_]) rfl (.ex .nil) (.one 3 rfl .nil) Tryz.func67 rfl hfnd rfl ?_;rintro _ _ ⟨rfl,rfl⟩)))
             (refine Xr (H':=fun _=>True) 16 Yaa rfl Xa (fun _ _ _=>trivial) ?_)
             ((apply V6 (H:=fun _=>True);(exact Ya6);exact rfl))
             (refine Xr (H':=fun _=>True) 17 Yaa rfl Xa (fun _ _ _=>trivial) ?_)
             ((apply V6 (H:=fun _=>True);(exact Yad);exact rfl))
             (refine Xr (H':=U6 []) 18 Yaa rfl Xa (fun h=>absurd h Yar) ?_)
             ((apply Xt;refine Uu (k:=1) (l0:=[]) rfl rfl rfl ?_))
             refine X3 Yaa ?_
             exact Wc () trivial (Xg (by repeat (first|exact Xm|refine Xh rfl ?_)) (List.Sublist.refl _))
           ·
             ((apply Xn;(refine Uk (vs:=[.pointer (some ⟨bl,0,none⟩)]) (caps:=[ex (.pointer (some ⟨bl,0,none⟩))]) (args:=[_,_]) rfl (.ex .nil) (.one 3 rfl .nil) Tryz.func67 rfl hfnd rfl ?_;rintro _ _ ⟨rfl,rfl⟩)))
             (refine Xr (H':=fun _=>True) 3 Yaa rfl Xa (fun _ _ _=>trivial) ?_)
             ((apply V6 (H:=fun _=>True);(exact Yea);exact rfl))
             (refine Xr (H':=fun _=>True) 16 Yaa rfl Xa (fun _ _ _=>trivial) ?_)
             ((apply V6 (H:=fun _=>True);(exact Ya6);exact rfl))
             (refine Xr (H':=fun _=>True) 17 Yaa rfl Xa (fun _ _ _=>trivial) ?_)
             ((apply V6 (H:=fun _=>True);(exact Yad);exact rfl))
             (refine Xr (H':=U6 []) 18 Yaa rfl Xa (fun h=>absurd h Yar) ?_)
             ((apply Xt;refine Uu (k:=1) (l0:=[]) rfl rfl rfl ?_))
             refine X3 Yaa ?_
             exact Wc () trivial (Xg (by repeat (first|exact Xm|refine Xh rfl ?_)) (List.Sublist.refl _))
       (repeat' (first|refine Xb ?_|refine Xd ?_|(apply Xk;exact Ya5;exact rfl)))
       refine ⟨q+1,by omega,by omega,?_⟩
       rw [eK,eB,eQ,←hKset]
       refine (Vj ((List.perm_append_comm (l₁:=[_]) (l₂:=[_,_,_])).append_right [_])).trans ?_
       refine Vi (k:=0) (sz:=3) (n:=r.ties[n].keys.length) (c:=c3) rfl rfl ?_ Yar hcm3 ?_
       · rw [List.length_set,hKn,hKl]
       exact Xg (by repeat (first|exact Xm|refine Xh rfl ?_)) (List.Sublist.refl _)
     (repeat' (first|(apply Vs 26;refine Stop.out ?_)|refine Xf ?_|refine Xb ?_|refine Xd ?_|(apply Xk;exact Yba;exact rfl)|refine Xp ?_|refine Xs ?_|(refine Xo rfl (fun hb=>?_) (fun hb=>?_)<;>(repeat (first|replace hb:=X0 hb|replace hb:=X1 hb))<;>(try (exfalso;omega)))))
     all_goals (try (exfalso;omega))
     refine ⟨Rc 26 (fun _:Unit=>([(2,ex (.pointer (some ⟨b2,0,none⟩))),(4,fpx b4 [U0 M0]),(6,U0 M2),(7,fpx b7 [U0 M3]),(16,ex (.pointer (some ⟨bl,0,none⟩))),(17,fpx b17 [ex (Xbi bl)]),(18,fpx b18 [ex (Xbj b17 b4 b7 b18)]),(20,ex (.pointer (some ⟨bT,0+n * 2,none⟩))),(115,exI .i64 (r.ties.length:Int)),(116,exI .i64 (n:Int)),(135,exI .i64 (r.ties[n].keys.length:Int)),(136,exI .i64 (q:Int)),(21,exI .i64 (q:Int)),(22,ex (.map none)),(23,exB false)],[row bK 97 (c3 * 3) (K.flatMap keyV),row bT 74 (c1 * 2) PS,vec (.slice oa2 r.rounds.length c2) 54 13 r.rounds.length (r.rounds.flatMap (W3 k)),row bl 4 1 [exB lo2],row b2 29 9 [exT r.name,isl eCrit r.crits,isl eItem r.bonus,isl eItem r.malus,ex (.slice (some ⟨bT,0,none⟩) r.ties.length c1),ex (.slice oa2 r.rounds.length c2),isl eI r.prizes,isl eI r.points,exI .i64 r.best]])) (fun _=>True) ?_ fun _ _=>?_⟩
     · skip
       (refine W9 22 rfl ?_)
       (apply Xu 1 rfl Yaa rfl Yaa Yab Xa;(exact Yb1);exact rfl)
       (apply Xu 3 rfl Yaa rfl Yaa Yab Xa;(exact Yb1);exact rfl)
       (apply Xc 5 rfl Yaa rfl Yab Xa;(exact Xe rfl);exact rfl)
       (apply Xc 8 rfl Yaa rfl Yab Xa;(exact Xe rfl);exact rfl)
       (apply Xc 9 rfl Yaa rfl Yab Xa;(exact Yam);exact rfl)
       (apply Xc 10 rfl Yaa rfl Yab Xa;(exact Yad);exact rfl)
       (apply Xu 11 rfl Yaa rfl Yaa Yab Xa;(exact Ya8);exact rfl)
       (apply Xc 12 rfl Yaa rfl Yab Xa;(exact Xe rfl);exact rfl)
       (apply Xc 13 rfl Yaa rfl Yab Xa;(exact Ya6);exact rfl)
       (apply Xc 14 rfl Yaa rfl Yab Xa;(exact Yad);exact rfl)
       (apply Xu 15 rfl Yaa rfl Yaa Yab Xa;(exact Ybr);exact rfl)
       (refine Xr 0 Yaa rfl Xa (fun _ _ h=>h) ?_)
       ((apply Xai;refine R0 (κ:=Int) ?_;intro _))
       (refine Xau 2 4 6 Yaa rfl Xa (fun _ _ h=>h) rfl Xa (fun _ _ h=>h) rfl Xa (fun _ _ h=>h) ?_ ?_ ?_)
       ·
         ((apply Wo;refine Wa (κ:=Int) (k:=1) (j:=0) (l0:=_) (.inr rfl) rfl rfl rfl rfl rfl rfl ⟨_,rfl⟩ ?_ (hH:=List.Sublist.refl _)))
         (refine V3 4 6 Yaa rfl Xa (fun _ _ h=>h) rfl Xa (fun _ _ h=>h) ?_ ?_)
         ·
           ((apply Wo;refine Wa (κ:=Int) (k:=2) (j:=0) (l0:=_) (.inr rfl) rfl rfl rfl rfl rfl rfl ⟨_,rfl⟩ ?_ (hH:=List.Sublist.refl _)))
           (refine Xr 6 Yaa rfl Xa (fun _ _ h=>h) ?_)
           ((apply Wo;refine Wa (κ:=Int) (k:=5) (j:=0) (l0:=_) (.inr rfl) rfl rfl rfl rfl rfl rfl ⟨_,rfl⟩ ?_ (hH:=List.Sublist.refl _)))
           (apply Xc 7 rfl Yaa rfl Yab Xa;(exact Xe rfl);exact rfl)
           (refine Xr 16 Yaa rfl Xa (fun _ _ h=>h) ?_)
           ((apply V6;(apply Vd;exact Ti (κ:=Int) (k:=key.kind) (j:=0) rfl rfl rfl Yc3 rfl rfl ⟨_,rfl⟩ trivial);exact rfl))
           (apply Xc 17 rfl Yaa rfl Yab Xa;(exact Xe rfl);exact rfl)
           (apply Xc 18 rfl Yaa rfl Yab Xa;(exact Wi rfl rfl);exact rfl)
           (apply Xc 19 rfl Yaa rfl Yab Xa;(exact Wi rfl rfl);exact rfl)
           (apply Xc 20 rfl Yaa rfl Yab Xa;(exact Xj rfl);exact rfl)
           (apply Xc 21 rfl Yaa rfl Yab Xa;(exact Xj rfl);exact rfl)
           refine X3 Yaa ?_
           exact Wc () trivial (Wu 1 (by repeat (first|exact Xm|refine Xh rfl ?_)) rfl)
         ·
           ((apply Wo;refine Wa (κ:=Int) (k:=5) (j:=0) (l0:=_) (.inr rfl) rfl rfl rfl rfl rfl rfl ⟨_,rfl⟩ ?_ (hH:=List.Sublist.refl _)))
           (refine Xr 4 Yaa rfl Xa (fun _ _ h=>h) ?_)
           ((apply Wo;refine Wa (κ:=Int) (k:=2) (j:=0) (l0:=_) (.inr rfl) rfl rfl rfl rfl rfl rfl ⟨_,rfl⟩ ?_ (hH:=List.Sublist.refl _)))
           (apply Xc 7 rfl Yaa rfl Yab Xa;(exact Xe rfl);exact rfl)
           (refine Xr 16 Yaa rfl Xa (fun _ _ h=>h) ?_)
           ((apply V6;(apply Vd;exact Ti (κ:=Int) (k:=key.kind) (j:=0) rfl rfl rfl Yc3 rfl rfl ⟨_,rfl⟩ trivial);exact rfl))
           (apply Xc 17 rfl Yaa rfl Yab Xa;(exact Xe rfl);exact rfl)
           (apply Xc 18 rfl Yaa rfl Yab Xa;(exact Wi rfl rfl);exact rfl)
           (apply Xc 19 rfl Yaa rfl Yab Xa;(exact Wi rfl rfl);exact rfl)
           (apply Xc 20 rfl Yaa rfl Yab Xa;(exact Xj rfl);exact rfl)
           (apply Xc 21 rfl Yaa rfl Yab Xa;(exact Xj rfl);exact rfl)
           refine X3 Yaa ?_
           exact Wc () trivial (Wu 1 (by repeat (first|exact Xm|refine Xh rfl ?_)) rfl)
       ·
         ((apply Wo;refine Wa (κ:=Int) (k:=2) (j:=0) (l0:=_) (.inr rfl) rfl rfl rfl rfl rfl rfl ⟨_,rfl⟩ ?_ (hH:=List.Sublist.refl _)))
         (refine V3 2 6 Yaa rfl Xa (fun _ _ h=>h) rfl Xa (fun _ _ h=>h) ?_ ?_)
         ·
           ((apply Wo;refine Wa (κ:=Int) (k:=1) (j:=0) (l0:=_) (.inr rfl) rfl rfl rfl rfl rfl rfl ⟨_,rfl⟩ ?_ (hH:=List.Sublist.refl _)))
           (refine Xr 6 Yaa rfl Xa (fun _ _ h=>h) ?_)
           ((apply Wo;refine Wa (κ:=Int) (k:=5) (j:=0) (l0:=_) (.inr rfl) rfl rfl rfl rfl rfl rfl ⟨_,rfl⟩ ?_ (hH:=List.Sublist.refl _)))
           (apply Xc 7 rfl Yaa rfl Yab Xa;(exact Xe rfl);exact rfl)
           (refine Xr 16 Yaa rfl Xa (fun _ _ h=>h) ?_)
           ((apply V6;(apply Vd;exact Ti (κ:=Int) (k:=key.kind) (j:=0) rfl rfl rfl Yc3 rfl rfl ⟨_,rfl⟩ trivial);exact rfl))
           (apply Xc 17 rfl Yaa rfl Yab Xa;(exact Xe rfl);exact rfl)
           (apply Xc 18 rfl Yaa rfl Yab Xa;(exact Wi rfl rfl);exact rfl)
           (apply Xc 19 rfl Yaa rfl Yab Xa;(exact Wi rfl rfl);exact rfl)
           (apply Xc 20 rfl Yaa rfl Yab Xa;(exact Xj rfl);exact rfl)
           (apply Xc 21 rfl Yaa rfl Yab Xa;(exact Xj rfl);exact rfl)
           refine X3 Yaa ?_
           exact Wc () trivial (Wu 1 (by repeat (first|exact Xm|refine Xh rfl ?_)) rfl)
         ·
           ((apply Wo;refine Wa (κ:=Int) (k:=5) (j:=0) (l0:=_) (.inr rfl) rfl rfl rfl rfl rfl rfl ⟨_,rfl⟩ ?_ (hH:=List.Sublist.refl _)))
           (refine Xr 2 Yaa rfl Xa (fun _ _ h=>h) ?_)
           ((apply Wo;refine Wa (κ:=Int) (k:=1) (j:=0) (l0:=_) (.inr rfl) rfl rfl rfl rfl rfl rfl ⟨_,rfl⟩ ?_ (hH:=List.Sublist.refl _)))
           (apply Xc 7 rfl Yaa rfl Yab Xa;(exact Xe rfl);exact rfl)
           (refine Xr 16 Yaa rfl Xa (fun _ _ h=>h) ?_)
           ((apply V6;(apply Vd;exact Ti (κ:=Int) (k:=key.kind) (j:=0) rfl rfl rfl Yc3 rfl rfl ⟨_,rfl⟩ trivial);exact rfl))
           (apply Xc 17 rfl Yaa rfl Yab Xa;(exact Xe rfl);exact rfl)
           (apply Xc 18 rfl Yaa rfl Yab Xa;(exact Wi rfl rfl);exact rfl)
           (apply Xc 19 rfl Yaa rfl Yab Xa;(exact Wi rfl rfl);exact rfl)
           (apply Xc 20 rfl Yaa rfl Yab Xa;(exact Xj rfl);exact rfl)
           (apply Xc 21 rfl Yaa rfl Yab Xa;(exact Xj rfl);exact rfl)
           refine X3 Yaa ?_
           exact Wc () trivial (Wu 1 (by repeat (first|exact Xm|refine Xh rfl ?_)) rfl)
       ·
         ((apply Wo;refine Wa (κ:=Int) (k:=5) (j:=0) (l0:=_) (.inr rfl) rfl rfl rfl rfl rfl rfl ⟨_,rfl⟩ ?_ (hH:=List.Sublist.refl _)))
         (refine V3 2 4 Yaa rfl Xa (fun _ _ h=>h) rfl Xa (fun _ _ h=>h) ?_ ?_)
         ·
           ((apply Wo;refine Wa (κ:=Int) (k:=1) (j:=0) (l0:=_) (.inr rfl) rfl rfl rfl rfl rfl rfl ⟨_,rfl⟩ ?_ (hH:=List.Sublist.refl _)))
           (refine Xr 4 Yaa rfl Xa (fun _ _ h=>h) ?_)
           ((apply Wo;refine Wa (κ:=Int) (k:=2) (j:=0) (l0:=_) (.inr rfl) rfl rfl rfl rfl rfl rfl ⟨_,rfl⟩ ?_ (hH:=List.Sublist.refl _)))
           (apply Xc 7 rfl Yaa rfl Yab Xa;(exact Xe rfl);exact rfl)
           (refine Xr 16 Yaa rfl Xa (fun _ _ h=>h) ?_)
           ((apply V6;(apply Vd;exact Ti (κ:=Int) (k:=key.kind) (j:=0) rfl rfl rfl Yc3 rfl rfl ⟨_,rfl⟩ trivial);exact rfl))
           (apply Xc 17 rfl Yaa rfl Yab Xa;(exact Xe rfl);exact rfl)
           (apply Xc 18 rfl Yaa rfl Yab Xa;(exact Wi rfl rfl);exact rfl)
           (apply Xc 19 rfl Yaa rfl Yab Xa;(exact Wi rfl rfl);exact rfl)
           (apply Xc 20 rfl Yaa rfl Yab Xa;(exact Xj rfl);exact rfl)
           (apply Xc 21 rfl Yaa rfl Yab Xa;(exact Xj rfl);exact rfl)
           refine X3 Yaa ?_
           exact Wc () trivial (Wu 1 (by repeat (first|exact Xm|refine Xh rfl ?_)) rfl)
         ·
           ((apply Wo;refine Wa (κ:=Int) (k:=2) (j:=0) (l0:=_) (.inr rfl) rfl rfl rfl rfl rfl rfl ⟨_,rfl⟩ ?_ (hH:=List.Sublist.refl _)))
           (refine Xr 2 Yaa rfl Xa (fun _ _ h=>h) ?_)
           ((apply Wo;refine Wa (κ:=Int) (k:=1) (j:=0) (l0:=_) (.inr rfl) rfl rfl rfl rfl rfl rfl ⟨_,rfl⟩ ?_ (hH:=List.Sublist.refl _)))
           (apply Xc 7 rfl Yaa rfl Yab Xa;(exact Xe rfl);exact rfl)
           (refine Xr 16 Yaa rfl Xa (fun _ _ h=>h) ?_)
           ((apply V6;(apply Vd;exact Ti (κ:=Int) (k:=key.kind) (j:=0) rfl rfl rfl Yc3 rfl rfl ⟨_,rfl⟩ trivial);exact rfl))
           (apply Xc 17 rfl Yaa rfl Yab Xa;(exact Xe rfl);exact rfl)
           (apply Xc 18 rfl Yaa rfl Yab Xa;(exact Wi rfl rfl);exact rfl)
           (apply Xc 19 rfl Yaa rfl Yab Xa;(exact Wi rfl rfl);exact rfl)
           (apply Xc 20 rfl Yaa rfl Yab Xa;(exact Xj rfl);exact rfl)
           (apply Xc 21 rfl Yaa rfl Yab Xa;(exact Xj rfl);exact rfl)
           refine X3 Yaa ?_
           exact Wc () trivial (Wu 1 (by repeat (first|exact Xm|refine Xh rfl ?_)) rfl)
     have ek:r.keyL key.kind key.name=none:=by unfold RulesD.keyL;rw [if_neg hk1,if_neg hk2,if_neg hk5]
     have eP:r.keyP key=key:=by unfold RulesD.keyP;rw [ek]
     have eQ:(!r.keyPok key)=false:=by unfold RulesD.keyPok;rw [ek];rfl
     rw [eP,show K.set q key=K by rw [←hKi];exact List.set_getElem_self hqK] at eK
     (repeat' (first|refine Xf ?_|refine Xb ?_|refine Xd ?_|(apply Xk;exact Ya5;exact rfl)|refine Xs ?_|refine X2 rfl ?_))
     refine ⟨q+1,by omega,by omega,?_⟩
     rw [eK,eB,eQ,Bool.or_false]
     refine Vi (k:=0) (sz:=3) (n:=r.ties[n].keys.length) (c:=c3) rfl rfl ?_ Yar hcm3 ?_
     · rw [hKn,hKl]
     exact Xg (by repeat (first|exact Xm|refine Xh rfl ?_)) (List.Sublist.refl _)
   · have hq2:q=r.ties[n].keys.length:=by omega
     subst hq2
     rw [List.take_length,List.drop_length,List.append_nil]
     (repeat' (first|refine Xf ?_|refine Xb ?_|refine Xd ?_|(apply Xk;(first|exact Xe rfl|exact Ybe);exact rfl)|refine Wy ?_|(refine Xo rfl (fun hb=>?_) (fun hb=>?_)<;>(repeat (first|replace hb:=X0 hb|replace hb:=X1 hb))<;>(try (exfalso;omega)))))
     refine ⟨n+1,by omega,by omega,?_⟩
     have e2:=hPS2 (r.tieP r.ties[n]) (by rw [hLi hnL];rfl)
     have e3:isl eKey (r.tieP r.ties[n]).keys=isl eKey (r.ties[n].keys.map r.keyP):=rfl
     rw [e3] at e2
     rw [eL,eA,←e2]
     refine Leads.trans (Vo (j:=0) (k:=0) (i:=0+n * 2+1) (E:=eKey) (fs:=keyV) (r.ties[n].keys.map r.keyP) rfl rfl rfl (List.length_map ..) rfl hPS1 (hby:=by show _ * 32≤_;omega)) ?_
     refine Vi (k:=0) (sz:=2) (n:=r.ties.length) (c:=c1) rfl rfl ?_ Yar hcm ?_
     · rw [e2,Ud (fs:=tieV) (s:=2) (fun _=>rfl),List.length_set,hLl]
     exact Xg (by repeat (first|exact Xm|refine Xh rfl ?_)) (List.Sublist.refl _)
 · have hn2:n=r.ties.length:=by omega
   subst hn2
   rw [List.take_length,List.drop_length,List.append_nil]
   (repeat' (first|(apply Xbp 31;refine Stop.out ?_)|refine Xf ?_|refine Xb ?_|refine Xd ?_|(apply Xk;(exact Yak);exact rfl)|refine Wy ?_|(refine Xo rfl (fun hb=>?_) (fun hb=>?_)<;>(repeat (first|replace hb:=X0 hb|replace hb:=X1 hb))<;>(try (exfalso;omega)))))
   constructor
   refine Wf (Vo (j:=0) (k:=2) (i:=4) (E:=eTie) (fs:=tieV) (r.ties.map r.tieP) rfl rfl rfl (List.length_map ..) rfl rfl (hby:=by show _ * 40≤_;omega)) ?_
   refine Wf (Xg (env':=[(2,ex (.pointer (some ⟨b2,0,none⟩))),(4,fpx b4 [U0 M0]),(6,U0 M2),(7,fpx b7 [U0 M3]),(16,ex (.pointer (some ⟨bl,0,none⟩))),(17,fpx b17 [ex (Xbi bl)]),(18,fpx b18 [ex (Xbj b17 b4 b7 b18)])]) (by repeat (first|exact Xm|refine Xh rfl ?_)) (List.Sublist.refl _)) ?_
   exact Xhd k r hf M0 M2 M3 h0 h2 h3 w0 F0 out b2 bl b4 b7 b17 b18 oa2 c2
end Go.Proofs.YthdldeenpgeemaaGreatDoor
