/- What few says. No program in sight. -/
import Derived.Test.YthdldeenpgeemaaGreatDoorPart7
import Derived.Test.YthdldeenpgeemaaGreatDoorPart9
import Derived.Test.YthdldeenpgeemaaGreatDoorPartB
import Derived.Test.YthdldeenpgeemaaGreatDoorPart3
import Derived.Shelf.Spec.SlicesGrow
set_option maxHeartbeats 1000000
set_option maxRecDepth 100000
namespace Go.Fr
open Go.RowKit Go.Kx
theorem Xay {r:RulesD} (h:r.few=true):r.crits.length≤70∧r.bonus.length≤70∧r.malus.length≤70∧r.ties.length≤20∧r.rounds.length≤12∧r.prizes.length≤70∧r.points.length≤70∧(∀t∈r.ties,t.keys.length≤40)∧ ∀y∈r.rounds,y.score.tot≤400:=by
 unfold RulesD.few at h
 simp only [Bool.and_eq_true,Bool.not_eq_true',Bool.or_eq_false_iff,decide_eq_false_iff_not,List.all_eq_true,decide_eq_true_eq] at h
 obtain ⟨⟨h1,h2,h3,h4,h5,h6,h7⟩,h8,h9⟩:=h
 exact ⟨by omega,by omega,by omega,by omega,by omega,by omega,by omega,h8,h9⟩
end Go.Fr
namespace Go.Fr
open Go.RowKit Go.Kx
def Xkf (f0 f3:List UInt8→Option Int) (kind:Int) (s:List UInt8) (n:Int):Int:=if kind=2 then (f0 s).getD 0 else if kind=5 then (f3 s).getD 0 else n
def Rr (f0 f3:List UInt8→Option Int) (kind:Int) (s:List UInt8):Bool:=if kind=2 then (f0 s).isSome else if kind=5 then (f3 s).isSome else true
namespace Ex
mutual
def resP (f0 f3:List UInt8→Option Int):Ex→Ex
 | mk k s n d l=>mk k s (Xkf f0 f3 k s n) d (Xkg f0 f3 l)
def Xkg (f0 f3:List UInt8→Option Int):List Ex→List Ex
 | []=>[]
 | x::xs=>resP f0 f3 x::Xkg f0 f3 xs
end
mutual
def okP (f0 f3:List UInt8→Option Int):Ex→Bool
 | mk k s _ _ l=>Rr f0 f3 k s&&Xqx f0 f3 l
def Xqx (f0 f3:List UInt8→Option Int):List Ex→Bool
 | []=>true
 | x::xs=>okP f0 f3 x&&Xqx f0 f3 xs
end
theorem Xf9 (f0 f3:List UInt8→Option Int): ∀l:List Ex,Xkg f0 f3 l=l.map (resP f0 f3)
 | []=>rfl
 | x::xs=>by simp [Xkg,Xf9 f0 f3 xs]
theorem Xi6 (f0 f3:List UInt8→Option Int): ∀l:List Ex,Xqx f0 f3 l=l.all (okP f0 f3)
 | []=>rfl
 | x::xs=>by simp [Xqx,Xi6 f0 f3 xs]
theorem resP_l (f0 f3:List UInt8→Option Int) (x:Ex):x.resP f0 f3=mk x.kind x.name (Xkf f0 f3 x.kind x.name x.n) x.d (x.l.map (resP f0 f3)):=by cases x;simp [resP,Xf9,kind,name,n,d,l]
theorem okP_l (f0 f3:List UInt8→Option Int) (x:Ex):x.okP f0 f3=(Rr f0 f3 x.kind x.name&&x.l.all (okP f0 f3)):=by cases x;simp [okP,Xi6,kind,name,l]
def lookF (l:List (List UInt8)) (s:List UInt8):Option Int:=if s∈l then some (U2 l s) else none
theorem Sg (l:List (List UInt8)) (s:List UInt8):(lookF l s).isSome=decide (0≤U2 l s):=by
 unfold lookF
 by_cases h:s∈l
 · rw [if_pos h,decide_eq_true ((T0 l s).2 h)];rfl
 · rw [if_neg h,decide_eq_false (fun e=>h ((T0 l s).1 e))];rfl
theorem S7 (l:List (List UInt8)) (s:List UInt8) (h:0≤U2 l s):(lookF l s).getD 0=U2 l s:=by
 unfold lookF;rw [if_pos ((T0 l s).1 h)];rfl
theorem Xlx (l0 l3:List (List UInt8)) (k:Int) (s:List UInt8):Rr (lookF l0) (lookF l3) k s=Xla l0 l3 k s:=by
 unfold Rr Xla;rw [Sg,Sg]
theorem Xp5 (l0 l3:List (List UInt8)) (k:Int) (s:List UInt8) (n:Int) (h:Xla l0 l3 k s=true):Xkf (lookF l0) (lookF l3) k s n=Xrv l0 l3 k s n:=by
 unfold Xla at h
 unfold Xkf Xrv
 split
 · rename_i h1
   rw [if_pos h1] at h
   exact S7 _ _ (of_decide_eq_true h)
 · rename_i h1
   rw [if_neg h1] at h
   split
   · rename_i h2
     rw [if_pos h2] at h
     exact S7 _ _ (of_decide_eq_true h)
   · rfl
mutual
theorem okP_eq (l0 l3:List (List UInt8)): ∀x:Ex,x.okP (lookF l0) (lookF l3)=x.ok l0 l3
 | mk k s n d l=>by simp only [okP,ok,Xlx,Xly l0 l3 l]
theorem Xly (l0 l3:List (List UInt8)): ∀x:List Ex,Xqx (lookF l0) (lookF l3) x=oks l0 l3 x
 | []=>rfl
 | x::xs=>by simp only [Xqx,oks,okP_eq l0 l3 x,Xly l0 l3 xs]
end
mutual
theorem resP_eq (l0 l3:List (List UInt8)): ∀x:Ex,x.ok l0 l3=true→x.resP (lookF l0) (lookF l3)=x.res l0 l3
 | mk k s n d l,h=>by
   simp only [ok,Bool.and_eq_true] at h
   simp only [resP,res,Xp5 l0 l3 k s n h.1,Xi7 l0 l3 l h.2]
theorem Xi7 (l0 l3:List (List UInt8)): ∀x:List Ex,oks l0 l3 x=true→Xkg (lookF l0) (lookF l3) x=Xrs l0 l3 x
 | [],_=>rfl
 | x::xs,h=>by
   simp only [oks,Bool.and_eq_true] at h
   simp only [Xkg,Xrs,resP_eq l0 l3 x h.1,Xi7 l0 l3 xs h.2]
end
end Ex
end Go.Fr
namespace Go.Fr
open Go.RowKit Go.Kx
open Ex (lookF Sg S7)
namespace RulesD
def keyL (r:RulesD) (kind:Int) (s:List UInt8):Option (Option Int):=if kind=1 then some (lookF r.n0 s) else if kind=2 then some (lookF r.n3 s) else if kind=5 then some (lookF r.n2 s) else none
def keyP (r:RulesD) (k:KeyD):KeyD:=match r.keyL k.kind k.name with
 | some o=>{ k with n:=o.getD 0 }
 | none=>k
def keyPok (r:RulesD) (k:KeyD):Bool:=match r.keyL k.kind k.name with
 | some o=>o.isSome
 | none=>true
theorem Xlz (r:RulesD) (k:KeyD):r.keyPok k=Xjz r.n0 r.n2 r.n3 k:=by
 unfold keyPok keyL Xjz
 split
 · rename_i o h
   split at h
   · rename_i h1;cases h;rw [if_pos h1,Sg]
   · rename_i h1
     rw [if_neg h1]
     split at h
     · rename_i h2;cases h;rw [if_pos h2,Sg]
     · rename_i h2
       rw [if_neg h2]
       split at h
       · rename_i h3;cases h;rw [if_pos h3,Sg]
       · cases h
 · rename_i h
   split at h
   · cases h
   · rename_i h1
     rw [if_neg h1]
     split at h
     · cases h
     · rename_i h2
       rw [if_neg h2]
       split at h
       · cases h
       · rename_i h3;rw [if_neg h3]
theorem Xp6 (r:RulesD) (k:KeyD) (hk:Xjz r.n0 r.n2 r.n3 k=true):r.keyP k=Xrw r.n0 r.n2 r.n3 k:=by
 unfold Xjz at hk
 unfold keyP keyL Xrw
 by_cases h1:k.kind=1
 · rw [if_pos h1] at hk
   simp only [if_pos h1,S7 _ _ (of_decide_eq_true hk)]
 · rw [if_neg h1] at hk
   by_cases h2:k.kind=2
   · rw [if_pos h2] at hk
     simp only [if_neg h1,if_pos h2,S7 _ _ (of_decide_eq_true hk)]
   · rw [if_neg h2] at hk
     by_cases h5:k.kind=5
     · rw [if_pos h5] at hk
       simp only [if_neg h1,if_neg h2,if_pos h5,S7 _ _ (of_decide_eq_true hk)]
     · simp only [if_neg h1,if_neg h2,if_neg h5]
def tieP (r:RulesD) (t:TieD):TieD:={ t with keys:=t.keys.map r.keyP }
def tiePok (r:RulesD) (t:TieD):Bool:=t.keys.all r.keyPok
theorem Xl0 (r:RulesD) (t:TieD):r.tiePok t=r.tieOk t:=by
 unfold tiePok tieOk
 rw [show r.keyPok=Xjz r.n0 r.n2 r.n3 from funext (Xlz r)]
theorem Xp7 (r:RulesD) (t:TieD) (h:r.tieOk t=true):r.tieP t=r.tieN t:=by
 unfold tieP tieN
 unfold tieOk at h
 rw [List.all_eq_true] at h
 rw [List.map_congr_left fun k hk=>Xp6 r k (h k hk)]
def roundP (r:RulesD) (y:RoundD):RoundD:={ y with score:=y.score.resP (lookF r.n0) (lookF r.n3),tieNo:=if y.tie=[] then -1 else (lookF r.n2 y.tie).getD 0 }
def roundPok (r:RulesD) (y:RoundD):Bool:=y.score.okP (lookF r.n0) (lookF r.n3)&&(decide (y.tie=[])||(lookF r.n2 y.tie).isSome)
theorem Xhw (r:RulesD) (y:RoundD):r.roundPok y=r.roundOk y:=by
 unfold roundPok roundOk;rw [Ex.okP_eq,Sg]
theorem Xl1 (r:RulesD) (y:RoundD) (h:r.roundOk y=true):r.roundP y=r.roundN y:=by
 unfold roundOk at h
 simp only [Bool.and_eq_true,Bool.or_eq_true,decide_eq_true_eq] at h
 unfold roundP roundN
 rw [Ex.resP_eq _ _ _ h.1]
 split
 · rfl
 · rename_i ht
   rw [S7 _ _ (h.2.resolve_left ht)]
theorem resolvedP_eq (r:RulesD) (h:r.allOk=true):({ r with ties:=r.ties.map r.tieP,rounds:=r.rounds.map r.roundP }:RulesD)=r.resolved:=by
 unfold allOk at h
 simp only [Bool.and_eq_true,List.all_eq_true] at h
 unfold resolved
 rw [List.map_congr_left fun t ht=>Xp7 r t (h.1 t ht),List.map_congr_left fun t ht=>Xl1 r t (h.2 t ht)]
theorem allPok_eq (r:RulesD):(r.ties.all r.tiePok&&r.rounds.all r.roundPok)=r.allOk:=by
 unfold allOk
 rw [show r.tiePok=r.tieOk from funext (Xl0 r),show r.roundPok=r.roundOk from funext (Xhw r)]
end RulesD
end Go.Fr
namespace Go.Proofs.YthdldeenpgeemaaGreatDoor
open Go Go.RowKit Go.Kx Go.Fr
def Uj (l:List (List UInt8)):Nat→List (List UInt8×SP)
 | 0=>[]
 | i+1=>Xd8 (Uj l i) (l.getD i []) (exI .i64 (i:Int))
theorem Qy {κ:Type} [DecidableEq κ] [MK κ] (x y:κ) (p:SP): ∀m:List (κ×SP),Uq (Xd8 m x p) y=if y=x then some p else Uq m y
 | []=>by simp only [Xd8,Uq]
 | (k,q)::r=>by
   unfold Xd8
   split
   · rename_i h
     subst h
     simp only [Uq]
     split<;>rfl
   · rename_i h
     simp only [Uq,Qy x y p r]
     split
     · rename_i h2
       subst h2
       rw [if_neg (fun e=>h e.symm)]
     · rfl
theorem S3 (l:List (List UInt8)) (s:List UInt8): ∀i,i≤l.length→(Uq (Uj l i) s=none↔s∉l.take i)
 | 0,_=>by simp [Uj,Uq]
 | i+1,h=>by
   have hi:i<l.length:=by omega
   rw [Uj,Qy,List.take_succ_eq_append_getElem hi,List.getD_eq_getElem?_getD,List.getElem?_eq_getElem hi]
   simp only [Option.getD_some,List.mem_append,List.mem_singleton,not_or]
   split
   · rename_i e;simp [e]
   · rename_i e;rw [S3 l s i Yan];simp [e]
theorem Xd5 (l:List (List UInt8)) (hl:onceF l=true) (s:List UInt8): ∀i,i≤l.length→s∈l.take i→Uq (Uj l i) s=some (exI .i64 (U2 l s))
 | 0,_,hm=>by simp at hm
 | i+1,h,hm=>by
   have hi:i<l.length:=by omega
   rw [Uj,Qy,List.getD_eq_getElem?_getD,List.getElem?_eq_getElem hi]
   simp only [Option.getD_some]
   split
   · rename_i e
     rw [e,Xpy.1 hl i hi]
   · rename_i e
     refine Xd5 l hl s i Yan ?_
     rw [List.take_succ_eq_append_getElem hi] at hm
     simp only [List.mem_append,List.mem_singleton] at hm
     exact hm.resolve_right e
theorem Qk (l:List (List UInt8)) (s:List UInt8): ∀i (p:SP),Uq (Uj l i) s=some p→ ∃n:Int,p=exI .i64 n
 | 0,p,h=>by simp [Uj,Uq] at h
 | i+1,p,h=>by
   rw [Uj,Qy] at h
   split at h
   · cases h;exact ⟨_,rfl⟩
   · exact Qk l s i p h
def Xga (l:List (List UInt8)) (i:Nat):Bool:=(List.range i).all fun j=> !decide (l.getD j []∈l.take j)
theorem Xaz (l:List (List UInt8)) (i:Nat) (h:i<l.length):Xga l (i+1)=(Xga l i&& !decide (l[i]∈l.take i)):=by
 unfold Xga
 rw [List.range_succ,List.all_append]
 simp [h]
theorem Xck (l:List (List UInt8)):Xga l l.length=onceF l:=by
 rw [Bool.eq_iff_iff,onceF_iff]
 simp only [Xga,List.all_eq_true,List.mem_range,Bool.not_eq_true',decide_eq_false_iff_not]
 constructor
 · intro h i j hi hj he
   apply Classical.byContradiction
   intro hne
   rcases Nat.lt_or_gt_of_ne hne with hlt|hlt
   · refine h j hj ?_
     rw [List.getD_eq_getElem?_getD,List.getElem?_eq_getElem hj,Option.getD_some,←he]
     exact List.mem_take_iff_getElem.2 ⟨i,by omega,rfl⟩
   · refine h i hi ?_
     rw [List.getD_eq_getElem?_getD,List.getElem?_eq_getElem hi,Option.getD_some,he]
     exact List.mem_take_iff_getElem.2 ⟨j,by omega,rfl⟩
 · intro h j hj hm
   rw [List.getD_eq_getElem?_getD,List.getElem?_eq_getElem hj,Option.getD_some] at hm
   obtain ⟨i,hi,he⟩:=List.mem_take_iff_getElem.1 hm
   have:=h i j Yan hj he
   omega
theorem Q7 (x:Crit):FnC Tryz.prog 58 [agg (critV x)] [] (fun p loc=>p=exT x.name∧loc=[]):=by
 refine X4 Tryz.func58 rfl Tryz.ntmps58 rfl fun w0 F0 out=>?_
 (repeat' (first|refine Xf ?_|refine Xb ?_|refine Xd ?_|(apply Xk;exact Ydy;exact rfl)|refine Xz ?_|(apply Xi;exact rfl;(apply U7;refine V2 rfl ?_;intro _))))
 refine ⟨.inr rfl,Vk rfl (.tmp rfl) (List.nil_sublist _) ⟨rfl,rfl⟩⟩
theorem Xgb (l:List Crit) (b:Nat) (hl:l.length≤1000):FnC Tryz.prog 57 [ex (.map (some b)),isl eCrit l,ex (.func (.func 58) #[] #[])] [Re b ([]:List (List UInt8×SP)),Tab] (fun p loc=>p=tup [exB ((l.map (·.name)).all Vx),exB (onceF (l.map (·.name)))]∧loc=[Re b (Uj (l.map (·.name)) l.length)]):=by
 refine X4 Tryz.func57 rfl Tryz.ntmps57 rfl fun w0 F0 out=>?_
 (repeat' (first|refine Xf ?_|refine Xb ?_|refine Xd ?_|(apply Xk;exact Ybx;exact rfl)|refine Xp ?_))
 refine W1 (fun i:Nat=>([(0,ex (.map (some b))),(13,isl eCrit l),(14,exI .i64 (l.length:Int)),(15,exI .i64 (i:Int)),(2,ex (.func (.func 58) #[] #[])),(6,exB (((l.take i).map (·.name)).all Vx)),(7,exB (Xga (l.map (·.name)) i))],[Re b (Uj (l.map (·.name)) i),Tab])) (fun i=>i≤l.length) (fun i=>l.length-i) 0 ?_ (Nat.zero_le _) fun i hi=>?_
 · exact Xg (by repeat (first|exact Xm|refine Xh rfl ?_)) (List.Sublist.refl _)
 by_cases hlt:i<l.length
 · have hlm:i<(l.map (·.name)).length:=by rw [List.length_map];exact hlt
   have hgm:(l.map (·.name))[i]=l[i].name:=List.getElem_map ..
   have eF:((l.take (i+1)).map (·.name)).all Vx=(((l.take i).map (·.name)).all Vx&&Vx l[i].name):=by
     rw [List.take_succ_eq_append_getElem hlt,List.map_append,List.all_append];simp
   have eN:=Xaz (l.map (·.name)) i hlm
   rw [hgm] at eN
   have eM:Uj (l.map (·.name)) (i+1)=Xd8 (Uj (l.map (·.name)) i) l[i].name (exI .i64 (i:Int)):=by
     rw [Uj,List.getD_eq_getElem?_getD,List.getElem?_eq_getElem hlm,hgm];rfl
   have hno:=S3 (l.map (·.name)) l[i].name i Yan
   generalize ((l.take i).map (·.name)).all Vx=fa at eF ⊢
   generalize Xga (l.map (·.name)) i=fb at eN ⊢
   by_cases hk:l[i].name∈(l.map (·.name)).take i
   · rw [decide_eq_true hk] at eN
     cases hm:Uq (Uj (l.map (·.name)) i) l[i].name with
     | none=>exact absurd (hno.1 hm) (fun h=>h hk)
     | some p=>
       obtain ⟨n,rfl⟩:=Qk _ _ _ _ hm
       cases fa<;>cases fb
       all_goals ((repeat' (first|(apply Xk;(apply Vd;exact V0 (k:=l[i].name) (j:=1) rfl rfl rfl hm rfl rfl rfl trivial);exact rfl)|(apply Xi;exact rfl;apply Qo;refine Wa (k:=l[i].name) (j:=1) (.inl rfl) rfl rfl rfl rfl rfl rfl rfl ?_)|refine Xf ?_|refine Xb ?_|refine Xd ?_|(apply Xk;exact Yao;exact rfl)|(refine Ve rfl rfl rfl rfl rfl ?_)|(apply Vh;exact rfl;exact rfl;exact rfl;exact Ybt;exact rfl)|refine Xp ?_|refine Xs ?_|(apply Xi;exact rfl;first|(apply Xn;(refine V9 (vs:=[]) (args:=[agg (critV l[i])]) rfl Tryz.func58 rfl (Q7 _) rfl ?_;rintro _ _ ⟨rfl,rfl⟩))|(apply Wh;refine X7 ?_;intro _)|(apply Xt;refine Xq (k:=0) (l0:=[]) rfl rfl rfl ?_))|(apply Vt;exact rfl;exact rfl;exact rfl;exact rfl;(apply Xn;(refine Xl (.dup 2 rfl rfl .nil) Tryz.func66 rfl (Sk _) rfl ?_;rintro _ _ ⟨rfl,rfl⟩)))|(refine Xo rfl (fun hb=>?_) (fun hb=>?_)<;>(repeat (first|replace hb:=X0 hb|replace hb:=X1 hb))<;>(try (exfalso;omega))))))
       all_goals (try (exfalso;omega))
       all_goals (refine ⟨i+1,by omega,by omega,?_⟩;rw [eF,eN,eM];exact Wu 1 (by repeat (first|exact Xm|refine Xh rfl ?_)) rfl)
   · rw [decide_eq_false hk] at eN
     have hm:=hno.2 hk
     cases fa<;>cases fb
     all_goals ((repeat' (first|(apply Xk;(apply Vd;exact Ti (k:=l[i].name) (j:=1) rfl rfl rfl hm rfl rfl rfl trivial);exact rfl)|(apply Xi;exact rfl;apply Qo;refine Wa (k:=l[i].name) (j:=1) (.inl rfl) rfl rfl rfl rfl rfl rfl rfl ?_)|refine Xf ?_|refine Xb ?_|refine Xd ?_|(apply Xk;exact Yao;exact rfl)|(refine Ve rfl rfl rfl rfl rfl ?_)|(apply Vh;exact rfl;exact rfl;exact rfl;exact Ybt;exact rfl)|refine Xp ?_|refine Xs ?_|(apply Xi;exact rfl;first|(apply Xn;(refine V9 (vs:=[]) (args:=[agg (critV l[i])]) rfl Tryz.func58 rfl (Q7 _) rfl ?_;rintro _ _ ⟨rfl,rfl⟩))|(apply Wh;refine X7 ?_;intro _)|(apply Xt;refine Xq (k:=0) (l0:=[]) rfl rfl rfl ?_))|(apply Vt;exact rfl;exact rfl;exact rfl;exact rfl;(apply Xn;(refine Xl (.dup 2 rfl rfl .nil) Tryz.func66 rfl (Sk _) rfl ?_;rintro _ _ ⟨rfl,rfl⟩)))|(refine Xo rfl (fun hb=>?_) (fun hb=>?_)<;>(repeat (first|replace hb:=X0 hb|replace hb:=X1 hb))<;>(try (exfalso;omega))))))
     all_goals (try (exfalso;omega))
     all_goals (refine ⟨i+1,by omega,by omega,?_⟩;rw [eF,eN,eM];exact Wu 1 (by repeat (first|exact Xm|refine Xh rfl ?_)) rfl)
 · have hk9:i=l.length:=by omega
   subst hk9
   have e1:Xga (l.map (·.name)) l.length=onceF (l.map (·.name)):=by rw [←Xck,List.length_map]
   rw [List.take_length,e1]
   (repeat' (first|refine Xf ?_|refine Xb ?_|refine Xd ?_|(apply Xk;exact Yba;exact rfl)|refine Xz ?_|refine Wy ?_|(refine Xo rfl (fun hb=>?_) (fun hb=>?_)<;>(repeat (first|replace hb:=X0 hb|replace hb:=X1 hb))<;>(try (exfalso;omega)))))
   all_goals (try (exfalso;omega))
   refine ⟨.inr rfl,Xkw rfl (.tmp rfl) (.tmp rfl) (List.cons_sublist_cons.2 (List.nil_sublist _)) ⟨rfl,rfl⟩⟩
theorem Q8 (x:ItemD):FnC Tryz.prog 61 [agg (itemV x)] [] (fun p loc=>p=exT x.name∧loc=[]):=by
 refine X4 Tryz.func61 rfl Tryz.ntmps61 rfl fun w0 F0 out=>?_
 (repeat' (first|refine Xf ?_|refine Xb ?_|refine Xd ?_|(apply Xk;exact Ydy;exact rfl)|refine Xz ?_|(apply Xi;exact rfl;(apply U7;refine V2 rfl ?_;intro _))))
 refine ⟨.inr rfl,Vk rfl (.tmp rfl) (List.nil_sublist _) ⟨rfl,rfl⟩⟩
theorem Xgc (l:List ItemD) (b:Nat) (hl:l.length≤1000):FnC Tryz.prog 59 [ex (.map (some b)),isl eItem l,ex (.func (.func 61) #[] #[])] [Re b ([]:List (List UInt8×SP)),Tab] (fun p loc=>p=tup [exB ((l.map (·.name)).all Vx),exB (onceF (l.map (·.name)))]∧loc=[Re b (Uj (l.map (·.name)) l.length)]):=by
 refine X4 Tryz.func59 rfl Tryz.ntmps59 rfl fun w0 F0 out=>?_
 (repeat' (first|refine Xf ?_|refine Xb ?_|refine Xd ?_|(apply Xk;exact Ybx;exact rfl)|refine Xp ?_))
 refine W1 (fun i:Nat=>([(0,ex (.map (some b))),(13,isl eItem l),(14,exI .i64 (l.length:Int)),(15,exI .i64 (i:Int)),(2,ex (.func (.func 61) #[] #[])),(6,exB (((l.take i).map (·.name)).all Vx)),(7,exB (Xga (l.map (·.name)) i))],[Re b (Uj (l.map (·.name)) i),Tab])) (fun i=>i≤l.length) (fun i=>l.length-i) 0 ?_ (Nat.zero_le _) fun i hi=>?_
 · exact Xg (by repeat (first|exact Xm|refine Xh rfl ?_)) (List.Sublist.refl _)
 by_cases hlt:i<l.length
 · have hlm:i<(l.map (·.name)).length:=by rw [List.length_map];exact hlt
   have hgm:(l.map (·.name))[i]=l[i].name:=List.getElem_map ..
   have eF:((l.take (i+1)).map (·.name)).all Vx=(((l.take i).map (·.name)).all Vx&&Vx l[i].name):=by
     rw [List.take_succ_eq_append_getElem hlt,List.map_append,List.all_append];simp
   have eN:=Xaz (l.map (·.name)) i hlm
   rw [hgm] at eN
   have eM:Uj (l.map (·.name)) (i+1)=Xd8 (Uj (l.map (·.name)) i) l[i].name (exI .i64 (i:Int)):=by
     rw [Uj,List.getD_eq_getElem?_getD,List.getElem?_eq_getElem hlm,hgm];rfl
   have hno:=S3 (l.map (·.name)) l[i].name i Yan
   generalize ((l.take i).map (·.name)).all Vx=fa at eF ⊢
   generalize Xga (l.map (·.name)) i=fb at eN ⊢
   by_cases hk:l[i].name∈(l.map (·.name)).take i
   · rw [decide_eq_true hk] at eN
     cases hm:Uq (Uj (l.map (·.name)) i) l[i].name with
     | none=>exact absurd (hno.1 hm) (fun h=>h hk)
     | some p=>
       obtain ⟨n,rfl⟩:=Qk _ _ _ _ hm
       cases fa<;>cases fb
       all_goals ((repeat' (first|(apply Xk;(apply Vd;exact V0 (k:=l[i].name) (j:=1) rfl rfl rfl hm rfl rfl rfl trivial);exact rfl)|(apply Xi;exact rfl;apply Qo;refine Wa (k:=l[i].name) (j:=1) (.inl rfl) rfl rfl rfl rfl rfl rfl rfl ?_)|refine Xf ?_|refine Xb ?_|refine Xd ?_|(apply Xk;exact Yao;exact rfl)|(refine Ve rfl rfl rfl rfl rfl ?_)|(apply Vh;exact rfl;exact rfl;exact rfl;exact Ybt;exact rfl)|refine Xp ?_|refine Xs ?_|(apply Xi;exact rfl;first|(apply Xn;(refine V9 (vs:=[]) (args:=[agg (itemV l[i])]) rfl Tryz.func61 rfl (Q8 _) rfl ?_;rintro _ _ ⟨rfl,rfl⟩))|(apply Wh;refine X7 ?_;intro _)|(apply Xt;refine Xq (k:=0) (l0:=[]) rfl rfl rfl ?_))|(apply Vt;exact rfl;exact rfl;exact rfl;exact rfl;(apply Xn;(refine Xl (.dup 2 rfl rfl .nil) Tryz.func66 rfl (Sk _) rfl ?_;rintro _ _ ⟨rfl,rfl⟩)))|(refine Xo rfl (fun hb=>?_) (fun hb=>?_)<;>(repeat (first|replace hb:=X0 hb|replace hb:=X1 hb))<;>(try (exfalso;omega))))))
       all_goals (try (exfalso;omega))
       all_goals (refine ⟨i+1,by omega,by omega,?_⟩;rw [eF,eN,eM];exact Wu 1 (by repeat (first|exact Xm|refine Xh rfl ?_)) rfl)
   · rw [decide_eq_false hk] at eN
     have hm:=hno.2 hk
     cases fa<;>cases fb
     all_goals ((repeat' (first|(apply Xk;(apply Vd;exact Ti (k:=l[i].name) (j:=1) rfl rfl rfl hm rfl rfl rfl trivial);exact rfl)|(apply Xi;exact rfl;apply Qo;refine Wa (k:=l[i].name) (j:=1) (.inl rfl) rfl rfl rfl rfl rfl rfl rfl ?_)|refine Xf ?_|refine Xb ?_|refine Xd ?_|(apply Xk;exact Yao;exact rfl)|(refine Ve rfl rfl rfl rfl rfl ?_)|(apply Vh;exact rfl;exact rfl;exact rfl;exact Ybt;exact rfl)|refine Xp ?_|refine Xs ?_|(apply Xi;exact rfl;first|(apply Xn;(refine V9 (vs:=[]) (args:=[agg (itemV l[i])]) rfl Tryz.func61 rfl (Q8 _) rfl ?_;rintro _ _ ⟨rfl,rfl⟩))|(apply Wh;refine X7 ?_;intro _)|(apply Xt;refine Xq (k:=0) (l0:=[]) rfl rfl rfl ?_))|(apply Vt;exact rfl;exact rfl;exact rfl;exact rfl;(apply Xn;(refine Xl (.dup 2 rfl rfl .nil) Tryz.func66 rfl (Sk _) rfl ?_;rintro _ _ ⟨rfl,rfl⟩)))|(refine Xo rfl (fun hb=>?_) (fun hb=>?_)<;>(repeat (first|replace hb:=X0 hb|replace hb:=X1 hb))<;>(try (exfalso;omega))))))
     all_goals (try (exfalso;omega))
     all_goals (refine ⟨i+1,by omega,by omega,?_⟩;rw [eF,eN,eM];exact Wu 1 (by repeat (first|exact Xm|refine Xh rfl ?_)) rfl)
 · have hk9:i=l.length:=by omega
   subst hk9
   have e1:Xga (l.map (·.name)) l.length=onceF (l.map (·.name)):=by rw [←Xck,List.length_map]
   rw [List.take_length,e1]
   (repeat' (first|refine Xf ?_|refine Xb ?_|refine Xd ?_|(apply Xk;exact Yba;exact rfl)|refine Xz ?_|refine Wy ?_|(refine Xo rfl (fun hb=>?_) (fun hb=>?_)<;>(repeat (first|replace hb:=X0 hb|replace hb:=X1 hb))<;>(try (exfalso;omega)))))
   all_goals (try (exfalso;omega))
   refine ⟨.inr rfl,Xkw rfl (.tmp rfl) (.tmp rfl) (List.cons_sublist_cons.2 (List.nil_sublist _)) ⟨rfl,rfl⟩⟩
theorem Xa0 (x:TieD):FnC Tryz.prog 63 [agg (tieV x)] [] (fun p loc=>p=exT x.name∧loc=[]):=by
 refine X4 Tryz.func63 rfl Tryz.ntmps63 rfl fun w0 F0 out=>?_
 (repeat' (first|refine Xf ?_|refine Xb ?_|refine Xd ?_|(apply Xk;exact Ydy;exact rfl)|refine Xz ?_|(apply Xi;exact rfl;(apply U7;refine V2 rfl ?_;intro _))))
 refine ⟨.inr rfl,Vk rfl (.tmp rfl) (List.nil_sublist _) ⟨rfl,rfl⟩⟩
theorem Xhx (l:List TieD) (b:Nat) (hl:l.length≤1000):FnC Tryz.prog 62 [ex (.map (some b)),isl eTie l,ex (.func (.func 63) #[] #[])] [Re b ([]:List (List UInt8×SP)),Tab] (fun p loc=>p=tup [exB ((l.map (·.name)).all Vx),exB (onceF (l.map (·.name)))]∧loc=[Re b (Uj (l.map (·.name)) l.length)]):=by
 refine X4 Tryz.func62 rfl Tryz.ntmps62 rfl fun w0 F0 out=>?_
 (repeat' (first|refine Xf ?_|refine Xb ?_|refine Xd ?_|(apply Xk;exact Ybx;exact rfl)|refine Xp ?_))
 refine W1 (fun i:Nat=>([(0,ex (.map (some b))),(13,isl eTie l),(14,exI .i64 (l.length:Int)),(15,exI .i64 (i:Int)),(2,ex (.func (.func 63) #[] #[])),(6,exB (((l.take i).map (·.name)).all Vx)),(7,exB (Xga (l.map (·.name)) i))],[Re b (Uj (l.map (·.name)) i),Tab])) (fun i=>i≤l.length) (fun i=>l.length-i) 0 ?_ (Nat.zero_le _) fun i hi=>?_
 · exact Xg (by repeat (first|exact Xm|refine Xh rfl ?_)) (List.Sublist.refl _)
 by_cases hlt:i<l.length
 · have hlm:i<(l.map (·.name)).length:=by rw [List.length_map];exact hlt
   have hgm:(l.map (·.name))[i]=l[i].name:=List.getElem_map ..
   have eF:((l.take (i+1)).map (·.name)).all Vx=(((l.take i).map (·.name)).all Vx&&Vx l[i].name):=by
     rw [List.take_succ_eq_append_getElem hlt,List.map_append,List.all_append];simp
   have eN:=Xaz (l.map (·.name)) i hlm
   rw [hgm] at eN
   have eM:Uj (l.map (·.name)) (i+1)=Xd8 (Uj (l.map (·.name)) i) l[i].name (exI .i64 (i:Int)):=by
     rw [Uj,List.getD_eq_getElem?_getD,List.getElem?_eq_getElem hlm,hgm];rfl
   have hno:=S3 (l.map (·.name)) l[i].name i Yan
   generalize ((l.take i).map (·.name)).all Vx=fa at eF ⊢
   generalize Xga (l.map (·.name)) i=fb at eN ⊢
   by_cases hk:l[i].name∈(l.map (·.name)).take i
   · rw [decide_eq_true hk] at eN
     cases hm:Uq (Uj (l.map (·.name)) i) l[i].name with
     | none=>exact absurd (hno.1 hm) (fun h=>h hk)
     | some p=>
       obtain ⟨n,rfl⟩:=Qk _ _ _ _ hm
       cases fa<;>cases fb
       all_goals ((repeat' (first|(apply Xk;(apply Vd;exact V0 (k:=l[i].name) (j:=1) rfl rfl rfl hm rfl rfl rfl trivial);exact rfl)|(apply Xi;exact rfl;apply Qo;refine Wa (k:=l[i].name) (j:=1) (.inl rfl) rfl rfl rfl rfl rfl rfl rfl ?_)|refine Xf ?_|refine Xb ?_|refine Xd ?_|(apply Xk;exact Yao;exact rfl)|(refine Ve rfl rfl rfl rfl rfl ?_)|(apply Vh;exact rfl;exact rfl;exact rfl;exact Ybt;exact rfl)|refine Xp ?_|refine Xs ?_|(apply Xi;exact rfl;first|(apply Xn;(refine V9 (vs:=[]) (args:=[agg (tieV l[i])]) rfl Tryz.func63 rfl (Xa0 _) rfl ?_;rintro _ _ ⟨rfl,rfl⟩))|(apply Wh;refine X7 ?_;intro _)|(apply Xt;refine Xq (k:=0) (l0:=[]) rfl rfl rfl ?_))|(apply Vt;exact rfl;exact rfl;exact rfl;exact rfl;(apply Xn;(refine Xl (.dup 2 rfl rfl .nil) Tryz.func66 rfl (Sk _) rfl ?_;rintro _ _ ⟨rfl,rfl⟩)))|(refine Xo rfl (fun hb=>?_) (fun hb=>?_)<;>(repeat (first|replace hb:=X0 hb|replace hb:=X1 hb))<;>(try (exfalso;omega))))))
       all_goals (try (exfalso;omega))
       all_goals (refine ⟨i+1,by omega,by omega,?_⟩;rw [eF,eN,eM];exact Wu 1 (by repeat (first|exact Xm|refine Xh rfl ?_)) rfl)
   · rw [decide_eq_false hk] at eN
     have hm:=hno.2 hk
     cases fa<;>cases fb
     all_goals ((repeat' (first|(apply Xk;(apply Vd;exact Ti (k:=l[i].name) (j:=1) rfl rfl rfl hm rfl rfl rfl trivial);exact rfl)|(apply Xi;exact rfl;apply Qo;refine Wa (k:=l[i].name) (j:=1) (.inl rfl) rfl rfl rfl rfl rfl rfl rfl ?_)|refine Xf ?_|refine Xb ?_|refine Xd ?_|(apply Xk;exact Yao;exact rfl)|(refine Ve rfl rfl rfl rfl rfl ?_)|(apply Vh;exact rfl;exact rfl;exact rfl;exact Ybt;exact rfl)|refine Xp ?_|refine Xs ?_|(apply Xi;exact rfl;first|(apply Xn;(refine V9 (vs:=[]) (args:=[agg (tieV l[i])]) rfl Tryz.func63 rfl (Xa0 _) rfl ?_;rintro _ _ ⟨rfl,rfl⟩))|(apply Wh;refine X7 ?_;intro _)|(apply Xt;refine Xq (k:=0) (l0:=[]) rfl rfl rfl ?_))|(apply Vt;exact rfl;exact rfl;exact rfl;exact rfl;(apply Xn;(refine Xl (.dup 2 rfl rfl .nil) Tryz.func66 rfl (Sk _) rfl ?_;rintro _ _ ⟨rfl,rfl⟩)))|(refine Xo rfl (fun hb=>?_) (fun hb=>?_)<;>(repeat (first|replace hb:=X0 hb|replace hb:=X1 hb))<;>(try (exfalso;omega))))))
     all_goals (try (exfalso;omega))
     all_goals (refine ⟨i+1,by omega,by omega,?_⟩;rw [eF,eN,eM];exact Wu 1 (by repeat (first|exact Xm|refine Xh rfl ?_)) rfl)
 · have hk9:i=l.length:=by omega
   subst hk9
   have e1:Xga (l.map (·.name)) l.length=onceF (l.map (·.name)):=by rw [←Xck,List.length_map]
   rw [List.take_length,e1]
   (repeat' (first|refine Xf ?_|refine Xb ?_|refine Xd ?_|(apply Xk;exact Yba;exact rfl)|refine Xz ?_|refine Wy ?_|(refine Xo rfl (fun hb=>?_) (fun hb=>?_)<;>(repeat (first|replace hb:=X0 hb|replace hb:=X1 hb))<;>(try (exfalso;omega)))))
   all_goals (try (exfalso;omega))
   refine ⟨.inr rfl,Xkw rfl (.tmp rfl) (.tmp rfl) (List.cons_sublist_cons.2 (List.nil_sublist _)) ⟨rfl,rfl⟩⟩
theorem Ql (k:Nat) (x:RoundD):FnC Tryz.prog 65 [agg (W3 k x)] [] (fun p loc=>p=exT x.name∧loc=[]):=by
 refine X4 Tryz.func65 rfl Tryz.ntmps65 rfl fun w0 F0 out=>?_
 (repeat' (first|refine Xf ?_|refine Xb ?_|refine Xd ?_|(apply Xk;exact Ydy;exact rfl)|refine Xz ?_|(apply Xi;exact rfl;(apply U7;refine V2 rfl ?_;intro _))))
 refine ⟨.inr rfl,Vk rfl (.tmp rfl) (List.nil_sublist _) ⟨rfl,rfl⟩⟩
theorem Xe1 (k:Nat) (l:List RoundD) (b:Nat) (hl:l.length≤1000):FnC Tryz.prog 64 [ex (.map (some b)),isl (Vy k) l,ex (.func (.func 65) #[] #[])] [Re b ([]:List (List UInt8×SP)),Tab] (fun p loc=>p=tup [exB ((l.map (·.name)).all Vx),exB (onceF (l.map (·.name)))]∧loc=[Re b (Uj (l.map (·.name)) l.length)]):=by
 refine X4 Tryz.func64 rfl Tryz.ntmps64 rfl fun w0 F0 out=>?_
 (repeat' (first|refine Xf ?_|refine Xb ?_|refine Xd ?_|(apply Xk;exact Ybx;exact rfl)|refine Xp ?_))
 refine W1 (fun i:Nat=>([(0,ex (.map (some b))),(13,isl (Vy k) l),(14,exI .i64 (l.length:Int)),(15,exI .i64 (i:Int)),(2,ex (.func (.func 65) #[] #[])),(6,exB (((l.take i).map (·.name)).all Vx)),(7,exB (Xga (l.map (·.name)) i))],[Re b (Uj (l.map (·.name)) i),Tab])) (fun i=>i≤l.length) (fun i=>l.length-i) 0 ?_ (Nat.zero_le _) fun i hi=>?_
 · exact Xg (by repeat (first|exact Xm|refine Xh rfl ?_)) (List.Sublist.refl _)
 by_cases hlt:i<l.length
 · have hlm:i<(l.map (·.name)).length:=by rw [List.length_map];exact hlt
   have hgm:(l.map (·.name))[i]=l[i].name:=List.getElem_map ..
   have eF:((l.take (i+1)).map (·.name)).all Vx=(((l.take i).map (·.name)).all Vx&&Vx l[i].name):=by
     rw [List.take_succ_eq_append_getElem hlt,List.map_append,List.all_append];simp
   have eN:=Xaz (l.map (·.name)) i hlm
   rw [hgm] at eN
   have eM:Uj (l.map (·.name)) (i+1)=Xd8 (Uj (l.map (·.name)) i) l[i].name (exI .i64 (i:Int)):=by
     rw [Uj,List.getD_eq_getElem?_getD,List.getElem?_eq_getElem hlm,hgm];rfl
   have hno:=S3 (l.map (·.name)) l[i].name i Yan
   generalize ((l.take i).map (·.name)).all Vx=fa at eF ⊢
   generalize Xga (l.map (·.name)) i=fb at eN ⊢
   by_cases hk:l[i].name∈(l.map (·.name)).take i
   · rw [decide_eq_true hk] at eN
     cases hm:Uq (Uj (l.map (·.name)) i) l[i].name with
     | none=>exact absurd (hno.1 hm) (fun h=>h hk)
     | some p=>
       obtain ⟨n,rfl⟩:=Qk _ _ _ _ hm
       cases fa<;>cases fb
       all_goals ((repeat' (first|(apply Xk;(apply Vd;exact V0 (k:=l[i].name) (j:=1) rfl rfl rfl hm rfl rfl rfl trivial);exact rfl)|(apply Xi;exact rfl;apply Qo;refine Wa (k:=l[i].name) (j:=1) (.inl rfl) rfl rfl rfl rfl rfl rfl rfl ?_)|refine Xf ?_|refine Xb ?_|refine Xd ?_|(apply Xk;exact Yao;exact rfl)|(refine Ve rfl rfl rfl rfl rfl ?_)|(apply Vh;exact rfl;exact rfl;exact rfl;exact Ybt;exact rfl)|refine Xp ?_|refine Xs ?_|(apply Xi;exact rfl;first|(apply Xn;(refine V9 (vs:=[]) (args:=[agg (W3 k l[i])]) rfl Tryz.func65 rfl (Ql k _) rfl ?_;rintro _ _ ⟨rfl,rfl⟩))|(apply Wh;refine X7 ?_;intro _)|(apply Xt;refine Xq (k:=0) (l0:=[]) rfl rfl rfl ?_))|(apply Vt;exact rfl;exact rfl;exact rfl;exact rfl;(apply Xn;(refine Xl (.dup 2 rfl rfl .nil) Tryz.func66 rfl (Sk _) rfl ?_;rintro _ _ ⟨rfl,rfl⟩)))|(refine Xo rfl (fun hb=>?_) (fun hb=>?_)<;>(repeat (first|replace hb:=X0 hb|replace hb:=X1 hb))<;>(try (exfalso;omega))))))
       all_goals (try (exfalso;omega))
       all_goals (refine ⟨i+1,by omega,by omega,?_⟩;rw [eF,eN,eM];exact Wu 1 (by repeat (first|exact Xm|refine Xh rfl ?_)) rfl)
   · rw [decide_eq_false hk] at eN
     have hm:=hno.2 hk
     cases fa<;>cases fb
     all_goals ((repeat' (first|(apply Xk;(apply Vd;exact Ti (k:=l[i].name) (j:=1) rfl rfl rfl hm rfl rfl rfl trivial);exact rfl)|(apply Xi;exact rfl;apply Qo;refine Wa (k:=l[i].name) (j:=1) (.inl rfl) rfl rfl rfl rfl rfl rfl rfl ?_)|refine Xf ?_|refine Xb ?_|refine Xd ?_|(apply Xk;exact Yao;exact rfl)|(refine Ve rfl rfl rfl rfl rfl ?_)|(apply Vh;exact rfl;exact rfl;exact rfl;exact Ybt;exact rfl)|refine Xp ?_|refine Xs ?_|(apply Xi;exact rfl;first|(apply Xn;(refine V9 (vs:=[]) (args:=[agg (W3 k l[i])]) rfl Tryz.func65 rfl (Ql k _) rfl ?_;rintro _ _ ⟨rfl,rfl⟩))|(apply Wh;refine X7 ?_;intro _)|(apply Xt;refine Xq (k:=0) (l0:=[]) rfl rfl rfl ?_))|(apply Vt;exact rfl;exact rfl;exact rfl;exact rfl;(apply Xn;(refine Xl (.dup 2 rfl rfl .nil) Tryz.func66 rfl (Sk _) rfl ?_;rintro _ _ ⟨rfl,rfl⟩)))|(refine Xo rfl (fun hb=>?_) (fun hb=>?_)<;>(repeat (first|replace hb:=X0 hb|replace hb:=X1 hb))<;>(try (exfalso;omega))))))
     all_goals (try (exfalso;omega))
     all_goals (refine ⟨i+1,by omega,by omega,?_⟩;rw [eF,eN,eM];exact Wu 1 (by repeat (first|exact Xm|refine Xh rfl ?_)) rfl)
 · have hk9:i=l.length:=by omega
   subst hk9
   have e1:Xga (l.map (·.name)) l.length=onceF (l.map (·.name)):=by rw [←Xck,List.length_map]
   rw [List.take_length,e1]
   (repeat' (first|refine Xf ?_|refine Xb ?_|refine Xd ?_|(apply Xk;exact Yba;exact rfl)|refine Xz ?_|refine Wy ?_|(refine Xo rfl (fun hb=>?_) (fun hb=>?_)<;>(repeat (first|replace hb:=X0 hb|replace hb:=X1 hb))<;>(try (exfalso;omega)))))
   all_goals (try (exfalso;omega))
   refine ⟨.inr rfl,Xkw rfl (.tmp rfl) (.tmp rfl) (List.cons_sublist_cons.2 (List.nil_sublist _)) ⟨rfl,rfl⟩⟩
end Go.Proofs.YthdldeenpgeemaaGreatDoor
namespace Go.Proofs.YthdldeenpgeemaaGreatDoor
open Go Go.RowKit Go.Kx Go.Fr
def Xhy (p:Int×Int):List SP:=[exI .i64 p.1,exI .i64 p.2]
instance {p:Int×Int}:Scs (Xhy p):=by unfold Xhy;infer_instance
instance:LenS Xhy 2:=⟨fun _=>rfl⟩
abbrev ePair:Enc (Int×Int):=Xh0 Xhy 2 16
theorem Xcz (p:Int×Int):FnC Tryz.prog 178 [agg (Xhy p)] [] (fun q loc=>q=exB (decide (p.2<p.1))∧loc=[]):=by
 refine X4 Tryz.func178 rfl Tryz.ntmps178 rfl fun w0 F0 out=>?_
 (repeat' (first|refine Xf ?_|refine Xb ?_|refine Xd ?_|(apply Xk;(first|exact Xj rfl|exact Yaf|exact Yad|exact Ybo);exact rfl)|refine Xz ?_|(apply Xi;exact rfl;(apply U7;refine V2 rfl ?_;intro _))))
 exact ⟨.inr rfl,Vk rfl (.tmp rfl) (List.nil_sublist _) ⟨rfl,rfl⟩⟩
def Xl2 (l:List (Int×Int)):Int:=match l.findIdx? (fun p=>decide (p.2<p.1)) with
 | some i=>i
 | none=> -1
theorem Xl3 (l:List (Int×Int)):decide (0≤Xl2 l)=l.any (fun p=>decide (p.2<p.1)):=by
 unfold Xl2
 cases h:l.findIdx? (fun p=>decide (p.2<p.1)) with
 | none=>
   rw [List.findIdx?_eq_none_iff] at h
   symm
   rw [show decide ((0:Int)≤ -1)=false from rfl,List.any_eq_false]
   intro x hx
   simpa using h x hx
 | some i=>
   obtain ⟨h1,h2,_⟩:=List.findIdx?_eq_some_iff_getElem.1 h
   symm
   rw [decide_eq_true (Int.natCast_nonneg i),List.any_eq_true]
   exact ⟨_,List.getElem_mem h1,h2⟩
theorem Xkh (l:List (Int×Int)):FnC Tryz.prog 209 [isl ePair l,ex (.func (.func 178) #[] #[])] [] (fun q loc=>q=exI .i64 (Xl2 l)∧loc=[]):=by
 refine Wl (i:=0) rfl Ws fun hl=>?_
 replace hl:=hl.1
 simp only [maxLen] at hl
 refine X4 Tryz.func209 rfl Tryz.ntmps209 rfl fun w0 F0 out=>?_
 (repeat' (first|refine Xf ?_|refine Xb ?_|refine Xd ?_|(apply Xk;exact Ybx;exact rfl)|refine Xp ?_))
 refine W1 (fun i:Nat=>([(0,isl ePair l),(1,ex (.func (.func 178) #[] #[])),(7,exI .i64 (l.length:Int)),(8,exI .i64 (i:Int))],[])) (fun i=>i≤l.length∧ ∀j (h:j<i) (h2:j<l.length),¬(l[j]).2<(l[j]).1) (fun i=>l.length-i) 0 ?_ ⟨Nat.zero_le _,fun j h=>absurd h (Nat.not_lt_zero j)⟩ fun i hi=>?_
 · exact Xg (by repeat (first|exact Xm|refine Xh rfl ?_)) (List.Sublist.refl _)
 obtain ⟨hi,hn⟩:=hi
 by_cases hlt:i<l.length
 · by_cases he:(l[i]).2<(l[i]).1
   · (repeat' (first|refine Xf ?_|refine Xb ?_|refine Xd ?_|(apply Xk;(first|exact Xe rfl|exact Xj rfl|exact Yau|exact Yak|exact Yae);exact rfl)|refine Xp ?_|refine Xs ?_|refine Xz ?_|(apply Xi;exact rfl;(apply Xn;(refine V9 (vs:=[]) (args:=[agg (Xhy l[i])]) rfl Tryz.func178 rfl (Xcz _) rfl ?_;rintro _ _ ⟨rfl,rfl⟩)))|(refine Xo rfl (fun hb=>?_) (fun hb=>?_)<;>(repeat (first|replace hb:=X0 hb|replace hb:=X1 hb))<;>(try (exfalso;omega)))))
     all_goals (try (exfalso;first|contradiction|omega))
     refine ⟨.inr rfl,Vk rfl (.tmp rfl) (List.nil_sublist _) ⟨congrArg (exI .i64) ?_,rfl⟩⟩
     have:l.findIdx? (fun p=>decide (p.2<p.1))=some i:=by
       rw [List.findIdx?_eq_some_iff_getElem]
       exact ⟨hlt,decide_eq_true he,fun j hj=>by simpa using hn j hj Yan⟩
     unfold Xl2;rw [this]
   · (repeat' (first|refine Xf ?_|refine Xb ?_|refine Xd ?_|(apply Xk;(first|exact Xe rfl|exact Xj rfl|exact Yau|exact Ybe|exact Yae);exact rfl)|refine Xp ?_|refine Xs ?_|(apply Xi;exact rfl;(apply Xn;(refine V9 (vs:=[]) (args:=[agg (Xhy l[i])]) rfl Tryz.func178 rfl (Xcz _) rfl ?_;rintro _ _ ⟨rfl,rfl⟩)))|(refine Xo rfl (fun hb=>?_) (fun hb=>?_)<;>(repeat (first|replace hb:=X0 hb|replace hb:=X1 hb))<;>(try (exfalso;omega)))))
     all_goals (try (exfalso;first|contradiction|omega))
     exact ⟨i+1,⟨by omega,fun j h h2=>by
       by_cases e:j=i
       · subst e;exact he
       · exact hn j Yan h2⟩,by omega,Xg (by repeat (first|exact Xm|refine Xh rfl ?_)) (List.Sublist.refl _)⟩
 · (repeat' (first|refine Xf ?_|refine Xb ?_|refine Xd ?_|(apply Xk;exact Ybv;exact rfl)|refine Xz ?_|refine Wy ?_|(refine Xo rfl (fun hb=>?_) (fun hb=>?_)<;>(repeat (first|replace hb:=X0 hb|replace hb:=X1 hb))<;>(try (exfalso;omega)))))
   all_goals (try (exfalso;omega))
   refine ⟨.inr rfl,Vk rfl (.tmp rfl) (List.nil_sublist _) ⟨congrArg (exI .i64) ?_,rfl⟩⟩
   have:l.findIdx? (fun p=>decide (p.2<p.1))=none:=by
     rw [List.findIdx?_eq_none_iff]
     intro x hx
     obtain ⟨j,hj,rfl⟩:=List.getElem_of_mem hx
     simpa using hn j Yan hj
   unfold Xl2;rw [this]
theorem Xki (l:List (Int×Int)):FnC Tryz.prog 177 [isl ePair l,ex (.func (.func 178) #[] #[])] [] (fun q loc=>q=exB (l.any (fun p=>decide (p.2<p.1)))∧loc=[]):=by
 refine X4 Tryz.func177 rfl Tryz.ntmps177 rfl fun w0 F0 out=>?_
 (repeat' (first|refine Xf ?_|refine Xb ?_|refine Xd ?_|(apply Xk;exact Ycm;exact rfl)|refine Xz ?_|(apply Xi;exact rfl;(apply Xn;(refine X9 Tryz.func209 rfl (Xkh _) rfl ?_;rintro _ _ ⟨rfl,rfl⟩)))))
 refine ⟨.inr rfl,Vk rfl (.tmp rfl) (List.nil_sublist _) ⟨?_,rfl⟩⟩
 rw [←Xl3]
theorem Xbs (l:List (Int×Int)):FnC Tryz.prog 135 [isl ePair l] [] (fun q loc=>q=exB (!l.any (fun p=>decide (p.2<p.1)))∧loc=[]):=by
 refine X4 Tryz.func135 rfl Tryz.ntmps135 rfl fun w0 F0 out=>?_
 (repeat' (first|refine Xf ?_|refine Xb ?_|refine Xd ?_|(apply Xk;(first|exact Xe rfl|exact Xj rfl|exact Yaw);exact rfl)|refine Xz ?_|(apply Xi;exact rfl;(apply Xn;(refine X9 Tryz.func177 rfl (Xki _) rfl ?_;rintro _ _ ⟨rfl,rfl⟩)))))
 exact ⟨.inr rfl,Vk rfl (.tmp rfl) (List.nil_sublist _) ⟨rfl,rfl⟩⟩
end Go.Proofs.YthdldeenpgeemaaGreatDoor
namespace Go.Proofs.YthdldeenpgeemaaGreatDoor
open Go Go.RowKit Go.Kx Go.Fr
mutual
theorem sizeN_depth: ∀(x:Ex) (p:Nat),(x.sizeN p).2≤x.depth
 | .mk _ _ _ _ l,p=>by
   simp only [Ex.sizeN,Ex.depth]
   split
   · exact Nat.zero_le _
   · have:=sizesN_depth l (p+1) 0
     show (Ex.sizesN l (p+1) 0).2+1≤_
     omega
theorem sizesN_depth: ∀(l:List Ex) (p d:Nat),(Ex.sizesN l p d).2≤max d (Ex.depths l)
 | [],p,d=>by simp only [Ex.sizesN,Ex.depths];omega
 | x::xs,p,d=>by
   simp only [Ex.sizesN,Ex.depths]
   have h1:=sizeN_depth x p
   have h2:=sizesN_depth xs (x.sizeN p).1 (max d (x.sizeN p).2)
   omega
end
theorem size_any: ∀(k:Nat) (x:Ex) (b p:Nat),p+x.tot≤2 ^ 60→FnC Tryz.prog 136 [agg (exV k x),ex (.pointer (some ⟨b,0,none⟩))] [row b 3 1 [exI .i64 (p:Int)]] (fun q loc=>q=exI .i64 ((x.sizeN p).2:Int)∧loc=[row b 3 1 [exI .i64 ((x.sizeN p).1:Int)]]):=by
 intro k
 induction k with
 | zero=>intro x b p _;exact Wl (i:=0) rfl Sm fun h=>h.elim
 | succ k ih=>
   intro x b p hp
   refine Wl (i:=0) rfl (Ui (i:=4) (p:=isl (eEx k) x.l) rfl Ws) fun hlen=>?_
   show FnC Tryz.prog 136 [agg [exI .i64 x.kind,exT x.name,exI .i64 x.n,exI .i64 x.d,isl (eEx k) x.l],ex (.pointer (some ⟨b,0,none⟩))] [row b 3 1 [exI .i64 (p:Int)]] (fun q loc=>q=exI .i64 ((x.sizeN p).2:Int)∧loc=[row b 3 1 [exI .i64 ((x.sizeN p).1:Int)]])
   obtain ⟨hlen,-⟩:=hlen
   simp only [maxLen] at hlen
   have htl:=Ex.tot_l x
   have hspec:=Ex.sizesN_spec x.l (p+1) 0
   rw [Ex.sizeN_l]
   refine X4 Tryz.func136 rfl Tryz.ntmps136 rfl fun w0 F0 out=>?_
   by_cases hbig:256<p+1
   · rw [if_pos hbig]
     (repeat' (first|refine Xf ?_|refine Xb ?_|refine Xd ?_|(apply Xk;(first|exact Xe rfl|exact Xj rfl|exact Ya1|(apply V1;first|exact Xdg rfl rfl|exact Sv rfl rfl)|exact Yam);exact rfl)|refine Xz ?_|(apply Xi;exact rfl;first|(apply U7;refine V2 rfl ?_;intro _)|(apply Xt;refine Xq (k:=1) (l0:=[]) rfl rfl rfl ?_))|(refine Xo rfl (fun hb=>?_) (fun hb=>?_)<;>(repeat (first|replace hb:=X0 hb|replace hb:=X1 hb))<;>(try (exfalso;omega)))))
     all_goals (try (exfalso;omega))
     exact ⟨.inr rfl,Vk rfl (.tmp rfl) (List.sublist_cons_self _ _) ⟨rfl,rfl⟩⟩
   rw [if_neg hbig]
   (repeat' (first|refine Xf ?_|refine Xb ?_|refine Xd ?_|(apply Xk;(first|exact Xe rfl|exact Xj rfl|exact Yap|exact Yad|(apply V1;first|exact Xdg rfl rfl|exact Sv rfl rfl)|exact Yaq|exact Yam);exact rfl)|refine Xp ?_|refine Xs ?_|(apply Xi;exact rfl;first|(apply U7;refine V2 rfl ?_;intro _)|(apply Xt;refine Xq (k:=1) (l0:=[]) rfl rfl rfl ?_))|(refine Xo rfl (fun hb=>?_) (fun hb=>?_)<;>(repeat (first|replace hb:=X0 hb|replace hb:=X1 hb))<;>(try (exfalso;omega)))))
   all_goals (try (exfalso;omega))
   refine W1 (fun s:Nat×Nat×Nat=>([(1,ex (.pointer (some ⟨b,0,none⟩))),(4,exI .i64 (s.2.2:Int)),(17,isl (eEx k) x.l),(18,exI .i64 (x.l.length:Int)),(19,exI .i64 (s.1:Int))],[row b 3 1 [exI .i64 (s.2.1:Int)]])) (fun s=>s.1≤x.l.length∧s.2.1+Ex.tots (x.l.drop s.1)≤2 ^ 60∧s.2.2≤2 ^ 60∧Ex.sizesN (x.l.drop s.1) s.2.1 s.2.2=Ex.sizesN x.l (p+1) 0) (fun s=>x.l.length-s.1) (0,p+1,0) ?_ ⟨Nat.zero_le _,by show p+1+Ex.tots x.l≤_;omega,Nat.zero_le _,rfl⟩ fun s hs=>?_
   · exact Wu 1 (by repeat (first|exact Xm|refine Xh rfl ?_)) rfl
   obtain ⟨i,q,d⟩:=s
   obtain ⟨hi,hq,hd,he⟩:=hs
   simp only at hi hq hd he ⊢
   by_cases hlt:i<x.l.length
   · rw [Ex.sizesN_drop hlt] at he
     rw [Ex.tots_drop hlt] at hq
     have hsp:=Ex.sizeN_spec x.l[i] q
     have hcall:=ih x.l[i] b q Yan
     have hd2:=sizeN_depth x.l[i] q
     have hdt:=Ex.depth_le_tot x.l[i]
     (repeat' (first|refine Xf ?_|refine Xb ?_|refine Xd ?_|(apply Xk;(first|exact Xe rfl|exact Xj rfl|exact Yco|exact Ybe|exact Yae|(apply Xef;exact Xq3 rfl rfl));exact rfl)|refine Xp ?_|refine Xs ?_|(apply Xi;exact rfl;first|(apply Xn;(refine Xep (k:=1) rfl Tryz.func136 rfl hcall rfl ?_;rintro _ _ ⟨rfl,rfl⟩))|(apply Wh;refine X7 ?_;intro _)|(apply Xt;refine Xq (k:=0) (l0:=[]) rfl rfl rfl ?_))|(refine Xo rfl (fun hb=>?_) (fun hb=>?_)<;>(repeat (first|replace hb:=X0 hb|replace hb:=X1 hb))<;>(try (exfalso;omega)))))
     all_goals (try (exfalso;omega))
     refine ⟨(i+1,(x.l[i].sizeN q).1,max d (x.l[i].sizeN q).2),⟨by show i+1≤_;omega,by show (x.l[i].sizeN q).1+Ex.tots (x.l.drop (i+1))≤_;omega,by show max d (x.l[i].sizeN q).2≤_;omega,he⟩,by show x.l.length-(i+1)<x.l.length-i;omega,?_⟩
     have e1:((max d (x.l[i].sizeN q).2:Nat):Int)=if ((x.l[i].sizeN q).2:Int)>(d:Int) then ((x.l[i].sizeN q).2:Int) else (d:Int):=by split<;>omega
     simp only [e1]
     exact Xg (by repeat (first|exact Xm|refine Xh rfl ?_)) (List.cons_sublist_cons.2 (List.nil_sublist _))
   · have hk9:i=x.l.length:=by omega
     subst hk9
     rw [List.drop_length] at he
     simp only [Ex.sizesN] at he
     rw [←he]
     (repeat' (first|refine Xf ?_|refine Xb ?_|refine Xd ?_|(apply Xk;(first|exact Xe rfl|exact Xj rfl|exact Ybe);exact rfl)|refine Xz ?_|refine Wy ?_|(refine Xo rfl (fun hb=>?_) (fun hb=>?_)<;>(repeat (first|replace hb:=X0 hb|replace hb:=X1 hb))<;>(try (exfalso;omega)))))
     all_goals (try (exfalso;omega))
     refine ⟨.inr rfl,Vk rfl (.tmp rfl) (List.Sublist.refl _) ⟨rfl,rfl⟩⟩
theorem Xof (r:RulesD):([((r.crits.length:Int),(64:Int)),((r.bonus.length:Int),64),((r.malus.length:Int),64),((r.ties.length:Int),16),((r.rounds.length:Int),8),((r.prizes.length:Int),64),((r.points.length:Int),64)].any fun p=>decide (p.2<p.1))=r.big:=by
 rw [Bool.eq_iff_iff]
 simp only [RulesD.big,List.any_cons,List.any_nil,Bool.or_false,Bool.or_eq_true,decide_eq_true_eq]
 omega
theorem Xl4 (k:Nat) (r:RulesD) (hf:r.few=true):FnC Tryz.prog 56 [rul k r] [] (fun p loc=>p=exB (!r.large)∧loc=[]):=by
 obtain ⟨hf1,hf2,hf3,hf4,hf5,hf6,hf7,hf8,hf9⟩:=Xay hf
 refine X4 Tryz.func56 rfl Tryz.ntmps56 rfl fun w0 F0 out=>?_
 have hw7:=Xbs [((r.crits.length:Int),(64:Int)),((r.bonus.length:Int),64),((r.malus.length:Int),64),((r.ties.length:Int),16),((r.rounds.length:Int),8),((r.prizes.length:Int),64),((r.points.length:Int),64)]
 rw [Xof r] at hw7
 cases hbg:r.big
 case true=>
   have e:r.large=true:=by unfold RulesD.large;rw [hbg];rfl
   rw [e]
   rw [hbg] at hw7
   (repeat' (first|refine Xf ?_|refine Xb ?_|refine Xd ?_|(apply Xk;(first|exact Xj rfl|exact Yaf|exact Yad|exact Yaq|exact Yaw|exact Ya7);exact rfl)|refine Xz ?_|refine Xx rfl ?_|(apply Xi;exact rfl;first|(apply Xn;(refine Qv (k:=0) rfl Tryz.func135 rfl hw7 (.part (E:=ePair) (off:=0) rfl inferInstance (fun _=>rfl) Yar rfl rfl Yar Yar Yar .nil) Yce ?_;rintro v ⟨hv,_⟩;obtain rfl:=Xdy hv))|(apply U7;refine V2 rfl ?_;intro _)|(apply X5;(refine Wq rfl Yac ?_);intro _))))
   all_goals (try (exfalso;omega))
   exact ⟨.inr rfl,Vk rfl (.tmp rfl) (List.nil_sublist _) ⟨rfl,rfl⟩⟩
 have hl:r.large=(r.ties.any (fun t=>decide (32<t.keys.length))||r.rounds.any (fun y=>decide (256<y.score.tot)||decide (16<y.score.depth))):=by unfold RulesD.large;rw [hbg];rfl
 rw [hl]
 rw [hbg] at hw7
 (repeat' (first|refine Xf ?_|refine Xb ?_|refine Xd ?_|(apply Xk;(first|exact Xe rfl|exact Xj rfl|exact Yap|exact Yad|exact Yaq|exact Yaw|exact Ya7);exact rfl)|refine Xp ?_|refine Xs ?_|refine X2 rfl ?_|(apply Xi;exact rfl;first|(apply Xn;(refine Qv (k:=0) rfl Tryz.func135 rfl hw7 (.part (E:=ePair) (off:=0) rfl inferInstance (fun _=>rfl) Yar rfl rfl Yar Yar Yar .nil) Yce ?_;rintro v ⟨hv,_⟩;obtain rfl:=Xdy hv))|(apply U7;refine V2 rfl ?_;intro _)|(apply X5;(refine Wq rfl Yac ?_);intro _))))
 all_goals (try (exfalso;omega))
 rename_i b1 b2 _
 refine W1 (fun i:Nat=>([(1,ex (.pointer (some ⟨b1,0,none⟩))),(41,isl eTie r.ties),(42,exI .i64 (r.ties.length:Int)),(43,exI .i64 (i:Int))],[row b1 29 9 (Vc k r)])) (fun i=>i≤r.ties.length∧(r.ties.take i).any (fun t=>decide (32<t.keys.length))=false) (fun i=>r.ties.length-i) 0 ?_ ⟨Nat.zero_le _,rfl⟩ fun i hi=>?_
 · exact Wu 1 (by repeat (first|exact Xm|refine Xh rfl ?_)) rfl
 obtain ⟨hi,hall⟩:=hi
 by_cases hlt:i<r.ties.length
 · have hw1:=Xbs [((r.ties[i].keys.length:Int),(32:Int))]
   by_cases he:r.ties[i].keys.length≤32
   · have e1:([((r.ties[i].keys.length:Int),(32:Int))].any fun p=>decide (p.2<p.1))=false:=by simp;omega
     rw [e1] at hw1
     (repeat' (first|refine Xf ?_|refine Xb ?_|refine Xd ?_|(apply Xk;(first|exact Xe rfl|exact Yb7|exact Yad|exact Ybe|exact Yae|exact Yaq|exact Yaw|exact Ya7);exact rfl)|refine Xp ?_|refine Xs ?_|refine X2 rfl ?_|(apply Xi;exact rfl;first|(apply Xn;(refine Qv (k:=0) rfl Tryz.func135 rfl hw1 (.part (E:=ePair) (off:=0) rfl inferInstance (fun _=>rfl) Yar rfl rfl Yar Yar Yar .nil) Yce ?_;rintro v ⟨hv,_⟩;obtain rfl:=Xdy hv))|(apply Wh;refine X7 ?_;intro _)|(apply Xt;refine Xq (k:=0) (l0:=[]) rfl rfl rfl ?_)|(apply X5;(refine Wb rfl rfl ?_);intro _))|(refine Xo rfl (fun hb=>?_) (fun hb=>?_)<;>(repeat (first|replace hb:=X0 hb|replace hb:=X1 hb))<;>(try (exfalso;omega)))))
     all_goals (try (exfalso;omega))
     exact ⟨i+1,⟨by omega,by rw [Xa3 hlt,hall,decide_eq_false Yan];rfl⟩,by omega,Wu 2 (by repeat (first|exact Xm|refine Xh rfl ?_)) rfl⟩
   · have e1:([((r.ties[i].keys.length:Int),(32:Int))].any fun p=>decide (p.2<p.1))=true:=by simp;omega
     rw [e1] at hw1
     (repeat' (first|refine Xf ?_|refine Xb ?_|refine Xd ?_|(apply Xk;(first|exact Xj rfl|exact Yb7|exact Yad|exact Yak|exact Yae|exact Yaq|exact Yaw|exact Ya7);exact rfl)|refine Xp ?_|refine Xs ?_|refine Xz ?_|refine Xx rfl ?_|(apply Xi;exact rfl;first|(apply Xn;(refine Qv (k:=0) rfl Tryz.func135 rfl hw1 (.part (E:=ePair) (off:=0) rfl inferInstance (fun _=>rfl) Yar rfl rfl Yar Yar Yar .nil) Yce ?_;rintro v ⟨hv,_⟩;obtain rfl:=Xdy hv))|(apply Wh;refine X7 ?_;intro _)|(apply Xt;refine Xq (k:=0) (l0:=[]) rfl rfl rfl ?_)|(apply X5;(refine Wb rfl rfl ?_);intro _))|(refine Xo rfl (fun hb=>?_) (fun hb=>?_)<;>(repeat (first|replace hb:=X0 hb|replace hb:=X1 hb))<;>(try (exfalso;omega)))))
     all_goals (try (exfalso;omega))
     refine ⟨.inr rfl,Vk rfl (.tmp rfl) (List.nil_sublist _) ⟨congrArg exB ?_,rfl⟩⟩
     have:r.ties.any (fun t=>decide (32<t.keys.length))=true:=by
       rw [List.any_eq_true];exact ⟨_,List.getElem_mem hlt,by simpa using he⟩
     rw [this];rfl
 · have hk9:i=r.ties.length:=by omega
   subst hk9
   rw [List.take_length] at hall
   rw [hall,Bool.false_or]
   (repeat' (first|refine Xf ?_|refine Xb ?_|refine Xd ?_|(apply Xk;(first|exact Xe rfl|exact Yaf|exact Yad|exact Yak|exact Yaq);exact rfl)|refine Xp ?_|refine Wy ?_|(refine Xo rfl (fun hb=>?_) (fun hb=>?_)<;>(repeat (first|replace hb:=X0 hb|replace hb:=X1 hb))<;>(try (exfalso;omega)))))
   all_goals (try (exfalso;omega))
   refine W1 (fun i:Nat=>([(1,ex (.pointer (some ⟨b1,0,none⟩))),(56,isl (Vy k) r.rounds),(57,exI .i64 (r.rounds.length:Int)),(58,exI .i64 (i:Int))],[row b1 29 9 (Vc k r)])) (fun i=>i≤r.rounds.length∧(r.rounds.take i).any (fun y=>decide (256<y.score.tot)||decide (16<y.score.depth))=false) (fun i=>r.rounds.length-i) 0 ?_ ⟨Nat.zero_le _,rfl⟩ fun i hi=>?_
   · exact Xg (by repeat (first|exact Xm|refine Xh rfl ?_)) (List.Sublist.refl _)
   obtain ⟨hi,hall2⟩:=hi
   by_cases hlt:i<r.rounds.length
   · have hsi:=hf9 _ (List.getElem_mem hlt)
     have hspec:=Ex.sizeN_spec r.rounds[i].score 0
     have hszA: ∀b,FnC Tryz.prog 136 [agg (exV k r.rounds[i].score),ex (.pointer (some ⟨b,0,none⟩))] [row b 3 1 [ex (.int .i64 0)]] (fun q loc=>q=exI .i64 ((r.rounds[i].score.sizeN 0).2:Int)∧loc=[row b 3 1 [exI .i64 ((r.rounds[i].score.sizeN 0).1:Int)]]):=fun b=>size_any k r.rounds[i].score b 0 Yan
     have hw2:=Xbs [(((r.rounds[i].score.sizeN 0).1:Int),(256:Int)),(((r.rounds[i].score.sizeN 0).2:Int),16)]
     have e2:([(((r.rounds[i].score.sizeN 0).1:Int),(256:Int)),(((r.rounds[i].score.sizeN 0).2:Int),16)].any fun p=>decide (p.2<p.1))=(decide (256<r.rounds[i].score.tot)||decide (16<r.rounds[i].score.depth)):=by
       rw [Bool.eq_iff_iff]
       simp only [List.any_cons,List.any_nil,Bool.or_false,Bool.or_eq_true,decide_eq_true_eq]
       by_cases hc:r.rounds[i].score.tot≤256
       · have:=hspec.2.2.1 Yan
         rw [this]
         simp only
         omega
       · have:=hspec.2.2.2 Yan
         omega
     rw [e2] at hw2
     generalize hov:(decide (256<r.rounds[i].score.tot)||decide (16<r.rounds[i].score.depth))=ov at hw2
     cases ov
     · (repeat' (first|refine Xf ?_|refine Xb ?_|refine Xd ?_|(apply Xk;(first|exact Xe rfl|exact Xj rfl|exact Yd8|exact Yad|exact Ybe|exact Yae|exact Yaw|exact Ya7);exact rfl)|refine Xp ?_|refine Xs ?_|refine X2 rfl ?_|(apply Xi;exact rfl;first|(apply Xn;first|(refine Xep (k:=0) rfl Tryz.func136 rfl (hszA _) rfl ?_;rintro _ _ ⟨rfl,rfl⟩)|(refine Qv (k:=0) rfl Tryz.func135 rfl hw2 (.part (E:=ePair) (off:=0) rfl inferInstance (fun _=>rfl) Yar rfl rfl Yar Yar Yar .nil) Yce ?_;rintro v ⟨hv,_⟩;obtain rfl:=Xdy hv))|(apply Wh;refine X7 ?_;intro _)|(apply Xt;refine Xq (k:=0) (l0:=[]) rfl rfl rfl ?_)|(apply X5;(refine Wq rfl Yac ?_);intro _))|(refine Xo rfl (fun hb=>?_) (fun hb=>?_)<;>(repeat (first|replace hb:=X0 hb|replace hb:=X1 hb))<;>(try (exfalso;omega)))))
       all_goals (try (exfalso;omega))
       exact ⟨i+1,⟨by omega,by rw [Xa3 hlt,hall2,hov];rfl⟩,by omega,Wu 3 (by repeat (first|exact Xm|refine Xh rfl ?_)) rfl⟩
     · (repeat' (first|refine Xf ?_|refine Xb ?_|refine Xd ?_|(apply Xk;(first|exact Xe rfl|exact Xj rfl|exact Yd8|exact Yad|exact Yak|exact Yae|exact Yaw|exact Ya7);exact rfl)|refine Xp ?_|refine Xs ?_|refine Xz ?_|refine Xx rfl ?_|(apply Xi;exact rfl;first|(apply Xn;first|(refine Xep (k:=0) rfl Tryz.func136 rfl (hszA _) rfl ?_;rintro _ _ ⟨rfl,rfl⟩)|(refine Qv (k:=0) rfl Tryz.func135 rfl hw2 (.part (E:=ePair) (off:=0) rfl inferInstance (fun _=>rfl) Yar rfl rfl Yar Yar Yar .nil) Yce ?_;rintro v ⟨hv,_⟩;obtain rfl:=Xdy hv))|(apply Wh;refine X7 ?_;intro _)|(apply Xt;refine Xq (k:=0) (l0:=[]) rfl rfl rfl ?_)|(apply X5;(refine Wq rfl Yac ?_);intro _))|(refine Xo rfl (fun hb=>?_) (fun hb=>?_)<;>(repeat (first|replace hb:=X0 hb|replace hb:=X1 hb))<;>(try (exfalso;omega)))))
       all_goals (try (exfalso;omega))
       refine ⟨.inr rfl,Vk rfl (.tmp rfl) (List.nil_sublist _) ⟨congrArg exB ?_,rfl⟩⟩
       have:r.rounds.any (fun y=>decide (256<y.score.tot)||decide (16<y.score.depth))=true:=by
         rw [List.any_eq_true];exact ⟨_,List.getElem_mem hlt,hov⟩
       rw [this];rfl
   · have hk9:i=r.rounds.length:=by omega
     subst hk9
     rw [List.take_length] at hall2
     rw [hall2]
     (repeat' (first|refine Xf ?_|refine Xb ?_|refine Xd ?_|(apply Xk;exact Ybv;exact rfl)|refine Xz ?_|refine Wy ?_|(refine Xo rfl (fun hb=>?_) (fun hb=>?_)<;>(repeat (first|replace hb:=X0 hb|replace hb:=X1 hb))<;>(try (exfalso;omega)))))
     all_goals (try (exfalso;omega))
     exact ⟨.inr rfl,Vk rfl (.tmp rfl) (List.nil_sublist _) ⟨rfl,rfl⟩⟩
end Go.Proofs.YthdldeenpgeemaaGreatDoor
namespace Go.Proofs.YthdldeenpgeemaaGreatDoor
open Go Go.RowKit Go.Kx Go.Fr
theorem Xe2 (k:Nat) (l:List Ex):FnC Tryz.prog 69 [isl (eEx k) l] [] (fun p loc=> ∃v,p=ex v∧loc=[vec v 52 5 l.length (l.flatMap (exV k))]):=by
 refine Wl (i:=0) rfl Ws fun hl=>?_
 obtain ⟨hl,hby⟩:=hl
 simp only [maxLen] at hl
 have hby:l.length * 64≤140737488355328:=hby
 refine X4 Tryz.func69 rfl Tryz.ntmps69 rfl fun w0 F0 out=>?_
 (repeat' (first|refine Xf ?_|refine Xb ?_|refine Xd ?_|(apply Xk;exact Ya0;exact rfl)|refine Xs ?_|refine Xz ?_|(apply Xi;exact rfl;first|(apply V4;((refine Sz (k:=0) (l0:=[]) rfl rfl rfl rfl (by exact Xdi rfl) rfl ?_));intro _)|(apply Xiz;refine Xcj rfl rfl rfl ?_;intro _ _)|(apply X5;(refine Tp rfl ?_);intro _))|(refine Xo rfl (fun hb=>?_) (fun hb=>?_)<;>(repeat (fail))<;>(try (exfalso;fail)))))
 · rename_i hnil
   obtain rfl:=hnil hb
   apply U5
   · exact Tc 52 5 Leads.refl
   · exact ⟨.inr rfl,Vk rfl (.tmp rfl) (List.Sublist.refl _) ⟨_,rfl,rfl⟩⟩
 · refine ⟨.inr rfl,Vk rfl (.tmp rfl) (List.Sublist.refl _) ⟨_,rfl,?_⟩⟩
   simp
theorem Th (l:List TieD):FnC Tryz.prog 70 [isl eTie l] [] (fun p loc=> ∃v,p=ex v∧loc=[vec v 74 2 l.length (l.flatMap (tieV))]):=by
 refine Wl (i:=0) rfl Ws fun hl=>?_
 obtain ⟨hl,hby⟩:=hl
 simp only [maxLen] at hl
 have hby:l.length * 40≤140737488355328:=hby
 refine X4 Tryz.func70 rfl Tryz.ntmps70 rfl fun w0 F0 out=>?_
 (repeat' (first|refine Xf ?_|refine Xb ?_|refine Xd ?_|(apply Xk;exact Ya0;exact rfl)|refine Xs ?_|refine Xz ?_|(apply Xi;exact rfl;first|(apply V4;((refine Sz (k:=0) (l0:=[]) rfl rfl rfl rfl (by exact Xdi rfl) rfl ?_));intro _)|(apply Xiz;refine Xcj rfl rfl rfl ?_;intro _ _)|(apply X5;(refine Tp rfl ?_);intro _))|(refine Xo rfl (fun hb=>?_) (fun hb=>?_)<;>(repeat (fail))<;>(try (exfalso;fail)))))
 · rename_i hnil
   obtain rfl:=hnil hb
   apply U5
   · exact Tc 74 2 Leads.refl
   · exact ⟨.inr rfl,Vk rfl (.tmp rfl) (List.Sublist.refl _) ⟨_,rfl,rfl⟩⟩
 · refine ⟨.inr rfl,Vk rfl (.tmp rfl) (List.Sublist.refl _) ⟨_,rfl,?_⟩⟩
   simp
theorem Ux (k:Nat) (l:List RoundD):FnC Tryz.prog 71 [isl (Vy k) l] [] (fun p loc=> ∃v,p=ex v∧loc=[vec v 54 13 l.length (l.flatMap (W3 k))]):=by
 refine Wl (i:=0) rfl Ws fun hl=>?_
 obtain ⟨hl,hby⟩:=hl
 simp only [maxLen] at hl
 have hby:l.length * 136≤140737488355328:=hby
 refine X4 Tryz.func71 rfl Tryz.ntmps71 rfl fun w0 F0 out=>?_
 (repeat' (first|refine Xf ?_|refine Xb ?_|refine Xd ?_|(apply Xk;exact Ya0;exact rfl)|refine Xs ?_|refine Xz ?_|(apply Xi;exact rfl;first|(apply V4;((refine Sz (k:=0) (l0:=[]) rfl rfl rfl rfl (by exact Xdi rfl) rfl ?_));intro _)|(apply Xiz;refine Xcj rfl rfl rfl ?_;intro _ _)|(apply X5;(refine Tp rfl ?_);intro _))|(refine Xo rfl (fun hb=>?_) (fun hb=>?_)<;>(repeat (fail))<;>(try (exfalso;fail)))))
 · rename_i hnil
   obtain rfl:=hnil hb
   apply U5
   · exact Tc 54 13 Leads.refl
   · exact ⟨.inr rfl,Vk rfl (.tmp rfl) (List.Sublist.refl _) ⟨_,rfl,rfl⟩⟩
 · refine ⟨.inr rfl,Vk rfl (.tmp rfl) (List.Sublist.refl _) ⟨_,rfl,?_⟩⟩
   simp
theorem Xgd (l:List KeyD):FnC Tryz.prog 72 [isl eKey l] [] (fun p loc=> ∃v,p=ex v∧loc=[vec v 97 3 l.length (l.flatMap (keyV))]):=by
 refine Wl (i:=0) rfl Ws fun hl=>?_
 obtain ⟨hl,hby⟩:=hl
 simp only [maxLen] at hl
 have hby:l.length * 32≤140737488355328:=hby
 refine X4 Tryz.func72 rfl Tryz.ntmps72 rfl fun w0 F0 out=>?_
 (repeat' (first|refine Xf ?_|refine Xb ?_|refine Xd ?_|(apply Xk;exact Ya0;exact rfl)|refine Xs ?_|refine Xz ?_|(apply Xi;exact rfl;first|(apply V4;((refine Sz (k:=0) (l0:=[]) rfl rfl rfl rfl (by exact Xdi rfl) rfl ?_));intro _)|(apply Xiz;refine Xcj rfl rfl rfl ?_;intro _ _)|(apply X5;(refine Tp rfl ?_);intro _))|(refine Xo rfl (fun hb=>?_) (fun hb=>?_)<;>(repeat (fail))<;>(try (exfalso;fail)))))
 · rename_i hnil
   obtain rfl:=hnil hb
   apply U5
   · exact Tc 97 3 Leads.refl
   · exact ⟨.inr rfl,Vk rfl (.tmp rfl) (List.Sublist.refl _) ⟨_,rfl,rfl⟩⟩
 · refine ⟨.inr rfl,Vk rfl (.tmp rfl) (List.Sublist.refl _) ⟨_,rfl,?_⟩⟩
   simp
end Go.Proofs.YthdldeenpgeemaaGreatDoor
namespace Go.Proofs.YthdldeenpgeemaaGreatDoor
open Go Go.RowKit Go.Kx Go.Fr
def growR:Go.Shelf.Ren:=⟨fun|4=>137|n=>n,fun|0=>0|3=>3|4=>4|9=>9|20=>20|22=>24|25=>106|n=>n,fun n=>n⟩
theorem growL:Go.Proofs.Lays8.n4 Tryz.prog growR:={
 mixed:=by kernel_rfl
 f4:=⟨Tryz.f137.name,by kernel_rfl,Tryz.func137.trans (congrArg some Yat)⟩
 t0:=Tryz.underlying0
 a0:=Tryz.isAgg0
 z0:=Tryz.sizeOf0
 v0:=Tryz.zeroValue0
 t3:=Tryz.underlying3
 a3:=Tryz.isAgg3
 z3:=Tryz.sizeOf3
 v3:=Tryz.zeroValue3
 t4:=Tryz.underlying4
 a4:=Tryz.isAgg4
 z4:=Tryz.sizeOf4
 v4:=Tryz.zeroValue4
 t9:=Tryz.underlying9
 a9:=Tryz.isAgg9
 z9:=Tryz.sizeOf9
 v9:=Tryz.zeroValue9
 t20:=Tryz.underlying20
 a20:=Tryz.isAgg20
 z20:=Tryz.sizeOf20
 v20:=Tryz.zeroValue20
 t22:=Tryz.underlying24
 a22:=Tryz.isAgg24
 z22:=Tryz.sizeOf24
 v22:=Tryz.zeroValue24 }
theorem Xge (n:Nat) (hn:n≤1000):FnC Tryz.prog 137 [ex (.slice none 0 0),exI .i64 (n:Int)] [] (fun p loc=> ∃v,p=ex v∧loc=[vec v 106 3 0 []]):=by
 intro F w vals out hG hA
 obtain ⟨u,v,rfl,rfl,rfl⟩:=hA.two
 have hG':Go.Fr.Good F out w:=hG
 rcases Nat.eq_zero_or_pos n with rfl|h0
 · refine (Any8.slices_Grow_room growL none 0 0 0 w Yan Yan Yan Yan).mono ?_
   rintro e w' ⟨rfl,rfl⟩
   have hf: ∀b,b∉(vec (.slice none 0 0) 106 3 0 []).foot:=fun b hb=>by have:=Xo3.1 hb;simp [Value.ownBlock] at this
   refine ⟨_,F,_,_,rfl,⟨_,rfl,rfl⟩,rfl,⟨fun e he=>?_,fun e he b hb=>?_,List.pairwise_cons.2 ⟨fun e he b hb=>absurd hb (hf b),hG'.disj⟩⟩,Ch.refl _ _,fun b hb _=>hb,fun e he b hb=>?_⟩
   · rcases List.mem_cons.1 he with rfl|he
     · exact ⟨[],⟨by simp,.inl ⟨rfl,rfl⟩⟩,rfl,fun i p hp=>by cases hp⟩
     · exact hG'.rel e he
   · rcases List.mem_cons.1 he with rfl|he
     · exact absurd hb (hf b)
     · exact hG'.lt e he b hb
   · simp only [List.mem_singleton] at he
     subst he
     exact absurd hb (hf b)
 · obtain ⟨i0,hi,hs,hb,hz⟩:=(inferInstance:TI Tryz.prog 106 _ _ _).out
   refine (Any8.slices_Grow_grow growL i0 _ hi hz (by rw [hs];decide) none 0 0 n [] w Yan Yan (by rw [hb];omega) Yan Ybn (fun _=>rfl) (fun a h=>by cases h)).mono ?_
   rintro e w' ⟨rfl,rfl⟩
   have hge:=grownCap_ge w (0+n) 0 106
   have hcm:grownCap w (0+n) 0 106≤maxLen:=grownCap_le_maxLen w (0+n) 0 106 (by simp only [maxLen];omega)
   generalize hcur:([]:List Value).toArray++_++_=cur
   have hsz:cur.size=grownCap w (0+n) 0 106 * 3:=by
     rw [←hcur]
     have e25:growR.t 25=106:=rfl
     simp only [Array.size_append,size_zeroCells,e25,Nat.zero_add] at hge ⊢
     simp [Value.cells];omega
   have hold: ∀k,k<w.heap.size→(w.drew.alloc (.cells cur (growR.t 25))).heap[k]?=w.heap[k]?:=fun k hk=>heap_alloc_old w.drew _ hk
   have hfoot: ∀b,b∈(vec (.slice (some ⟨w.heap.size,0,none⟩) 0 (grownCap w (0+n) 0 106)) 106 3 0 []).foot↔b=w.heap.size:=fun b=>by rw [Xo3];simp [Value.ownBlock,eq_comm]
   refine ⟨_,fun k=>F k∧k<w.heap.size,_,_,rfl,⟨_,rfl,rfl⟩,rfl,⟨fun e he=>?_,fun e he b hb=>?_,List.pairwise_cons.2 ⟨fun e he b hb hb2=>?_,hG'.disj⟩⟩,⟨rfl,rfl,rfl,by simp,fun k hk _=>hold k hk⟩,fun b hb hl=>⟨hb,hl⟩,fun e he b hb=>?_⟩
   · rcases List.mem_cons.1 he with rfl|he
     · refine ⟨[],⟨by simp,.inr ⟨w.heap.size,_,cur,rfl,Nat.zero_le _,heap_alloc_new w.drew _,Nat.zero_le _,hcm,hsz,by simp⟩⟩,rfl,fun i p hp=>by cases hp⟩
     · exact e.mono (hG'.rel e he) (fun b hF hl=>⟨⟨hF,hl⟩,hold b hl⟩) fun b hb'=>hold b (hG'.lt e he b hb').1
   · rcases List.mem_cons.1 he with rfl|he
     · obtain rfl:=(hfoot b).1 hb
       exact ⟨by simp,fun h=>Nat.lt_irrefl _ h.2⟩
     · have:=hG'.lt e he b hb
       exact ⟨by simp;omega,fun h=>this.2 h.1⟩
   · obtain rfl:=(hfoot b).1 hb
     exact Nat.lt_irrefl _ (hG'.lt e he _ hb2).1
   · simp only [List.mem_singleton] at he
     subst he
     obtain rfl:=(hfoot b).1 hb
     exact .inl (Nat.le_refl _)
theorem Rk {α:Type} {ls:List (List α)} {i:Nat} (h:i<ls.length):(ls.take (i+1)).flatten=(ls.take i).flatten++ls[i]:=by
 rw [List.take_succ_eq_append_getElem h,List.flatten_append];simp
theorem Xa1 {α:Type} (ls:List (List α)) (i:Nat):(ls.take i).flatten.length≤ls.flatten.length:=by
 have h:(ls.take i).flatten++(ls.drop i).flatten=ls.flatten:=by rw [←List.flatten_append,List.take_append_drop]
 rw [←h,List.length_append];omega
theorem Xdp (ls:List (List ItemD)) (hn:ls.flatten.length≤1000) (hls:ls.length≤1000):FnC Tryz.prog 60 [isl (eSl eItem) ls] [] (fun p loc=>p=isl eItem ls.flatten∧loc=[]):=by
 refine X4 Tryz.func60 rfl Tryz.ntmps60 rfl fun w0 F0 out=>?_
 (repeat' (first|refine Xf ?_|refine Xb ?_|refine Xd ?_|(apply Xk;exact Ybx;exact rfl)|refine Xp ?_))
 refine W1 (fun i:Nat=>([(0,isl (eSl eItem) ls),(9,isl (eSl eItem) ls),(10,exI .i64 (ls.length:Int)),(11,exI .i64 (i:Int)),(3,exI .i64 ((ls.take i).flatten.length:Int))],[])) (fun i=>i≤ls.length) (fun i=>ls.length-i) 0 ?_ (Nat.zero_le _) fun i hi=>?_
 · exact Xg (by repeat (first|exact Xm|refine Xh rfl ?_)) (List.Sublist.refl _)
 by_cases hlt:i<ls.length
 · have e1:=congrArg List.length (Rk hlt)
   rw [List.length_append] at e1
   have h2:=Xa1 ls (i+1)
   (repeat' (first|refine Xf ?_|refine Xb ?_|refine Xd ?_|(apply Xk;(first|exact Xe rfl|exact Xj rfl|exact Yag|exact Ybe|exact Yae|exact Yaq);exact rfl)|refine Xp ?_|refine Xs ?_|refine X2 rfl ?_|(refine Xo rfl (fun hb=>?_) (fun hb=>?_)<;>(repeat (first|replace hb:=X0 hb|replace hb:=X1 hb))<;>(try (exfalso;omega)))))
   all_goals (try (exfalso;omega))
   refine ⟨i+1,by omega,by omega,?_⟩
   rw [e1]
   exact Xg (by repeat (first|exact Xm|refine Xh rfl ?_)) (List.Sublist.refl _)
 · have hk9:i=ls.length:=by omega
   subst hk9
   rw [List.take_length]
   (repeat' (first|refine Xf ?_|refine Xb ?_|refine Xd ?_|(apply Xk;exact Ycz;exact rfl)|refine Xp ?_|refine Wy ?_|(apply Xi;exact rfl;(apply Xn;(refine X9 Tryz.func137 rfl (Xge _ Yan) rfl ?_;rintro _ _ ⟨v0,rfl,rfl⟩)))|(refine Xo rfl (fun hb=>?_) (fun hb=>?_)<;>(repeat (first|replace hb:=X0 hb|replace hb:=X1 hb))<;>(try (exfalso;omega)))))
   all_goals (try (exfalso;omega))
   refine W1 (fun s:Nat×Value=>([(0,isl (eSl eItem) ls),(25,isl (eSl eItem) ls),(26,exI .i64 (ls.length:Int)),(27,exI .i64 (s.1:Int)),(6,ex s.2)],[vec s.2 106 3 (ls.take s.1).flatten.length ((ls.take s.1).flatten.flatMap itemV)])) (fun s=>s.1≤ls.length) (fun s=>ls.length-s.1) (0,v0) ?_ (Nat.zero_le _) fun s hs=>?_
   · exact Xg (by repeat (first|exact Xm|refine Xh rfl ?_)) (List.Sublist.refl _)
   obtain ⟨i,v⟩:=s
   simp only at hs ⊢
   by_cases hlt:i<ls.length
   · have e1:=congrArg List.length (Rk hlt)
     rw [List.length_append] at e1
     have h2:=Xa1 ls (i+1)
     (repeat' (first|refine Xf ?_|refine Xb ?_|refine Xd ?_|(apply Xk;exact Ydm;exact rfl)|refine Xp ?_|refine Xs ?_|(apply Xi;exact rfl;(apply V4;((refine V5 (k:=0) (l0:=[]) rfl rfl (by exact Xdi rfl) rfl ?_));intro _))|(refine Xo rfl (fun hb=>?_) (fun hb=>?_)<;>(repeat (first|replace hb:=X0 hb|replace hb:=X1 hb))<;>(try (exfalso;omega)))))
     all_goals (try (exfalso;omega))
     rename_i v2
     refine ⟨(i+1,v2),by show i+1≤_;omega,by show ls.length-(i+1)<ls.length-i;omega,?_⟩
     simp only [Rk hlt,List.length_append,List.flatMap_append]
     exact Xg (by repeat (first|exact Xm|refine Xh rfl ?_)) (List.Sublist.refl _)
   · have hk9:i=ls.length:=by omega
     subst hk9
     rw [List.take_length]
     (repeat' (first|refine Xf ?_|refine Xb ?_|refine Xd ?_|(apply Xk;exact Yba;exact rfl)|refine Xz ?_|refine Wy ?_|(refine Xo rfl (fun hb=>?_) (fun hb=>?_)<;>(repeat (first|replace hb:=X0 hb|replace hb:=X1 hb))<;>(try (exfalso;omega)))))
     all_goals (try (exfalso;omega))
     apply U5
     · exact Xbo (k:=0) (t:=2) (E:=eItem) ls.flatten rfl rfl rfl rfl (hby:=by show _ * 32≤_;omega)
     · exact ⟨.inr rfl,Vk rfl (.tmp rfl) (List.nil_sublist _) ⟨rfl,rfl⟩⟩
end Go.Proofs.YthdldeenpgeemaaGreatDoor
namespace Go.Proofs.YthdldeenpgeemaaGreatDoor
open Go Go.RowKit Go.Kx Go.Fr
theorem Qz (m:List (List UInt8×SP)) (s:List UInt8) (o:Option Int) (b:Nat) (lost:Bool) (hm:Uq m s=o.map (exI .i64)):FnC Tryz.prog 67 [U0 m,exT s,ex (.pointer (some ⟨b,0,none⟩))] [row b 4 1 [exB lost]] (fun p loc=>p=exI .i64 (o.getD 0)∧loc=[row b 4 1 [exB (lost||o.isNone)]]):=by
 refine X4 Tryz.func67 rfl Tryz.ntmps67 rfl fun w0 F0 out=>?_
 cases o with
 | none=>
   cases lost
   · (repeat' (first|(apply Xk;(apply Vd;exact Xgh (k:=s) rfl rfl hm rfl rfl rfl);exact rfl)|refine Xf ?_|refine Xb ?_|refine Xd ?_|(apply Xk;exact Ydv;exact rfl)|(apply Vh;exact rfl;exact rfl;exact rfl;exact Ybt;exact rfl)|refine Xz ?_|(apply Xi;exact rfl;(apply Xt;refine Xq (k:=0) (l0:=[]) rfl rfl rfl ?_))))
     all_goals exact ⟨.inr rfl,Vk rfl (.tmp rfl) (List.Sublist.refl _) ⟨rfl,rfl⟩⟩
   · (repeat' (first|(apply Xk;(apply Vd;exact Xgh (k:=s) rfl rfl hm rfl rfl rfl);exact rfl)|refine Xf ?_|refine Xb ?_|refine Xd ?_|(apply Xk;exact Ydx;exact rfl)|(refine Ve rfl rfl rfl rfl rfl ?_)|refine Xz ?_|(apply Xi;exact rfl;(apply Xt;refine Xq (k:=0) (l0:=[]) rfl rfl rfl ?_))))
     all_goals exact ⟨.inr rfl,Vk rfl (.tmp rfl) (List.Sublist.refl _) ⟨rfl,rfl⟩⟩
 | some n=>
   cases lost
   · (repeat' (first|(apply Xk;(apply Vd;exact Xi8 (k:=s) rfl rfl hm rfl rfl rfl);exact rfl)|refine Xf ?_|refine Xb ?_|refine Xd ?_|(apply Xk;exact Ydv;exact rfl)|(apply Vh;exact rfl;exact rfl;exact rfl;exact Ybt;exact rfl)|refine Xz ?_|(apply Xi;exact rfl;(apply Xt;refine Xq (k:=0) (l0:=[]) rfl rfl rfl ?_))))
     all_goals exact ⟨.inr rfl,Vk rfl (.tmp rfl) (List.Sublist.refl _) ⟨rfl,rfl⟩⟩
   · (repeat' (first|(apply Xk;(apply Vd;exact Xi8 (k:=s) rfl rfl hm rfl rfl rfl);exact rfl)|refine Xf ?_|refine Xb ?_|refine Xd ?_|(apply Xk;exact Ydx;exact rfl)|(refine Ve rfl rfl rfl rfl rfl ?_)|refine Xz ?_|(apply Xi;exact rfl;(apply Xt;refine Xq (k:=0) (l0:=[]) rfl rfl rfl ?_))))
     all_goals exact ⟨.inr rfl,Vk rfl (.tmp rfl) (List.Sublist.refl _) ⟨rfl,rfl⟩⟩
theorem Xc0 {α:Type} {C:Cx} {I:α→Env×List Ent} {ok:α→Prop} {Q:Post} {env:Env} {loc:List Ent} {id:Nat} (z:α) (hz:ok z) (hl:Leads C env loc (I z).1 (I z).2):Xcq id (cutP C I ok Q) .normal env loc:=⟨z,hz,hl⟩
abbrev Xbi (bl:Nat):Value:= .func (.func 67) #[] #[.pointer (some ⟨bl,0,none⟩)]
abbrev Xbj (bf bc br be:Nat):Value:= .func (.func 68) #[] #[.pointer (some ⟨bf,0,none⟩),.pointer (some ⟨bc,0,none⟩),.pointer (some ⟨br,0,none⟩),.pointer (some ⟨be,0,none⟩)]
theorem Xl5 (m0 m3:List (List UInt8×SP)) (f0 f3:List UInt8→Option Int) (h0: ∀s,Uq m0 s=(f0 s).map (exI .i64)) (h3: ∀s,Uq m3 s=(f3 s).map (exI .i64)) (bl bf bc br be:Nat): ∀(k:Nat) (x:Ex) (lost:Bool),FnC Tryz.prog 68 [agg (exV k x),fpx bf [ex (Xbi bl)],fpx bc [U0 m0],fpx br [U0 m3],fpx be [ex (Xbj bf bc br be)]] [row bl 4 1 [exB lost]] (fun p loc=>p=agg (exV k (x.resP f0 f3))∧loc=[row bl 4 1 [exB (lost|| !x.okP f0 f3)]]):=by
 intro k
 induction k with
 | zero=>intro x lost;exact Wl (i:=0) rfl Sm fun h=>h.elim
 | succ k ih=>
   intro x lost
   refine Wl (i:=0) rfl (Ui (i:=4) (p:=isl (eEx k) x.l) rfl Ws) fun hlen=>?_
   rw [Ex.resP_l,Ex.okP_l]
   show FnC Tryz.prog 68 [agg [exI .i64 x.kind,exT x.name,exI .i64 x.n,exI .i64 x.d,isl (eEx k) x.l],fpx bf [ex (Xbi bl)],fpx bc [U0 m0],fpx br [U0 m3],fpx be [ex (Xbj bf bc br be)]] [row bl 4 1 [exB lost]] (fun p loc=>p=agg [exI .i64 x.kind,exT x.name,exI .i64 (Xkf f0 f3 x.kind x.name x.n),exI .i64 x.d,isl (eEx k) (x.l.map (Ex.resP f0 f3))]∧loc=[row bl 4 1 [exB (lost|| !(Rr f0 f3 x.kind x.name&&x.l.all (Ex.okP f0 f3)))]])
   obtain ⟨hlen,hby⟩:=hlen
   simp only [maxLen] at hlen
   have hby:x.l.length * 64≤140737488355328:=hby
   have hcl: ∀(m:Nat) (h:m<x.l.length) (lo:Bool),FnC Tryz.prog 68 [agg (exV k x.l[m]),fpx bf [ex (Xbi bl)],fpx bc [U0 m0],fpx br [U0 m3],fpx be [ex (Xbj bf bc br be)]] [row bl 4 1 [exB lo]] (fun p loc=>p=agg (exV k (x.l[m].resP f0 f3))∧loc=[row bl 4 1 [exB (lo|| !x.l[m].okP f0 f3)]]):=fun m h lo=>ih _ _
   clear ih
   refine X4 Tryz.func68 rfl Tryz.ntmps68 rfl fun w0 F0 out=>?_
   (repeat' (first|(apply Xbp 1;refine Stop.out ?_)|refine Xf ?_|refine Xb ?_|refine Xd ?_|(apply Xi;exact rfl;first|(apply U7;refine V2 rfl ?_;intro _)|(apply Wh;refine X7 ?_;intro _))))
   rename_i b5 b6
   refine ⟨Xpq (fun _:Unit=>([(1,fpx bf [ex (Xbi bl)]),(2,fpx bc [U0 m0]),(3,fpx br [U0 m3]),(4,fpx be [ex (Xbj bf bc br be)]),(5,ex (.pointer (some ⟨b5,0,none⟩))),(6,ex (.pointer (some ⟨b6,0,none⟩)))],[row bl 4 1 [exB (lost|| !Rr f0 f3 x.kind x.name)],row b6 52 5 [ex (.int .i64 0),ex (.string .empty),ex (.int .i64 0),ex (.int .i64 0),ex (.slice none 0 0)],row b5 52 5 [exI .i64 x.kind,exT x.name,exI .i64 (Xkf f0 f3 x.kind x.name x.n),exI .i64 x.d,isl (eEx k) x.l]])) (fun _=>True) ?_ fun _ _=>?_⟩
   · by_cases hk2:x.kind=2
     · have hfnd:=Qz m0 x.name (f0 x.name) bl lost (h0 _)
       (repeat' (first|refine Xf ?_|refine Xb ?_|refine Xd ?_|(apply Xk;exact Ydw;exact rfl)|refine Xp ?_|(apply Xi;exact rfl;first|(apply Xn;(refine Uk (vs:=[.pointer (some ⟨bl,0,none⟩)]) (caps:=[ex (.pointer (some ⟨bl,0,none⟩))]) (args:=[_,_]) rfl (.ex .nil) (.one 2 rfl .nil) Tryz.func67 rfl hfnd rfl ?_;rintro _ _ ⟨rfl,rfl⟩))|(apply Xt;refine Xq (k:=2) (l0:=[]) rfl rfl rfl ?_))|(refine Xo rfl (fun hb=>?_) (fun hb=>?_)<;>(repeat (first|replace hb:=X0 hb|replace hb:=X1 hb))<;>(try (exfalso;omega)))))
       all_goals (try (exfalso;omega))
       all_goals (refine Xc0 () trivial ?_)
       have e1:Rr f0 f3 x.kind x.name=(f0 x.name).isSome:=by unfold Rr;rw [if_pos hk2]
       have e2:Xkf f0 f3 x.kind x.name x.n=(f0 x.name).getD 0:=by unfold Xkf;rw [if_pos hk2]
       have e3:(!(f0 x.name).isSome)=(f0 x.name).isNone:=by cases f0 x.name<;>rfl
       rw [e1,e2,e3]
       exact Xg (by repeat (first|exact Xm|refine Xh rfl ?_)) (List.Sublist.refl _)
     · by_cases hk5:x.kind=5
       · have hfnd:=Qz m3 x.name (f3 x.name) bl lost (h3 _)
         (repeat' (first|refine Xf ?_|refine Xb ?_|refine Xd ?_|(apply Xk;exact Ydw;exact rfl)|refine Xp ?_|(apply Xi;exact rfl;first|(apply Xn;(refine Uk (vs:=[.pointer (some ⟨bl,0,none⟩)]) (caps:=[ex (.pointer (some ⟨bl,0,none⟩))]) (args:=[_,_]) rfl (.ex .nil) (.one 2 rfl .nil) Tryz.func67 rfl hfnd rfl ?_;rintro _ _ ⟨rfl,rfl⟩))|(apply Xt;refine Xq (k:=2) (l0:=[]) rfl rfl rfl ?_))|(refine Xo rfl (fun hb=>?_) (fun hb=>?_)<;>(repeat (first|replace hb:=X0 hb|replace hb:=X1 hb))<;>(try (exfalso;omega)))))
         all_goals (try (exfalso;omega))
         all_goals (refine Xc0 () trivial ?_)
         have e1:Rr f0 f3 x.kind x.name=(f3 x.name).isSome:=by unfold Rr;rw [if_neg hk2,if_pos hk5]
         have e2:Xkf f0 f3 x.kind x.name x.n=(f3 x.name).getD 0:=by unfold Xkf;rw [if_neg hk2,if_pos hk5]
         have e3:(!(f3 x.name).isSome)=(f3 x.name).isNone:=by cases f3 x.name<;>rfl
         rw [e1,e2,e3]
         exact Xg (by repeat (first|exact Xm|refine Xh rfl ?_)) (List.Sublist.refl _)
       · (repeat' (first|refine Xf ?_|refine Xb ?_|refine Xd ?_|(apply Xk;(first|exact Xj rfl|exact Ya1|exact Yad|exact Ybc);exact rfl)|refine Xp ?_|refine Xs ?_|(refine Xo rfl (fun hb=>?_) (fun hb=>?_)<;>(repeat (first|replace hb:=X0 hb|replace hb:=X1 hb))<;>(try (exfalso;omega)))))
         all_goals (try (exfalso;omega))
         all_goals (refine Xc0 () trivial ?_)
         have e1:Rr f0 f3 x.kind x.name=true:=by unfold Rr;rw [if_neg hk2,if_neg hk5]
         have e2:Xkf f0 f3 x.kind x.name x.n=x.n:=by unfold Xkf;rw [if_neg hk2,if_neg hk5]
         rw [e1,e2,Bool.not_true,Bool.or_false]
         refine Leads.trans (Vj (List.Perm.trans (List.Perm.cons _ (List.Perm.swap _ _ _)) (List.Perm.swap _ _ _))) (Xg (by repeat (first|exact Xm|refine Xh rfl ?_)) (List.Sublist.refl _))
   generalize Rr f0 f3 x.kind x.name=ok0
   generalize Xkf f0 f3 x.kind x.name x.n=n0
   (repeat' (first|(apply Xi0;refine Xml (k:=0) rfl ?_;intro _ _ hv;subst hv)|refine Xf ?_|refine Xb ?_|refine Xd ?_|(apply Xk;(first|exact Xe rfl|(apply Vu;first|exact Vr (k:=2) rfl rfl rfl rfl|exact Vr (k:=3) rfl rfl rfl rfl)|exact Yad|exact Yed);exact rfl)|refine Xp ?_|(apply Xi;exact rfl;first|(apply Xn;(refine X9 Tryz.func69 rfl (Xe2 _ _) rfl ?_;rintro _ _ ⟨v,rfl,rfl⟩))|(apply Xt;refine Xq (k:=3) (l0:=[]) rfl rfl rfl ?_))))
   rename_i oa c
   refine W1 (fun s:Nat=>([(1,fpx bf [ex (Xbi bl)]),(2,fpx bc [U0 m0]),(3,fpx br [U0 m3]),(4,fpx be [ex (Xbj bf bc br be)]),(5,ex (.pointer (some ⟨b5,0,none⟩))),(6,ex (.pointer (some ⟨b6,0,none⟩))),(32,exI .i64 (x.l.length:Int)),(33,exI .i64 (s:Int))],vec (.slice oa x.l.length c) 52 5 x.l.length (((x.l.take s).map (Ex.resP f0 f3)++x.l.drop s).flatMap (exV k))::row bl 4 1 [exB (lost|| !(ok0&&(x.l.take s).all (Ex.okP f0 f3)))]::row b6 52 5 [ex (.int .i64 0),ex (.string .empty),ex (.int .i64 0),ex (.int .i64 0),ex (.slice none 0 0)]::row b5 52 5 [exI .i64 x.kind,exT x.name,exI .i64 n0,exI .i64 x.d,ex (.slice oa x.l.length c)]::[])) (fun s=>s≤x.l.length) (fun s=>x.l.length-s) 0 ?_ (Nat.zero_le _) fun i hi=>?_
   · simp only [List.take_zero,List.map_nil,List.drop_zero,List.nil_append,List.all_nil,Bool.and_true]
     exact Xg (by repeat (first|exact Xm|refine Xh rfl ?_)) (List.Sublist.refl _)
   by_cases hlt:i<x.l.length
   · have eL:((x.l.take (i+1)).map (Ex.resP f0 f3)++x.l.drop (i+1))=((x.l.take i).map (Ex.resP f0 f3)++x.l.drop i).set i (x.l[i].resP f0 f3):=by
       have hm:((x.l.take i).map (Ex.resP f0 f3)).length=i:=by simp;omega
       rw [List.take_succ_eq_append_getElem hlt,List.map_append,List.append_assoc,List.drop_eq_getElem_cons hlt,List.set_append_right _ _ Yan,hm,Nat.sub_self]
       rfl
     have hLl:((x.l.take i).map (Ex.resP f0 f3)++x.l.drop i).length=x.l.length:=by simp;omega
     have hLi: ∀(h:i<((x.l.take i).map (Ex.resP f0 f3)++x.l.drop i).length),((x.l.take i).map (Ex.resP f0 f3)++x.l.drop i)[i]=x.l[i]:=fun h=>by
       have hm:((x.l.take i).map (Ex.resP f0 f3)).length=i:=by simp;omega
       rw [List.getElem_append_right Yan]
       simp only [hm,Nat.sub_self]
       simp
     have eA:(lost|| !(ok0&&(x.l.take (i+1)).all (Ex.okP f0 f3)))=((lost|| !(ok0&&(x.l.take i).all (Ex.okP f0 f3)))|| !x.l[i].okP f0 f3):=by
       rw [List.take_succ_eq_append_getElem hlt,List.all_append]
       simp only [List.all_cons,List.all_nil,Bool.and_true]
       cases lost<;>cases ok0<;>cases (x.l.take i).all (Ex.okP f0 f3)<;>rfl
     generalize ((x.l.take i).map (Ex.resP f0 f3)++x.l.drop i)=L at eL hLl hLi ⊢
     generalize (lost|| !(ok0&&(x.l.take i).all (Ex.okP f0 f3)))=lo at eA ⊢
     have hiL:i<L.length:=by omega
     have hcall:=hcl i hlt lo
     rw [←hLi hiL] at hcall eL eA
     refine Xag (k:=0) rfl Yan fun bL c2 hv hnc hcm=>?_
     cases hv
     (repeat' (first|(apply W2 10;refine Stop.out ?_)|refine Xf ?_|refine Xb ?_|refine Xd ?_|(apply Xk;exact Yba;exact rfl)|refine Xp ?_|refine Xs ?_|(refine Xo rfl (fun hb=>?_) (fun hb=>?_)<;>(repeat (first|replace hb:=X0 hb|replace hb:=X1 hb))<;>(try (exfalso;omega)))))
     constructor
     refine Uy (fun _:Unit=>([(1,fpx bf [ex (Xbi bl)]),(2,fpx bc [U0 m0]),(3,fpx br [U0 m3]),(4,fpx be [ex (Xbj bf bc br be)]),(5,ex (.pointer (some ⟨b5,0,none⟩))),(6,ex (.pointer (some ⟨b6,0,none⟩))),(32,exI .i64 (x.l.length:Int)),(33,exI .i64 (i:Int))],[row bl 4 1 [exB (lo|| !L[i].okP f0 f3)],row bL 52 (c * 5) ((L.set i (L[i].resP f0 f3)).flatMap (exV k)),row b6 52 5 [ex (.int .i64 0),ex (.string .empty),ex (.int .i64 0),ex (.int .i64 0),ex (.slice none 0 0)],row b5 52 5 [exI .i64 x.kind,exT x.name,exI .i64 n0,exI .i64 x.d,ex (.slice (some ⟨bL,0,none⟩) x.l.length c)]])) (fun _=>True) ?_ fun _ _=>?_
     · skip
       (refine W9 9 rfl ?_)
       (apply Xc 0 rfl Yaa rfl Yab Xa;(exact Yad);exact rfl)
       (apply Xc 2 rfl Yaa rfl Yab Xa;(exact Xe rfl);exact rfl)
       (apply Xu 3 rfl Yaa rfl Yaa Yab Xa;(exact Yb1);exact rfl)
       (apply Xc 4 rfl Yaa rfl Yab Xa;(exact Yad);exact rfl)
       (apply Xc 6 rfl Yaa rfl Yab Xa;(exact Xe rfl);exact rfl)
       (refine V3 (H1:=fun _=>True) (H2:=fun _=>True) 1 5 Yaa rfl Xa (fun _ _ _=>trivial) rfl Xa (fun _ _ _=>trivial) ?_ ?_)
       ·
         ((apply V6 (H:=fun _=>True);(exact Yb9);exact rfl))
         (refine Xr (H':=fun _=>True) 5 Yaa rfl Xa (fun _ _ _=>trivial) ?_)
         ((apply V6 (H:=fun _=>True);(exact Yb9);exact rfl))
         (apply Xc 7 rfl Yaa rfl Yab Xa;(exact Ya6);exact rfl)
         (apply Xu 8 rfl Yaa rfl Yaa Yab Xa;((apply Vu;exact Xjb (k:=0) rfl rfl rfl));exact rfl)
         (refine Xr (H':=U6 []) 9 Yaa rfl Xa (fun h=>absurd h Yar) ?_)
         ((apply Xn;(refine Uk (vs:=[.pointer (some ⟨bf,0,none⟩),.pointer (some ⟨bc,0,none⟩),.pointer (some ⟨br,0,none⟩),.pointer (some ⟨be,0,none⟩)]) (caps:=[fpx bf [ex (Xbi bl)],fpx bc [U0 m0],fpx br [U0 m3],fpx be [ex (Xbj bf bc br be)]]) (args:=[_]) rfl (.slot 1 rfl (fun _ _ _ h=>h.1) (.slot 2 rfl (fun _ _ _ h=>h.1) (.slot 3 rfl (fun _ _ _ h=>h.1) (.slot 4 rfl (fun _ _ _ h=>h.1) .nil)))) (.one 1 rfl .nil) Tryz.func68 rfl hcall rfl ?_;rintro _ _ ⟨rfl,rfl⟩)))
         (refine Xr (H':=fun _=>True) 10 Yaa rfl Xa (fun _ _ _=>trivial) ?_)
         ((apply V6 (H:=fun _=>True);(exact Ya6);exact rfl))
         (refine Xr (H':=U6 []) 11 Yaa rfl Xa (fun h=>absurd h Yar) ?_)
         ((apply Xt;refine Xc4 (k:=1) (l0:=[]) rfl rfl rfl ?_))
         refine X3 Yaa ?_
         exact Wc () trivial (Xg (by repeat (first|exact Xm|refine Xh rfl ?_)) (List.Sublist.refl _))
       ·
         ((apply V6 (H:=fun _=>True);(exact Yb9);exact rfl))
         (apply Xc 7 rfl Yaa rfl Yab Xa;(exact Ya6);exact rfl)
         (apply Xu 8 rfl Yaa rfl Yaa Yab Xa;((apply Vu;exact Xjb (k:=0) rfl rfl rfl));exact rfl)
         (refine V3 (H1:=fun _=>True) (H2:=U6 []) 1 9 Yaa rfl Xa (fun _ _ _=>trivial) rfl Xa (fun h=>absurd h Yar) ?_ ?_)
         ·
           ((apply V6 (H:=fun _=>True);(exact Yb9);exact rfl))
           (refine Xr (H':=U6 []) 9 Yaa rfl Xa (fun h=>absurd h Yar) ?_)
           ((apply Xn;(refine Uk (vs:=[.pointer (some ⟨bf,0,none⟩),.pointer (some ⟨bc,0,none⟩),.pointer (some ⟨br,0,none⟩),.pointer (some ⟨be,0,none⟩)]) (caps:=[fpx bf [ex (Xbi bl)],fpx bc [U0 m0],fpx br [U0 m3],fpx be [ex (Xbj bf bc br be)]]) (args:=[_]) rfl (.slot 1 rfl (fun _ _ _ h=>h.1) (.slot 2 rfl (fun _ _ _ h=>h.1) (.slot 3 rfl (fun _ _ _ h=>h.1) (.slot 4 rfl (fun _ _ _ h=>h.1) .nil)))) (.one 1 rfl .nil) Tryz.func68 rfl hcall rfl ?_;rintro _ _ ⟨rfl,rfl⟩)))
           (refine Xr (H':=fun _=>True) 10 Yaa rfl Xa (fun _ _ _=>trivial) ?_)
           ((apply V6 (H:=fun _=>True);(exact Ya6);exact rfl))
           (refine Xr (H':=U6 []) 11 Yaa rfl Xa (fun h=>absurd h Yar) ?_)
           ((apply Xt;refine Xc4 (k:=1) (l0:=[]) rfl rfl rfl ?_))
           refine X3 Yaa ?_
           exact Wc () trivial (Xg (by repeat (first|exact Xm|refine Xh rfl ?_)) (List.Sublist.refl _))
         ·
           ((apply Xn;(refine Uk (vs:=[.pointer (some ⟨bf,0,none⟩),.pointer (some ⟨bc,0,none⟩),.pointer (some ⟨br,0,none⟩),.pointer (some ⟨be,0,none⟩)]) (caps:=[fpx bf [ex (Xbi bl)],fpx bc [U0 m0],fpx br [U0 m3],fpx be [ex (Xbj bf bc br be)]]) (args:=[_]) rfl (.slot 1 rfl (fun _ _ _ h=>h.1) (.slot 2 rfl (fun _ _ _ h=>h.1) (.slot 3 rfl (fun _ _ _ h=>h.1) (.slot 4 rfl (fun _ _ _ h=>h.1) .nil)))) (.one 1 rfl .nil) Tryz.func68 rfl hcall rfl ?_;rintro _ _ ⟨rfl,rfl⟩)))
           (refine Xr (H':=fun _=>True) 1 Yaa rfl Xa (fun _ _ _=>trivial) ?_)
           ((apply V6 (H:=fun _=>True);(exact Yb9);exact rfl))
           (refine Xr (H':=fun _=>True) 10 Yaa rfl Xa (fun _ _ _=>trivial) ?_)
           ((apply V6 (H:=fun _=>True);(exact Ya6);exact rfl))
           (refine Xr (H':=U6 []) 11 Yaa rfl Xa (fun h=>absurd h Yar) ?_)
           ((apply Xt;refine Xc4 (k:=1) (l0:=[]) rfl rfl rfl ?_))
           refine X3 Yaa ?_
           exact Wc () trivial (Xg (by repeat (first|exact Xm|refine Xh rfl ?_)) (List.Sublist.refl _))
     (repeat' (first|refine Xb ?_|refine Xd ?_|(apply Xk;exact Ya5;exact rfl)))
     refine ⟨i+1,by omega,by omega,?_⟩
     rw [eL,eA]
     refine (Vj (List.Perm.swap _ _ _)).trans ?_
     refine Vi (k:=0) (sz:=5) (n:=x.l.length) (c:=c) rfl rfl ?_ Yar hcm ?_
     · rw [Ud (fs:=exV k) (s:=5) (fun _=>rfl),List.length_set,hLl]
     · exact Xg (by repeat (first|exact Xm|refine Xh rfl ?_)) (List.Sublist.refl _)
   · have hk9:i=x.l.length:=by omega
     subst hk9
     rw [List.take_length,List.drop_length,List.append_nil]
     (repeat' (first|(apply Vs 12;refine Stop.out ?_)|refine Xf ?_|refine Xb ?_|refine Xd ?_|(apply Xk;(exact Yak);exact rfl)|refine Wy ?_|(refine Xo rfl (fun hb=>?_) (fun hb=>?_)<;>(repeat (first|replace hb:=X0 hb|replace hb:=X1 hb))<;>(try (exfalso;omega)))))
     all_goals (try (exfalso;omega))
     constructor
     apply Wf
     · exact Vo (j:=0) (k:=2) (i:=4) (E:=eEx k) (x.l.map (Ex.resP f0 f3)) rfl rfl rfl Ybn rfl rfl (hby:=hby)
     (repeat' (first|refine Xf ?_|refine Xb ?_|refine Xd ?_|(apply Xk;(exact Yc6);exact rfl)|refine Xz ?_|(apply Xi;exact rfl;(apply Xt;refine Xq (k:=1) (l0:=[]) rfl rfl rfl ?_))))
     exact ⟨.inr rfl,Vk rfl (.cella (k:=1) rfl rfl rfl rfl inferInstance rfl) (List.cons_sublist_cons.2 (List.nil_sublist _)) ⟨rfl,rfl⟩⟩
end Go.Proofs.YthdldeenpgeemaaGreatDoor
