/- Chapter 13: what was parsed is printed so that it is parsed again. No program in sight. -/
import Derived.Test.YthdldeenpgeemaaGreatDoorPart9
import Derived.Test.YthdldeenpgeemaaGreatDoorPartA
import Derived.Test.YthdldeenpgeemaaGreatDoorPart2
import Derived.Test.YthdldeenpgeemaaGreatDoorPart5
import Derived.ProofKit
set_option maxRecDepth 100000
namespace Go.Sx
open Go.Lx Go.Fr
variable {α β σ:Type}
structure Up (f g:List TokD→Res α):Prop where
 into: ∀{ts x r},f ts= .ok (x,r)→g ts= .ok (x,r)
theorem V8 (f:List TokD→Res α):Up f f:=⟨fun h=>h⟩
theorem Xk3 (g:List TokD→Res α):Up (fun ts=> .error ts) g:=⟨fun h=>by cases h⟩
theorem U8 {f f':List TokD→Res α} {g g':α→List TokD→Res β} (hf:Up f f') (hg: ∀x,Up (g x) (g' x)):Up (bnd f g) (bnd f' g'):=⟨fun h=>by
 obtain ⟨x,u,h1,h2⟩:=Xip h
 rw [Wg (hf.into h1)];exact (hg x).into h2⟩
theorem Xcn {test:List TokD→Bool} {f f' g g':List TokD→Res α} (hf:Up f f') (hg:Up g g'):Up (fun ts=>if test ts then f ts else g ts) (fun ts=>if test ts then f' ts else g' ts):=⟨fun {ts x r} h=>by
 cases hb:test ts with
 | true=>simp only [hb,if_true] at h ⊢;exact hf.into h
 | false=>simp only [hb] at h ⊢;exact hg.into h⟩
theorem Xco {ok ok':Bool} {f f':List TokD→Res α} (ho:ok=true→ok'=true) (h:Up f f'):Up (gate ok f) (gate ok' f'):=by
 cases ok
 · exact ⟨fun h=>by cases h⟩
 · rw [ho rfl];exact h
theorem Xk4 {test:List TokD→Bool} {item item':σ→List TokD→Res σ} (h: ∀s,Up (item s) (item' s)): ∀(n:Nat) (s:σ),Up (Xam test item n s) (Xam test item' n s)
 | 0,_=>V8 _
 | n+1,s=>⟨fun {ts x r} e=>by
   rw [Xam] at e ⊢
   by_cases hb:test ts=true
   · rw [if_pos hb] at e ⊢
     cases he:item s ts with
     | error e'=>rw [he] at e;cases e
     | ok q=>
       obtain ⟨s',u⟩:=q
       rw [he] at e
       rw [(h s).into he]
       exact (Xk4 h n s').into e
   · rw [if_neg hb] at e ⊢;exact e⟩
theorem Xp6 {test:List TokD→Bool} {item item':σ→List TokD→Res σ} (h: ∀s,Up (item s) (item' s)) (s:σ):Up (Q9 test item s) (Q9 test item' s):=⟨fun {ts _ _} e=>(Xk4 h ts.length s).into e⟩
section
variable {tm tm' ex ex':List TokD→Res Ex}
theorem Xjq (h:Up tm tm') (x:Ex):Up (U7 tm x) (U7 tm' x):=Xcn (U8 (V8 _) fun _=>U8 h fun _=>V8 _) (U8 (V8 _) fun _=>U8 h fun _=>V8 _)
theorem Xk5 (h:Up tm tm'):Up (Xaj tm) (Xaj tm'):=U8 h fun x=>Xp6 (Xjq h) x
theorem Xk6 (h:Up ex ex') (k:Int):Up (Xa1 ex k) (Xa1 ex' k):=U8 (V8 _) fun _=>U8 h fun _=>U8 (V8 _) fun _=>U8 h fun _=>V8 _
theorem Xk7 {ok ok':Bool} (ho:ok=true→ok'=true) (h:Up ex ex'):Up (Vc ok ex) (Vc ok' ex'):=
 Xcn (V8 _) (Xcn (V8 _) (Xcn (V8 _) (Xcn (V8 _) (Xcn (Xco ho (U8 (V8 _) fun _=>Xk6 h 9)) (Xcn (Xco ho (U8 (V8 _) fun _=>Xk6 h 10))
   (Xcn (Xco ho (U8 (V8 _) fun _=>U8 h fun _=>U8 (V8 _) fun _=>U8 h fun _=>U8 (V8 _) fun _=>U8 h fun _=>U8 (V8 _) fun _=>U8 h fun _=>V8 _))
   (Xcn (Xco ho (U8 (V8 _) fun _=>U8 h fun _=>V8 _)) (V8 _))))))))
theorem Xk8 {ok ok':Bool} (ho:ok=true→ok'=true) (ht:Up tm tm') (hx:Up ex ex'):Up (Xes ok tm ex) (Xes ok' tm' ex'):=
 Xcn (U8 (V8 _) fun _=>Xcn (Xco ho (U8 (V8 _) fun _=>U8 ht fun _=>V8 _)) (V8 _)) (Xk7 ho hx)
end
theorem up_termN: ∀n,Up (termN n) (termN (n+1))
 | 0=>Xk8 (fun h=>by cases h) (Xk3 _) (Xk3 _)
 | n+1=>Xk8 (fun h=>h) (up_termN n) (Xk5 (up_termN n))
structure Yl (f:List TokD→Res α) (P:α→Nat→Prop):Prop where
 into: ∀{ts x r},(∀t∈ts,V0 t=true)→f ts= .ok (x,r)→ ∃c,ts=c++r∧P x c.length
theorem Xoa (w:List UInt8) (z:List TokD):want w (tkS w::z)= .ok ((),z):=by unfold want;rw [if_pos (by unfold isT;simp [tkS])];rfl
theorem Xem (v w:List UInt8) (z:List TokD):isT v (tkS w::z)=decide (w=v):=by show (decide ((3:Int)≠2)&&decide (w=v))=_;rw [show decide ((3:Int)≠2)=true by decide,Bool.true_and]
theorem Xre (v w:List UInt8) (z:List TokD):isT v (tkW w::z)=decide (w=v):=by show (decide ((1:Int)≠2)&&decide (w=v))=_;rw [show decide ((1:Int)≠2)=true by decide,Bool.true_and]
def Xrf (z:List TokD):Prop:=isT sSlash z=false∧isT sStar z=false
theorem Inert.sl {z:List TokD} (h:Inert z):Xrf z:=h.2.2
abbrev prt (x:Ex):List TokD:=Rh (x.kind,exT' x)
def Xrg (x:Ex):Prop:=x.kind=6∨x.kind=7
instance {x:Ex}:Decidable (Xrg x):=inferInstanceAs (Decidable (_∨_))
def TOk (n:Nat) (x:Ex):Prop:= ∀z,Xrf z→termN n (prt x++z)= .ok (x,z)
inductive GOk (n:Nat):Ex→Prop
 | term {x:Ex} (h: ¬Xrg x) (ht:TOk n x):GOk n x
 | sum {k:Int} {a y:Ex} (h:k=6∨k=7) (ha:GOk n a) (ht:TOk n y):GOk n (.mk k [] 0 0 [a,y])
theorem TOk.up {n:Nat} {x:Ex} (h:TOk n x):TOk (n+1) x:=fun z hz=>(up_termN n).into (h z hz)
theorem GOk.up {n:Nat} {x:Ex} (h:GOk n x):GOk (n+1) x:=by
 induction h with
 | term h ht=>exact .term h ht.up
 | sum h _ ht ih=>exact .sum h ih ht.up
theorem Xp7 {x:Ex} (h: ¬Xrg x):prt x=exT' x:=by unfold prt Rh;rw [if_neg (show ¬((x.kind,exT' x).1=6∨(x.kind,exT' x).1=7) from h)]
theorem Xnc (a y:Ex):exT' (.mk 6 [] 0 0 [a,y])=exT' a++tkS sPlus::prt y:=by rw [Xef];rfl
theorem Xnd (a y:Ex):exT' (.mk 7 [] 0 0 [a,y])=exT' a++tkS sMinus::prt y:=by rw [Xef];rfl
theorem GOk.run {n:Nat} {x:Ex} (h:GOk n x): ∀z,Xrf z→Ty n (exT' x++z)=Q9 addT (U7 (termN n)) x z:=by
 induction h with
 | @term x h ht=>
   intro z hz
   have:=ht z hz
   rw [Xp7 h] at this
   unfold Ty Xaj
   rw [Wg this]
 | @sum k a y h _ ht ih=>
   intro z hz
   rcases h with rfl|rfl
   · rw [Xnc,List.append_assoc,List.cons_append,ih _ ⟨by rw [Xem];decide,by rw [Xem];decide⟩,T4 rfl (Ug (Re n)),if_pos (by unfold addT;rw [Xem];rfl)]
     have:U7 (termN n) a (tkS sPlus::(prt y++z))= .ok (.mk 6 [] 0 0 [a,y],z):=by
       unfold U7
       rw [if_pos (by rw [Xem];decide),Wg (Xoa _ _),Wg (ht z hz)]
       rfl
     rw [Wg this]
   · rw [Xnd,List.append_assoc,List.cons_append,ih _ ⟨by rw [Xem];decide,by rw [Xem];decide⟩,T4 rfl (Ug (Re n)),if_pos (by unfold addT;rw [Xem,Xem];decide)]
     have:U7 (termN n) a (tkS sMinus::(prt y++z))= .ok (.mk 7 [] 0 0 [a,y],z):=by
       unfold U7
       rw [if_neg (by rw [Xem];decide),Wg (Xoa _ _),Wg (ht z hz)]
       rfl
     rw [Wg this]
theorem GOk.ok {n:Nat} {x:Ex} (h:GOk n x) {z:List TokD} (hz:Inert z):Ty n (exT' x++z)= .ok (x,z):=by
 rw [h.run z hz.sl,T4 rfl (Ug (Re n)),if_neg (by rw [Xlx z hz];decide)];rfl
def Va (l:List TokD):Prop:= ∀t∈l,V0 t=true
structure PT (n:Nat) (x:Ex) (k:Nat):Prop where
 t:TOk n x
 g:GOk n x
 v:Va (exT' x)
 l:(prt x).length≤k
structure PE (n:Nat) (x:Ex) (k:Nat):Prop where
 g:GOk n x
 v:Va (exT' x)
 l:(exT' x).length≤k
section
variable {ok:Bool} {ex:List TokD→Res Ex}
end
end Go.Sx
namespace Go.Sx
open Go.Lx Go.Fr
variable {α β σ:Type}
structure PI (item:List TokD→Res α) (tk:α→List TokD) (x:α) (k:Nat):Prop where
 t: ∀l z,Vn item l (tk x++z)= .ok (l++[x],z)
 v:Va (tk x)
 l:(tk x).length≤k+1
structure PL (item:List TokD→Res α) (tk:α→List TokD) (xs:List α) (k:Nat):Prop where
 t: ∀x∈xs,∀l z,Vn item l (tk x++z)= .ok (l++[x],z)
 v:Va (xs.flatMap tk)
 l:(xs.flatMap tk).length≤k
def cT (tk:α→List TokD):List α→List TokD
 | []=>[]
 | x::l=>tk x++l.flatMap fun y=>tkS sComma::tk y
structure PC (item:List TokD→Res α) (tk:α→List TokD) (xs:List α) (k:Nat):Prop where
 ne:xs≠[]
 t: ∀x∈xs,∀z,item (tk x++z)= .ok (x,z)
 v:Va (cT tk xs)
 l:(cT tk xs).length≤k
structure P1 (item:List TokD→Res α) (tk:α→List TokD) (x:α) (k:Nat):Prop where
 t: ∀z,item (tk x++z)= .ok (x,z)
 v:Va (tk x)
 l:(tk x).length≤k
def HW (ws:List (List UInt8)) (u:List TokD):Prop:=u=[]∨ ∃w∈ws,∃v,u=tkW w::v
theorem HW.app {ws vs:List (List UInt8)} {u v:List TokD} (h:HW ws u) (k:HW vs v):HW (ws++vs) (u++v):=by
 rcases h with rfl|⟨w,hw,u',rfl⟩
 · rcases k with rfl|⟨w,hw,v',rfl⟩
   · exact .inl rfl
   · exact .inr ⟨w,List.mem_append_right _ hw,v',rfl⟩
 · exact .inr ⟨w,List.mem_append_left _ hw,u'++v,rfl⟩
theorem HW.no {ws:List (List UInt8)} {u:List TokD} (h:HW ws u) {w:List UInt8} (hw:w∉ws):isT w u=false:=by
 rcases h with rfl|⟨w',hw',v,rfl⟩
 · rfl
 · rw [Xre];simp only [decide_eq_false_iff_not];rintro rfl;exact hw hw'
end Go.Sx
namespace Go.Sx
open Go.Lx Go.Fr
variable {α β σ:Type}
def Xp8 (f:Int) (t:TokD):Int:=if t.text=wRound∧t.kind=1∧f=0 then -1 else f
def Xp9 (i:Nat) (f:Int) (t:TokD):Int:=if t.text=wScore∧t.kind=1∧f= -1 then (i:Int)+1 else f
def Xrh (i:Nat) (f u:Int) (t:TokD):Int:=if (t.text=sSemi∨t.text=wTie)∧0<f∧u=0 then (i:Int) else u
def Xri (i:Nat) (s:Int×Int) (t:TokD):Int×Int:=(Xp9 i (Xp8 s.1 t) t,Xrh i (Xp9 i (Xp8 s.1 t) t) s.2 t)
def scanL:Nat→Int×Int→List TokD→Int×Int
 | _,s,[]=>s
 | i,s,t::l=>scanL (i+1) (Xri i s t) l
end Go.Sx
namespace Go.Sx
open Go.Lx Go.Fr
end Go.Sx
namespace Go.Proofs.YthdldeenpgeemaaGreatDoor
open Go Go.RowKit Go.Kx Go.Fr Go.Lx Go.Sx
end Go.Proofs.YthdldeenpgeemaaGreatDoor
namespace Go.Sx
open Go.Lx Go.Fr
end Go.Sx
namespace Go.Proofs.YthdldeenpgeemaaGreatDoor
open Go Go.RowKit Go.Kx Go.Fr Go.Lx Go.Sx
end Go.Proofs.YthdldeenpgeemaaGreatDoor
namespace Go.Sx
open Go.Lx Go.Fr
end Go.Sx
namespace Go.Proofs.YthdldeenpgeemaaGreatDoor
open Go Go.RowKit Go.Kx Go.Fr Go.Lx Go.Sx
end Go.Proofs.YthdldeenpgeemaaGreatDoor
namespace Go.Proofs.YthdldeenpgeemaaGreatDoor
open Go Go.RowKit Go.Kx Go.Fr
end Go.Proofs.YthdldeenpgeemaaGreatDoor
namespace Go.Proofs.YthdldeenpgeemaaGreatDoor
open Go Go.RowKit Go.Kx Go.Fr
theorem Xaz {α:Type} {l:List α} {p:α→Bool} {i:Nat} (h:i<l.length):(l.take (i+1)).all p=((l.take i).all p&&p l[i]):=by
 rw [List.take_succ_eq_append_getElem h,List.all_append];simp
end Go.Proofs.YthdldeenpgeemaaGreatDoor
namespace Go.Fr
open Go.RowKit Go.Kx
def RulesD.few13 (r:RulesD):Bool:= !(decide (10<r.crits.length)||(decide (10<r.bonus.length)||(decide (10<r.malus.length)||(decide (10<r.ties.length)||(decide (10<r.rounds.length)||(decide (80<r.prizes.length)||(decide (80<r.points.length)||decide (60<r.name.length))))))))&&(r.ties.all (fun t=>decide (t.keys.length≤40))&&r.rounds.all (fun y=>decide (y.score.tot≤60)))
end Go.Fr
namespace Go.Sx
open Go.Lx Go.Fr
theorem Xen (p:Int×List TokD):(Rh p).length≤p.2.length+2:=by
 unfold Rh
 split
 · simp only [List.length_append,List.length_cons,List.length_nil];omega
 · omega
theorem Xne (n d:Int):(Xcg n d).length≤3:=by
 unfold Xcg
 split<;>simp
theorem Xo1 (k:Int) (s:List UInt8) (n d:Int) (ps:List (Int×List TokD)):(Xas k s n d ps).length≤5+(ps.map fun p=>p.2.length+2).sum:=by
 unfold Xas
 by_cases ha:ps.length=T1 k
 · simp only [if_neg (show ¬ps.length≠T1 k from fun h=>h ha)]
   have hf:=Xne n d
   by_cases h1:k=1
   · rw [if_pos h1];omega
   rw [if_neg h1]
   by_cases h8:k=8
   · subst h8
     rw [if_pos rfl]
     obtain ⟨a,rfl⟩:=List.length_eq_one_iff.1 ha
     have:=Xen a
     simp only [List.length_append,List.length_cons,List.getElem?_cons_zero,Option.map_some,Option.getD_some,List.map_cons,List.map_nil,List.sum_cons,List.sum_nil];omega
   rw [if_neg h8]
   by_cases h2:k=2
   · rw [if_pos h2];simp;omega
   rw [if_neg h2]
   by_cases h3:k=3
   · rw [if_pos h3];simp;omega
   rw [if_neg h3]
   by_cases h4:k=4
   · rw [if_pos h4];simp;omega
   rw [if_neg h4]
   by_cases h5:k=5
   · rw [if_pos h5];simp;omega
   rw [if_neg h5]
   have two:T1 k=2→ ∃a b,ps=[a,b]:=fun e=>by
     rw [e] at ha
     match ps,ha with
     | [a,b],_=>exact ⟨a,b,rfl⟩
   by_cases h6:k=6
   · obtain ⟨a,b,rfl⟩:=two (by subst h6;rfl)
     rw [if_pos h6]
     have:=Xen b
     simp only [List.length_append,List.length_cons,List.getElem?_cons_zero,List.getElem?_cons_succ,Option.map_some,Option.getD_some,List.map_cons,List.map_nil,List.sum_cons,List.sum_nil];omega
   rw [if_neg h6]
   by_cases h7:k=7
   · obtain ⟨a,b,rfl⟩:=two (by subst h7;rfl)
     rw [if_pos h7]
     have:=Xen b
     simp only [List.length_append,List.length_cons,List.getElem?_cons_zero,List.getElem?_cons_succ,Option.map_some,Option.getD_some,List.map_cons,List.map_nil,List.sum_cons,List.sum_nil];omega
   rw [if_neg h7]
   by_cases h9:k=9
   · obtain ⟨a,b,rfl⟩:=two (by subst h9;rfl)
     rw [if_pos h9]
     simp only [List.length_append,List.length_cons,List.length_nil,List.getElem?_cons_zero,List.getElem?_cons_succ,Option.map_some,Option.getD_some,List.map_cons,List.map_nil,List.sum_cons,List.sum_nil];omega
   rw [if_neg h9]
   by_cases h10:k=10
   · obtain ⟨a,b,rfl⟩:=two (by subst h10;rfl)
     rw [if_pos h10]
     simp only [List.length_append,List.length_cons,List.length_nil,List.getElem?_cons_zero,List.getElem?_cons_succ,Option.map_some,Option.getD_some,List.map_cons,List.map_nil,List.sum_cons,List.sum_nil];omega
   rw [if_neg h10]
   by_cases h11:k=11
   · subst h11
     rw [if_pos rfl]
     match ps,ha with
     | [a,b,c,e],_=>
       simp only [List.length_append,List.length_cons,List.length_nil,List.getElem?_cons_zero,List.getElem?_cons_succ,Option.map_some,Option.getD_some,List.map_cons,List.map_nil,List.sum_cons,List.sum_nil];omega
   rw [if_neg h11];simp
 · rw [if_pos ha];simp
mutual
theorem exT_len: ∀x:Ex,(exT' x).length+2≤7 * x.tot
 | .mk k s n d l=>by
   have h1:=Xo1 k s n d (exTs l)
   have h2:=exTs_len l
   rw [exT',Ex.tot_l]
   show _≤7 * (1+Ex.tots l)
   omega
theorem exTs_len: ∀l:List Ex,((exTs l).map fun p=>p.2.length+2).sum≤7 * Ex.tots l
 | []=>Nat.le_refl _
 | x::l=>by
   have h1:=exT_len x
   have h2:=exTs_len l
   rw [exTs,List.map_cons,List.sum_cons,Ex.tots]
   show (exT' x).length+2+_≤_
   omega
end
theorem R2 {α:Type} {tk:α→List TokD} {l:List α} {c:Nat} (h: ∀x∈l,(tk x).length≤c):(l.flatMap tk).length≤c * l.length:=by
 induction l with
 | nil=>simp
 | cons x l ih=>
   have h1:=h x Yb9
   have h2:=ih fun y hy=>h y (List.mem_cons_of_mem _ hy)
   rw [List.flatMap_cons,List.length_append,List.length_cons,Nat.mul_succ]
   omega
theorem Xo2 (x:Crit):(Xc0 x).length≤3:=by unfold Xc0;split;simp;split<;>simp
theorem Xk9 (q:KeyD):(Rr q).length≤2:=by
 unfold Rr
 repeat' split
 all_goals simp
theorem Xnf (l:List KeyD):(keysT l).length≤3 * l.length:=by
 cases l with
 | nil=>exact Nat.le_refl _
 | cons x l=>
   have h1:=Xk9 x
   have h2:=R2 (tk:=fun y=>tkS sComma::Rr y) (l:=l) (c:=3) fun y _=>by have:=Xk9 y;simp only [List.length_cons];omega
   show (Rr x++l.flatMap _).length≤_
   rw [List.length_append,List.length_cons];omega
theorem Xdr (l:List Int):(commaT l).length≤2 * l.length:=by
 cases l with
 | nil=>exact Nat.le_refl _
 | cons x l=>
   have h2:=R2 (tk:=fun y:Int=>[tkS sComma,tkN y]) (l:=l) (c:=2) fun y _=>Nat.le_refl _
   show (l.flatMap _).length+1≤_
   rw [List.length_cons];omega
theorem Xla {r:RulesD} {n t k m e p:Nat} (h1:r.crits.length≤n) (h2:r.bonus.length≤n) (h3:r.malus.length≤n) (h4:r.ties.length≤t) (h5:r.rounds.length≤m) (h6:r.prizes.length≤p) (h7:r.points.length≤p) (hk: ∀x∈r.ties,x.keys.length≤k) (he: ∀x∈r.rounds,x.score.tot≤e):(V2 r).length≤15 * n+7 * n+7 * n+(3 * k+3) * t+(12+7 * e) * m+4 * p+9:=by
 have c1:=R2 (tk:=T3) (l:=r.crits) (c:=15) fun x _=>by
   rw [Xfc]
   have:=Xo2 x
   have:(Xi1 x).length≤1:=by unfold Xi1;split<;>simp
   omega
 have c2:=R2 (tk:=Un wBonus) (l:=r.bonus) (c:=7) fun x _=>Nat.le_refl _
 have c3:=R2 (tk:=Un wMalus) (l:=r.malus) (c:=7) fun x _=>Nat.le_refl _
 have c4:=R2 (tk:=Xbq) (l:=r.ties) (c:=3 * k+3) fun x hx=>by
   rw [Xhy]
   have:=Xnf x.keys
   have:=hk x hx
   omega
 have c5:=R2 (tk:=roundT) (l:=r.rounds) (c:=12+7 * e) fun x hx=>by
   rw [Xdc]
   have:=exT_len x.score
   have:=he x hx
   have:(Xb4 x.cut).length≤1:=by unfold Xb4;split;simp;split<;>simp
   have:(Xbb x).length≤1:=by unfold Xbb;split<;>simp
   have:(plT x).length≤1+(exT' x.score).length:=by unfold plT;split<;>simp<;>omega
   have:(tiT x).length≤2:=by unfold tiT;split<;>simp
   omega
 have c6:=Xdr r.prizes
 have c7:=Xdr r.points
 have c8:(Xhz r.prizes).length≤2+(commaT r.prizes).length:=by unfold Xhz;split<;>simp<;>omega
 have c9:(Xmm r.points r.best).length≤4+(commaT r.points).length:=by unfold Xmm;split<;>simp<;>omega
 have hRT:V2 r=[tkW wCompetition,tkW r.name,tkS sSemi]++r.crits.flatMap T3++r.bonus.flatMap (Un wBonus)++r.malus.flatMap (Un wMalus)++r.ties.flatMap Xbq++r.rounds.flatMap roundT++Xhz r.prizes++Xmm r.points r.best:=rfl
 rw [hRT]
 simp only [List.length_append,List.length_cons,List.length_nil]
 have m1:=Nat.mul_le_mul_left 15 h1
 have m2:=Nat.mul_le_mul_left 7 h2
 have m3:=Nat.mul_le_mul_left 7 h3
 have m4:=Nat.mul_le_mul_left (3 * k+3) h4
 have m5:=Nat.mul_le_mul_left (12+7 * e) h5
 omega
theorem Xcp {r:RulesD} (h:r.few13=true):(V2 r).length≤70000:=by
 unfold RulesD.few13 at h
 simp only [Bool.and_eq_true,Bool.not_eq_true',Bool.or_eq_false_iff,decide_eq_false_iff_not,List.all_eq_true,decide_eq_true_eq] at h
 obtain ⟨h,ht,hs⟩:=h
 have:=Xla (n:=10) (t:=10) (k:=40) (m:=10) (e:=60) (p:=80) (r:=r) Yan Yan Yan Yan Yan Yan Yan ht hs
 omega
end Go.Sx
namespace Go.Proofs.YthdldeenpgeemaaGreatDoor
open Go Go.RowKit Go.Kx Go.Fr Go.Lx Go.Sx
theorem size13_any: ∀(k:Nat) (x:Ex) (m:Nat),m<2 ^ 60→FnC Tryz.prog 35 [agg (exV k x),exI .i64 m] [] (fun p loc=>p=exI .i64 (x.partsN m)∧loc=[]):=by
 intro k
 induction k with
 | zero=>intro x m _;exact Wp (i:=0) rfl R4 fun h=>h.elim
 | succ k ih=>
   intro x m hm
   refine Wp (i:=0) rfl (Vo (i:=4) (p:=isl (eEx k) x.l) rfl Wu) fun hlen=>?_
   show FnC Tryz.prog 35 [agg [exI .i64 x.kind,exT x.name,exI .i64 x.n,exI .i64 x.d,isl (eEx k) x.l],exI .i64 m] [] (fun p loc=>p=exI .i64 (x.partsN m)∧loc=[])
   rw [Ex.partsN_l]
   obtain ⟨hlen,-⟩:=hlen
   simp only [maxLen] at hlen
   refine X3 Tryz.func35 rfl Tryz.ntmps35 rfl fun w0 F0 out=>?_
   (repeat' (first|refine Xe ?_|refine Xb ?_|refine Xc ?_|(apply Xn;(exact Xm rfl);exact rfl)|refine Xo ?_|(apply Xh;exact rfl;(apply Vp;refine W4 rfl ?_;intro _))))
   rename_i b
   refine Ws (fun s:Nat×Nat=>([(1,exI .i64 (m:Int)),(2,ex (.pointer (some ⟨b,0,none⟩))),(5,exI .i64 (s.2:Int)),(6,exI .i64 (s.1:Int))],[row b 52 5 [exI .i64 x.kind,exT x.name,exI .i64 x.n,exI .i64 x.d,isl (eEx k) x.l]])) (fun s=>s.1≤x.l.length∧s.2≤m+1∧Ex.partsL (x.l.drop s.1) m s.2=Ex.partsL x.l m 1) (fun s=>x.l.length-s.1) (0,1) ?_ ⟨Nat.zero_le _,by show 1≤m+1;omega,rfl⟩ fun s hs=>?_
   · exact Xg (by repeat (first|exact Xr|refine Xl rfl ?_)) (List.Sublist.refl _)
   obtain ⟨i,n⟩:=s
   obtain ⟨hi,hn,hp⟩:=hs
   simp only at hi hn hp ⊢
   by_cases hlt:i<x.l.length
   · rw [Ex.partsL_drop hlt] at hp
     by_cases hle:n≤m
     · rw [if_pos hle] at hp
       have hcall:=ih x.l[i] (m-n) Yan
       have hsp:=(Ex.partsN_spec x.l[i] (m-n)).1
       have e1:((m-n:Nat):Int)=(m:Int)-(n:Int):=by omega
       rw [e1] at hcall
       (repeat' (first|refine Xe ?_|refine Xb ?_|refine Xc ?_|(apply Xn;(first|exact Xf rfl|exact Xm rfl|exact Wd (b:=true) rfl (fun _=>rfl) (fun e=>by cases e)|exact Yc7|exact Yad|(apply Vx;first|exact S4 rfl rfl|exact S5 rfl rfl|exact Xiw rfl rfl)|exact Yah|exact Yaj);exact rfl)|(apply W0;exact rfl;exact rfl;exact rfl;exact Ye8;exact rfl)|refine Xo ?_|refine Xs ?_|(apply Xh;exact rfl;(apply Xi;(refine Xq Tryz.func35 rfl hcall rfl ?_;rintro _ _ ⟨rfl,rfl⟩)))|(refine Wf rfl rfl (fun hb=>?_) (fun hb=>?_)<;>(repeat (first|replace hb:=Xz hb|replace hb:=X0 hb))<;>(try (exfalso;omega)))|(refine Xp rfl (fun hb=>?_) (fun hb=>?_)<;>(repeat (first|replace hb:=Xz hb|replace hb:=X0 hb))<;>(try (exfalso;omega)))))
       all_goals (try (exfalso;omega))
       exact ⟨(i+1,n+x.l[i].partsN (m-n)),⟨by show i+1≤_;omega,by show n+_≤m+1;omega,hp⟩,by show x.l.length-(i+1)<x.l.length-i;omega,Xg (by repeat (first|exact Xr|refine Xl rfl ?_)) (List.Sublist.refl _)⟩
     · rw [if_neg hle] at hp
       (repeat' (first|refine Xe ?_|refine Xb ?_|refine Xc ?_|(apply Xn;(first|exact Xf rfl|exact Xm rfl|exact Wd (b:=true) rfl (fun _=>rfl) (fun e=>by cases e)|exact Yai|exact Yad|exact Yam|exact Yaj);exact rfl)|(apply W0;exact rfl;exact rfl;exact rfl;exact Ye8;exact rfl)|refine Xw ?_|refine Wm ?_|(refine Wf rfl rfl (fun hb=>?_) (fun hb=>?_)<;>(repeat (first|replace hb:=Xz hb|replace hb:=X0 hb))<;>(try (exfalso;omega)))|(refine Xp rfl (fun hb=>?_) (fun hb=>?_)<;>(repeat (first|replace hb:=Xz hb|replace hb:=X0 hb))<;>(try (exfalso;omega)))))
       all_goals (try (exfalso;omega))
       refine ⟨.inr rfl,Vd rfl (.tmp rfl) (List.nil_sublist _) ⟨by rw [←hp],rfl⟩⟩
   · have hk9:i=x.l.length:=by omega
     subst hk9
     rw [List.drop_length] at hp
     simp only [Ex.partsL] at hp
     (repeat' (first|refine Xe ?_|refine Xb ?_|refine Xc ?_|(apply Xn;(first|exact Xf rfl|exact Xm rfl|exact Wd (b:=false) rfl (fun e=>by cases e) (fun _=>rfl)|exact Yai|exact Yad|exact Yam|exact Yaj);exact rfl)|(refine Wv rfl rfl rfl rfl rfl ?_)|refine Xw ?_|refine Wm ?_|refine Xy rfl ?_|(refine Wf rfl rfl (fun hb=>?_) (fun hb=>?_)<;>(repeat (first|replace hb:=Xz hb|replace hb:=X0 hb))<;>(try (exfalso;omega)))))
     all_goals (try (exfalso;omega))
     refine ⟨.inr rfl,Vd rfl (.tmp rfl) (List.nil_sublist _) ⟨by rw [←hp],rfl⟩⟩
set_option maxHeartbeats 1000000 in
theorem Xlb (k:Nat) (r:RulesD):FnC Tryz.prog 14 [rul k r] [] (fun p loc=>p=exB r.few13∧loc=[]):=by
 refine Wp (i:=0) rfl (Vo (i:=4) rfl Wu) fun ht=>?_
 refine Wp (i:=0) rfl (Vo (i:=5) rfl Wu) fun hr=>?_
 replace ht:=ht.1;replace hr:=hr.1
 simp only [maxLen] at ht hr
 refine X3 Tryz.func14 rfl Tryz.ntmps14 rfl fun w0 F0 out=>?_
 by_cases h0:r.crits.length≤10∧r.bonus.length≤10∧r.malus.length≤10∧r.ties.length≤10∧r.rounds.length≤10∧r.prizes.length≤80∧r.points.length≤80∧r.name.length≤60
 · obtain ⟨h1,h2,h3,h4,h5,h6,h7,h8⟩:=h0
   have hf:r.few13=(r.ties.all (fun t=>decide (t.keys.length≤40))&&r.rounds.all (fun y=>decide (y.score.tot≤60))):=by
     unfold RulesD.few13
     simp only [decide_eq_false (Nat.not_lt.2 h1),decide_eq_false (Nat.not_lt.2 h2),decide_eq_false (Nat.not_lt.2 h3),decide_eq_false (Nat.not_lt.2 h4),decide_eq_false (Nat.not_lt.2 h5),decide_eq_false (Nat.not_lt.2 h6),decide_eq_false (Nat.not_lt.2 h7),decide_eq_false (Nat.not_lt.2 h8),Bool.false_or,Bool.not_false,Bool.true_and]
   rw [hf]
   (repeat' (first|refine Xe ?_|refine Xb ?_|refine Xc ?_|(apply Xn;(first|exact Xf rfl|exact Xm rfl|exact Wd (b:=false) rfl (fun e=>by cases e) (fun _=>rfl)|exact Yai|exact Yad|exact Ybr|exact Yaj);exact rfl)|(apply W0;exact rfl;exact rfl;exact rfl;(first|exact Yai|exact Yad|exact Ybr|(apply Xgh;first|exact Xg1 rfl rfl|exact Xmi rfl rfl));exact rfl)|refine Xo ?_|refine Xs ?_|(apply Xh;exact rfl;(apply Vp;refine W4 rfl ?_;intro _))|(refine Wf rfl rfl (fun hb=>?_) (fun hb=>?_)<;>(repeat (first|replace hb:=Xz hb|replace hb:=X0 hb))<;>(try (exfalso;omega)))|(refine Xp rfl (fun hb=>?_) (fun hb=>?_)<;>(repeat (first|replace hb:=Xz hb|replace hb:=X0 hb))<;>(try (exfalso;omega)))))
   all_goals (try (exfalso;omega))
   rename_i b1 _ _ _ _ _ _ _
   refine Ws (fun i:Nat=>([(1,ex (.pointer (some ⟨b1,0,none⟩))),(3,exI .i64 (i:Int))],[row b1 29 9 (Wq k r)])) (fun i=>i≤r.ties.length∧(r.ties.take i).all (fun t=>decide (t.keys.length≤40))=true) (fun i=>r.ties.length-i) 0 ?_ ⟨Nat.zero_le _,rfl⟩ fun i hi=>?_
   · exact Xg (by repeat (first|exact Xr|refine Xl rfl ?_)) (List.Sublist.refl _)
   obtain ⟨hi,hall⟩:=hi
   by_cases hlt:i<r.ties.length
   · by_cases he:r.ties[i].keys.length≤40
     · (repeat' (first|refine Xe ?_|refine Xb ?_|refine Xc ?_|(apply Xn;(first|exact Xf rfl|exact Xm rfl|exact Ybm|exact Ya8|exact Ybw|exact Yah|exact Yaj);exact rfl)|refine Xo ?_|refine Xs ?_|(refine Xp rfl (fun hb=>?_) (fun hb=>?_)<;>(repeat (first|replace hb:=Xz hb|replace hb:=X0 hb))<;>(try (exfalso;omega)))))
       all_goals (try (exfalso;omega))
       exact ⟨i+1,⟨by omega,by rw [Xaz hlt,hall,decide_eq_true he];rfl⟩,by omega,Xg (by repeat (first|exact Xr|refine Xl rfl ?_)) (List.Sublist.refl _)⟩
     · (repeat' (first|refine Xe ?_|refine Xb ?_|refine Xc ?_|(apply Xn;(first|exact Xf rfl|exact Xm rfl|exact Ybm|exact Ya8|exact Yd4|exact Yah|exact Yaj);exact rfl)|refine Xo ?_|refine Xs ?_|refine Xw ?_|(refine Xp rfl (fun hb=>?_) (fun hb=>?_)<;>(repeat (first|replace hb:=Xz hb|replace hb:=X0 hb))<;>(try (exfalso;omega)))))
       all_goals (try (exfalso;omega))
       refine ⟨.inr rfl,Vd rfl (.tmp rfl) (List.nil_sublist _) ⟨congrArg exB ?_,rfl⟩⟩
       have:r.ties.all (fun t=>decide (t.keys.length≤40))=false:=by
         rw [List.all_eq_false];exact ⟨_,List.getElem_mem hlt,by simpa using he⟩
       rw [this];rfl
   · have hk9:i=r.ties.length:=by omega
     subst hk9
     rw [List.take_length] at hall
     rw [hall,Bool.true_and]
     (repeat' (first|refine Xe ?_|refine Xb ?_|refine Xc ?_|(apply Xn;(first|exact Xf rfl|exact Xm rfl|exact Yai|exact Yad|exact Yam|exact Yaj);exact rfl)|refine Xo ?_|refine Wm ?_|(refine Xp rfl (fun hb=>?_) (fun hb=>?_)<;>(repeat (first|replace hb:=Xz hb|replace hb:=X0 hb))<;>(try (exfalso;omega)))))
     all_goals (try (exfalso;omega))
     refine Ws (fun i:Nat=>([(1,ex (.pointer (some ⟨b1,0,none⟩))),(4,exI .i64 (i:Int))],[row b1 29 9 (Wq k r)])) (fun i=>i≤r.rounds.length∧(r.rounds.take i).all (fun y=>decide (y.score.tot≤60))=true) (fun i=>r.rounds.length-i) 0 ?_ ⟨Nat.zero_le _,rfl⟩ fun i hi=>?_
     · exact Xg (by repeat (first|exact Xr|refine Xl rfl ?_)) (List.Sublist.refl _)
     obtain ⟨hi,hall2⟩:=hi
     by_cases hlt:i<r.rounds.length
     · have hp:=Ex.partsN_spec r.rounds[i].score 60
       by_cases he:r.rounds[i].score.tot≤60
       · have hp2:=hp.2.1 he
         (repeat' (first|refine Xe ?_|refine Xb ?_|refine Xc ?_|(apply Xn;(first|exact Xf rfl|exact Xm rfl|exact Yc7|exact Ya8|exact Ybw|exact Yah|exact Yaj);exact rfl)|refine Xo ?_|refine Xs ?_|(apply Xh;exact rfl;(apply Xi;(refine Xq Tryz.func35 rfl (size13_any _ _ 60 Yao) rfl ?_;rintro _ _ ⟨rfl,rfl⟩)))|(refine Xp rfl (fun hb=>?_) (fun hb=>?_)<;>(repeat (first|replace hb:=Xz hb|replace hb:=X0 hb))<;>(try (exfalso;omega)))))
         all_goals (try (exfalso;omega))
         exact ⟨i+1,⟨by omega,by rw [Xaz hlt,hall2,decide_eq_true he];rfl⟩,by omega,Xg (by repeat (first|exact Xr|refine Xl rfl ?_)) (List.Sublist.refl _)⟩
       · have hp2:=hp.2.2 Yan
         (repeat' (first|refine Xe ?_|refine Xb ?_|refine Xc ?_|(apply Xn;(first|exact Xf rfl|exact Xm rfl|exact Yc7|exact Ya8|exact Yd4|exact Yah|exact Yaj);exact rfl)|refine Xo ?_|refine Xs ?_|refine Xw ?_|(apply Xh;exact rfl;(apply Xi;(refine Xq Tryz.func35 rfl (size13_any _ _ 60 Yao) rfl ?_;rintro _ _ ⟨rfl,rfl⟩)))|(refine Xp rfl (fun hb=>?_) (fun hb=>?_)<;>(repeat (first|replace hb:=Xz hb|replace hb:=X0 hb))<;>(try (exfalso;omega)))))
         all_goals (try (exfalso;omega))
         refine ⟨.inr rfl,Vd rfl (.tmp rfl) (List.nil_sublist _) ⟨congrArg exB ?_,rfl⟩⟩
         symm
         rw [List.all_eq_false];exact ⟨_,List.getElem_mem hlt,by simpa using he⟩
     · have hk9:i=r.rounds.length:=by omega
       subst hk9
       rw [List.take_length] at hall2
       rw [hall2]
       (repeat' (first|refine Xe ?_|refine Xb ?_|refine Xc ?_|(apply Xn;(first|exact Xf rfl|exact Xm rfl|exact Yai|exact Yad|exact Yam|exact Yaj);exact rfl)|refine Xw ?_|refine Wm ?_|(refine Xp rfl (fun hb=>?_) (fun hb=>?_)<;>(repeat (first|replace hb:=Xz hb|replace hb:=X0 hb))<;>(try (exfalso;omega)))))
       all_goals (try (exfalso;omega))
       exact ⟨.inr rfl,Vd rfl (.tmp rfl) (List.nil_sublist _) ⟨rfl,rfl⟩⟩
 · have hf:r.few13=false:=by
     cases e:r.few13
     · rfl
     · exfalso;apply h0
       unfold RulesD.few13 at e
       simp only [Bool.and_eq_true,Bool.not_eq_true',Bool.or_eq_false_iff,decide_eq_false_iff_not] at e
       omega
   rw [hf]
   (repeat' (first|refine Xe ?_|refine Xb ?_|refine Xc ?_|(apply Xn;(first|exact Xf rfl|exact Xm rfl|exact Wd (b:=true) rfl (fun _=>rfl) (fun e=>by cases e)|exact Wd (b:=false) rfl (fun e=>by cases e) (fun _=>rfl)|exact Yai|exact Yad|exact Ybr|exact Yaj);exact rfl)|(refine Wv rfl rfl rfl rfl rfl ?_)|(apply W0;exact rfl;exact rfl;exact rfl;(first|exact Yai|exact Yad|exact Ybr|(apply Xgh;first|exact Xg1 rfl rfl|exact Xmi rfl rfl));exact rfl)|refine Xw ?_|refine Xx rfl ?_|(apply Xh;exact rfl;(apply Vp;refine W4 rfl ?_;intro _))|(refine Wf rfl rfl (fun hb=>?_) (fun hb=>?_)<;>(repeat (first|replace hb:=Xz hb|replace hb:=X0 hb))<;>(try (exfalso;fail)))|(refine Xp rfl (fun hb=>?_) (fun hb=>?_)<;>(repeat (first|replace hb:=Xz hb|replace hb:=X0 hb))<;>(try (exfalso;omega)))))
   all_goals first|exact ⟨.inr rfl,Vd rfl (.tmp rfl) (List.nil_sublist _) ⟨rfl,rfl⟩⟩|(exfalso;omega)
end Go.Proofs.YthdldeenpgeemaaGreatDoor
namespace Go.Sx
open Go.Lx Go.Fr
end Go.Sx
namespace Go.Proofs.YthdldeenpgeemaaGreatDoor
open Go Go.RowKit Go.Kx Go.Fr Go.Lx Go.Sx
end Go.Proofs.YthdldeenpgeemaaGreatDoor
namespace Go.Proofs.YthdldeenpgeemaaGreatDoor
open Go Go.RowKit Go.Kx Go.Fr Go.Lx Go.ChangeShapes Go.WideShapes
theorem rdB:Reads Tryz.prog 4 eBool:=Xjw Tryz.underlying4
theorem Xqa (K:Nat):ReadsK Tryz.prog 70 K (eCrit):=by
 intro H enc w fuel cs x hK h hw
 obtain ⟨a0,h0⟩:=Wn (K:=K) Tryz.underlying70 h hw Yan 0 _ rfl (fits_str) (rdT.at _) 0 1 rfl Yaw
 obtain ⟨a1,h1⟩:=Wn (K:=K) Tryz.underlying70 h hw Yan 1 _ rfl (fits_int) (rdI.at _) 1 1 rfl Yaw
 obtain ⟨a2,h2⟩:=Wn (K:=K) Tryz.underlying70 h hw Yan 2 _ rfl (fits_int) (rdI.at _) 2 1 rfl Yaw
 obtain ⟨a3,h3⟩:=Wn (K:=K) Tryz.underlying70 h hw Yan 3 _ rfl (fits_int) (rdI.at _) 3 1 rfl Yaw
 obtain ⟨a4,h4⟩:=Wn (K:=K) Tryz.underlying70 h hw Yan 4 _ rfl (fits_int) (rdI.at _) 4 1 rfl Yaw
 obtain ⟨a5,h5⟩:=Wn (K:=K) Tryz.underlying70 h hw Yan 5 _ rfl (fits_int) (rdI.at _) 5 1 rfl Yaw
 obtain ⟨a6,h6⟩:=Wn (K:=K) Tryz.underlying70 h hw Yan 6 _ rfl (fits_bool') (rdB.at _) 6 1 rfl Yaw
 have hl:=R3 Tryz.underlying70 h (n:=7) Yaw
 exact ⟨⟨a0,a1,a2,a3,a4,a5,a6⟩,hl,(CellsR.parts h0 (CellsR.parts h1 (CellsR.parts h2 (CellsR.parts h3 (CellsR.parts h4 (CellsR.parts h5 (CellsR.parts h6 (CellsR.parts0 hl) rfl) rfl) rfl) rfl) rfl) rfl) rfl)⟩
theorem Xo3 (K:Nat):ReadsK Tryz.prog 23 K (eSl (eCrit)):=Ta Tryz.underlying23 Yaw (Nat.zero_lt_succ _) Yaw (Xqa K)
theorem Xqb (K:Nat):ReadsK Tryz.prog 106 K (eItem):=by
 intro H enc w fuel cs x hK h hw
 obtain ⟨a0,h0⟩:=Wn (K:=K) Tryz.underlying106 h hw Yan 0 _ rfl (fits_str) (rdT.at _) 0 1 rfl Yaw
 obtain ⟨a1,h1⟩:=Wn (K:=K) Tryz.underlying106 h hw Yan 1 _ rfl (fits_int) (rdI.at _) 1 1 rfl Yaw
 obtain ⟨a2,h2⟩:=Wn (K:=K) Tryz.underlying106 h hw Yan 2 _ rfl (fits_int) (rdI.at _) 2 1 rfl Yaw
 have hl:=R3 Tryz.underlying106 h (n:=3) Yaw
 exact ⟨⟨a0,a1,a2⟩,hl,(CellsR.parts h0 (CellsR.parts h1 (CellsR.parts h2 (CellsR.parts0 hl) rfl) rfl) rfl)⟩
theorem Xlc (K:Nat):ReadsK Tryz.prog 24 K (eSl (eItem)):=Ta Tryz.underlying24 Yaw (Nat.zero_lt_succ _) Yaw (Xqb K)
theorem Xrj (K:Nat):ReadsK Tryz.prog 97 K (eKey):=by
 intro H enc w fuel cs x hK h hw
 obtain ⟨a0,h0⟩:=Wn (K:=K) Tryz.underlying97 h hw Yan 0 _ rfl (fits_int) (rdI.at _) 0 1 rfl Yaw
 obtain ⟨a1,h1⟩:=Wn (K:=K) Tryz.underlying97 h hw Yan 1 _ rfl (fits_str) (rdT.at _) 1 1 rfl Yaw
 obtain ⟨a2,h2⟩:=Wn (K:=K) Tryz.underlying97 h hw Yan 2 _ rfl (fits_int) (rdI.at _) 2 1 rfl Yaw
 have hl:=R3 Tryz.underlying97 h (n:=3) Yaw
 exact ⟨⟨a0,a1,a2⟩,hl,(CellsR.parts h0 (CellsR.parts h1 (CellsR.parts h2 (CellsR.parts0 hl) rfl) rfl) rfl)⟩
theorem Xqc (K:Nat):ReadsK Tryz.prog 72 K (eSl (eKey)):=Ta Tryz.underlying72 Yaw (Nat.zero_lt_succ _) Yaw (Xrj K)
theorem Xrk (K:Nat):ReadsK Tryz.prog 74 K (eTie):=by
 intro H enc w fuel cs x hK h hw
 obtain ⟨a0,h0⟩:=Wn (K:=K) Tryz.underlying74 h hw Yan 0 _ rfl (fits_str) (rdT.at _) 0 1 rfl Yaw
 obtain ⟨a1,h1⟩:=Wn (K:=K) Tryz.underlying74 h hw Yan 1 _ rfl (Sq) (Xqc K) 1 1 rfl Yaw
 have hl:=R3 Tryz.underlying74 h (n:=2) Yaw
 exact ⟨⟨a0,a1⟩,hl,(CellsR.parts h0 (CellsR.parts h1 (CellsR.parts0 hl) rfl) rfl)⟩
theorem Xqd (K:Nat):ReadsK Tryz.prog 25 K (eSl (eTie)):=Ta Tryz.underlying25 Yaw (Nat.zero_lt_succ _) Yaw (Xrk K)
theorem Xob (K:Nat):ReadsK Tryz.prog 27 K (eSl eI):=Ta Tryz.underlying27 Yaw (Nat.zero_lt_succ _) Yaw (rdI.at K)
theorem rdExpr: ∀K:Nat,ReadsK Tryz.prog 52 K (eEx K)
 | 0=> .zero
 | K+1=>by
   intro H enc w fuel cs x hK h hw
   have hs:ReadsK Tryz.prog 50 K (eSl (eEx K)):=Ta Tryz.underlying50 Yaw (Nat.zero_lt_succ _) Yaw (rdExpr K)
   obtain ⟨a0,h0⟩:=Wn (K:=K) Tryz.underlying52 h hw Yan 0 _ rfl fits_int (rdI.at _) 0 1 rfl Yaw
   obtain ⟨a1,h1⟩:=Wn (K:=K) Tryz.underlying52 h hw Yan 1 _ rfl fits_str (rdT.at _) 1 1 rfl Yaw
   obtain ⟨a2,h2⟩:=Wn (K:=K) Tryz.underlying52 h hw Yan 2 _ rfl fits_int (rdI.at _) 2 1 rfl Yaw
   obtain ⟨a3,h3⟩:=Wn (K:=K) Tryz.underlying52 h hw Yan 3 _ rfl fits_int (rdI.at _) 3 1 rfl Yaw
   obtain ⟨a4,h4⟩:=Wn (K:=K) Tryz.underlying52 h hw Yan 4 _ rfl Sq hs 4 1 rfl Yaw
   have hl:=R3 Tryz.underlying52 h (n:=5) Yaw
   exact ⟨.mk a0 a1 a2 a3 a4,hl,(CellsR.parts h0 (CellsR.parts h1 (CellsR.parts h2 (CellsR.parts h3 (CellsR.parts h4 (CellsR.parts0 hl) rfl) rfl) rfl) rfl) rfl)⟩
theorem Xo4 (K:Nat):ReadsK Tryz.prog 54 K (U1 K):=by
 intro H enc w fuel cs x hK h hw
 obtain ⟨a0,h0⟩:=Wn (K:=K) Tryz.underlying54 h hw Yan 0 _ rfl (fits_str) (rdT.at _) 0 1 rfl Yaw
 obtain ⟨a1,h1⟩:=Wn (K:=K) Tryz.underlying54 h hw Yan 1 _ rfl (fits_int) (rdI.at _) 1 1 rfl Yaw
 obtain ⟨a2,h2⟩:=Wn (K:=K) Tryz.underlying54 h hw Yan 2 _ rfl (fits_int) (rdI.at _) 2 1 rfl Yaw
 obtain ⟨a3,h3⟩:=Wn (K:=K) Tryz.underlying54 h hw Yan 3 _ rfl (fits_int) (rdI.at _) 3 1 rfl Yaw
 obtain ⟨a4,h4⟩:=Wn (K:=K) Tryz.underlying54 h hw Yan 4 _ rfl (fits_bool') (rdB.at _) 4 1 rfl Yaw
 obtain ⟨a5,h5⟩:=Wn (K:=K) Tryz.underlying54 h hw Yan 5 _ rfl (fits_bool') (rdB.at _) 5 1 rfl Yaw
 obtain ⟨a6,h6⟩:=Wn (K:=K) Tryz.underlying54 h hw Yan 6 _ rfl (Xf1) (rdExpr K) 6 5 rfl Yaw
 obtain ⟨a7,h7⟩:=Wn (K:=K) Tryz.underlying54 h hw Yan 7 _ rfl (fits_str) (rdT.at _) 11 1 rfl Yaw
 obtain ⟨a8,h8⟩:=Wn (K:=K) Tryz.underlying54 h hw Yan 8 _ rfl (fits_int) (rdI.at _) 12 1 rfl Yaw
 have hl:=R3 Tryz.underlying54 h (n:=13) Yaw
 exact ⟨⟨a0,a1,a2,a3,a4,a5,a6,a7,a8⟩,hl,(CellsR.parts h0 (CellsR.parts h1 (CellsR.parts h2 (CellsR.parts h3 (CellsR.parts h4 (CellsR.parts h5 (CellsR.parts h6 (CellsR.parts h7 (CellsR.parts h8 (CellsR.parts0 hl) rfl) rfl) rfl) rfl) rfl) rfl) rfl) rfl) rfl)⟩
theorem Xng (K:Nat):ReadsK Tryz.prog 26 K (eSl (U1 K)):=Ta Tryz.underlying26 Yaw (Nat.zero_lt_succ _) Yaw (Xo4 K)
theorem Xo5 (K:Nat):ReadsK Tryz.prog 29 K (Xhh (Wq K) 9 200):=by
 intro H enc w fuel cs x hK h hw
 obtain ⟨a0,h0⟩:=Wn (K:=K) Tryz.underlying29 h hw Yan 0 _ rfl (fits_str) (rdT.at _) 0 1 rfl Yaw
 obtain ⟨a1,h1⟩:=Wn (K:=K) Tryz.underlying29 h hw Yan 1 _ rfl (Sq) (Xo3 K) 1 1 rfl Yaw
 obtain ⟨a2,h2⟩:=Wn (K:=K) Tryz.underlying29 h hw Yan 2 _ rfl (Sq) (Xlc K) 2 1 rfl Yaw
 obtain ⟨a3,h3⟩:=Wn (K:=K) Tryz.underlying29 h hw Yan 3 _ rfl (Sq) (Xlc K) 3 1 rfl Yaw
 obtain ⟨a4,h4⟩:=Wn (K:=K) Tryz.underlying29 h hw Yan 4 _ rfl (Sq) (Xqd K) 4 1 rfl Yaw
 obtain ⟨a5,h5⟩:=Wn (K:=K) Tryz.underlying29 h hw Yan 5 _ rfl (Sq) (Xng K) 5 1 rfl Yaw
 obtain ⟨a6,h6⟩:=Wn (K:=K) Tryz.underlying29 h hw Yan 6 _ rfl (Sq) (Xob K) 6 1 rfl Yaw
 obtain ⟨a7,h7⟩:=Wn (K:=K) Tryz.underlying29 h hw Yan 7 _ rfl (Sq) (Xob K) 7 1 rfl Yaw
 obtain ⟨a8,h8⟩:=Wn (K:=K) Tryz.underlying29 h hw Yan 8 _ rfl (fits_int) (rdI.at _) 8 1 rfl Yaw
 have hl:=R3 Tryz.underlying29 h (n:=9) Yaw
 exact ⟨⟨a0,a1,a2,a3,a4,a5,a6,a7,a8⟩,hl,(CellsR.parts h0 (CellsR.parts h1 (CellsR.parts h2 (CellsR.parts h3 (CellsR.parts h4 (CellsR.parts h5 (CellsR.parts h6 (CellsR.parts h7 (CellsR.parts h8 (CellsR.parts0 hl) rfl) rfl) rfl) rfl) rfl) rfl) rfl) rfl) rfl)⟩
instance {k:Nat}:LenS (Wq k) 9:=⟨fun _=>rfl⟩
theorem Xld {W:World} {v:Value} (h:ArgIn Tryz.prog W 29 v): ∃(K:Nat) (r:RulesD),(rul K r).rel (fun _=>True) W v:=ArgIn.agg (gs:=Wq) h Tryz.underlying29 Xo5 fun _=>Xf1
end Go.Proofs.YthdldeenpgeemaaGreatDoor
