/- Regions that draw their order. No program in sight. -/
import Derived.Test.YthdldeenpgeemaaGreatDoorPart1
import Derived.OrdersHeld
import Derived.Great.BuildSlice
import Derived.Lib.SliceRun
import Derived.RangeFuncNested
import Derived.RangeFuncLeaves
import Derived.RangeFuncCalls
import Derived.OwnWalkIn
import Derived.TacticsInMore
import Derived.Scope
import Derived.Laws.Cover1
import Derived.Lib.AppendZerosOnto
namespace Go.Fr
open Go.RowKit Go.Kx
section any
variable {P:Program} {ops:Array Oper} {Q:Exit→Act→World→Prop} {md:Region.Mode} {n:Nat}
def Ut (n:Nat) (listed:Array Bool):Bool:=(List.range listed.size).all fun j=>Nat.blt j n|| !listed.getD j true
theorem Qu {listed:Array Bool} {i:Nat} (h:i<n):Ut n (listed.setIfInBounds i true)=Ut n listed:=by
 unfold Ut
 rw [Array.size_setIfInBounds,Bool.eq_iff_iff]
 simp only [List.all_eq_true,List.mem_range]
 refine forall_congr' fun j=>imp_congr_right fun _=>?_
 by_cases hj:j=i
 · subst hj;simp [h]
 · rw [getD_set_ne true (Ne.symm hj)]
def Xar (P:Program) (md:Region.Mode) (ops:Array Oper) (Q:Exit→Act→World→Prop) (n:Nat) (S:World→Prop):Nat→Array Bool→Act→World→Prop
 | 0,listed,a,w=>Region.ready md ops listed=[]∧Q .normal a w
 | fuel+1,listed,a,w=>
   (Region.ready md ops listed=[]→Q .normal a w)∧
   ∀i∈Region.ready md ops listed,wpOp P ops Q i (fun a' w'=>(Ut n (listed.setIfInBounds i true)=true→S w')∧Xar P md ops Q n S fuel (listed.setIfInBounds i true) a' w') a w
theorem Xdx {S:World→Prop}: ∀(fuel:Nat) (listed:Array Bool) (a:Act) (w:World),Xar P md ops Q n S fuel listed a w→wpAny P md ops Q fuel listed a w
 | 0,_,_,_,h=>h
 | fuel+1,_,_,_,h=>⟨h.1,fun i hi=>wpOp_mono (fun a' w' h'=>Xdx fuel _ a' w' h'.2) (h.2 i hi)⟩
theorem Sy {S S':World→Prop} (hS: ∀w,S' w→S w): ∀(fuel:Nat) (listed:Array Bool) (a:Act) (w:World),Xar P md ops Q n S' fuel listed a w→Xar P md ops Q n S fuel listed a w
 | 0,_,_,_,h=>h
 | fuel+1,_,_,_,h=>⟨h.1,fun i hi=>wpOp_mono (fun a' w' h'=>⟨fun hn=>hS _ (h'.1 hn),Sy hS fuel _ a' w' h'.2⟩) (h.2 i hi)⟩
theorem Qd {listed:Array Bool} {i:Nat} (h:Ut n listed=false):Ut n (listed.setIfInBounds i true)=false:=by
 rw [←Bool.not_eq_true] at h ⊢
 intro h2
 apply h
 unfold Ut at h2 ⊢
 simp only [Array.size_setIfInBounds,List.all_eq_true,List.mem_range] at h2 ⊢
 intro j hj
 have:=h2 j hj
 by_cases hji:i=j
 · subst hji
   have e:(listed.setIfInBounds i true).getD i true=true:=by simp
   rw [e] at this
   simp at this
   simp [this]
 · rwa [getD_set_ne true hji] at this
theorem Rx {S S':World→Prop}: ∀(fuel:Nat) (listed:Array Bool) (a:Act) (w:World),Ut n listed=false→Xar P md ops Q n S' fuel listed a w→Xar P md ops Q n S fuel listed a w
 | 0,_,_,_,_,h=>h
 | fuel+1,_,_,_,hn,h=>⟨h.1,fun i hi=>wpOp_mono (fun a' w' h'=>⟨fun hn2=>(by rw [Qd hn] at hn2;cases hn2),Rx fuel _ a' w' (Qd hn) h'.2⟩) (h.2 i hi)⟩
def Xlk (md:Region.Mode) (ops:Array Oper) (n i:Nat):Bool:=(List.range ops.size).all fun j=>Nat.blt j n||match ops[j]? with
 | some o=>o.after.any fun e=>Region.binds md e&&e.on==i
 | none=>true
theorem Xj3 {i j:Nat} {oj:Oper} (h:Xlk md ops n i=true) (hj:ops[j]?=some oj) (hn: ¬j<n): ∃e∈oj.after,Region.binds md e=true∧e.on=i:=by
 simp only [Xlk,List.all_eq_true,List.mem_range] at h
 have h1:=h j (Array.getElem?_eq_some_iff.1 hj).1
 simp only [hj,Bool.or_eq_true,Nat.blt_eq,hn,false_or] at h1
 obtain ⟨e,he,hb⟩:=Array.any_eq_true'.1 h1
 simp only [Bool.and_eq_true,beq_iff_eq] at hb
 exact ⟨e,he,hb.1,hb.2⟩
theorem Xll {listed:Array Bool} {j:Nat} (h:Ut n listed=true) (hj:j<n):Ut n (listed.setIfInBounds j true)=true:=by rw [Qu hj];exact h
theorem So {S S2:World→Prop} {i:Nat} {oi:Oper} {v:Value} (hi:ops[i]?=some oi) (hsel: ∀(j:Nat) (o:Oper) cs b,ops[j]?=some o→o.op≠ .select cs b)
   (hQ: ∀c a w,Q (.panic c) (a.put oi.dst v) w→Q (.panic c) a w) (hin:i<n) (hS2:(∀w,S2 w)∨((∀w,S w→S2 w)∧Xlk md ops n i=true)):
   ∀(fuel:Nat) (listed:Array Bool) (a:Act) (w:World),
     (∀j oj,ops[j]?=some oj→j≠i→listed.getD j true=false→(∀e∈oj.after,Region.binds md e=true→e.on≠i)→oi.apart ops oj=true)→
     i∈Region.ready md ops listed→YieldsIf P ops S2 oi v a→(Ut n listed=true→S w)→((∀w,S2 w)∨Ut n listed=true)→
     Xar P md ops Q n S fuel (listed.setIfInBounds i true) (a.put oi.dst v) w→Xar P md ops Q n S (fuel+1) listed a w:=by
 intro fuel
 have hs2: ∀(listed:Array Bool) (w:World),(Ut n listed=true→S w)→((∀w,S2 w)∨Ut n listed=true)→S2 w:=fun listed w h1 h2=>by
   rcases h2 with h2|h2
   · exact h2 w
   · rcases hS2 with h3|h3
     · exact h3 w
     · exact h3.1 w (h1 h2)
 induction fuel with
 | zero=>
   intro listed a w _ hr hy hS hn H
   refine ⟨fun h=>(by rw [h] at hr;cases hr),fun j hj=>?_⟩
   by_cases hji:j=i
   · subst hji;exact hy.wpOp hi (hs2 _ _ hS hn) ⟨fun h=>hS (by rwa [Qu hin] at h),H⟩
   · have:=ready_mono hj hji
     rw [H.1] at this
     cases this
 | succ fuel ih=>
   intro listed a w hfree hr hy hS hn H
   refine ⟨fun h=>(by rw [h] at hr;cases hr),fun j hj=>?_⟩
   by_cases hji:j=i
   · subst hji;exact hy.wpOp hi (hs2 _ _ hS hn) ⟨fun h=>hS (by rwa [Qu hin] at h),H⟩
   · have h1:=H.2 j (ready_mono hj hji)
     obtain ⟨hjun,oj,hoj,hall⟩:=mem_ready.1 hj
     have hnot: ∀e∈oj.after,Region.binds md e=true→e.on≠i:=fun e he hb heq=>by
       have h1:=hall e he hb
       have h0:=(mem_ready.1 hr).1
       rw [heq] at h1
       rcases Nat.lt_or_ge i listed.size with h'|h'
       · simp [h'] at h0 h1;rw [h0] at h1;cases h1
       · simp [Array.getElem?_eq_none h'] at h1
     have hn':(∀w,S2 w)∨Ut n (listed.setIfInBounds j true)=true:=by
       rcases hS2 with h3|h3
       · exact .inl h3
       · by_cases hjn:j<n
         · exact hn.imp id fun h=>Xll h hjn
         · obtain ⟨e,he,hb,heq⟩:=Xj3 h3.2 hoj hjn
           exact absurd heq (hnot e he hb)
     have h2:=wpOp_putIf hoj (hfree j oj hoj hji hjun hnot) (fun cs b=>hsel i oi cs b hi) (fun cs b=>hsel j oj cs b hoj) hQ hy h1
     have hfree': ∀k ok,ops[k]?=some ok→k≠i→(listed.setIfInBounds j true).getD k true=false→
         (∀e∈ok.after,Region.binds md e=true→e.on≠i)→oi.apart ops ok=true:=fun k ok hk hki hun hno=>by
       refine hfree k ok hk hki ?_ hno
       by_cases hjk:j=k
       · subst hjk;exact hjun
       · rw [getD_set_ne true hjk] at hun;exact hun
     refine wpOp_mono (fun a' w' h3=>?_) h2
     have h4:Ut n (listed.setIfInBounds j true)=true→S w':=fun h=>h3.2.1 (by rw [Array.setIfInBounds_comm _ _ (Ne.symm hji),Qu hin];exact h)
     refine ⟨h4,ih (listed.setIfInBounds j true) a' w' hfree' (ready_mono hr (Ne.symm hji)) h3.1 h4 hn' ?_⟩
     rw [Array.setIfInBounds_comm _ _ hji]
     exact h3.2.2
end any
structure WPY (C:Cx) (H:Nat→Prop) (n:Nat) (ops:Array Oper) (Q:Post) (fuel:Nat) (listed:Array Bool) (env:Env) (loc:List Ent):Prop where
 out: ∀F a w,Rel C F env loc a w→Xar C.P .any ops (Xnm C Q) n (Xca H F w) fuel listed a w
theorem Ue {C:Cx} (l0:List Ent) (n:Nat) {id:Nat} {l:List Oper} {Q:Post} {env:Env} {loc:List Ent} (hm:C.P.follows .mixedOrders=true) (h:WPY C (U6 l0) n l.toArray Q l.toArray.size (Array.replicate l.toArray.size false) env loc):WP C (.region id l.toArray true) Q env loc:=by
 constructor
 intro F a w hR
 refine wp_region_any hm (Xdx (S:=Xca (U6 l0) F w.drew) _ _ _ _ (h.out F a _ ?_))
 refine ⟨⟨fun e he=>e.mono (hR.good.rel e he) (fun b hb _=>⟨hb,rfl⟩) fun _ _=>rfl,hR.good.lt,hR.good.disj⟩,fun t p hp=>p.mono (hR.env t p hp) fun b hb _=>⟨hb,rfl⟩,hR.size,hR.defers,?_,hR.own,hR.grow⟩
 exact ⟨hR.ch.os,hR.ch.tape,hR.ch.output,hR.ch.size,hR.ch.block⟩
theorem X3 {C:Cx} {H:Nat→Prop} {n:Nat} {ops:Array Oper} {Q:Post} {fuel:Nat} {listed:Array Bool} {env:Env} {loc:List Ent} (hr:Region.ready .any ops listed=[]) (h:Q .normal env loc):WPY C H n ops Q fuel listed env loc:=by
 constructor
 intro F a w hR
 cases fuel with
 | zero=>exact ⟨hr,F,env,loc,hR,h⟩
 | succ k=>exact ⟨fun _=>⟨F,env,loc,hR,h⟩,by rw [hr];simp⟩
def T3 (C:Cx) (ops:Array Oper) (env:Env) (g:Option (Nat×Bool)):Prop:= ∀F loc a w,Rel C F env loc a w→ ∀o:Oper,o.guard=g→Region.wanted o (yielded ops a.tmps)=true
theorem Xa {C:Cx} {ops:Array Oper} {env:Env}:T3 C ops env none:=fun _ _ _ _ _ _ h=>by simp [Region.wanted,h]
theorem Wg {C:Cx} {ops:Array Oper} {env:Env} {j dj:Nat} {want:Bool} (hj:(ops[j]?).bind (·.dst)=some dj) (hdj:Nat.blt dj C.N=true) (he:look dj env=some (exB want)):T3 C ops env (some (j,want)):=fun _ _ _ _ hR o h=>by
 simp [Region.wanted,h,Q4 hR hj (U4 hdj) he]
def Xdn (ops:Array Oper) (listed:Array Bool) (i:Nat):Bool:=Region.noSelect ops&&Region.free .any ops listed i&&(Region.ready .any ops listed).contains i
theorem Xbm {C:Cx} {Q:Post} {o:Oper} {v:Value} (hQ: ∀c env loc,¬Q (.panic c) env loc): ∀c a w,Xnm C Q (.panic c) (a.put o.dst v) w→Xnm C Q (.panic c) a w:=fun c _ _ ⟨_,env,loc,_,h⟩=>absurd h (hQ c env loc)
theorem Xc {C:Cx} {H:Nat→Prop} {n:Nat} {ops:Array Oper} {Q:Post} {fuel:Nat} {listed:Array Bool} {env:Env} {loc:List Ent} (i:Nat) {d:Nat} {op:Op} {ty:TypeId} {pos:String} {af:Array Edge} {g:Option (Nat×Bool)} {p:SP} (hi:ops[i]?=some ⟨some d,op,ty,pos,af,g⟩) (hb:Xdn ops listed i=true) (hin:Nat.blt i n=true) (hQ: ∀c env loc,¬Q (.panic c) env loc) (hg:T3 C ops env g)
   (h:WT C Xsl ⟨some d,op,ty,pos,af,g⟩ p env loc) (hd:Nat.blt d C.N=true) (hk:WPY C H n ops Q fuel (listed.setIfInBounds i true) ((d,p)::env) loc):WPY C H n ops Q (fuel+1) listed env loc:=by
 constructor
 intro F a w hR
 obtain ⟨v,hp,hr⟩:=h.out F a w hR
 simp only [Xdn,Bool.and_eq_true] at hb
 exact So (S2:=fun _=>True) hi (Region.noSelect_spec hb.1.1) (Xbm hQ) (U4 hin) (.inl fun _=>trivial) fuel listed a w (Region.free_spec hi hb.1.2) (by simpa using hb.2) (.inl ⟨hg F loc a w hR _ rfl,fun w' _=>hr w' trivial⟩) (fun _ _ _ _=>rfl) (.inl fun _=>trivial) (hk.out F _ w (hR.put hd hp))
theorem Xu {C:Cx} {H:Nat→Prop} {n:Nat} {ops:Array Oper} {Q:Post} {fuel:Nat} {listed:Array Bool} {env:Env} {loc:List Ent} (i:Nat) {d:Nat} {op:Op} {ty:TypeId} {pos:String} {af:Array Edge} {g:Option (Nat×Bool)} {p:SP} (hi:ops[i]?=some ⟨some d,op,ty,pos,af,g⟩) (hb:Xdn ops listed i=true) (hin:Nat.blt i n=true) (htl:(Xlk .any ops n i&&Ut n listed)=true) (hQ: ∀c env loc,¬Q (.panic c) env loc) (hg:T3 C ops env g)
   (h:WT C (Xca H) ⟨some d,op,ty,pos,af,g⟩ p env loc) (hd:Nat.blt d C.N=true) (hk:WPY C H n ops Q fuel (listed.setIfInBounds i true) ((d,p)::env) loc):WPY C H n ops Q (fuel+1) listed env loc:=by
 constructor
 intro F a w hR
 obtain ⟨v,hp,hr⟩:=h.out F a w hR
 simp only [Xdn,Bool.and_eq_true] at hb htl
 exact So (S2:=Xca H F w) hi (Region.noSelect_spec hb.1.1) (Xbm hQ) (U4 hin) (.inr ⟨fun _ h=>h,htl.1⟩) fuel listed a w (Region.free_spec hi hb.1.2) (by simpa using hb.2) (.inl ⟨hg F loc a w hR _ rfl,fun w' hw'=>hr w' hw'⟩) (fun _ _ _ _=>rfl) (.inr htl.2) (hk.out F _ w (hR.put hd hp))
theorem W6 {C:Cx} {H:Nat→Prop} {n:Nat} {ops:Array Oper} {Q:Post} {fuel:Nat} {listed:Array Bool} {env:Env} {loc:List Ent} (i:Nat) {d:Nat} {op:Op} {ty:TypeId} {pos:String} {af:Array Edge} {j dj:Nat} {b want:Bool} (hi:ops[i]?=some ⟨some d,op,ty,pos,af,some (j,want)⟩) (hb:Xdn ops listed i=true) (hin:Nat.blt i n=true) (hQ: ∀c env loc,¬Q (.panic c) env loc)
   (hj:(ops[j]?).bind (·.dst)=some dj) (hdj:Nat.blt dj C.N=true) (he:look dj env=some (exB b)) (hbw:(b==want)=false) (hd:Nat.blt d C.N=true) (hk:WPY C H n ops Q fuel (listed.setIfInBounds i true) ((d,ex undef)::env) loc):WPY C H n ops Q (fuel+1) listed env loc:=by
 constructor
 intro F a w hR
 simp only [Xdn,Bool.and_eq_true] at hb
 have hy:=Q4 hR hj (U4 hdj) he
 exact So (S2:=fun _=>True) hi (Region.noSelect_spec hb.1.1) (Xbm hQ) (U4 hin) (.inl fun _=>trivial) fuel listed a w (Region.free_spec hi hb.1.2) (by simpa using hb.2) (.inr ⟨by simp only [Region.wanted,hy];simpa using hbw,rfl⟩) (fun _ _ _ _=>rfl) (.inl fun _=>trivial) (hk.out F _ w (hR.put hd rfl))
theorem Xhe {C:Cx} {H:Nat→Prop} {n:Nat} {ops:Array Oper} {Q:Post} {fuel:Nat} {listed:Array Bool} {env:Env} {loc:List Ent} (rs:List Nat) (hr:Region.ready .any ops listed=rs) (hne:rs.isEmpty=false)
   (h: ∀i∈rs,∃o,ops[i]?=some o∧T3 C ops env o.guard∧ ∃H',(Ut n (listed.setIfInBounds i true)=true→ ∀b,H b→H' b)∧WO C H' o (fun env loc=>WPY C H n ops Q fuel (listed.setIfInBounds i true) env loc) env loc):WPY C H n ops Q (fuel+1) listed env loc:=by
 constructor
 intro F a w hR
 refine ⟨fun h0=>(by rw [hr] at h0;subst h0;cases hne),fun i hi=>?_⟩
 obtain ⟨o,ho,hg,H',hH,hw⟩:=h i (hr ▸ hi)
 unfold wpOp
 simp only [ho]
 rw [if_pos (hg F loc a w hR _ rfl)]
 refine .inl (Qr ?_ (fun _ _ _ h=>h.elim) (hw.out F a w hR))
 rintro a' w' ⟨F',env',loc',hR',hsz,hgr,hsame,hk⟩
 have h5:=hk.out F' a' w' hR'
 cases hnt:Ut n (listed.setIfInBounds i true) with
 | false=>exact ⟨fun h=>(by cases h),Rx _ _ _ _ hnt h5⟩
 | true=>
   refine ⟨fun _ b hb hFH=>hsame b hb (hFH.imp id fun h=>hH hnt b h),Sy (fun w2 h2 b hb hFH=>?_) _ _ _ _ h5⟩
   rw [h2 b (Nat.lt_of_lt_of_le hb hsz) (hFH.imp (fun h=>hgr b h hb) id)]
   exact hsame b hb (hFH.imp id fun h=>hH hnt b h)
theorem W9 {C:Cx} (n:Nat) {id:Nat} {l:List Oper} {Q:Post} {env:Env} {loc:List Ent} (hm:C.P.follows .mixedOrders=true) (h:WPY C (U6 loc) n l.toArray Q l.toArray.size (Array.replicate l.toArray.size false) env loc):WP C (.region id l.toArray true) Q env loc:=Ue loc n hm h
theorem Xq1 {C:Cx} {fn:Func} {R:SP→List Ent→Prop}: ∀c env loc,¬Xjk C fn R (.panic c) env loc:=fun _ _ _ h=>h.1.elim (fun e=>by cases e) (fun e=>by cases e)
theorem Xr {C:Cx} {H H':Nat→Prop} {n:Nat} {ops:Array Oper} {Q:Post} {fuel:Nat} {listed:Array Bool} {env:Env} {loc:List Ent} {o:Oper} (i:Nat) (hr:Region.ready .any ops listed=[i]) (ho:ops[i]?=some o) (hg:T3 C ops env o.guard) (hH:Ut n (listed.setIfInBounds i true)=true→ ∀b,H b→H' b)
   (h:WO C H' o (fun env loc=>WPY C H n ops Q fuel (listed.setIfInBounds i true) env loc) env loc):WPY C H n ops Q (fuel+1) listed env loc:=
 Xhe [i] hr rfl fun j hj=>by
   rw [List.mem_singleton] at hj;subst hj
   exact ⟨o,ho,hg,H',hH,h⟩
theorem V3 {C:Cx} {H H1 H2:Nat→Prop} {n:Nat} {ops:Array Oper} {Q:Post} {fuel:Nat} {listed:Array Bool} {env:Env} {loc:List Ent} {o1 o2:Oper} (i j:Nat) (hr:Region.ready .any ops listed=[i,j]) (ho1:ops[i]?=some o1) (hg1:T3 C ops env o1.guard) (hH1:Ut n (listed.setIfInBounds i true)=true→ ∀b,H b→H1 b) (ho2:ops[j]?=some o2) (hg2:T3 C ops env o2.guard) (hH2:Ut n (listed.setIfInBounds j true)=true→ ∀b,H b→H2 b)
   (h1:WO C H1 o1 (fun env loc=>WPY C H n ops Q fuel (listed.setIfInBounds i true) env loc) env loc) (h2:WO C H2 o2 (fun env loc=>WPY C H n ops Q fuel (listed.setIfInBounds j true) env loc) env loc):WPY C H n ops Q (fuel+1) listed env loc:=
 Xhe [i,j] hr rfl fun k hk=>by
   rcases List.mem_cons.1 hk with rfl|hk
   · exact ⟨o1,ho1,hg1,H1,hH1,h1⟩
   · rw [List.mem_singleton] at hk;subst hk
     exact ⟨o2,ho2,hg2,H2,hH2,h2⟩
theorem Rg {C:Cx} {H:Nat→Prop} {n:Nat} {ops:Array Oper} {Q:Post} {fuel:Nat} {listed:Array Bool} {env:Env} {loc:List Ent} (d:Nat) {b:Bool} (he:look d env=some (exB b))
   (h1:b=true→WPY C H n ops Q fuel listed ((d,exB true)::env) loc) (h0:b=false→WPY C H n ops Q fuel listed ((d,exB false)::env) loc):WPY C H n ops Q fuel listed env loc:=by
 have key: ∀b',b=b'→ ∀F a w,Rel C F env loc a w→Rel C F ((d,exB b')::env) loc a w:=fun b' hb F a w hR=>⟨hR.good,fun t p hp=>by
   rw [Um] at hp
   split at hp
   · rename_i e;cases hp;subst e hb;exact hR.env _ _ he
   · exact hR.env t p hp,hR.size,hR.defers,hR.ch,hR.own,hR.grow⟩
 constructor
 intro F a w hR
 cases hb:b with
 | true=>exact (h1 hb).out F a w (key _ hb F a w hR)
 | false=>exact (h0 hb).out F a w (key _ hb F a w hR)
end Go.Fr
namespace Go.Fr
open Go.RowKit Go.Kx
theorem S1 {α:Type}: ∀{l:List α} {k:Nat} {e:α},l[k]?=some e→l.Perm (e::l.eraseIdx k)
 | x::xs,0,e,h=>by simp only [List.getElem?_cons_zero,Option.some.injEq] at h;subst h;exact List.Perm.refl _
 | x::xs,k+1,e,h=>by
   have ih:=S1 (l:=xs) (k:=k) (by simpa using h)
   exact (ih.cons x).trans (List.Perm.swap e x _)
theorem Good.perm {F:Nat→Prop} {l l':List Ent} {w:World} (h:Good F l w) (hp:l.Perm l'):Good F l' w where
 rel e he:=h.rel e (hp.mem_iff.2 he)
 lt e he:=h.lt e (hp.mem_iff.2 he)
 disj:=(hp.pairwise_iff (fun {_ _} h b hb hb'=>h b hb' hb)).1 h.disj
section
variable {C:Cx} {H:Nat→Prop} {l0:List Ent} {env:Env} {loc:List Ent} {d:Nat} {ty:TypeId} {pos:String} {af:Array Edge} {g:Option (Nat×Bool)} {K:Env→List Ent→Prop}
theorem Tb {F:Nat→Prop} {a:Act} {w:World} (hR:Rel C F env loc a w) {xs:Array Operand} {args:List SP} (ha:xs.toList.map (ev env)=args.map some):CellsR F w args (xs.toList.map a.eval):=by
 have hlen:=congrArg List.length ha
 simp only [List.length_map] at hlen
 refine ⟨by simpa using hlen,fun i p hp=>?_⟩
 have hi:i<args.length:=(List.getElem?_eq_some_iff.1 hp).1
 have h1:(xs.toList.map (ev env))[i]?=(args.map some)[i]?:=by rw [ha]
 rw [List.getElem?_map,List.getElem?_map,hp,List.getElem?_eq_getElem Yan] at h1
 simp only [Option.map_some,Option.some.injEq] at h1
 exact ⟨a.eval (xs.toList[i]'Yan),by rw [List.getElem?_map,List.getElem?_eq_getElem Yan];rfl,X8 hR h1⟩
theorem Xas {P:Program} {f:FuncId} {fn:Func} {c:Code} {xs:Array Operand} {ts:Array TypeId} {dst:Option Nat} {a:Act} (hf:P.funcs[f]?=some fn) (hbody:fn.body=some c) (hname:(fn.name== "runtime.NumGoroutine")=false) (w:World):
   (execOp a.eval ⟨dst,.call ⟨.value (.func f),xs,ts⟩,ty,pos,af,g⟩).run P w= .ok (.enter f (xs.toList.map a.eval).toArray) w:=by
 have he:a.eval (.func f)= .func (.func f) #[] #[]:=rfl
 generalize a.eval=ρ at he ⊢
 have hx:xs.map ρ=(xs.toList.map ρ).toArray:=by apply Array.ext';simp
 simp only [execOp,resolve,he,Deferred.ofValue,Sem.run_bind,Sem.run_pure,Result.andThen_ok,invoke,callFunc]
 have hname': ¬fn.name= "runtime.NumGoroutine":=by simpa using hname
 simp [go_sem,hf,hname',hbody,hx]
theorem Xcv {P:Program} {f:FuncId} {fn:Func} {c:Code} {x:Operand} {xs:Array Operand} {ts:Array TypeId} {dst:Option Nat} {a:Act} {vs:List Value} (he:a.eval x= .func (.func f) #[] vs.toArray) (hf:P.funcs[f]?=some fn) (hbody:fn.body=some c) (hname:(fn.name== "runtime.NumGoroutine")=false) (w:World):
   (execOp a.eval ⟨dst,.call ⟨.value x,xs,ts⟩,ty,pos,af,g⟩).run P w= .ok (.enter f (xs.toList.map a.eval++vs).toArray) w:=by
 generalize a.eval=ρ at he ⊢
 have hx:xs.map ρ=(xs.toList.map ρ).toArray:=by apply Array.ext';simp
 simp only [execOp,resolve,he,Deferred.ofValue,Sem.run_bind,Sem.run_pure,Result.andThen_ok,invoke,callFunc]
 have hname': ¬fn.name= "runtime.NumGoroutine":=by simpa using hname
 simp [go_sem,hf,hname',hbody,hx]
theorem Rel.called {F F':Nat→Prop} {a:Act} {w w':World} {k:Nat} {e:Ent} {p:SP} {v:Value} {loc':List Ent} (hR:Rel C F env loc a w) (he:loc[k]?=some e) (hp:p.rel F' w' v) (hG:Good F' (loc'++(loc.eraseIdx k++C.out)) w') (hch:Ch (fun b=> ∃e'∈[e],b∈e'.foot) w w') (hgr: ∀b,F b→b<w.heap.size→F' b)
   (hown: ∀e'∈loc',∀b∈e'.foot,w.heap.size≤b∨ ∃e'∈[e],b∈e'.foot) (hd:Nat.blt d C.N=true):Rel C F' ((d,p)::env) (loc'++loc.eraseIdx k) (a.put (some d) v) w':=by
 have hmem:=List.mem_of_getElem? he
 have hblk: ∀b,b<w.heap.size→b∉e.foot→w'.heap[b]?=w.heap[b]?:=fun b hb hn=>hch.block b hb (by rintro ⟨e',he',h⟩;simp only [List.mem_singleton] at he';subst he';exact hn h)
 refine hR.next Yeb (fun b hb hlt=>⟨hgr b hb hlt,hblk b hlt fun h=>(hR.good.lt e (List.mem_append_left _ hmem) b h).2 hb⟩) ?_ ?_ hd hp
 · refine ⟨hch.os.trans hR.ch.os,hch.tape.trans hR.ch.tape,hch.output.trans hR.ch.output,Nat.le_trans hR.ch.size hch.size,fun j hj hx=>(hblk j (Nat.lt_of_lt_of_le hj hR.ch.size) fun h=>?_).trans (hR.ch.block j hj hx)⟩
   rcases hR.own e hmem j h with h|h
   · omega
   · exact hx h
 · intro e' he' b hb
   rcases List.mem_append.1 he' with h|h
   · rcases hown e' h b hb with h|⟨e2,h2,h3⟩
     · exact .inl (Nat.le_trans hR.ch.size h)
     · simp only [List.mem_singleton] at h2;subst h2
       exact hR.own _ hmem b h3
   · exact hR.own e' (List.mem_of_mem_eraseIdx h) b hb
theorem Xep {f:FuncId} {fn:Func} {c:Code} {xs:Array Operand} {ts:Array TypeId} {args:List SP} {R:SP→List Ent→Prop} {k:Nat} {e:Ent} (he:loc[k]?=some e) (hf:C.P.funcs[f]?=some fn) (hbody:fn.body=some c) (hc:FnC C.P f args [e] R) (ha:xs.toList.map (ev env)=args.map some) (hk: ∀p loc',R p loc'→K ((d,p)::env) (loc'++loc.eraseIdx k)) (hname:(fn.name== "runtime.NumGoroutine")=false:=by rfl) (hd:Nat.blt d C.N=true:=by rfl) (hH:l0.Sublist (loc.eraseIdx k):=by exact List.nil_sublist _):WO C (U6 l0) ⟨some d,.call ⟨.value (.func f),xs,ts⟩,ty,pos,af,g⟩ K env loc:=by
 constructor
 intro F a w hR
 have hperm:(loc++C.out).Perm ([e]++(loc.eraseIdx k++C.out)):=by
   have:=(S1 he).append_right C.out
   simpa using this
 unfold Oper.wp
 rw [Xas hf hbody hname]
 refine (hc F w _ _ (hR.good.perm hperm) (Tb hR ha)).mono ?_
 rintro e2 w' ⟨v,F',p,loc',rfl,hRp,hp,hG,hch,hgr,hown⟩
 refine ⟨F',_,_,hR.called he hp hG hch hgr hown hd,hch.size,hgr,fun b hb hF=>hch.block b hb ?_,hk p loc' hRp⟩
 rintro ⟨e',he',h⟩
 simp only [List.mem_singleton] at he';subst he'
 rcases hF with hF|hF
 · exact (hR.good.lt _ (List.mem_append_left _ (List.mem_of_getElem? he)) b h).2 hF
 · exact hR.good.apart he h hH hF
theorem V9 {f:FuncId} {fn:Func} {c:Code} {x:Operand} {vs:List Value} {xs:Array Operand} {ts:Array TypeId} {args:List SP} {R:SP→List Ent→Prop} (hx:ev env x=some (ex (.func (.func f) #[] vs.toArray))) (hf:C.P.funcs[f]?=some fn) (hbody:fn.body=some c) (hc:FnC C.P f (args++vs.map ex) [] R) (ha:xs.toList.map (ev env)=args.map some) (hk: ∀p loc',R p loc'→K ((d,p)::env) (loc'++loc)) (hname:(fn.name== "runtime.NumGoroutine")=false:=by rfl) (hd:Nat.blt d C.N=true:=by rfl):WO C H ⟨some d,.call ⟨.value x,xs,ts⟩,ty,pos,af,g⟩ K env loc:=by
 constructor
 intro F a w hR
 have hca:=Tb hR ha
 have hcv:CellsR F w (args++vs.map ex) (xs.toList.map a.eval++vs):=hca.app ⟨by simp,fun i p hp=>by
   rw [List.getElem?_map] at hp
   obtain ⟨u,h1,rfl⟩:=Option.map_eq_some_iff.1 hp
   exact ⟨u,h1,rfl⟩⟩
 unfold Oper.wp
 rw [Xcv (X8 hR hx) hf hbody hname]
 refine (hc F w _ _ hR.good hcv).mono ?_
 rintro e w' ⟨v,F',p,loc',rfl,hRp,hp,hG,hch,hgr,hown⟩
 have hblk: ∀b,b<w.heap.size→w'.heap[b]?=w.heap[b]?:=fun b hb=>hch.block b hb (by rintro ⟨e,he,_⟩;cases he)
 refine ⟨F',_,_,?_,hch.size,hgr,fun b hb _=>hblk b hb,hk p loc' hRp⟩
 refine hR.next Yeb (fun b hb hlt=>⟨hgr b hb hlt,hblk b hlt⟩) ?_ ?_ hd hp
 · exact ⟨hch.os.trans hR.ch.os,hch.tape.trans hR.ch.tape,hch.output.trans hR.ch.output,Nat.le_trans hR.ch.size hch.size,fun k hk hx=>(hblk k (Nat.lt_of_lt_of_le hk hR.ch.size)).trans (hR.ch.block k hk hx)⟩
 · intro e he b hb
   rcases List.mem_append.1 he with he|he
   · rcases hown e he b hb with h|⟨e',he',_⟩
     · exact .inl (Nat.le_trans hR.ch.size h)
     · cases he'
   · exact hR.own e he b hb
inductive ArgB (env:Env) (b:Nat) (ps:List SP):List Operand→List SP→Prop
 | nil:ArgB env b ps [] []
 | ev {x:Operand} {p:SP} {xs:List Operand} {args:List SP} (h:Fr.ev env x=some p) (hr:ArgB env b ps xs args):ArgB env b ps (x::xs) (p::args)
 | part {x:Operand} {off n c:Nat} {α:Type} {E:Enc α} {fs:α→List SP} {l:List α} {xs:List Operand} {args:List SP} (h:Fr.ev env x=some (ex (.slice (some ⟨b,off,none⟩) n c))) (hE:Fits E fs) (h0: ∀a,(fs a).length=E.size) (hpos:0<E.size) (hn:l.length=n) (hl:(ps.drop off).take (n * E.size)=l.flatMap fs) (hnc:n≤c) (hc:c≤maxLen) (hby:n * E.bytes≤140737488355328) (hr:ArgB env b ps xs args):ArgB env b ps (x::xs) (isl E l::args)
theorem Xaf {α:Type} {fs:α→List SP} {s:Nat} (h0: ∀a,(fs a).length=s): ∀(l:List α) (i:Nat) (hi:i<l.length) (j:Nat),j<s→(l.flatMap fs)[i * s+j]?=(fs l[i])[j]?
 | x::xs,0,_,j,hj=>by rw [List.flatMap_cons,Nat.zero_mul,Nat.zero_add,List.getElem?_append_left Yd5];rfl
 | x::xs,i+1,hi,j,hj=>by
   rw [List.flatMap_cons,List.getElem?_append_right (by rw [h0,Nat.succ_mul];omega),h0,List.getElem_cons_succ,←Xaf h0 xs i Ydt j hj]
   congr 1
   rw [Nat.succ_mul];omega
theorem Sl.of_row {α:Type} {E:Enc α} {fs:α→List SP} {l:List α} {F:Nat→Prop} {w:World} {b T off n c:Nat} {cur:Array Value} {ps:List SP} (hb:w.heap[b]?=some (.cells cur T (0,0))) (h3: ∀(i:Nat) (p:SP),ps[i]?=some p→ ∃v,cur[i]?=some v∧p.rel F w v) (hF:F b) (hE:Fits E fs) (h0: ∀a,(fs a).length=E.size) (hpos:0<E.size) (hn:l.length=n) (hl:(ps.drop off).take (n * E.size)=l.flatMap fs) (hnc:n≤c) (hc:c≤maxLen) (hby:n * E.bytes≤140737488355328):Sl E F w (some ⟨b,off,none⟩) n c l:=by
 have hlt:b<w.heap.size:=(Array.getElem?_eq_some_iff.1 hb).1
 have hall: ∀i (hi:i<l.length) j,j<E.size→ ∃v p,(fs l[i])[j]?=some p∧cur[off+i * E.size+j]?=some v∧p.rel F w v:=fun i hi j hj=>by
   have hp:(fs l[i])[j]?=some ((fs l[i])[j]'Yd5):=List.getElem?_eq_getElem _
   have h4:=Xaf h0 l i hi j hj
   have hlt2:i * E.size+j<n * E.size:=by
     have:(i+1) * E.size≤n * E.size:=Nat.mul_le_mul_right _ Yan
     rw [Nat.succ_mul] at this;omega
   rw [←hl,List.getElem?_take,if_pos hlt2,List.getElem?_drop,hp] at h4
   obtain ⟨v,h5,h6⟩:=h3 _ _ h4
   exact ⟨v,_,hp,by rw [Nat.add_assoc];exact h5,h6⟩
 refine ⟨hn,hnc,hc,hby,fun h=>(by cases h),fun i hi=>⟨b,off,(cur.toList.drop (off+i * E.size)).take E.size,rfl,hF,hlt,?_,fun j hj=>?_,hE.inn ⟨?_,fun j p hp=>?_⟩⟩⟩
 · rw [List.length_take,List.length_drop,Array.length_toList]
   obtain ⟨v,p,_,h4,_⟩:=hall i hi (E.size-1) Yan
   have:=(Array.getElem?_eq_some_iff.1 h4).1
   omega
 · rw [List.getElem?_take,if_pos hj,List.getElem?_drop,Array.getElem?_toList]
   simp [World.cell?,hb]
 · rw [List.length_take,List.length_drop,Array.length_toList,h0]
   obtain ⟨v,p,_,h4,_⟩:=hall i hi (E.size-1) Yan
   have:=(Array.getElem?_eq_some_iff.1 h4).1
   omega
 · have hj:j<E.size:=by rw [←h0 l[i]];exact (List.getElem?_eq_some_iff.1 hp).1
   obtain ⟨v,q,h4,h5,h6⟩:=hall i hi j hj
   rw [hp] at h4;cases h4
   exact ⟨v,by rw [List.getElem?_take,if_pos hj,List.getElem?_drop,Array.getElem?_toList];exact h5,h6⟩
theorem ArgB.cells {F F2:Nat→Prop} {a:Act} {w:World} {b T:Nat} {cur:Array Value} {ps:List SP} (hR:Rel C F env loc a w) (hb:w.heap[b]?=some (.cells cur T (0,0))) (h3: ∀(i:Nat) (p:SP),ps[i]?=some p→ ∃v,cur[i]?=some v∧p.rel F2 w v) (hF: ∀k,F k→F2 k) (hFb:F2 b) {xs:List Operand} {args:List SP} (h:ArgB env b ps xs args):CellsR F2 w args (xs.map a.eval):=by
 induction h with
 | nil=>exact ⟨rfl,fun i p hp=>(by cases hp)⟩
 | ev h _ ih=>
   refine ⟨by simp [ih.len],fun i p hp=>?_⟩
   cases i with
   | zero=>simp only [List.getElem?_cons_zero,Option.some.injEq] at hp;subst hp;exact ⟨_,rfl,SP.mono _ (X8 hR h) fun k hk _=>⟨hF k hk,rfl⟩⟩
   | succ i=>simpa using ih.at_ i p (by simpa using hp)
 | part h hE h0 hpos hn hl hnc hc hby _ ih=>
   refine ⟨by simp [ih.len],fun i p hp=>?_⟩
   cases i with
   | zero=>
     simp only [List.getElem?_cons_zero,Option.some.injEq] at hp;subst hp
     exact ⟨_,rfl,_,_,_,X8 hR h,Sl.of_row hb h3 hFb hE h0 hpos hn hl hnc hc hby⟩
   | succ i=>simpa using ih.at_ i p (by simpa using hp)
theorem Qv {f:FuncId} {fn:Func} {c:Code} {xs:Array Operand} {ts:Array TypeId} {args:List SP} {R:SP→List Ent→Prop} {k b T tot:Nat} {ps:List SP} (he:loc[k]?=some (row b T tot ps)) (hf:C.P.funcs[f]?=some fn) (hbody:fn.body=some c) (hc:FnC C.P f args [] R) (ha:ArgB env b ps xs.toList args) (hpl: ∀p loc',R p loc'→loc'=[]∧ ∃v,p=ex v) (hk: ∀v,R (ex v) []→K ((d,ex v)::env) loc) (hname:(fn.name== "runtime.NumGoroutine")=false:=by rfl) (hd:Nat.blt d C.N=true:=by rfl):WO C H ⟨some d,.call ⟨.value (.func f),xs,ts⟩,ty,pos,af,g⟩ K env loc:=by
 constructor
 intro F a w hR
 obtain ⟨cur,h1,h2,h3⟩:=hR.row_at he
 have hmem:=List.mem_of_getElem? he
 have hblt:b<w.heap.size:=(Array.getElem?_eq_some_iff.1 h1).1
 have hperm:(loc++C.out).Perm (row b T tot ps::(loc.eraseIdx k++C.out)):=by
   have:=(S1 he).append_right C.out
   simpa using this
 have hG:=hR.good.perm hperm
 have hup: ∀j,F j→j<w.heap.size→(F j∨j=b)∧w.heap[j]?=w.heap[j]?:=fun j h _=>⟨.inl h,rfl⟩
 have hG2:Good (fun j=>F j∨j=b) ([]++(loc.eraseIdx k++C.out)) w:=by
   refine ⟨fun e he'=>e.mono (hG.rel e (List.mem_cons_of_mem _ he')) hup fun _ _=>rfl,fun e he' j hj=>⟨(hG.lt e (List.mem_cons_of_mem _ he') j hj).1,?_⟩,(List.pairwise_cons.1 hG.disj).2⟩
   rintro (h|rfl)
   · exact (hG.lt e (List.mem_cons_of_mem _ he') j hj).2 h
   · exact (List.pairwise_cons.1 hG.disj).1 e he' j Ydz hj
 have hcells:=ha.cells (F2:=fun j=>F j∨j=b) hR h1 (fun i p hp=>let ⟨v,h4,h5⟩:=h3 i p hp;⟨v,h4,p.mono h5 hup⟩) (fun _ h=> .inl h) (.inr rfl)
 unfold Oper.wp
 rw [Xas hf hbody hname]
 refine (hc _ w _ _ hG2 hcells).mono ?_
 rintro e w' ⟨v,F',p,loc',rfl,hRp,hp,hG',hch,hgr,hown⟩
 obtain ⟨rfl,u,rfl⟩:=hpl p loc' hRp
 have hv:v=u:=hp
 subst hv
 have hblk: ∀j,j<w.heap.size→w'.heap[j]?=w.heap[j]?:=fun j hj=>hch.block j hj (by rintro ⟨e,he,_⟩;cases he)
 have hm: ∀j,F j→j<w.heap.size→(F j)∧w'.heap[j]?=w.heap[j]?:=fun j h hj=>⟨h,hblk j hj⟩
 refine ⟨F,_,_,?_,hch.size,fun _ h _=>h,fun j hj _=>hblk j hj,hk v hRp⟩
 refine hR.next ⟨fun e he'=>e.mono (hR.good.rel e he') hm fun j hj=>hblk j (hR.good.lt e he' j hj).1,fun e he' j hj=>⟨Nat.lt_of_lt_of_le (hR.good.lt e he' j hj).1 hch.size,(hR.good.lt e he' j hj).2⟩,hR.good.disj⟩ hm ?_ hR.own hd rfl
 exact ⟨hch.os.trans hR.ch.os,hch.tape.trans hR.ch.tape,hch.output.trans hR.ch.output,Nat.le_trans hR.ch.size hch.size,fun j hj hx=>(hblk j (Nat.lt_of_lt_of_le hj hR.ch.size)).trans (hR.ch.block j hj hx)⟩
theorem Xlm {t e:TypeId} {x y:Operand} {k1 k2:IntKind} {m1 m2:Int} {n bt:Nat} {u:Value} (hx:ev env x=some (exI k1 m1)) (hy:ev env y=some (exI k2 m2)) [e1:Nt m1 n] [e2:Nt m2 n] (ht:C.P.underlying t=some (.slice e)) [hT:TI C.P e 1 bt u] (hk: ∀b,K ((d,ex (.slice (some ⟨b,0,none⟩) n n))::env) (row b e n (List.replicate n (ex u))::loc)) (hu:u.cells= #[u]:=by rfl) (hb:bt * n≤281474976710656:=by first|omega|(simp;done)|(simp;omega)) (hn:n≤9223372036854775807:=by first|omega|(simp;done)|(simp;omega)) (hd:Nat.blt d C.N=true:=by rfl):WO C H ⟨some d,.makeSlice t x y,ty,pos,af,g⟩ K env loc:=by
 constructor
 intro F a w hR
 obtain ⟨ti,hi,hsz,hbt,hz⟩:=hT.out
 obtain ⟨rfl⟩:=e1;obtain ⟨rfl⟩:=e2
 have hvx:a.eval x= .int k1 n:=X8 hR hx
 have hvy:a.eval y= .int k2 n:=X8 hR hy
 have hmk:=run_make (P:=C.P) w t e ti u ht hi hz k1 k2 (n:Int) (n:Int) Yan (Int.le_refl _) (by have h9:((bt * n:Nat):Int)≤281474976710656:=Yan;rw [Int.natCast_mul] at h9;rw [hbt];exact h9) Yan
 rw [hsz,Int.toNat_natCast,Nat.mul_one] at hmk
 have hr:(execOp a.eval ⟨some d,.makeSlice t x y,ty,pos,af,g⟩).run C.P w= .ok (.value (.slice (some ⟨w.heap.size,0,none⟩) n n)) (w.alloc (.cells (madeCells u.cells n) e)):=by
   generalize a.eval=ρ at hvx hvy ⊢
   simp only [execOp,hvx,hvy,Sem.run_bind,hmk]
   rfl
 unfold Oper.wp
 rw [hr]
 have h:=hR.alloc (w':=w.alloc (.cells (madeCells u.cells n) e)) (T:=e) (cur:=madeCells u.cells n) (ps:=List.replicate n (ex u)) (d:=d) (p:=ex (.slice (some ⟨w.heap.size,0,none⟩) n n)) (v:= .slice (some ⟨w.heap.size,0,none⟩) n n) rfl rfl rfl rfl (fun i q hq=>by
   obtain ⟨hi2,rfl⟩:=List.getElem?_eq_some_iff.1 hq
   simp only [List.length_replicate] at hi2
   rw [List.getElem_replicate]
   refine ⟨u,?_,rfl⟩
   rw [hu]
   simp [madeCells,hi2,Nat.mod_one]) hd (fun _=>rfl)
 rw [size_madeCells] at h
 exact ⟨_,_,_,h,by simp,fun b hb hlt=>⟨hb,hlt⟩,fun b hlt _=>Below.heap_alloc _ _ _ hlt,hk _⟩
end
end Go.Fr
namespace Go.Fr
open Go.RowKit Go.Kx
theorem Xci {ps qs:List SP} {off:Nat} (h:off+qs.length≤ps.length) (i:Nat):(Xbf ps off qs)[i]?=if off≤i∧i<off+qs.length then qs[i-off]? else ps[i]?:=by
 unfold Xbf
 have e1:(ps.take off).length=off:=by rw [List.length_take];omega
 by_cases h1:i<off
 · rw [if_neg Yan,List.append_assoc,List.getElem?_append_left Yan,List.getElem?_take,if_pos h1]
 · by_cases h2:i<off+qs.length
   · rw [if_pos ⟨by omega,h2⟩,List.append_assoc,List.getElem?_append_right Yan,List.getElem?_append_left Yan,e1]
   · rw [if_neg Yan,List.getElem?_append_right Ybh,List.length_append,e1,List.getElem?_drop]
     congr 1;omega
theorem S6 {ps qs:List SP} {off:Nat} (h:off+qs.length≤ps.length):(Xbf ps off qs).length=ps.length:=by
 simp [Xbf];omega
inductive PartsV (F:Nat→Prop) (w:World) (place:Nat→Option (Nat×Nat)):List (Nat×Value)→List (Nat×List SP)→Prop
 | nil:PartsV F w place [] []
 | cons {i off sz:Nat} {v:Value} {qs:List SP} {r:List (Nat×Value)} {r':List (Nat×List SP)} (hp:place i=some (off,sz)) (hl:qs.length=sz) (hc:CellsR F w qs v.cells.toList) (hr:PartsV F w place r r'):PartsV F w place ((i,v)::r) ((off,qs)::r')
def Xbn (zs:List SP) (pq:List (Nat×List SP)):List SP:=pq.foldl (fun acc x=>Xbf acc x.1 x.2) zs
theorem Xeq {F:Nat→Prop} {w:World} {place:Nat→Option (Nat×Nat)} {parts:List (Nat×Value)} {pq:List (Nat×List SP)} (h:PartsV F w place parts pq): ∀{zs:List SP} {cells:Array Value},CellsR F w zs cells.toList→(∀x∈pq,x.1+x.2.length≤zs.length)→ ∃r,Instr.fill place cells parts=some r∧CellsR F w (Xbn zs pq) r.toList:=by
 induction h with
 | nil=>intro zs cells hz _;exact ⟨cells,rfl,hz⟩
 | @cons i off sz v qs r r' hp hl hc _ ih=>
   intro zs cells hz hle
   have hq:off+qs.length≤zs.length:=hle (off,qs) List.mem_cons_self
   have hzl:cells.size=zs.length:=by have:=hz.len;simpa using this
   have hvl:v.cells.size=qs.length:=by have:=hc.len;simpa using this
   obtain ⟨g1,g2⟩:=Great.foldl_set off v.cells.toList 0 cells
   have hz2:CellsR F w (Xbf zs off qs) ((v.cells.toList.zipIdx 0).foldl (fun cs (x:Value×Nat)=>cs.setIfInBounds (off+x.2) x.1) cells).toList:=by
     refine ⟨by rw [Array.length_toList,g1,hzl,S6 hq],fun j p hj=>?_⟩
     rw [Xci hq] at hj
     rw [Array.getElem?_toList,g2 j]
     simp only [Nat.add_zero,Array.length_toList]
     split at hj
     · rename_i hin
       rw [if_pos ⟨hin.1,by omega,by omega⟩]
       exact hc.at_ _ p hj
     · rename_i hin
       rw [if_neg Yan]
       have:=hz.at_ j p hj
       simpa using this
   obtain ⟨r2,h1,h2⟩:=ih hz2 (fun x hx=>by rw [S6 hq];exact hle x (List.mem_cons_of_mem _ hx))
   refine ⟨r2,?_,h2⟩
   unfold Instr.fill
   rw [hp]
   simp only
   rw [if_neg (by simp;omega),←h1]
   congr 1
   rw [←Array.foldl_toList]
   simp
inductive PartsO (env:Env) (place:Nat→Option (Nat×Nat)):List (Nat×Operand)→List (Nat×List SP)→Prop
 | nil:PartsO env place [] []
 | cons {i off sz:Nat} {x:Operand} {p:SP} {qs:List SP} {r:List (Nat×Operand)} {r':List (Nat×List SP)} (he:ev env x=some p) (hc:AsC p qs) (hp:place i=some (off,sz)) (hl:qs.length=sz) (hr:PartsO env place r r'):PartsO env place ((i,x)::r) ((off,qs)::r')
theorem PartsO.vals {C:Cx} {F:Nat→Prop} {env:Env} {loc:List Ent} {a:Act} {w:World} (hR:Rel C F env loc a w) {place:Nat→Option (Nat×Nat)} {parts:List (Nat×Operand)} {pq:List (Nat×List SP)} (h:PartsO env place parts pq):PartsV F w place (parts.map fun x=>(x.1,a.eval x.2)) pq:=by
 induction h with
 | nil=>exact .nil
 | cons he hc hp hl _ ih=>exact .cons hp hl (hc.cells F w _ (X8 hR he)) ih
theorem Xiw {F:Nat→Prop} {w:World} (z:Array Value):CellsR F w (z.toList.map ex) z.toList:=⟨by simp,fun i p hp=>by
 rw [List.getElem?_map] at hp
 obtain ⟨u,h1,rfl⟩:=Option.map_eq_some_iff.1 hp
 exact ⟨u,h1,rfl⟩⟩
section
variable {C:Cx} {S:(Nat→Prop)→World→World→Prop} {H:Nat→Prop} {l0:List Ent} {env:Env} {loc:List Ent} {d:Nat} {dst:Option Tmp} {ty:TypeId} {pos:String} {af:Array Edge} {g:Option (Nat×Bool)} {K:Env→List Ent→Prop}
theorem Xn7 {t:TypeId} {parts:Array (Nat×Operand)} {fs:Array Field} {places:List (Nat×Nat)} {pq:List (Nat×List SP)} {sz bt:Nat} {z:Value} (ht:C.P.underlying t=some (.struct fs)) [hT:TI C.P t sz bt z] (hpl:fs.toList.mapM (fun f=>(C.P.info? f.type).map fun i=>(f.offset,i.size))=some places) (hp:PartsO env (places.toArray[·]?) parts.toList pq) (hle:pq.all (fun x=>Nat.ble (x.1+x.2.length) z.cells.size)=true:=by rfl):
   WT C S ⟨dst,.build t parts,ty,pos,af,g⟩ (agg (Xbn (z.cells.toList.map ex) pq)) env loc:=by
 constructor
 intro F a w hR
 obtain ⟨ti,hi,_,_,hz⟩:=hT.out
 obtain ⟨r,h1,h2⟩:=Xeq (hp.vals hR) (Xiw z.cells) (fun x hx=>by
   have:=List.all_eq_true.1 hle x hx
   simpa using Nat.le_of_ble_eq_true this)
 refine ⟨.agg r,⟨r.toList,by simp,h2⟩,fun w' _=>?_⟩
 have hb:C.P.built t (parts.map fun x=>(x.1,a.eval x.2)).toList=some r:=by
   simp only [Program.built,hi,ht,hz,hpl]
   rw [Array.toList_map];exact h1
 have:=run_build (P:=C.P) w' t (parts.map fun x=>(x.1,a.eval x.2)) r hb
 generalize a.eval=ρ at this ⊢
 simp only [execOp,Sem.run_bind,this]
 rfl
theorem Wq {t e:TypeId} {len:Nat} {parts:Array (Nat×Operand)} {pq:List (Nat×List SP)} {sz bt:Nat} {z:Value} (ht:C.P.underlying t=some (.slice e)) [hT:TI C.P e sz bt z] (hp:PartsO env (fun i=>some (i * sz,sz)) parts.toList pq) (hk: ∀b,K ((d,ex (.slice (some ⟨b,0,none⟩) len len))::env) (row b e (len * sz) (Xbn ((List.range (len * sz)).map fun i=>ex z.cells[i % sz]!) pq)::loc)) (hzs:z.cells.size=sz:=by rfl) (hpos:Nat.blt 0 (len * sz)=true:=by rfl) (hsm:Nat.ble (len * sz) 16777216=true:=by rfl) (hle:pq.all (fun x=>Nat.ble (x.1+x.2.length) (len * sz))=true:=by rfl) (hd:Nat.blt d C.N=true:=by rfl):WO C H ⟨some d,.buildSlice t len parts,ty,pos,af,g⟩ K env loc:=by
 constructor
 intro F a w hR
 obtain ⟨ti,hi,hsz,_,hz⟩:=hT.out
 have hpos':=U4 hpos
 have hsm':=Nat.le_of_ble_eq_true hsm
 subst hzs
 have hz0:CellsR F w ((List.range (len * z.cells.size)).map fun i=>ex z.cells[i % z.cells.size]!) ((Array.range (len * z.cells.size)).map (z.cells[· % z.cells.size]!)).toList:=by
   refine ⟨by simp,fun i p hp=>?_⟩
   rw [List.getElem?_map] at hp
   obtain ⟨j,h1,rfl⟩:=Option.map_eq_some_iff.1 hp
   obtain ⟨h2,h3⟩:=List.getElem?_eq_some_iff.1 h1
   simp only [List.getElem_range] at h3
   subst h3
   simp only [List.length_range] at h2
   exact ⟨_,by simp [h2],rfl⟩
 obtain ⟨r,h1,h2⟩:=Xeq (hp.vals hR) hz0 (fun x hx=>by
   have:=List.all_eq_true.1 hle x hx
   simpa using Nat.le_of_ble_eq_true this)
 have hrun:=run_buildSlice (P:=C.P) w t e len (parts.map fun x=>(x.1,a.eval x.2)) r ti z ht hi hz (by rw [hsz];omega) (by rw [hsz];omega) (by rw [hsz,Array.toList_map];exact h1)
 have hr:(execOp a.eval ⟨some d,.buildSlice t len parts,ty,pos,af,g⟩).run C.P w= .ok (.value (.slice (some ⟨w.heap.size,0,none⟩) len len)) (w.alloc (.cells r e)):=by
   generalize a.eval=ρ at hrun ⊢
   simp only [execOp,Sem.run_bind,hrun]
   rfl
 unfold Oper.wp
 rw [hr]
 have h:=hR.alloc (w':=w.alloc (.cells r e)) (T:=e) (cur:=r) (ps:=Xbn ((List.range (len * z.cells.size)).map fun i=>ex z.cells[i % z.cells.size]!) pq) (d:=d) (p:=ex (.slice (some ⟨w.heap.size,0,none⟩) len len)) (v:= .slice (some ⟨w.heap.size,0,none⟩) len len) rfl rfl rfl rfl (fun i q hq=>by simpa using h2.at_ i q hq) hd (fun _=>rfl)
 have hrs:r.size=len * z.cells.size:=by
   have h3:=h2.len
   have h4: ∀(pq:List (Nat×List SP)) (zs:List SP),(∀x∈pq,x.1+x.2.length≤zs.length)→(Xbn zs pq).length=zs.length:=by
     intro pq
     induction pq with
     | nil=>intro zs _;rfl
     | cons x xs ih=>
       intro zs hx
       have hx0:=hx x List.mem_cons_self
       show (Xbn (Xbf zs x.1 x.2) xs).length=_
       rw [ih _ (fun y hy=>by rw [S6 hx0];exact hx y (List.mem_cons_of_mem _ hy)),S6 hx0]
   rw [h4 _ _ (fun x hx=>by have:=List.all_eq_true.1 hle x hx;simpa using Nat.le_of_ble_eq_true this)] at h3
   simpa using h3
 rw [hrs] at h
 exact ⟨_,_,_,h,by simp,fun b hb hlt=>⟨hb,hlt⟩,fun b hlt _=>Below.heap_alloc _ _ _ hlt,hk _⟩
theorem Xln {zs qs:List SP} {k:Nat} (h:zs.length=qs.length):Xbn zs [(0 * k,qs)]=qs:=by
 show Xbf zs (0 * k) qs=qs
 unfold Xbf
 rw [Nat.zero_mul,List.take_zero,Nat.zero_add,List.drop_of_length_le Yan]
 simp
theorem Wb {t e:TypeId} {x:Operand} {p:SP} {qs:List SP} {sz bt:Nat} {z:Value} (ht:C.P.underlying t=some (.slice e)) [hT:TI C.P e sz bt z] (hx:ev env x=some p) [hc:AsC p qs] (hk: ∀b,K ((d,ex (.slice (some ⟨b,0,none⟩) 1 1))::env) (row b e sz qs::loc)) (hl:qs.length=sz:=by rfl) (hzs:z.cells.size=sz:=by rfl) (hpos:Nat.blt 0 sz=true:=by rfl) (hsm:Nat.ble sz 16777216=true:=by rfl) (hd:Nat.blt d C.N=true:=by rfl):WO C H ⟨some d,.buildSlice t 1 #[(0,x)],ty,pos,af,g⟩ K env loc:=by
 refine Wq (len:=1) (sz:=sz) (pq:=[(0 * sz,qs)]) ht (PartsO.cons hx hc rfl hl PartsO.nil) (fun b=>?_) hzs (by rw [Nat.one_mul];exact hpos) (by rw [Nat.one_mul];exact hsm) (by simp [hl]) hd
 rw [Xln (by simp [hl]),Nat.one_mul]
 exact hk b
theorem Tp {t e:TypeId} {sz bt:Nat} {z:Value} (ht:C.P.underlying t=some (.slice e)) [hT:TI C.P e sz bt z] (hk: ∀b,K ((d,ex (.slice (some ⟨b,0,none⟩) 0 0))::env) (row b e 0 []::loc)) (hd:Nat.blt d C.N=true:=by rfl):WO C H ⟨some d,.buildSlice t 0 #[],ty,pos,af,g⟩ K env loc:=by
 constructor
 intro F a w hR
 obtain ⟨ti,hi,_,_,_⟩:=hT.out
 have hr:(execOp a.eval ⟨some d,.buildSlice t 0 #[],ty,pos,af,g⟩).run C.P w= .ok (.value (.slice (some ⟨w.heap.size,0,none⟩) 0 0)) (w.alloc (.cells #[] e)):=by
   generalize a.eval=ρ
   simp [execOp,Instr.buildSlice,Vz ht,Qb hi,Instr.fill,newRow,go_sem]
 unfold Oper.wp
 rw [hr]
 have h:=hR.alloc (w':=w.alloc (.cells #[] e)) (T:=e) (cur:= #[]) (ps:=[]) (d:=d) (p:=ex (.slice (some ⟨w.heap.size,0,none⟩) 0 0)) (v:= .slice (some ⟨w.heap.size,0,none⟩) 0 0) rfl rfl rfl rfl (fun i q hq=>by cases hq) hd (fun _=>rfl)
 exact ⟨_,_,_,h,by simp,fun b hb hlt=>⟨hb,hlt⟩,fun b hlt _=>Below.heap_alloc _ _ _ hlt,hk _⟩
theorem Xcd {l1 l2:List Ent} {v:Value} {T n:Nat} {ps:List SP} {α:Type} {E:Enc α} {fs:α→List SP} {l:List α} (hE:Fits E fs) (hf0: ∀a,(fs a).length=E.size) (hps:ps=l.flatMap fs) (hn:l.length=n) (hpos:0<E.size) (hby:n * E.bytes≤140737488355328) {t:Nat} (ht:look t env=some (ex v)):
   Leads C env (l1++vec v T E.size n ps::l2) ((t,isl E l)::env) (l1++l2):=by
 intro F a w hR
 have hk:(l1++vec v T E.size n ps::l2)[l1.length]?=some (vec v T E.size n ps):=by simp
 have hsub:(l1++l2).Sublist (l1++vec v T E.size n ps::l2):=(List.Sublist.refl l1).append (List.sublist_cons_self _ _)
 obtain ⟨xs,h1,h2⟩:=hR.good.rel _ (List.mem_append_left _ (List.mem_of_getElem? hk))
 rcases h1.2 with ⟨rfl,h0⟩|⟨b,cap,cur,rfl,_,_,hc1,hc2,_⟩
 · have hl:l=[]:=List.eq_nil_of_length_eq_zero Yan
   subst hl
   refine ⟨F,hR.good.drop hsub,fun t' q hq=>?_,hR.size,hR.defers,hR.ch,fun e he=>hR.own e (hsub.subset he),hR.grow⟩
   rw [Um] at hq
   split at hq
   · rename_i e;cases hq;subst e
     have hv:a.tmps.getD t' undef= .slice none 0 0:=hR.env _ _ ht
     rw [hv]
     exact ⟨none,0,0,rfl,Sl.zero _ _ _⟩
   · exact hR.env t' q hq
 · have hR2:=Xae hk F a w hR
   rw [List.set_append_right _ _ (Nat.le_refl _),Nat.sub_self,List.set_cons_zero] at hR2
   exact Xcc hE hf0 hps hn rfl hpos hc2 hby ht F a w hR2
theorem Xat {s x:Operand} {t e m sz bt:Nat} {qs:List SP} {z:Value} (hs:ev env s=some (ex (.slice none 0 0))) (hx:Src C env loc x sz m qs) (ht:C.P.underlying t=some (.slice e)) [hT:TI C.P e sz bt z] (hk: ∀v',K ((d,ex v')::env) (vec v' e sz (0+m) ([]++qs)::loc)) (hzs:(z.cells.size==sz)=true:=by rfl) (h0:Nat.blt 0 sz=true:=by rfl) (hl:0+m≤maxLen:=by first|omega|(simp only [maxLen];omega)|(simp [maxLen];omega)) (hb:(0+m) * bt≤140737488355328:=by first|omega|(simp only [maxLen];omega)|(simp [maxLen];omega)) (hd:Nat.blt d C.N=true:=by rfl) (hH:l0.Sublist loc:=by exact List.nil_sublist _):WO C (U6 l0) ⟨some d,.call ⟨.builtin .append,#[s,x],#[t,t]⟩,ty,pos,af,g⟩ K env loc:=by
 refine Xno (Ro (T:=e) (sz:=sz)) (V5 (k:=0) (l0:=l0) (n:=0) (ps:=[]) hs rfl ?_ ht hk hzs h0 hl hb hd hH)
 intro F a w hR
 exact hx F a w ⟨hR.good.drop (List.sublist_cons_self _ _),hR.env,hR.size,hR.defers,hR.ch,fun e he=>hR.own e (List.mem_cons_of_mem _ he),hR.grow⟩
theorem Sz {s x:Operand} {t e k b n c tot m sz bt:Nat} {ps qs:List SP} {z:Value} (hs:ev env s=some (ex (.slice (some ⟨b,0,none⟩) n c))) (he:loc[k]?=some (row b e tot ps)) (htot:tot=c * sz) (hn:ps.length=n * sz) (hx:Src C env (loc.set k (vec (.slice (some ⟨b,0,none⟩) n c) e sz n ps)) x sz m qs) (ht:C.P.underlying t=some (.slice e)) [hT:TI C.P e sz bt z] (hk: ∀v',K ((d,ex v')::env) (loc.set k (vec v' e sz (n+m) (ps++qs)))) (hc:c≤maxLen:=by first|omega|(simp only [maxLen];omega)|(simp [maxLen];omega)) (hzs:(z.cells.size==sz)=true:=by rfl) (h0:Nat.blt 0 sz=true:=by rfl) (hl:n+m≤maxLen:=by first|omega|(simp only [maxLen];omega)|(simp [maxLen];omega)) (hb:(n+m) * bt≤140737488355328:=by first|omega|(simp only [maxLen];omega)|(simp [maxLen];omega)) (hd:Nat.blt d C.N=true:=by rfl) (hH:l0.Sublist (loc.eraseIdx k):=by exact List.nil_sublist _):WO C (U6 l0) ⟨some d,.call ⟨.builtin .append,#[s,x],#[t,t]⟩,ty,pos,af,g⟩ K env loc:=by
 have hlen:k<loc.length:=(List.getElem?_eq_some_iff.1 he).1
 refine Xno (Sn he htot hn (U4 h0) hc) (V5 (k:=k) (l0:=l0) hs (by rw [List.getElem?_set_self hlen]) hx ht (fun v'=>?_) hzs h0 hl hb hd ?_)
 · rw [List.set_set];exact hk v'
 · rw [List.eraseIdx_set_eq];exact hH
end
end Go.Fr
namespace Go.Fr
open Go.RowKit Go.Kx
def byV (b:UInt8):List SP:=[exI .u8 (b.toNat:Int)]
instance fits_byte:Fits eByte byV where
 out h:=⟨by simp only [eByte] at h;subst h;rfl,fun i p hp=>by
   simp only [eByte] at h;subst h
   match i,hp with
   | 0,hp=>cases hp;exact ⟨_,rfl,rfl⟩⟩
 inn {F w cs a} h:=by
   obtain ⟨v,h1,h2⟩:=h.at_ 0 _ rfl
   have hl:cs.length=1:=h.len
   obtain ⟨u,rfl⟩:=List.length_eq_one_iff.1 hl
   cases h1
   have h3:v= .int .u8 (a.toNat:Int):=h2
   rw [h3];rfl
def ub (b:UInt8):SP:=exI .u8 (b.toNat:Int)
def Xsn (bs:List UInt8) (off:Nat) (cs:List UInt8):List UInt8:=bs.take off++cs++bs.drop (off+cs.length)
instance {c:UInt8}:Sc (ub c):=Xam rfl
instance {c:UInt8}:Scs (byV c):=Xfo (h:=Xam rfl) (k:=Scs_nil)
theorem Xn8 (l:List UInt8):l.flatMap byV=l.map ub:=by
 induction l with
 | nil=>rfl
 | cons b l ih=>rw [List.flatMap_cons,ih];rfl
theorem ArgB.bytes {env:Env} {b off n c:Nat} {bs:List UInt8} {x:Operand} {xs:List Operand} {args:List SP} (h:Fr.ev env x=some (ex (.slice (some ⟨b,off,none⟩) n c))) (hr:ArgB env b (bs.map ub) xs args) (hn:off+n≤bs.length:=by first|decide|omega|(simp;omega)) (hnc:n≤c:=by first|decide|omega) (hc:c≤maxLen:=by first|decide|(simp only [maxLen];omega)) (hby:n≤140737488355328:=by first|decide|omega):ArgB env b (bs.map ub) (x::xs) (isl eByte ((bs.drop off).take n)::args):=by
 refine .part h fits_byte (fun _=>rfl) Yar (by rw [List.length_take,List.length_drop];omega) ?_ hnc hc (by simpa [eByte] using hby) hr
 rw [Xn8,←List.map_drop,show n * eByte.size=n by simp [eByte],←List.map_take]
theorem Xdy {u v:Value} (h:ex u=ex v):u=v:=by
 have h1:(ex u).rel (fun _=>True) default u:=rfl
 rw [h] at h1
 exact h1
section
variable {C:Cx} {H:Nat→Prop} {l0:List Ent} {env:Env} {loc:List Ent} {d:Nat} {dst:Option Tmp} {ty:TypeId} {pos:String} {af:Array Edge} {g:Option (Nat×Bool)} {K:Env→List Ent→Prop}
end
end Go.Fr
namespace Go.Fr
open Go.RowKit Go.Kx
def slV {α:Type} (E:Enc α) (l:List α):List SP:=[isl E l]
instance Xrx {α:Type} {E:Enc α}:Fits (eSl E) (slV E) where
 out {F w cs a} h:=by
   obtain ⟨oa,n,c,rfl,h⟩:=h
   refine ⟨rfl,fun i p hp=>?_⟩
   match i,hp with
   | 0,hp=>cases hp;exact ⟨_,rfl,oa,n,c,rfl,h⟩
 inn {F w cs a} h:=by
   obtain ⟨v,h1,h2⟩:=h.at_ 0 _ rfl
   have hl:cs.length=1:=h.len
   obtain ⟨u,rfl⟩:=List.length_eq_one_iff.1 hl
   cases h1
   obtain ⟨oa,n,c,rfl,h5⟩:=h2
   exact ⟨oa,n,c,rfl,h5⟩
theorem Xq2 {α:Type} {E:Enc α} {S:Nat→Prop} {w:World}:Sl E S w none 0 0 ([]:List α):=⟨rfl,Nat.le_refl _,by decide,by simp,fun _=>rfl,fun i h=>absurd h Ybn⟩
theorem Xn9 {C:Cx} {env:Env} {loc:List Ent} {x:Operand} {k b T tot sz m c:Nat} {ps:List SP} (hx:ev env x=some (ex (.slice (some ⟨b,0,none⟩) m c))) (he:loc[k]?=some (row b T tot ps)) [hs:Scs ps] (hl:ps.length=m * sz:=by first|rfl|(simp;done)|(simp;omega)):Src C env loc x sz m ps:=
 Xbz hx he (by rw [List.drop_zero,List.take_of_length_le Yan]) hl
theorem Xq3 {C:Cx} {S:(Nat→Prop)→World→World→Prop} {env:Env} {loc:List Ent} {dst:Option Tmp} {ty:TypeId} {pos:String} {af:Array Edge} {g:Option (Nat×Bool)} {x y:Operand} {ts:Array TypeId} {k k':IntKind} {m n:Int} (hx:ev env x=some (exI k m)) (hy:ev env y=some (exI k' n)):WT C S ⟨dst,.call ⟨.builtin .max,#[x,y],ts⟩,ty,pos,af,g⟩ (exI k (if n>m then n else m)) env loc:=by
 constructor
 intro F a w hR
 have hvx:a.eval x= .int k m:=X8 hR hx
 have hvy:a.eval y= .int k' n:=X8 hR hy
 refine ⟨_,rfl,fun w' _=>?_⟩
 generalize a.eval=ρ at hvx hvy ⊢
 simp [hvx,hvy,go_sem]
end Go.Fr
namespace Go.Fr
open Go.RowKit Go.Kx
abbrev dsk (D:Disk):SP:=agg [isl (eSl eByte) D.secs,isl eWr D.pend,exI .i64 D.left,exB D.stopped]
theorem CellsR.two {F:Nat→Prop} {w:World} {p q:SP} {cs:List Value} (h:CellsR F w [p,q] cs): ∃u v,cs=[u,v]∧p.rel F w u∧q.rel F w v:=by
 obtain ⟨hl,ha⟩:=h
 match cs,hl with
 | [u,v],_=>
   obtain ⟨u',h1,h2⟩:=ha 0 p rfl
   obtain ⟨v',h3,h4⟩:=ha 1 q rfl
   simp at h1 h3
   exact ⟨u,v,rfl,h1 ▸ h2,h3 ▸ h4⟩
theorem Xix {F:Nat→Prop} {w:World} {p:SP} {cs:List Value} (h:CellsR F w [p] cs): ∃u,cs=[u]∧p.rel F w u:=by
 obtain ⟨hl,ha⟩:=h
 match cs,hl with
 | [u],_=>
   obtain ⟨u',h1,h2⟩:=ha 0 p rfl
   simp at h1
   exact ⟨u,rfl,h1 ▸ h2⟩
theorem CellsR.four {F:Nat→Prop} {w:World} {p q r s:SP} {cs:List Value} (h:CellsR F w [p,q,r,s] cs): ∃u v x y,cs=[u,v,x,y]∧p.rel F w u∧q.rel F w v∧r.rel F w x∧s.rel F w y:=by
 obtain ⟨hl,ha⟩:=h
 match cs,hl with
 | [u,v,x,y],_=>
   obtain ⟨u',h1,h2⟩:=ha 0 p rfl
   obtain ⟨v',h3,h4⟩:=ha 1 q rfl
   obtain ⟨x',h5,h6⟩:=ha 2 r rfl
   obtain ⟨y',h7,h8⟩:=ha 3 s rfl
   simp at h1 h3 h5 h7
   exact ⟨u,v,x,y,rfl,h1 ▸ h2,h3 ▸ h4,h5 ▸ h6,h7 ▸ h8⟩
theorem CellsR.nil {F:Nat→Prop} {w:World}:CellsR F w [] []:=⟨rfl,fun i p h=>by simp at h⟩
theorem CellsR.cons {F:Nat→Prop} {w:World} {p:SP} {ps:List SP} {u:Value} {cs:List Value} (h:p.rel F w u) (k:CellsR F w ps cs):CellsR F w (p::ps) (u::cs):=by
 refine ⟨by simp [k.len],fun i q hq=>?_⟩
 cases i with
 | zero=>simp at hq;subst hq;exact ⟨u,rfl,h⟩
 | succ i=>obtain ⟨v,h1,h2⟩:=k.at_ i q (by simpa using hq);exact ⟨v,by simpa using h1,h2⟩
theorem Xq4 {D:Disk} {F:Nat→Prop} {w:World} {sa:Option Addr} {sn sc:Nat} {pa:Option Addr} {pn pc:Nat} (h1:Sl (eSl eByte) F w sa sn sc D.secs) (h2:Sl eWr F w pa pn pc D.pend):(dsk D).rel F w (.agg #[.slice sa sn sc,.slice pa pn pc,.int .i64 D.left,.bool D.stopped]):=
 ⟨[.slice sa sn sc,.slice pa pn pc,.int .i64 D.left,.bool D.stopped],rfl,.cons ⟨sa,sn,sc,rfl,h1⟩ (.cons ⟨pa,pn,pc,rfl,h2⟩ (.cons rfl (.cons rfl .nil)))⟩
theorem Xiy {P:Program} {f:FuncId} {args:List SP} {R:SP→List Ent→Prop} (h: ∀F w vals,CellsR F w args vals→Calls P f vals.toArray w (fun e w'=> ∃v p,e= .returned v∧R p []∧p.rel (Up F w) w' v∧Below w.heap.size w w')):FnC P f args [] R:=by
 intro F w vals out hG hA
 refine (h F w vals hA).mono ?_
 rintro e w' ⟨v,p,rfl,hR,hp,hb⟩
 refine ⟨v,Up F w,p,[],rfl,hR,hp,?_,⟨hb.os,hb.tape,hb.output,hb.size,fun k hk _=>hb.block k hk⟩,fun b hb _=> .inl hb,fun e he=>absurd he Ybn⟩
 have hG':Good F out w:=hG
 refine ⟨fun e he=>?_,fun e he b hb'=>?_,hG'.disj⟩
 · exact e.mono (hG'.rel e he) (fun b hF hl=>⟨.inl hF,hb.block b hl⟩) fun b hb'=>hb.block b (hG'.lt e he b hb').1
 · obtain ⟨h1,h2⟩:=hG'.lt e he b hb'
   exact ⟨Nat.lt_of_lt_of_le h1 hb.size,fun h=>h.elim h2 fun h=>absurd h Yan⟩
theorem RetDisk.fr {S:Nat→Prop} {w w':World} {r:Disk×Int} {e:Ending} (h:RetDisk S w r e w'): ∃v p,e= .returned v∧(p=tup [dsk r.1,exI .i64 r.2]∧([]:List Ent)=[])∧p.rel (Up S w) w' v∧Below w.heap.size w w':=by
 obtain ⟨sa,sn,sc,pa,pn,pc,rfl,hD,hb⟩:=h
 exact ⟨_,_,rfl,⟨rfl,rfl⟩,⟨[_,_],rfl,.cons (Xq4 hD.secs hD.pend) (.cons rfl .nil)⟩,hb⟩
end Go.Fr
namespace Go.Fr
open Go.RowKit Go.Kx
section
variable {C:Cx} {S:(Nat→Prop)→World→World→Prop} {H:Nat→Prop} {env:Env} {loc:List Ent} {dst:Option Tmp} {ty:TypeId} {pos:String} {af:Array Edge} {g:Option (Nat×Bool)} {K:Env→List Ent→Prop} {d:Nat}
instance Xry {α:Type} {E:Enc α} {l:List α}:Scs (slV E l):=Xfo (h:=inferInstance) (k:=Scs_nil)
theorem Xiz {o:BinOp} {t u:TypeId} {x y:Operand} (h:WO C H ⟨dst,.binOp o t x y u,ty,pos,af,g⟩ K env loc):WO C H ⟨dst,.binOp o t x y u,ty,pos,af,g⟩ K env loc:=h
theorem Xcj {α:Type} {E:Enc α} {l:List α} {t u e:TypeId} {x y:Operand} (hx:ev env x=some (isl E l)) (hy:ev env y=some (ex (.slice none 0 0))) (ht:C.P.underlying t=some (.slice e)) (hk: ∀b:Bool,(b=true→l=[])→K ((d,exB b)::env) loc) (hd:Nat.blt d C.N=true:=by rfl):WO C H ⟨some d,.binOp .eql t x y u,ty,pos,af,g⟩ K env loc:=by
 constructor
 intro F a w hR
 obtain ⟨ao,n,c,hv,hsl⟩:=X8 hR hx
 have hvy:a.eval y= .slice none 0 0:=X8 hR hy
 have hr:(execOp a.eval ⟨some d,.binOp .eql t x y u,ty,pos,af,g⟩).run C.P w= .ok (.value (.bool ao.isNone)) w:=by
   generalize a.eval=ρ at hv hvy ⊢
   simp [execOp,hv,hvy,eqGuard,go_sem,Lib.run_eql_slice_nil w t e ao n c 0 0 ht]
 unfold Oper.wp
 rw [hr]
 refine ⟨F,_,_,hR.put hd rfl,Nat.le_refl _,fun _ hb _=>hb,fun _ _ _=>rfl,hk ao.isNone fun h=>?_⟩
 have h0:ao=none:=by simpa using h
 have h1:=hsl.nil h0
 have h2:=hsl.cap
 have h3:=hsl.length
 exact List.eq_nil_of_length_eq_zero Yan
theorem Xbo {k T n t:Nat} {v:Value} {ps:List SP} {α:Type} {E:Enc α} {fs:α→List SP} (l:List α) (ht:look t env=some (ex v)) (he:loc[k]?=some (vec v T E.size n ps)) [hE:Fits E fs] (hps:ps=l.flatMap fs) (hn:l.length=n) (hf0: ∀a,(fs a).length=E.size:=by exact fun _=>rfl) (hpos:0<E.size:=by first|decide|exact Yd7) (hby:n * E.bytes≤140737488355328:=by first|omega|(simp only [eSl,eByte];omega)):Leads C env loc ((t,isl E l)::env) (loc.eraseIdx k):=by
 have hk:=List.getElem?_eq_some_iff.1 he
 have e1:loc=loc.take k++vec v T E.size n ps::loc.drop (k+1):=by
   conv=>lhs;rw [←List.take_append_drop k loc]
   rw [List.drop_eq_getElem_cons hk.1,hk.2]
 have e2:loc.eraseIdx k=loc.take k++loc.drop (k+1):=List.eraseIdx_eq_take_drop_succ _ _
 rw [e2]
 conv=>arg 3;rw [e1]
 exact Xcd hE hf0 hps hn hpos hby ht
theorem Qw {ops:Array Oper} {Q:Post} {ol:List Oper} {k T n t:Nat} {v:Value} {ps:List SP} {α:Type} {E:Enc α} {fs:α→List SP} (l:List α) (ht:look t env=some (ex v)) (he:loc[k]?=some (vec v T E.size n ps)) [hE:Fits E fs] (hps:ps=l.flatMap fs) (hn:l.length=n) (h:WPL C ops Q ol ((t,isl E l)::env) (loc.eraseIdx k)) (hf0: ∀a,(fs a).length=E.size:=by exact fun _=>rfl) (hpos:0<E.size:=by first|decide|exact Yd7) (hby:n * E.bytes≤140737488355328:=by first|omega|(simp only [eSl,eByte];omega)):WPL C ops Q ol env loc:=Xbg (Xbo l ht he hps hn hf0 hpos hby) h
theorem Wx {k b T n c t tot:Nat} {ps:List SP} {α:Type} {E:Enc α} {fs:α→List SP} (l:List α) (ht:look t env=some (ex (.slice (some ⟨b,0,none⟩) n c))) (he:loc[k]?=some (row b T tot ps)) [hE:Fits E fs] (hps:ps=l.flatMap fs) (hn:l.length=n) (htot:tot=c * E.size:=by first|rfl|omega) (hc:c≤maxLen:=by first|assumption|omega|(simp only [maxLen];omega)) (hf0: ∀a,(fs a).length=E.size:=by exact fun _=>rfl) (hpos:0<E.size:=by first|decide|exact Yd7) (hby:n * E.bytes≤140737488355328:=by first|omega|(simp only [eSl,eByte];omega)):Leads C env loc ((t,isl E l)::env) (loc.eraseIdx k):=by
 have hk:=List.getElem?_eq_some_iff.1 he
 have e1:loc=loc.take k++row b T tot ps::loc.drop (k+1):=by
   conv=>lhs;rw [←List.take_append_drop k loc]
   rw [List.drop_eq_getElem_cons hk.1,hk.2]
 have e2:loc.eraseIdx k=loc.take k++loc.drop (k+1):=List.eraseIdx_eq_take_drop_succ _ _
 rw [e2]
 conv=>arg 3;rw [e1]
 exact Xcc hE hf0 hps hn htot hpos hc hby ht
theorem Wj {ops:Array Oper} {Q:Post} {ol:List Oper} {k b T n c t tot:Nat} {ps:List SP} {α:Type} {E:Enc α} {fs:α→List SP} (l:List α) (ht:look t env=some (ex (.slice (some ⟨b,0,none⟩) n c))) (he:loc[k]?=some (row b T tot ps)) [hE:Fits E fs] (hps:ps=l.flatMap fs) (hn:l.length=n) (h:WPL C ops Q ol ((t,isl E l)::env) (loc.eraseIdx k)) (htot:tot=c * E.size:=by first|rfl|omega) (hc:c≤maxLen:=by first|assumption|omega|(simp only [maxLen];omega)) (hf0: ∀a,(fs a).length=E.size:=by exact fun _=>rfl) (hpos:0<E.size:=by first|decide|exact Yd7) (hby:n * E.bytes≤140737488355328:=by first|omega|(simp only [eSl,eByte];omega)):WPL C ops Q ol env loc:=Xbg (Wx l ht he hps hn htot hc hf0 hpos hby) h
structure Nf {α:Type} (a b:α):Prop where
 h:b=a
theorem Xcw {t:TypeId} {parts:Array (Nat×Operand)} {fs:Array Field} {places:List (Nat×Nat)} {pq:List (Nat×List SP)} {sz bt:Nat} {z:Value} {qs:List SP} (ht:C.P.underlying t=some (.struct fs)) [hT:TI C.P t sz bt z] (hpl:fs.toList.mapM (fun f=>(C.P.info? f.type).map fun i=>(f.offset,i.size))=some places) (hp:PartsO env (places.toArray[·]?) parts.toList pq) (hq:Nf (Xbn (z.cells.toList.map ex) pq) qs:=by simp only [Xbn,Xbf,Value.cells,List.foldl_cons,List.foldl_nil,List.map_cons,List.map_nil,List.length_cons,List.length_nil,Nat.zero_add,Nat.reduceAdd,List.take_succ_cons,List.take_zero,List.drop_succ_cons,List.drop_zero,List.nil_append,List.cons_append,List.drop_nil,List.take_nil,List.set_cons_zero,List.set_cons_succ];exact ⟨rfl⟩) (hle:pq.all (fun x=>Nat.ble (x.1+x.2.length) z.cells.size)=true:=by rfl):
   WT C S ⟨dst,.build t parts,ty,pos,af,g⟩ (agg qs) env loc:=hq.h ▸ Xn7 ht hpl hp hle
theorem Vl {qs:List SP} {t:TypeId} {x:Operand} {k b off T tot:Nat} {ps:List SP} {d:TypeDesc} {sz bt:Nat} {z:Value} (hx:ev env x=some (ex (.pointer (some ⟨b,off,none⟩)))) (he:loc[k]?=some (row b T tot ps)) (hu:C.P.underlying t=some d) [hT:TI C.P t sz bt z] (hH:H b:=by first|trivial|exact W7 (k:=0) rfl|exact W7 (k:=1) rfl|exact W7 (k:=2) rfl|exact W7 (k:=3) rfl|exact W7 (k:=4) rfl|exact W7 (k:=5) rfl|exact W7 (k:=6) rfl|exact W7 (k:=7) rfl|exact W7 (k:=8) rfl) (hd:Desc.aggB d=true:=by rfl) (hl:Nat.ble (off+sz) ps.length=true:=by rfl) (hq:Nf ((ps.drop off).take sz) qs:=by simp only [Xbn,Xbf,Value.cells,List.foldl_cons,List.foldl_nil,List.map_cons,List.map_nil,List.length_cons,List.length_nil,Nat.zero_add,Nat.reduceAdd,List.take_succ_cons,List.take_zero,List.drop_succ_cons,List.drop_zero,List.nil_append,List.cons_append,List.drop_nil,List.take_nil,List.set_cons_zero,List.set_cons_succ];exact ⟨rfl⟩):
   WT C (Xca H) ⟨dst,.load t x,ty,pos,af,g⟩ (agg qs) env loc:=hq.h ▸ Xfn hx he hu hH hd hl
end
theorem Xi0 {C:Cx} {ops:Array Oper} {Q:Post} {t:TypeId} {x y:Operand} {d:Option Nat} {ty:TypeId} {pos:String} {af:Array Edge} {g:Option (Nat×Bool)} {rest:List Oper} {env:Env} {loc:List Ent} (h:WPL C ops Q (⟨d,.store t x y,ty,pos,af,g⟩::rest) env loc):WPL C ops Q (⟨d,.store t x y,ty,pos,af,g⟩::rest) env loc:=h
def Im (p q:SP):Prop:= ∀F w v,p.rel F w v→q.rel F w v
theorem Im.refl (p:SP):Im p p:=fun _ _ _ h=>h
inductive Ims:List SP→List SP→Prop
 | nil:Ims [] []
 | cons {p q:SP} {ps qs:List SP} (h:Im p q) (k:Ims ps qs):Ims (p::ps) (q::qs)
theorem Ims.cells {ps qs:List SP} (h:Ims ps qs) {F:Nat→Prop} {w:World}: ∀{cs:List Value},CellsR F w ps cs→CellsR F w qs cs:=by
 induction h with
 | nil=>exact fun h=>h
 | @cons p q ps qs h k ih=>
   intro cs hc
   match cs,hc with
   | [],hc=>have:=hc.len;simp at this
   | c::cs,hc=>
     refine .cons (h _ _ _ ?_) (ih ⟨by have:=hc.len;simpa using this,fun i r hr=>?_⟩)
     · obtain ⟨v,h1,h2⟩:=hc.at_ 0 p rfl
       simp at h1
       exact h1 ▸ h2
     · obtain ⟨v,h1,h2⟩:=hc.at_ (i+1) r (by simpa using hr)
       exact ⟨v,by simpa using h1,h2⟩
theorem Ims.refl: ∀(ps:List SP),Ims ps ps
 | []=> .nil
 | p::ps=> .cons (.refl p) (Ims.refl ps)
theorem Ims.agg {ps qs:List SP} (h:Ims ps qs):Im (agg ps) (agg qs):=fun _ _ _ ⟨cs,h1,h2⟩=>⟨cs,h1,h.cells h2⟩
theorem Ims.tup {ps qs:List SP} (h:Ims ps qs):Im (tup ps) (tup qs):=fun _ _ _ ⟨cs,h1,h2⟩=>⟨cs,h1,h.cells h2⟩
theorem Im.nil {α:Type} {E:Enc α}:Im (ex (.slice none 0 0)) (isl E ([]:List α)):=fun _ _ _ h=>by
 have h':_=_:=h
 exact ⟨none,0,0,h',Xq2⟩
theorem Xer {C:Cx} {fn:Func} {R:SP→List Ent→Prop} {env:Env} {loc loc':List Ent} {p q:SP} (h: ∀F a w,Rel C F env loc a w→ ∃F' v p' loc'',(results fn a.tmps).run C.P w= .ok v w∧(p'=p∧loc''=loc')∧p'.rel F' w v∧Good F' (loc''++C.out) w∧(∀b,C.F0 b→b<C.w0.heap.size→F' b)∧ ∀e∈loc'',∀b∈e.foot,C.w0.heap.size≤b∨C.X b) (hi:Im p q) (hR:R q loc'): ∀F a w,Rel C F env loc a w→ ∃F' v p loc',(results fn a.tmps).run C.P w= .ok v w∧R p loc'∧p.rel F' w v∧Good F' (loc'++C.out) w∧(∀b,C.F0 b→b<C.w0.heap.size→F' b)∧ ∀e∈loc',∀b∈e.foot,C.w0.heap.size≤b∨C.X b:=by
 intro F a w hRel
 obtain ⟨F',v,p',loc'',h1,⟨rfl,rfl⟩,h3,h4⟩:=h F a w hRel
 exact ⟨F',v,q,loc'',h1,hR,hi _ _ _ h3,h4⟩
end Go.Fr
namespace Go.Fr
open Go.RowKit Go.Kx
def Calm (Fe:Fence):Prop:=Fe=Fence.wide∨ ∃l,Fe=Fence.wide.inRound l
theorem Calm.fn {Fe:Fence} (h:Calm Fe) (f:FuncId):Fe.fn f:=by rcases h with rfl|⟨l,rfl⟩<;>trivial
theorem Calm.depth {Fe:Fence} (h:Calm Fe):Fe.depth=none:=by rcases h with rfl|⟨l,rfl⟩<;>rfl
theorem Calm.calls {Fe:Fence} (h:Calm Fe) {n:Nat} {P:Program} {f:FuncId} {args:Array Value} {w:World} {R:Ending→World→Prop} (k:Calls P f args w R):CallsIn Fe n P f args w R:=by
 rcases h with rfl|⟨l,rfl⟩
 · exact callsIn_wide.2 k
 · exact CallsIn.inRound l (callsIn_wide.2 k)
structure WPI (C:Cx) (Fe:Fence) (n:Nat) (ops:Array Oper) (Q:Post) (l:List Oper) (env:Env) (loc:List Ent):Prop where
 out: ∀F a w,Rel C F env loc a w→wpListIn Fe n C.P ops (Xnm C Q) l a w
structure WPC (C:Cx) (Fe:Fence) (n:Nat) (c:Code) (Q:Post) (env:Env) (loc:List Ent):Prop where
 out: ∀F a w,Rel C F env loc a w→c.wpIn Fe n C.P (Xnm C Q) a w
def Xrz (D:Nat):Ent where
 foot:=[D]
 rel _ w:=w.heap[D]?=some (.deferred (some []))
 mono h _ hf:=(hf D Ybn).trans h
abbrev Cx.mark (C:Cx) (D:Nat):Cx:={ C with out:=Xrz D::C.out,dfs:={ target:= .collected D,args:= #[] }::C.dfs }
theorem Ch.put {X:Nat→Prop} {w:World} {l:Nat} {o:Obj} (h:X l):Ch X w (w.putObj l o):=⟨rfl,rfl,rfl,by simp,fun k _ hx=>World.putObj_heap_other fun e=>hx (e ▸ h)⟩
theorem Ch.new {X:Nat→Prop} {w:World} {o:Obj}:Ch X w (w.alloc o):=⟨rfl,rfl,rfl,by simp,fun k hk _=>Below.heap_alloc _ _ _ hk⟩
theorem Good.put {F:Nat→Prop} {e e':Ent} {L:List Ent} {w:World} {l:Nat} {o:Obj} (h:Good F (e::L) w) (h1:e.foot=[l]) (h2:e'.foot=[l]) (hr:(∀b,b≠l→(w.putObj l o).heap[b]?=w.heap[b]?)→(w.putObj l o).heap[l]?=some o→e'.rel F (w.putObj l o)):Good F (e'::L) (w.putObj l o):=by
 have hlt:=h.lt e List.mem_cons_self l Ycg
 have hoth: ∀b,b≠l→(w.putObj l o).heap[b]?=w.heap[b]?:=fun b hb=>World.putObj_heap_other hb
 have hp:=List.pairwise_cons.1 h.disj
 have hdis: ∀x∈L,∀b∈x.foot,b≠l:=fun x hx b hb e'=>hp.1 x hx l Ycg (e' ▸ hb)
 refine ⟨fun x hx=>?_,fun x hx b hb=>?_,List.pairwise_cons.2 ⟨fun x hx b hb=>?_,hp.2⟩⟩
 · rcases List.mem_cons.1 hx with rfl|hx
   · exact hr hoth (World.putObj_heap_same hlt.1)
   · exact x.mono (h.rel x (List.mem_cons_of_mem _ hx)) (fun b hb _=>⟨hb,hoth b fun e'=>hlt.2 (e' ▸ hb)⟩) fun b hb=>hoth b (hdis x hx b hb)
 · rw [World.putObj_size]
   rcases List.mem_cons.1 hx with rfl|hx
   · rw [h2] at hb;simp at hb;subst hb;exact hlt
   · exact h.lt x (List.mem_cons_of_mem _ hx) b hb
 · rw [h2] at hb;simp at hb;subst hb
   exact hp.1 x hx b Ycg
theorem Good.lay {F:Nat→Prop} {e:Ent} {L:List Ent} {w:World} {o:Obj} (h:Good F L w) (hF: ∀b,F b→b<w.heap.size) (h1:e.foot=[w.heap.size]) (hr:e.rel F (w.alloc o)):Good F (e::L) (w.alloc o):=by
 refine ⟨fun x hx=>?_,fun x hx b hb=>?_,List.pairwise_cons.2 ⟨fun x hx b hb=>?_,h.disj⟩⟩
 · rcases List.mem_cons.1 hx with rfl|hx
   · exact hr
   · exact x.mono (h.rel x hx) (fun b hb hl=>⟨hb,Below.heap_alloc _ _ _ hl⟩) fun b hb=>Below.heap_alloc _ _ _ (h.lt x hx b hb).1
 · rw [World.size_alloc]
   rcases List.mem_cons.1 hx with rfl|hx
   · rw [h1] at hb;simp at hb;subst hb;exact ⟨by omega,fun h=>absurd (hF _ h) Yan⟩
   · exact ⟨by have:=(h.lt x hx b hb).1;omega,(h.lt x hx b hb).2⟩
 · rw [h1] at hb;simp at hb;subst hb
   exact fun hb=>absurd (h.lt x hx _ hb).1 Yan
end Go.Fr
namespace Go.Fr
open Go.RowKit Go.Kx
structure WPR (C:Cx) (c:Code) (T:Exit→Act→World→Prop) (env:Env) (loc:List Ent):Prop where
 out: ∀F a w,Rel C F env loc a w→c.wp C.P T a w
def Xo9 (C:Cx) (T:Exit→Act→World→Prop):Post:=fun e env loc=> ∀F a w,Rel C F env loc a w→T e a w
theorem Xhf {C:Cx} {x y:Code} {T:Exit→Act→World→Prop} {env:Env} {loc:List Ent} (h:WP C x (Xnn (fun env loc=>WPR C y T env loc) (Xo9 C T)) env loc):WPR C (.seq x y) T env loc:=by
 refine ⟨fun F a w hR=>wp_seq (Code.wp_mono ?_ (h.out F a w hR))⟩
 rintro e a' w' ⟨F',env',loc',hR',hq⟩
 cases e with
 | normal=>exact (show WPR C y T env' loc' from hq).out F' a' w' hR'
 | _=>exact (show Xo9 C T _ env' loc' from hq) F' a' w' hR'
def fnR (C0:Cx) (R:SP→List Ent→Prop) (e:Ending) (w':World):Prop:= ∃v F' p loc',e= .returned v∧R p loc'∧p.rel F' w' v∧Good F' (loc'++C0.out) w'∧Ch C0.X C0.w0 w'∧(∀b,C0.F0 b→b<C0.w0.heap.size→F' b)∧ ∀e∈loc',∀b∈e.foot,C0.w0.heap.size≤b∨C0.X b
def Xsi (env:Env):List Tmp→List SP→Env
 | t::ts,p::ps=>Xsi ((t,p)::env) ts ps
 | _,_=>env
theorem Rel.puts {C:Cx} {F:Nat→Prop} {loc:List Ent} {w:World}: ∀{ts:List Tmp} {ps:List SP} {vs:List Value} {env:Env} {tm:Array Value},Rel C F env loc { tmps:=tm,defers:=[] } w→CellsR F w ps vs→ts.length=ps.length→(∀t∈ts,Nat.blt t C.N=true)→Rel C F (Xsi env ts ps) loc { tmps:=(ts.zip vs).foldl (fun t (p,v)=>t.setIfInBounds p v) tm,defers:=[] } w
 | [],[],vs,env,tm,h,hc,_,_=>by
   have:vs=[]:=List.eq_nil_of_length_eq_zero hc.len
   subst this;exact h
 | t::ts,p::ps,[],env,tm,h,hc,_,_=>by have:=hc.len;simp at this
 | t::ts,p::ps,v::vs,env,tm,h,hc,hl,hN=>by
   obtain ⟨u,h1,h2⟩:=hc.at_ 0 p rfl
   simp at h1;subst h1
   have h3:=h.put (hN t List.mem_cons_self) h2
   exact Rel.puts (ts:=ts) (ps:=ps) (vs:=vs) h3 ⟨by have:=hc.len;simpa using this,fun i q hq=>by have:=hc.at_ (i+1) q (by simpa using hq);simpa using this⟩ (by simpa using hl) fun t ht=>hN t (List.mem_cons_of_mem _ ht)
 | [],_::_,_,_,_,_,_,hl,_=>by simp at hl
 | _::_,[],_,_,_,_,_,hl,_=>by simp at hl
theorem W2 (id:Nat) {C:Cx} {ops:Array Oper} {dr:Bool} {Q:Post} {env:Env} {loc:List Ent} (h:WP C (.region id ops dr) Q env loc):WP C (.region id ops dr) Q env loc:=h
end Go.Fr
namespace Go.Fr
open Go.RowKit Go.Kx
theorem Rel.turn {C:Cx} {F:Nat→Prop} {env:Env} {loc:List Ent} {a:Act} {w:World} {k:Nat} {e e':Ent} (hR:Rel C F env loc a w) (he:loc[k]?=some e) (hf: ∀b,b∈e'.foot→b∈e.foot) (hr:e'.rel F w):Rel C F env (loc.set k e') a w:=by
 have hk:k<loc.length:=(List.getElem?_eq_some_iff.1 he).1
 have hset:loc.set k e'++C.out=(loc++C.out).set k e':=by rw [List.set_append_left _ _ hk]
 have hmem:e∈loc++C.out:=List.mem_append_left _ (List.mem_of_getElem? he)
 refine ⟨⟨?_,?_,?_⟩,hR.env,hR.size,hR.defers,hR.ch,?_,hR.grow⟩
 · rw [hset];intro x hx
   rcases List.mem_or_eq_of_mem_set hx with h|rfl
   · exact hR.good.rel x h
   · exact hr
 · rw [hset];intro x hx b hb
   rcases List.mem_or_eq_of_mem_set hx with h|rfl
   · exact hR.good.lt x h b hb
   · exact hR.good.lt e hmem b (hf b hb)
 · rw [hset,List.pairwise_iff_getElem]
   intro i j hi hj hij b hb hb'
   rw [List.getElem_set] at hb hb'
   have hi2:i<(loc++C.out).length:=by simpa using hi
   have hj2:j<(loc++C.out).length:=by simpa using hj
   have hd:=List.pairwise_iff_getElem.1 hR.good.disj i j hi2 hj2 hij
   have hek:(loc++C.out)[k]'Ybh=e:=by rw [List.getElem_append_left hk];exact (List.getElem?_eq_some_iff.1 he).2
   split at hb<;>split at hb'
   · omega
   · rename_i h1 _;subst h1;rw [hek] at hd;exact hd b (hf b hb) hb'
   · rename_i _ h2;subst h2;rw [hek] at hd;exact hd b hb (hf b hb')
   · exact hd b hb hb'
 · intro x hx b hb
   rcases List.mem_or_eq_of_mem_set hx with h|rfl
   · exact hR.own x h b hb
   · exact hR.own e (List.mem_of_getElem? he) b (hf b hb)
theorem Vo {C:Cx} {env:Env} {loc:List Ent} {j k i T T2 n b tot:Nat} {v:Value} {qs ps:List SP} {α:Type} {E:Enc α} {fs:α→List SP} (l:List α) (hfree:look C.N env=none) (hj:loc[j]?=some (vec v T E.size n qs)) [hE:Fits E fs] (hqs:qs=l.flatMap fs) (hn:l.length=n) (hk:(loc.eraseIdx j)[k]?=some (row b T2 tot ps)) (hi:ps[i]?=some (ex v)) (hf0: ∀a,(fs a).length=E.size:=by exact fun _=>rfl) (hpos:0<E.size:=by first|decide|exact Yd7) (hby:n * E.bytes≤140737488355328:=by first|omega|(simp only [eSl,eByte];omega)):Leads C env loc env ((loc.eraseIdx j).set k (row b T2 tot (ps.set i (isl E l)))):=by
 intro F a w hR
 have hR1:Rel { C with N:=C.N+1 } F ((C.N,ex v)::env) loc { a with tmps:=a.tmps.push v } w:=by
   refine ⟨hR.good,fun t p hp=>?_,by simp [hR.size],hR.defers,hR.ch,hR.own,hR.grow⟩
   rw [Um] at hp
   split at hp
   · rename_i e;cases hp;subst e
     show (a.tmps.push v).getD C.N undef=v
     rw [Array.getD_eq_getD_getElem?,←hR.size];simp
   · rename_i hne
     have h:=hR.env t p hp
     have e:(a.tmps.push v).getD t undef=a.tmps.getD t undef:=by
       rw [Array.getD_eq_getD_getElem?,Array.getD_eq_getD_getElem?,Array.getElem?_push,if_neg (by rw [hR.size];exact fun e=>hne e)]
     show p.rel F w ((a.tmps.push v).getD t undef)
     rw [e];exact h
 obtain ⟨F',h2⟩:=Xbo (C:={ C with N:=C.N+1 }) (t:=C.N) l (by rw [Um,if_pos rfl]) hj hqs hn hf0 hpos hby F _ w hR1
 have hisl:(isl E l).rel F' w v:=by
   have h:=h2.env C.N (isl E l) (by rw [Um,if_pos rfl])
   have e:(a.tmps.push v).getD C.N undef=v:=by rw [Array.getD_eq_getD_getElem?,←hR.size];simp
   have h':(isl E l).rel F' w ((a.tmps.push v).getD C.N undef):=h
   rwa [e] at h'
 have hR3:Rel C F' env (loc.eraseIdx j) a w:=by
   refine ⟨h2.good,fun t p hp=>?_,hR.size,hR.defers,hR.ch,fun e he=>hR.own e ((List.eraseIdx_sublist ..).subset he),h2.grow⟩
   have hne:t≠C.N:=fun e=>by subst e;rw [hfree] at hp;cases hp
   have h:=h2.env t p (by rw [Um,if_neg hne,Um,if_neg hne];exact hp)
   have e:(a.tmps.push v).getD t undef=a.tmps.getD t undef:=by
     rw [Array.getD_eq_getD_getElem?,Array.getD_eq_getD_getElem?,Array.getElem?_push,if_neg (by rw [hR.size];exact hne)]
   have h':p.rel F' w ((a.tmps.push v).getD t undef):=h
   rwa [e] at h'
 refine ⟨F',hR3.turn hk (fun b' hb=>hb) ?_⟩
 obtain ⟨cur,c1,c2,c3⟩:=hR3.good.rel _ (List.mem_append_left _ (List.mem_of_getElem? hk))
 refine ⟨cur,c1,c2,fun m q hq=>?_⟩
 rw [List.getElem?_set] at hq
 split at hq
 · rename_i e
   subst e
   split at hq
   · cases hq
     obtain ⟨u,h4,h5⟩:=c3 i (ex v) hi
     have h5':u=v:=h5
     subst h5'
     exact ⟨u,h4,hisl⟩
   · cases hq
 · exact c3 m q hq
structure Stop (p:Prop):Prop where
 out:p
end Go.Fr
namespace Go.Fr
open Go.RowKit Go.Kx
section
variable {C:Cx} {S:(Nat→Prop)→World→World→Prop} {env:Env} {loc:List Ent} {dst:Option Tmp} {ty:TypeId} {pos:String} {af:Array Edge} {g:Option (Nat×Bool)}
end
instance Nt.min {a b:Int} {i j:Nat} [ha:Nt a i] [hb:Nt b j]:Nt (min a b) (min i j):=⟨by rw [ha.h,hb.h];omega⟩
instance Nt.max {a b:Int} {i j:Nat} [ha:Nt a i] [hb:Nt b j]:Nt (max a b) (max i j):=⟨by rw [ha.h,hb.h];omega⟩
theorem Vb {C:Cx} {H:Nat→Prop} {n:Nat} {ops:Array Oper} {Q:Post} {fuel:Nat} {listed:Array Bool} {env env':Env} {loc loc':List Ent} (hnt:Ut n listed=false) (hl:Leads C env loc env' loc') (h:WPY C H n ops Q fuel listed env' loc'):WPY C H n ops Q fuel listed env loc:=
 ⟨fun F a w hR=>let ⟨F',hR'⟩:=hl F a w hR;Rx _ _ _ _ hnt (h.out F' a w hR')⟩
theorem Xau {C:Cx} {H H1 H2 H3:Nat→Prop} {n:Nat} {ops:Array Oper} {Q:Post} {fuel:Nat} {listed:Array Bool} {env:Env} {loc:List Ent} {o1 o2 o3:Oper} (i j k:Nat) (hr:Region.ready .any ops listed=[i,j,k]) (ho1:ops[i]?=some o1) (hg1:T3 C ops env o1.guard) (hH1:Ut n (listed.setIfInBounds i true)=true→ ∀b,H b→H1 b) (ho2:ops[j]?=some o2) (hg2:T3 C ops env o2.guard) (hH2:Ut n (listed.setIfInBounds j true)=true→ ∀b,H b→H2 b) (ho3:ops[k]?=some o3) (hg3:T3 C ops env o3.guard) (hH3:Ut n (listed.setIfInBounds k true)=true→ ∀b,H b→H3 b)
   (h1:WO C H1 o1 (fun env loc=>WPY C H n ops Q fuel (listed.setIfInBounds i true) env loc) env loc) (h2:WO C H2 o2 (fun env loc=>WPY C H n ops Q fuel (listed.setIfInBounds j true) env loc) env loc) (h3:WO C H3 o3 (fun env loc=>WPY C H n ops Q fuel (listed.setIfInBounds k true) env loc) env loc):WPY C H n ops Q (fuel+1) listed env loc:=
 Xhe [i,j,k] hr rfl fun q hq=>by
   rcases List.mem_cons.1 hq with rfl|hq
   · exact ⟨o1,ho1,hg1,H1,hH1,h1⟩
   · rcases List.mem_cons.1 hq with rfl|hq
     · exact ⟨o2,ho2,hg2,H2,hH2,h2⟩
     · rw [List.mem_singleton] at hq;subst hq
       exact ⟨o3,ho3,hg3,H3,hH3,h3⟩
theorem Qx {P:Program} {f:FuncId} {args args':List SP} {inn:List Ent} {R:SP→List Ent→Prop} (h:FnC P f args' inn R) (hi:Ims args args'):FnC P f args inn R:=fun F w vals out hG hA=>h F w vals out hG (hi.cells hA)
end Go.Fr
namespace Go.Fr
open Go.RowKit Go.Kx
section
variable {C:Cx} {S:(Nat→Prop)→World→World→Prop} {H:Nat→Prop} {env:Env} {loc:List Ent} {dst:Option Tmp} {ty:TypeId} {pos:String} {af:Array Edge} {g:Option (Nat×Bool)}
theorem Rq {qs:List SP} {t:TypeId} {x:Operand} {ps:List SP} {d:TypeDesc} {sz bt:Nat} {z:Value} (hx:ev env x=some (fp ps)) (hu:C.P.underlying t=some d) [hT:TI C.P t sz bt z] (hd:Desc.aggB d=true:=by rfl) (hl:Nat.ble sz ps.length=true:=by rfl) (hq:Nf (ps.take sz) qs:=by simp only [Xbn,Xbf,Value.cells,List.foldl_cons,List.foldl_nil,List.map_cons,List.map_nil,List.length_cons,List.length_nil,Nat.zero_add,Nat.reduceAdd,List.take_succ_cons,List.take_zero,List.drop_succ_cons,List.drop_zero,List.nil_append,List.cons_append,List.drop_nil,List.take_nil,List.set_cons_zero,List.set_cons_succ];exact ⟨rfl⟩):
   WT C (Xca H) ⟨dst,.load t x,ty,pos,af,g⟩ (agg qs) env loc:=hq.h ▸ Tm hx hu hd hl
end
theorem Ta {C:Cx} {H:Nat→Prop} {n0:Nat} {ops:Array Oper} {Q:Post} {fuel:Nat} {listed:Array Bool} {env:Env} {loc:List Ent} {k T sz n:Nat} {v:Value} {ps:List SP} (he:loc[k]?=some (vec v T sz n ps)) (hn:0<n) (h: ∀b c,v= .slice (some ⟨b,0,none⟩) n c→n≤c→c≤maxLen→WPY C H n0 ops Q fuel listed env loc):WPY C H n0 ops Q fuel listed env loc:=⟨fun F a w hR=>by obtain ⟨b,c,hv,h1,h2⟩:=Xfp hR he hn;exact (h b c hv h1 h2).out F a w hR⟩
theorem Vj {C:Cx} {env:Env} {loc loc':List Ent} (hp:loc.Perm loc'):Leads C env loc env loc':=fun F _ _ hR=>⟨F,hR.good.perm (hp.append_right _),hR.env,hR.size,hR.defers,hR.ch,fun e he=>hR.own e (hp.mem_iff.2 he),hR.grow⟩
theorem Xi1 {α:Type} (f:α→SP) (l:List α) (i:Nat) (x:α) (h:i<l.length):Xbf (l.map f) i [f x]=(l.set i x).map f:=by
 unfold Xbf
 rw [List.map_set,List.set_eq_take_append_cons_drop,if_pos (by simpa using h)]
 simp
end Go.Fr
namespace Go.Fr
open Go.RowKit Go.Kx Go.Lib
section
variable {P:Program}
instance Xr0 {l:List UInt8}:Scs (l.map ub):=⟨fun q hq=>by obtain ⟨c,_,rfl⟩:=List.mem_map.1 hq;exact Xam rfl⟩
end
section
variable {C:Cx} {H:Nat→Prop} {K:Env→List Ent→Prop} {env:Env} {loc:List Ent} {d:Tmp} {ty:TypeId} {pos:String} {af:Array Edge} {g:Option (Nat×Bool)} {l0:List Ent}
end
end Go.Fr
namespace Go.Fr
open Go.RowKit Go.Kx
def eNat:Enc Nat where
 size:=1
 bytes:=8
 rel _ _ cs a:=cs=[.int .i64 (a:Int)]
 len h:=by subst h;rfl
 mono h _:=h
def nV (n:Nat):SP:=exI .i64 (n:Int)
def Xsj (n:Nat):List SP:=[nV n]
theorem Xr1 {F:Nat→Prop} {w:World} {cs:List Value} {u:Value}:CellsR F w [ex u] cs↔cs=[u]:=by
 constructor
 · intro h
   obtain ⟨v,h1,h2⟩:=h.at_ 0 _ rfl
   have hl:cs.length=1:=h.len
   obtain ⟨x,rfl⟩:=List.length_eq_one_iff.1 hl
   cases h1
   have h3:v=u:=h2
   rw [h3]
 · rintro rfl
   exact .cons rfl .nil
instance fits_nat:Fits eNat Xsj where
 out h:=Xr1.2 h
 inn h:=Xr1.1 h
instance {n:Nat}:Sc (nV n):=Xam rfl
instance {n:Nat}:Scs (Xsj n):=Xfo (h:=Xam rfl) (k:=Scs_nil)
theorem Xbp (id:Nat) {C:Cx} {ops:Array Oper} {dr:Bool} {x y:Code} {Q:Post} {env:Env} {loc:List Ent} (h:WP C (.seq (.seq (.region id ops dr) x) y) Q env loc):WP C (.seq (.seq (.region id ops dr) x) y) Q env loc:=h
theorem Xag {C:Cx} {c0:Code} {Q:Post} {env:Env} {loc:List Ent} {k T sz n:Nat} {v:Value} {ps:List SP} (he:loc[k]?=some (vec v T sz n ps)) (hn:0<n) (h: ∀b c,v= .slice (some ⟨b,0,none⟩) n c→n≤c→c≤maxLen→WP C c0 Q env (loc.set k (row b T (c * sz) ps))):WP C c0 Q env loc:=by
 constructor
 intro F a w hR
 obtain ⟨b,c,rfl,h1,h2⟩:=Xfp hR he hn
 exact (h b c rfl h1 h2).out F a w (Xae he F a w hR)
end Go.Fr
namespace Go.Fr
open Go.RowKit Go.Kx
section
variable {C:Cx} {S:(Nat→Prop)→World→World→Prop} {H:Nat→Prop} {env:Env} {loc:List Ent} {dst:Option Tmp} {ty:TypeId} {pos:String} {af:Array Edge} {g:Option (Nat×Bool)}
end
end Go.Fr
namespace Go.Fr
open Go.RowKit Go.Kx
abbrev exT (l:List UInt8):SP:=ex (.string ⟨l.toArray⟩)
theorem Xi2 {p q:List UInt8}:((⟨p.toArray⟩:ByteArray)=⟨q.toArray⟩)↔p=q:=by
 constructor
 · intro h
   injection h with h
   simpa using h
 · rintro rfl;rfl
theorem Xq5 {l:List UInt8} {i:Nat}:(⟨l.toArray⟩:ByteArray)[i]?=l[i]?:=by
 by_cases h:i<l.length
 · rw [List.getElem?_eq_getElem h]
   have h2:i<(⟨l.toArray⟩:ByteArray).size:=by show i<l.toArray.size;simpa using h
   rw [getElem?_pos (⟨l.toArray⟩:ByteArray) i h2]
   congr 1
 · rw [List.getElem?_eq_none Yan]
   have h2: ¬i<(⟨l.toArray⟩:ByteArray).size:=by show ¬i<l.toArray.size;simpa using h
   rw [getElem?_neg (⟨l.toArray⟩:ByteArray) i h2]
section
variable {C:Cx} {S:(Nat→Prop)→World→World→Prop} {H:Nat→Prop} {env:Env} {loc:List Ent} {dst:Option Tmp} {ty:TypeId} {pos:String} {af:Array Edge} {g:Option (Nat×Bool)}
theorem Xlo {t:TypeId} {x y:Operand} {p:SP} (h:WT C S ⟨dst,.index t x y,ty,pos,af,g⟩ p env loc):WT C S ⟨dst,.index t x y,ty,pos,af,g⟩ p env loc:=h
theorem Xhg {l:List UInt8} {t:TypeId} {x y:Operand} {k:IntKind} {m:Int} {i:Nat} (hx:ev env x=some (exT l)) (hy:ev env y=some (exI k m)) [hm:Nt m i] (ht:C.P.underlying t=some .string) (hl:i<l.length:=by first|omega|(simp;done)|(simp;omega)):
   WT C S ⟨dst,.index t x y,ty,pos,af,g⟩ (exI .u8 (l[i].toNat:Int)) env loc:=by
 constructor
 intro F a w hR
 obtain ⟨rfl⟩:=hm
 have hv:a.eval x= .string ⟨l.toArray⟩:=X8 hR hx
 have hvy:a.eval y= .int k i:=X8 hR hy
 refine ⟨_,rfl,fun w' _=>?_⟩
 have hg:(⟨l.toArray⟩:ByteArray)[i]?=some l[i]:=by rw [Xq5,List.getElem?_eq_getElem hl]
 generalize a.eval=ρ at hv hvy ⊢
 generalize (⟨l.toArray⟩:ByteArray)=s at hv hg
 simp [execOp,hv,hvy,Instr.index,asIntOf,Vz ht,go_sem,hg]
theorem Xlp {l:List UInt8} {x:Operand} {t:TypeId} (h:ev env x=some (exT l)) (ht:C.P.underlying t=some .string):WT C S ⟨dst,.call ⟨.builtin .len,#[x],#[t]⟩,ty,pos,af,g⟩ (exI .i64 l.length) env loc:=by
 have:=Xqt (C:=C) (S:=S) (loc:=loc) (dst:=dst) (ty:=ty) (pos:=pos) (af:=af) (g:=g) h ht
 have e:(⟨l.toArray⟩:ByteArray).size=l.length:=by show l.toArray.size=l.length;simp
 rwa [e] at this
theorem Xav {x y:Operand} {t u:TypeId} {p q:List UInt8} (hx:ev env x=some (exT p)) (hy:ev env y=some (exT q)):WT C S ⟨dst,.binOp .eql t x y u,ty,pos,af,g⟩ (exB (decide (p=q))) env loc:=by
 have:=Xrq (C:=C) (S:=S) (loc:=loc) (dst:=dst) (ty:=ty) (pos:=pos) (af:=af) (g:=g) (t:=t) (u:=u) hx hy
 rwa [show decide ((⟨p.toArray⟩:ByteArray)=⟨q.toArray⟩)=decide (p=q) from decide_eq_decide.2 Xi2] at this
theorem Xaw {x y:Operand} {t u:TypeId} {p q:List UInt8} (hx:ev env x=some (exT p)) (hy:ev env y=some (exT q)):WT C S ⟨dst,.binOp .neq t x y u,ty,pos,af,g⟩ (exB (!decide (p=q))) env loc:=by
 have:=Xrr (C:=C) (S:=S) (loc:=loc) (dst:=dst) (ty:=ty) (pos:=pos) (af:=af) (g:=g) (t:=t) (u:=u) hx hy
 rwa [show decide ((⟨p.toArray⟩:ByteArray)=⟨q.toArray⟩)=decide (p=q) from decide_eq_decide.2 Xi2] at this
end
end Go.Fr
namespace Go.Fr
open Go.RowKit Go.Kx
def eStr:Enc (List UInt8) where
 size:=1
 bytes:=16
 rel _ _ cs a:=cs=[.string ⟨a.toArray⟩]
 len h:=by subst h;rfl
 mono h _:=h
def strV (s:List UInt8):List SP:=[exT s]
instance fits_str:Fits eStr strV where
 out h:=Xr1.2 h
 inn h:=Xr1.1 h
def eI:Enc Int where
 size:=1
 bytes:=8
 rel _ _ cs a:=cs=[.int .i64 a]
 len h:=by subst h;rfl
 mono h _:=h
def intV (n:Int):List SP:=[exI .i64 n]
instance fits_int:Fits eI intV where
 out h:=Xr1.2 h
 inn h:=Xr1.1 h
end Go.Fr
