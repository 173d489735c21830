/- Frame: encodings out of what is known of cells; maps; boxes that are written no more; calls that are handed several things. No program in sight. -/
import Derived.Test.YthdldeenpgeemaaGreatDoorPart2
import Derived.Test.YthdldeenpgeemaaGreatDoorPart1
import Derived.Test.YthdldeenpgeemaaGreatDoorRows
import Derived.MapKept
import Derived.Laws.StructEq
import Derived.Lib.Fields
import Derived.Deep.DeepHandedRow
import Derived.Lib.LaidTab
import Derived.LaidLaws
import Derived.Lib.Strings
import Derived.Lib.Walk
import Derived.Lib.Bytealg
set_option maxHeartbeats 1000000
set_option maxRecDepth 100000
namespace Go.Fr
open Go.RowKit Go.Kx
def Xh0 {α:Type} (fs:α→List SP) (sz bt:Nat):Enc α where
 size:=sz
 bytes:=bt
 rel F w cs a:=cs.length=sz∧CellsR F w (fs a) cs
 len h:=h.1
 mono h hk:=⟨h.1,h.2.mono hk⟩
class LenS {α:Type} (fs:α→List SP) (sz:outParam Nat):Prop where
 len: ∀a,(fs a).length=sz
instance Xgf {α:Type} {fs:α→List SP} {sz bt:Nat} [h:LenS fs sz]:Fits (Xh0 fs sz bt) fs where
 out h:=h.2
 inn h':=⟨h'.len.trans (h.len _),h'⟩
theorem Rel.writeE {C:Cx} {F:Nat→Prop} {env:Env} {loc:List Ent} {a:Act} {w w':World} {k b:Nat} {e e':Ent} (hR:Rel C F env loc a w) (he:loc[k]?=some e) (hf:e.foot=[b]) (hf':e'.foot=[b])
   (hrel:(∀j,F j→j<w.heap.size→F j∧w'.heap[j]?=w.heap[j]?)→e'.rel F w') (ho: ∀j,j≠b→w'.heap[j]?=w.heap[j]?) (hos:w'.os=w.os) (htp:w'.tape=w.tape) (hout:w'.output=w.output) (hs:w'.heap.size=w.heap.size):
   Rel C F env (loc.set k e') a w':=by
 have hk:k<loc.length:=(List.getElem?_eq_some_iff.1 he).1
 have hmem:e∈loc++C.out:=List.mem_append_left _ (List.mem_of_getElem? he)
 have hbe:b∈e.foot:=by rw [hf];simp
 have hbF: ¬F b:=(hR.good.lt _ hmem b hbe).2
 have hm: ∀j,F j→j<w.heap.size→F j∧w'.heap[j]?=w.heap[j]?:=fun j h1 _=>⟨h1,ho j fun e=>hbF (e ▸ h1)⟩
 have hfar: ∀i (hi:i<(loc++C.out).length),i≠k→b∉((loc++C.out)[i]).foot:=by
   intro i hi hne hbi
   have hkk:(loc++C.out)[k]'Ybh=e:=by
     rw [List.getElem_append_left hk];exact (List.getElem?_eq_some_iff.1 he).2
   rcases Nat.lt_or_gt_of_ne hne with hlt|hlt
   · exact List.pairwise_iff_getElem.1 hR.good.disj i k hi Ybh hlt b hbi (by rw [hkk];exact hbe)
   · exact List.pairwise_iff_getElem.1 hR.good.disj k i Ybh hi hlt b (by rw [hkk];exact hbe) hbi
 have hset:loc.set k e'++C.out=(loc++C.out).set k e':=by rw [List.set_append_left _ _ hk]
 refine ⟨⟨?_,?_,?_⟩,fun t q hq=>q.mono (hR.env t q hq) hm,hR.size,hR.defers,?_,?_,hR.grow⟩
 · rw [hset]
   intro e2 he'
   obtain ⟨i,hi,rfl⟩:=List.mem_iff_getElem.1 he'
   rw [List.getElem_set]
   have hi2:i<(loc++C.out).length:=by simpa using hi
   split
   · exact hrel hm
   · rename_i hne
     refine ((loc++C.out)[i]).mono (hR.good.rel _ (List.getElem_mem hi2)) hm fun j hj=>ho j fun e=>?_
     subst e
     exact hfar i hi2 (Ne.symm hne) hj
 · rw [hset]
   intro e2 he' j hj
   rw [hs]
   rcases List.mem_or_eq_of_mem_set he' with h|rfl
   · exact hR.good.lt e2 h j hj
   · rw [hf',←hf] at hj
     exact hR.good.lt _ hmem j hj
 · rw [hset]
   rw [List.pairwise_iff_getElem]
   intro i j hi hj hij x hx hx'
   rw [List.getElem_set] at hx hx'
   have hi2:i<(loc++C.out).length:=by simpa using hi
   have hj2:j<(loc++C.out).length:=by simpa using hj
   have hd:=List.pairwise_iff_getElem.1 hR.good.disj i j hi2 hj2 hij
   split at hx<;>split at hx'
   · omega
   · rename_i h1 h2
     rw [hf'] at hx
     have:x=b:=by simpa using hx
     subst this
     exact hfar j hj2 (Ne.symm h2) hx'
   · rename_i h1 h2
     rw [hf'] at hx'
     have:x=b:=by simpa using hx'
     subst this
     exact hfar i hi2 (Ne.symm h1) hx
   · exact hd x hx hx'
 · refine ⟨hos.trans hR.ch.os,htp.trans hR.ch.tape,hout.trans hR.ch.output,by rw [hs];exact hR.ch.size,fun j hj hx=>(ho j fun e=>?_).trans (hR.ch.block j hj hx)⟩
   subst e
   rcases hR.own _ (List.mem_of_getElem? he) j hbe with h|h
   · omega
   · exact hx h
 · intro e2 he' j hj
   rcases List.mem_or_eq_of_mem_set he' with h|rfl
   · exact hR.own e2 h j hj
   · rw [hf',←hf] at hj
     exact hR.own _ (List.mem_of_getElem? he) j hj
theorem Rel.allocE {C:Cx} {F:Nat→Prop} {env:Env} {loc:List Ent} {a:Act} {w w':World} {o:Obj} {e:Ent} {d:Nat} {p:SP} {v:Value} (hR:Rel C F env loc a w) (hw:w'.heap=(w.alloc o).heap) (hos:w'.os=w.os) (htp:w'.tape=w.tape) (hout:w'.output=w.output)
   (hf:e.foot=[w.heap.size]) (hrel: ∀F',w'.heap[w.heap.size]?=some o→e.rel F' w') (hd:Nat.blt d C.N=true) (hp: ∀F',p.rel F' w' v):
   Rel C (fun k=>F k∧k<w.heap.size) ((d,p)::env) (e::loc) (a.put (some d) v) w':=by
 have hb: ∀k,k<w.heap.size→w'.heap[k]?=w.heap[k]?:=fun k hk=>by rw [hw];exact Below.heap_alloc w _ k hk
 have hsz:w'.heap.size=w.heap.size+1:=by rw [hw];simp
 have hm: ∀b,F b→b<w.heap.size→(F b∧b<w.heap.size)∧w'.heap[b]?=w.heap[b]?:=fun b h1 h2=>⟨⟨h1,h2⟩,hb b h2⟩
 refine hR.next ⟨?_,?_,?_⟩ hm ?_ ?_ hd (hp _)
 · intro e2 he
   rcases List.mem_cons.1 he with rfl|he
   · refine hrel _ ?_
     rw [hw];show (w.heap.push _)[w.heap.size]?=_;simp
   · exact e2.mono (hR.good.rel e2 he) hm fun b hb'=>hb b (hR.good.lt e2 he b hb').1
 · intro e2 he b hb'
   rcases List.mem_cons.1 he with rfl|he
   · rw [hf] at hb'
     have:b=w.heap.size:=by simpa using hb'
     subst this
     exact ⟨by omega,fun h=>Nat.lt_irrefl _ h.2⟩
   · have:=hR.good.lt e2 he b hb'
     exact ⟨by omega,fun h=>this.2 h.1⟩
 · refine List.pairwise_cons.2 ⟨fun e2 he b hb' hb2=>?_,hR.good.disj⟩
   rw [hf] at hb'
   have:b=w.heap.size:=by simpa using hb'
   subst this
   exact Nat.lt_irrefl _ (hR.good.lt e2 he _ hb2).1
 · refine ⟨hos.trans hR.ch.os,htp.trans hR.ch.tape,hout.trans hR.ch.output,by have:=hR.ch.size;omega,fun k hk hx=>(hb k (Nat.lt_of_lt_of_le hk hR.ch.size)).trans (hR.ch.block k hk hx)⟩
 · intro e2 he b hb'
   rcases List.mem_cons.1 he with rfl|he
   · rw [hf] at hb'
     have:b=w.heap.size:=by simpa using hb'
     subst this
     exact .inl hR.ch.size
   · exact hR.own e2 he b hb'
theorem Xgg {C:Cx} {env:Env} {loc:List Ent} {k:Nat} {e:Ent} {t:Nat} {q p:SP} (he:loc[k]?=some e) (ht:look t env=some q)
   (hc: ∀F w v,e.rel F w→(∀b∈e.foot,b<w.heap.size)→q.rel F w v→p.rel (fun j=>F j∨j∈e.foot) w v):Leads C env loc ((t,p)::env) (loc.eraseIdx k):=by
 intro F a w hR
 have hmem:e∈loc++C.out:=List.mem_append_left _ (List.mem_of_getElem? he)
 have hm: ∀j,F j→j<w.heap.size→(F j∨j∈e.foot)∧w.heap[j]?=w.heap[j]?:=fun j hj _=>⟨.inl hj,rfl⟩
 have hperm:=((S1 he).append_right C.out)
 have hG:=hR.good.perm hperm
 have hdis: ∀e2∈loc.eraseIdx k++C.out,∀b∈e2.foot,b∉e.foot:=by
   intro e2 h2 b hb hb2
   have hd:=hG.disj
   rw [List.cons_append] at hd
   exact (List.pairwise_cons.1 hd).1 e2 h2 b hb2 hb
 have hsub: ∀e2∈loc.eraseIdx k++C.out,e2∈loc++C.out:=fun e2 h=>by
   rcases List.mem_append.1 h with h|h
   · exact List.mem_append_left _ (List.mem_of_mem_eraseIdx h)
   · exact List.mem_append_right _ h
 refine ⟨fun j=>F j∨j∈e.foot,⟨fun e2 h2=>e2.mono (hR.good.rel e2 (hsub e2 h2)) hm fun _ _=>rfl,fun e2 h2 j hj=>⟨(hR.good.lt e2 (hsub e2 h2) j hj).1,?_⟩,?_⟩,fun t' q' hq=>?_,hR.size,hR.defers,hR.ch,fun e2 h2=>hR.own e2 (List.mem_of_mem_eraseIdx h2),fun j hj hlt=> .inl (hR.grow j hj hlt)⟩
 · rintro (h|h)
   · exact (hR.good.lt e2 (hsub e2 h2) j hj).2 h
   · exact hdis e2 h2 j hj h
 · have:=hG.disj
   rw [List.cons_append] at this
   exact (List.pairwise_cons.1 this).2
 · rw [Um] at hq
   split at hq
   · rename_i e2;cases hq;subst e2
     exact hc F w _ (hR.good.rel e hmem) (fun b hb=>(hR.good.lt e hmem b hb).1) (hR.env _ _ ht)
   · exact q'.mono (hR.env t' q' hq) hm
def fpx (b:Nat) (ps:List SP):SP where
 rel F w v:=v= .pointer (some ⟨b,0,none⟩)∧F b∧b<w.heap.size∧ ∀(i:Nat) (p:SP),ps[i]?=some p→ ∃u,w.cell? ⟨b,i,none⟩=some u∧p.rel F w u
 mono:=by
   rintro S S' w w' v ⟨rfl,h1,h2,h3⟩ hk
   obtain ⟨hb,hw⟩:=hk b h1 h2
   refine ⟨rfl,hb,?_,fun i p hp=>?_⟩
   · have:w.heap[b]?≠none:=by rw [Array.getElem?_eq_getElem h2];simp
     rw [←hw] at this
     exact Nat.lt_of_not_le fun h=>this (Array.getElem?_eq_none h)
   · obtain ⟨u,h4,h5⟩:=h3 i p hp
     exact ⟨u,(World.cell?_of_block (w:=w) hw).trans h4,p.mono h5 hk⟩
theorem Qm {C:Cx} {env:Env} {loc:List Ent} {k b T tot t:Nat} {ps:List SP} (he:loc[k]?=some (row b T tot ps)) (ht:look t env=some (ex (.pointer (some ⟨b,0,none⟩)))):Leads C env loc ((t,fpx b ps)::env) (loc.eraseIdx k):=by
 refine Xgg he ht ?_
 rintro F w v ⟨cur,h1,h2,h3⟩ hlt hv
 refine ⟨hv,.inr Ydz,hlt b Ydz,fun i p hp=>?_⟩
 obtain ⟨u,h4,h5⟩:=h3 i p hp
 exact ⟨u,by simp [World.cell?,h1,h4],p.mono h5 fun j hj _=>⟨.inl hj,rfl⟩⟩
theorem Xmi {b:Nat} {ps:List SP}:Im (fpx b ps) (fp ps):=fun _ _ _ h=>⟨b,0,h.1,h.2.1,h.2.2.1,fun i p hp=>by rw [Nat.zero_add];exact h.2.2.2 i p hp⟩
class MK (κ:Type) [DecidableEq κ] where
 val:κ→Value
 ok:TypeDesc→Prop
 same: ∀{d a b},ok d→Instr.sameNow d (val a) (val b)=some (decide (a=b))
 check: ∀{P:Program} {t d e n a w},P.underlying t=some d→ok d→(Instr.checkKey e (n+1) t (val a)).run P w= .ok () w
 bits: ∀a,Instr.sameBits 10000 (val a) (val a)=true
theorem Xpd (a b:ByteArray):(a==b)=true↔a=b:=by
 cases a with|mk x=>cases b with|mk y=>
 show (x==y)=true↔_
 rw [beq_iff_eq]
 constructor
 · rintro rfl;rfl
 · intro h;injection h
instance mkStr:MK (List UInt8) where
 val s:= .string ⟨s.toArray⟩
 ok d:=d= .string
 same:=by
   rintro d a b rfl
   simp only [Instr.sameNow,Option.some.injEq]
   rw [Bool.eq_iff_iff,decide_eq_true_eq,Xpd]
   exact Xi2
 check:=by
   rintro P t d e n a w h rfl
   simp [Instr.checkKey,Vz h,go_sem]
 bits a:=by
   show ((⟨a.toArray⟩:ByteArray)==⟨a.toArray⟩)=true
   exact (Xpd _ _).2 rfl
instance mkInt:MK Int where
 val n:= .int .i64 n
 ok d:= ∃k,d= .int k
 same:=by
   rintro d a b ⟨k,rfl⟩
   simp only [Instr.sameNow,if_true,Option.some.injEq]
   rw [Bool.eq_iff_iff,decide_eq_true_eq,beq_iff_eq]
 check:=by
   rintro P t d e n a w h ⟨k,rfl⟩
   simp [Instr.checkKey,Vz h,go_sem]
 bits a:=by
   show (IntKind.i64==IntKind.i64&&a==a)=true
   simp
def mapR {κ:Type} [DecidableEq κ] [MK κ] (F:Nat→Prop) (w:World) (b:Nat) (m:List (κ×SP)):Prop:=
 ∃es clock,w.heap[b]?=some (.map es clock)∧es.size=m.length∧ ∀(i:Nat) (k:κ) (p:SP),m[i]?=some (k,p)→ ∃e,es[i]?=some e∧e.key=MK.val k∧p.rel F w e.val
theorem mapR.mono {κ:Type} [DecidableEq κ] [MK κ] {S S':Nat→Prop} {w w':World} {b:Nat} {m:List (κ×SP)} (h:mapR S w b m) (hk: ∀j,S j→j<w.heap.size→S' j∧w'.heap[j]?=w.heap[j]?) (hb:w'.heap[b]?=w.heap[b]?):mapR S' w' b m:=
 let ⟨es,c,h1,h2,h3⟩:=h
 ⟨es,c,hb.trans h1,h2,fun i k p hp=>let ⟨e,h4,h5,h6⟩:=h3 i k p hp;⟨e,h4,h5,p.mono h6 hk⟩⟩
def Re {κ:Type} [DecidableEq κ] [MK κ] (b:Nat) (m:List (κ×SP)):Ent where
 foot:=[b]
 rel F w:=mapR F w b m
 mono h hk hf:=h.mono hk (hf b Ybn)
def U0 {κ:Type} [DecidableEq κ] [MK κ] (m:List (κ×SP)):SP where
 rel F w v:= ∃b,v= .map (some b)∧F b∧b<w.heap.size∧mapR F w b m
 mono:=by
   rintro S S' w w' v ⟨b,rfl,h1,h2,h3⟩ hk
   obtain ⟨hb,hw⟩:=hk b h1 h2
   refine ⟨b,rfl,hb,?_,h3.mono hk hw⟩
   have:w.heap[b]?≠none:=by rw [Array.getElem?_eq_getElem h2];simp
   rw [←hw] at this
   exact Nat.lt_of_not_le fun h=>this (Array.getElem?_eq_none h)
instance {κ:Type} [DecidableEq κ] [MK κ] {m:List (κ×SP)}:Sc (U0 m):=⟨by rintro F w v ⟨b,rfl,_⟩;rfl⟩
instance {b:Nat} {ps:List SP}:Sc (fpx b ps):=⟨by rintro F w v ⟨rfl,_⟩;rfl⟩
theorem Xd7 {κ:Type} [DecidableEq κ] [MK κ] {C:Cx} {env:Env} {loc:List Ent} {k b t:Nat} {m:List (κ×SP)} (he:loc[k]?=some (Re b m)) (ht:look t env=some (ex (.map (some b)))):Leads C env loc ((t,U0 m)::env) (loc.eraseIdx k):=by
 refine Xgg he ht ?_
 rintro F w v h hlt hv
 exact ⟨b,hv,.inr (by simp [Re]),hlt b (by simp [Re]),h.mono (fun j hj _=>⟨.inl hj,rfl⟩) rfl⟩
def Uq {κ:Type} [DecidableEq κ] [MK κ]:List (κ×SP)→κ→Option SP
 | [],_=>none
 | (k,p)::r,x=>if x=k then some p else Uq r x
def Xd8 {κ:Type} [DecidableEq κ] [MK κ]:List (κ×SP)→κ→SP→List (κ×SP)
 | [],x,p=>[(x,p)]
 | (k,q)::r,x,p=>if x=k then (k,p)::r else (k,q)::Xd8 r x p
theorem Qn {κ:Type} [DecidableEq κ] [MK κ] {d:TypeDesc} (hd:MK.ok κ d) {x:κ}: ∀(m:List (κ×SP)) (es:List MapEntry) (i0:Nat),es.length=m.length→(∀(i:Nat) (k:κ) (p:SP),m[i]?=some (k,p)→ ∃e,es[i]?=some e∧e.key=MK.val k)→Uq m x=none→Instr.findNow d (MK.val x) es i0=some none
 | [],es,i0,hl,_,_=>by
   have:es=[]:=by simpa using hl
   subst this;rfl
 | (k,p)::r,[],_,hl,_,_=>by simp at hl
 | (k,p)::r,e::es,i0,hl,h,hm=>by
   obtain ⟨e',h1,h2⟩:=h 0 k p rfl
   simp only [List.getElem?_cons_zero,Option.some.injEq] at h1
   subst h1
   unfold Uq at hm
   split at hm
   · cases hm
   · rename_i hne
     simp only [Instr.findNow,h2,MK.same hd,decide_eq_false hne]
     exact Qn hd r es (i0+1) (by simpa using hl) (fun i k p hp=>h (i+1) k p (by simpa using hp)) hm
theorem Sp {κ:Type} [DecidableEq κ] [MK κ] {d:TypeDesc} (hd:MK.ok κ d) {x:κ} {q:SP} {F:Nat→Prop} {w:World}: ∀(m:List (κ×SP)) (es:List MapEntry) (i0:Nat),es.length=m.length→(∀(i:Nat) (k:κ) (p:SP),m[i]?=some (k,p)→ ∃e,es[i]?=some e∧e.key=MK.val k∧p.rel F w e.val)→Uq m x=some q→
   ∃i v,Instr.findNow d (MK.val x) es i0=some (some (i0+i,v))∧q.rel F w v∧m[i]?=some (x,q)∧ ∀p,Xd8 m x p=m.set i (x,p)
 | [],_,_,_,_,hm=>by cases hm
 | (k,p)::r,[],_,hl,_,_=>by simp at hl
 | (k,p)::r,e::es,i0,hl,h,hm=>by
   obtain ⟨e',h1,h2,h3⟩:=h 0 k p rfl
   simp only [List.getElem?_cons_zero,Option.some.injEq] at h1
   subst h1
   unfold Uq at hm
   split at hm
   · rename_i heq
     subst heq
     cases hm
     exact ⟨0,e.val,by simp only [Instr.findNow,h2,MK.same hd,decide_true];rfl,h3,rfl,fun p=>by simp [Xd8]⟩
   · rename_i hne
     obtain ⟨i,v,h4,h5,h6,h7⟩:=Sp hd r es (i0+1) (by simpa using hl) (fun i k p hp=>h (i+1) k p (by simpa using hp)) hm
     refine ⟨i+1,v,?_,h5,by simpa using h6,fun p=>by simp [Xd8,hne,h7]⟩
     simp only [Instr.findNow,h2,MK.same hd,decide_eq_false hne,h4]
     congr 3;omega
theorem Xe5 {κ:Type} [DecidableEq κ] [MK κ] {x:κ} {p:SP}: ∀(m:List (κ×SP)),Uq m x=none→Xd8 m x p=m++[(x,p)]
 | [],_=>rfl
 | (k,q)::r,h=>by
   unfold Uq at h
   split at h
   · cases h
   · rename_i hne
     simp [Xd8,hne,Xe5 r h]
theorem Sh {P:Program} {t:TypeId} {d:TypeDesc} {x:Value} {es:List MapEntry} {r:Option (Nat×Value)} (ht:P.underlying t=some d) (h:Instr.findNow d x es 0=some r) (w:World):(Instr.findKey t x es).run P w= .ok r w:=by
 simp [Instr.findKey,Vz ht,go_sem,h]
section
variable {C:Cx} {H:Nat→Prop} {l0:List Ent} {env:Env} {loc:List Ent} {d:Nat} {dst:Option Tmp} {ty:TypeId} {pos:String} {af:Array Edge} {g:Option (Nat×Bool)} {K:Env→List Ent→Prop}
theorem Vd {t:TypeId} {x y:Operand} {c:Bool} {p:SP} {S:(Nat→Prop)→World→World→Prop} (h:WT C S ⟨dst,.lookup t x y c,ty,pos,af,g⟩ p env loc):WT C S ⟨dst,.lookup t x y c,ty,pos,af,g⟩ p env loc:=h
theorem Xqd {x:Operand} {p:SP} {S:(Nat→Prop)→World→World→Prop} (h:WT C S ⟨dst,.nilCheck x,ty,pos,af,g⟩ p env loc):WT C S ⟨dst,.nilCheck x,ty,pos,af,g⟩ p env loc:=h
theorem Xai {t:TypeId} {x:Option Operand} (h:WO C H ⟨dst,.makeMap t x,ty,pos,af,g⟩ K env loc):WO C H ⟨dst,.makeMap t x,ty,pos,af,g⟩ K env loc:=h
theorem Qo {t:TypeId} {x y z:Operand} (h:WO C H ⟨dst,.mapUpdate t x y z,ty,pos,af,g⟩ K env loc):WO C H ⟨dst,.mapUpdate t x y z,ty,pos,af,g⟩ K env loc:=h
theorem Wo {t:TypeId} {x y z:Operand} (h:WO C H ⟨dst,.insert t x y z,ty,pos,af,g⟩ K env loc):WO C H ⟨dst,.insert t x y z,ty,pos,af,g⟩ K env loc:=h
theorem Xol {S:(Nat→Prop)→World→World→Prop} {b off:Nat} {x:Operand} (hx:ev env x=some (ex (.pointer (some ⟨b,off,none⟩)))):WT C S ⟨dst,.nilCheck x,ty,pos,af,g⟩ (ex (.pointer (some ⟨b,off,none⟩))) env loc:=by
 constructor
 intro F a w hR
 have hv:a.eval x= .pointer (some ⟨b,off,none⟩):=X8 hR hx
 refine ⟨_,rfl,fun w' _=>?_⟩
 generalize a.eval=ρ at hv ⊢
 simp [execOp,hv,go_sem]
theorem Xaj {κ:Type} [DecidableEq κ] [MK κ] {P:Program} {t kt et:TypeId} {dk:TypeDesc} {b:Nat} {m:List (κ×SP)} {x:κ} {F:Nat→Prop} {w w':World} {sz bt:Nat} {z:Value} (ht:P.underlying t=some (.map kt et)) (hk:P.underlying kt=some dk) (hok:MK.ok κ dk) [hT:TI P et sz bt z] (hm:mapR F w b m) (hb:w'.heap[b]?=w.heap[b]?) (hl:Uq m x=none):
   ∀c,(Instr.lookup t (.map (some b)) (MK.val x) c).run P w'= .ok (if c then .tuple #[z,.bool false] else z) w':=by
 obtain ⟨es,clock,h1,h2,h3⟩:=hm
 obtain ⟨ti,hi,_,_,hz⟩:=hT.out
 have h4:=Qn hok m es.toList 0 Ydi (fun i k p hp=>by obtain ⟨e,h5,h6,_⟩:=h3 i k p hp;exact ⟨e,by simpa using h5,h6⟩) hl
 intro c
 have hf:=Sh (P:=P) hk h4
 simp [Instr.lookup,Vz ht,go_sem,Go.MapKept.run_getObj_map (hb.trans h1),MK.check hk hok,hf,zeroValue,Xfk hi,hz]
theorem Xi8 {κ:Type} [DecidableEq κ] [MK κ] {m:List (κ×SP)} {k:κ} {p:SP} {t kt et:TypeId} {dk:TypeDesc} {x y:Operand} (hx:ev env x=some (U0 m)) (hy:ev env y=some (ex (MK.val k))) (hl:Uq m k=some p) (ht:C.P.underlying t=some (.map kt et)) (hk:C.P.underlying kt=some dk) (hok:MK.ok κ dk):WT C (Xca H) ⟨dst,.lookup t x y true,ty,pos,af,g⟩ (tup [p,exB true]) env loc:=by
 constructor
 intro F a w hR
 obtain ⟨b,hv,h1,h2,h3⟩:=X8 hR hx
 have hvy:a.eval y=MK.val k:=X8 hR hy
 obtain ⟨es,clock,h4,h5,h6⟩:=h3
 obtain ⟨i,v,h7,h8,_⟩:=Sp hok m es.toList 0 (by simpa using h5) (fun i k p hp=>by simpa using h6 i k p hp) hl
 refine ⟨.tuple #[v,.bool true],⟨[v,.bool true],rfl,.cons h8 (.cons rfl .nil)⟩,fun w' hs=>?_⟩
 have hf:=Sh (P:=C.P) hk h7
 have hb:=hs b h2 (.inl h1)
 generalize a.eval=ρ at hv hvy ⊢
 simp [execOp,hv,hvy,Instr.lookup,Vz ht,go_sem,Go.MapKept.run_getObj_map (hb.trans h4),MK.check hk hok,hf]
theorem Xgh {κ:Type} [DecidableEq κ] [MK κ] {m:List (κ×SP)} {k:κ} {t kt et:TypeId} {dk:TypeDesc} {x y:Operand} {sz bt:Nat} {z:Value} (hx:ev env x=some (U0 m)) (hy:ev env y=some (ex (MK.val k))) (hl:Uq m k=none) (ht:C.P.underlying t=some (.map kt et)) (hk:C.P.underlying kt=some dk) (hok:MK.ok κ dk) [hT:TI C.P et sz bt z]:WT C (Xca H) ⟨dst,.lookup t x y true,ty,pos,af,g⟩ (tup [ex z,exB false]) env loc:=by
 constructor
 intro F a w hR
 obtain ⟨b,hv,h1,h2,h3⟩:=X8 hR hx
 have hvy:a.eval y=MK.val k:=X8 hR hy
 refine ⟨.tuple #[z,.bool false],⟨[z,.bool false],rfl,.cons rfl (.cons rfl .nil)⟩,fun w' hs=>?_⟩
 have hr:=Xaj (w':=w') (hT:=hT) ht hk hok h3 (hs b h2 (.inl h1)) hl true
 generalize a.eval=ρ at hv hvy ⊢
 simp [execOp,hv,hvy,hr,go_sem]
theorem V0 {κ:Type} [DecidableEq κ] [MK κ] {m:List (κ×SP)} {k:κ} {p:SP} {j b:Nat} {t kt et:TypeId} {dk:TypeDesc} {x y:Operand} (hx:ev env x=some (ex (.map (some b)))) (he:loc[j]?=some (Re b m)) (hy:ev env y=some (ex (MK.val k))) (hl:Uq m k=some p) (ht:C.P.underlying t=some (.map kt et)) (hk:C.P.underlying kt=some dk) (hok:MK.ok κ dk) (hH:H b):WT C (Xca H) ⟨dst,.lookup t x y true,ty,pos,af,g⟩ (tup [p,exB true]) env loc:=by
 constructor
 intro F a w hR
 have hv:a.eval x= .map (some b):=X8 hR hx
 have hvy:a.eval y=MK.val k:=X8 hR hy
 have hmem:Re b m∈loc++C.out:=List.mem_append_left _ (List.mem_of_getElem? he)
 have hb:=(hR.good.lt _ hmem b (by simp [Re])).1
 obtain ⟨es,clock,h4,h5,h6⟩:=hR.good.rel _ hmem
 obtain ⟨i,v,h7,h8,_⟩:=Sp hok m es.toList 0 (by simpa using h5) (fun i k p hp=>by simpa using h6 i k p hp) hl
 refine ⟨.tuple #[v,.bool true],⟨[v,.bool true],rfl,.cons h8 (.cons rfl .nil)⟩,fun w' hs=>?_⟩
 have hf:=Sh (P:=C.P) hk h7
 have hbw:=hs b hb (.inr hH)
 generalize a.eval=ρ at hv hvy ⊢
 simp [execOp,hv,hvy,Instr.lookup,Vz ht,go_sem,Go.MapKept.run_getObj_map (hbw.trans h4),MK.check hk hok,hf]
theorem Ti {κ:Type} [DecidableEq κ] [MK κ] {m:List (κ×SP)} {k:κ} {j b:Nat} {t kt et:TypeId} {dk:TypeDesc} {x y:Operand} {sz bt:Nat} {z:Value} (hx:ev env x=some (ex (.map (some b)))) (he:loc[j]?=some (Re b m)) (hy:ev env y=some (ex (MK.val k))) (hl:Uq m k=none) (ht:C.P.underlying t=some (.map kt et)) (hk:C.P.underlying kt=some dk) (hok:MK.ok κ dk) (hH:H b) [hT:TI C.P et sz bt z]:WT C (Xca H) ⟨dst,.lookup t x y true,ty,pos,af,g⟩ (tup [ex z,exB false]) env loc:=by
 constructor
 intro F a w hR
 have hv:a.eval x= .map (some b):=X8 hR hx
 have hvy:a.eval y=MK.val k:=X8 hR hy
 have hmem:Re b m∈loc++C.out:=List.mem_append_left _ (List.mem_of_getElem? he)
 have hb:=(hR.good.lt _ hmem b (by simp [Re])).1
 refine ⟨.tuple #[z,.bool false],⟨[z,.bool false],rfl,.cons rfl (.cons rfl .nil)⟩,fun w' hs=>?_⟩
 have hr:=Xaj (w':=w') (hT:=hT) ht hk hok (hR.good.rel _ hmem) (hs b hb (.inr hH)) hl true
 generalize a.eval=ρ at hv hvy ⊢
 simp [execOp,hv,hvy,hr,go_sem]
theorem R0 {κ:Type} [DecidableEq κ] [MK κ] {t:TypeId} (hk: ∀b,K ((d,ex (.map (some b)))::env) (Re b ([]:List (κ×SP))::loc)) (hd:Nat.blt d C.N=true:=by rfl):WO C H ⟨some d,.makeMap t none,ty,pos,af,g⟩ K env loc:=by
 constructor
 intro F a w hR
 have hr:(execOp a.eval ⟨some d,.makeMap t none,ty,pos,af,g⟩).run C.P w= .ok (.value (.map (some w.heap.size))) (w.alloc (.map #[] 0)):=by
   generalize a.eval=ρ
   simp [execOp,Instr.makeMap,newObj,go_sem,Sem.run]
 unfold Oper.wp
 rw [hr]
 have h:=hR.allocE (w':=w.alloc (.map #[] 0)) (o:= .map #[] 0) (e:=Re w.heap.size ([]:List (κ×SP))) (d:=d) (p:=ex (.map (some w.heap.size))) (v:= .map (some w.heap.size)) rfl rfl rfl rfl rfl (fun F' hb=>⟨#[],0,hb,rfl,fun i k p hp=>by simp at hp⟩) hd (fun _=>rfl)
 exact ⟨_,_,_,h,by simp,fun b hb hlt=>⟨hb,hlt⟩,fun b hlt _=>Below.heap_alloc _ _ _ hlt,hk _⟩
theorem Xe6 {κ:Type} [DecidableEq κ] [MK κ] {P:Program} {t kt et:TypeId} {dk:TypeDesc} {b:Nat} {m:List (κ×SP)} {x:κ} {p:SP} {v:Value} {F:Nat→Prop} {w:World} (ht:P.underlying t=some (.map kt et)) (hk:P.underlying kt=some dk) (hok:MK.ok κ dk) (hm:mapR F w b m) (hv:p.rel F w v):
   ∃es clock,(Instr.mapUpdate t (.map (some b)) (MK.val x) v).run P w= .ok () { w with heap:=w.heap.setIfInBounds b (.map es clock) }∧es.size=(Xd8 m x p).length∧ ∀(i:Nat) (k:κ) (q:SP),(Xd8 m x p)[i]?=some (k,q)→ ∃e,es[i]?=some e∧e.key=MK.val k∧q.rel F w e.val:=by
 obtain ⟨es,clock,h1,h2,h3⟩:=hm
 cases hl:Uq m x with
 | none=>
   have h4:=Qn hok m es.toList 0 Ydi (fun i k p hp=>by obtain ⟨e,h5,h6,_⟩:=h3 i k p hp;exact ⟨e,by simpa using h5,h6⟩) hl
   have hf:=Sh (P:=P) hk h4
   refine ⟨es.push { key:=MK.val x,val:=v,born:=clock },clock+1,?_,?_,?_⟩
   · simp [Instr.mapUpdate,Vz ht,go_sem,Go.MapKept.run_getObj_map h1,MK.check hk hok,hf,Go.MapKept.run_setObj_map _ h1]
   · rw [Xe5 m hl];simp [h2]
   · intro i k q hq
     rw [Xe5 m hl] at hq
     by_cases hi:i<m.length
     · rw [List.getElem?_append_left hi] at hq
       obtain ⟨e,h5,h6⟩:=h3 i k q hq
       exact ⟨e,by rw [Array.getElem?_push_lt Yan];rw [Array.getElem?_eq_getElem Yan] at h5;exact h5,h6⟩
     · have hi2:i=m.length:=by
         have:=(List.getElem?_eq_some_iff.1 hq).1
         simp at this;omega
       subst hi2
       simp at hq
       obtain ⟨rfl,rfl⟩:=hq
       exact ⟨{ key:=MK.val x,val:=v,born:=clock },by rw [←h2];simp,rfl,hv⟩
 | some q=>
   obtain ⟨i,u,h4,h5,h6,h7⟩:=Sp hok m es.toList 0 Ydi (fun i k p hp=>by simpa using h3 i k p hp) hl
   rw [Nat.zero_add] at h4
   have hf:=Sh (P:=P) hk h4
   obtain ⟨e0,h8,h9,_⟩:=h3 i x q h6
   have hi:i<es.size:=(Array.getElem?_eq_some_iff.1 h8).1
   refine ⟨es.modify i fun e=>{ e with key:=MK.val x,val:=v },clock,?_,?_,?_⟩
   · simp [Instr.mapUpdate,Vz ht,go_sem,Go.MapKept.run_getObj_map h1,MK.check hk hok,hf,h8,h9,Instr.keyThatStays,MK.bits,Go.MapKept.run_setObj_map _ h1]
   · rw [h7];simp [h2]
   · intro j k q' hq
     rw [h7] at hq
     by_cases hj:j=i
     · subst hj
       rw [List.getElem?_set_self Yan] at hq
       cases hq
       exact ⟨{ e0 with key:=MK.val x,val:=v },by rw [Array.getElem?_modify];simp [h8],rfl,hv⟩
     · rw [List.getElem?_set_ne (Ne.symm hj)] at hq
       obtain ⟨e,h10,h11⟩:=h3 j k q' hq
       exact ⟨e,by rw [Array.getElem?_modify,if_neg (Ne.symm hj)];exact h10,h11⟩
theorem Wa {κ:Type} [DecidableEq κ] [MK κ] {op:Op} {m:List (κ×SP)} {k:κ} {p:SP} {j b:Nat} {t kt et:TypeId} {dk:TypeDesc} {x y z:Operand} (hop:op= .mapUpdate t x y z∨op= .insert t x y z) (hx:ev env x=some (ex (.map (some b)))) (he:loc[j]?=some (Re b m)) (hy:ev env y=some (ex (MK.val k))) (hz:ev env z=some p) (ht:C.P.underlying t=some (.map kt et)) (hk:C.P.underlying kt=some dk) (hok:MK.ok κ dk) (hK:K env (loc.set j (Re b (Xd8 m k p)))) (hH:l0.Sublist (loc.eraseIdx j):=by exact List.nil_sublist _):WO C (U6 l0) ⟨none,op,ty,pos,af,g⟩ K env loc:=by
 constructor
 intro F a w hR
 have hv:a.eval x= .map (some b):=X8 hR hx
 have hvy:a.eval y=MK.val k:=X8 hR hy
 have hmem:Re b m∈loc++C.out:=List.mem_append_left _ (List.mem_of_getElem? he)
 have hb:=(hR.good.lt _ hmem b (by simp [Re])).1
 obtain ⟨es,clock,h1,h2,h3⟩:=Xe6 (x:=k) ht hk hok (hR.good.rel _ hmem) (X8 hR hz)
 have hrun:(execOp a.eval ⟨none,op,ty,pos,af,g⟩).run C.P w= .ok .skip { w with heap:=w.heap.setIfInBounds b (.map es clock) }:=by
   generalize a.eval=ρ at hv hvy h1 ⊢
   rcases hop with rfl|rfl<;>simp [execOp,hv,hvy,h1,go_sem]
 unfold Oper.wp
 rw [hrun]
 have hoth: ∀i,i≠b→({ w with heap:=w.heap.setIfInBounds b (.map es clock) }:World).heap[i]?=w.heap[i]?:=fun i hi=>by
   simp [Array.getElem?_setIfInBounds_ne (Ne.symm hi)]
 refine ⟨F,env,_,?_,by simp,fun _ hb _=>hb,fun i hi hF=>hoth i ?_,hK⟩
 · refine hR.writeE (b:=b) he rfl rfl (fun hm=>⟨es,clock,by simp [hb],h2,fun i k q hq=>?_⟩) hoth rfl rfl rfl Ybn
   obtain ⟨e,h4,h5,h6⟩:=h3 i k q hq
   exact ⟨e,h4,h5,q.mono h6 hm⟩
 · rintro rfl
   have hbl:i∈(Re i m).foot:=by simp [Re]
   rcases hF with h|h
   · exact (hR.good.lt _ hmem i hbl).2 h
   · exact hR.good.apart he hbl hH h
inductive Takes:List Ent→List Ent→List Ent→Prop
 | nil {l:List Ent}:Takes l [] l
 | one {l inn r:List Ent} {e:Ent} (k:Nat) (h:l[k]?=some e) (t:Takes (l.eraseIdx k) inn r):Takes l (e::inn) r
 | dup {l inn r:List Ent} {e:Ent} (k:Nat) (h:l[k]?=some e) (hf:e.foot=[]) (t:Takes l inn r):Takes l (e::inn) r
theorem Takes.good {F:Nat→Prop} {w:World}: ∀{l inn r out:List Ent},Takes l inn r→Good F (l++out) w→Good F (inn++(r++out)) w
 | l,_,_,out,.nil,h=>h
 | l,_,_,out,.one (inn:=inn) (r:=r) (e:=e) k he t,h=>by
   have hp:(l++out).Perm (l.eraseIdx k++(e::out)):=((S1 he).append_right out).trans List.perm_middle.symm
   have:=t.good (out:=e::out) (h.perm hp)
   refine this.perm ?_
   have h1:(inn++(r++e::out)).Perm (e::(inn++(r++out))):=by
     rw [←List.append_assoc,←List.append_assoc]
     exact List.perm_middle
   exact h1
 | l,_,_,out,.dup (inn:=inn) (r:=r) (e:=e) k he hf t,h=>by
   have:=t.good (out:=out) h
   refine ⟨fun e2 h2=>?_,fun e2 h2 b hb=>?_,?_⟩
   · rcases List.mem_cons.1 h2 with rfl|h2
     · exact h.rel _ (List.mem_append_left _ (List.mem_of_getElem? he))
     · exact this.rel e2 h2
   · rcases List.mem_cons.1 h2 with rfl|h2
     · rw [hf] at hb;cases hb
     · exact this.lt e2 h2 b hb
   · exact List.pairwise_cons.2 ⟨fun e2 _ b hb=>(by rw [hf] at hb;cases hb),this.disj⟩
theorem Takes.foot: ∀{l inn r:List Ent},Takes l inn r→ ∀e∈inn,∀b∈e.foot,∃e'∈l,b∈e'.foot
 | _,_,_,.nil,e,h,_,_=>by cases h
 | l,_,_,.one k he t,e,h,b,hb=>by
   rcases List.mem_cons.1 h with rfl|h
   · exact ⟨_,List.mem_of_getElem? he,hb⟩
   · obtain ⟨e',h1,h2⟩:=t.foot e h b hb
     exact ⟨e',List.mem_of_mem_eraseIdx h1,h2⟩
 | l,_,_,.dup k he hf t,e,h,b,hb=>by
   rcases List.mem_cons.1 h with rfl|h
   · rw [hf] at hb;cases hb
   · exact t.foot e h b hb
theorem Takes.rest: ∀{l inn r:List Ent},Takes l inn r→ ∀e∈r,e∈l
 | _,_,_,.nil,_,h=>h
 | _,_,_,.one _ _ t,e,h=>List.mem_of_mem_eraseIdx (t.rest e h)
 | _,_,_,.dup _ _ _ t,e,h=>t.rest e h
theorem Rel.calledG {F F':Nat→Prop} {a:Act} {w w':World} {inn rest:List Ent} {p:SP} {v:Value} {loc':List Ent} (hR:Rel C F env loc a w) (ht:Takes loc inn rest) (hp:p.rel F' w' v) (hG:Good F' (loc'++(rest++C.out)) w') (hch:Ch (fun b=> ∃e'∈inn,b∈e'.foot) w w') (hgr: ∀b,F b→b<w.heap.size→F' b)
   (hown: ∀e'∈loc',∀b∈e'.foot,w.heap.size≤b∨ ∃e'∈inn,b∈e'.foot) (hd:Nat.blt d C.N=true):Rel C F' ((d,p)::env) (loc'++rest) (a.put (some d) v) w':=by
 have hblk: ∀b,b<w.heap.size→(∀e∈inn,b∉e.foot)→w'.heap[b]?=w.heap[b]?:=fun b hb hn=>hch.block b hb (by rintro ⟨e',he',h⟩;exact hn e' he' h)
 have hG0:=ht.good hR.good
 refine hR.next Yeb (fun b hb hlt=>⟨hgr b hb hlt,hblk b hlt fun e he h=>(hG0.lt e (List.mem_append_left _ he) b h).2 hb⟩) ?_ ?_ hd hp
 · refine ⟨hch.os.trans hR.ch.os,hch.tape.trans hR.ch.tape,hch.output.trans hR.ch.output,Nat.le_trans hR.ch.size hch.size,fun j hj hx=>(hblk j (Nat.lt_of_lt_of_le hj hR.ch.size) fun e he h=>?_).trans (hR.ch.block j hj hx)⟩
   obtain ⟨e',h1,h2⟩:=ht.foot e he j h
   rcases hR.own e' h1 j h2 with h|h
   · omega
   · exact hx h
 · intro e' he' b hb
   rcases List.mem_append.1 he' with h|h
   · rcases hown e' h b hb with h|⟨e2,h2,h3⟩
     · exact .inl (Nat.le_trans hR.ch.size h)
     · obtain ⟨e3,h4,h5⟩:=ht.foot e2 h2 b h3
       exact hR.own e3 h4 b h5
   · exact hR.own e' (ht.rest _ h) b hb
inductive CapOk (env:Env):List Value→List SP→Prop
 | nil:CapOk env [] []
 | ex {v:Value} {vs:List Value} {ps:List SP} (h:CapOk env vs ps):CapOk env (v::vs) (ex v::ps)
 | slot {v:Value} {p:SP} {vs:List Value} {ps:List SP} (t:Nat) (ht:look t env=some p) (hp: ∀F w u,p.rel F w u→u=v) (h:CapOk env vs ps):CapOk env (v::vs) (p::ps)
theorem CapOk.cells {F:Nat→Prop} {a:Act} {w:World} (hR:Rel C F env loc a w): ∀{vs:List Value} {ps:List SP},CapOk env vs ps→CellsR F w ps vs
 | _,_,.nil=> .nil
 | _,_,.ex h=> .cons rfl (h.cells hR)
 | _,_,.slot t ht hp h=> .cons (by have:=hR.env t _ ht;rwa [hp _ _ _ this] at this) (h.cells hR)
theorem Xl {f:FuncId} {fn:Func} {c:Code} {xs:Array Operand} {ts:Array TypeId} {args:List SP} {inn rest:List Ent} {R:SP→List Ent→Prop} (ht:Takes loc inn rest) (hf:C.P.funcs[f]?=some fn) (hbody:fn.body=some c) (hc:FnC C.P f args inn R) (ha:xs.toList.map (ev env)=args.map some) (hk: ∀p loc',R p loc'→K ((d,p)::env) (loc'++rest)) (hname:(fn.name== "runtime.NumGoroutine")=false:=by rfl) (hd:Nat.blt d C.N=true:=by rfl) (hH: ∀b,H b→ ∀e∈inn,b∉e.foot:=by exact fun _ h=>absurd h (by rintro ⟨_,h,_⟩;cases h)):WO C H ⟨some d,.call ⟨.value (.func f),xs,ts⟩,ty,pos,af,g⟩ K env loc:=by
 constructor
 intro F a w hR
 have hG0:=ht.good hR.good
 unfold Oper.wp
 rw [Xas hf hbody hname]
 refine (hc F w _ _ hG0 (Tb hR ha)).mono ?_
 rintro e2 w' ⟨v,F',p,loc',rfl,hRp,hp,hG,hch,hgr,hown⟩
 refine ⟨F',_,_,hR.calledG ht hp hG hch hgr hown hd,hch.size,hgr,fun b hb hF=>hch.block b hb ?_,hk p loc' hRp⟩
 rintro ⟨e',he',h⟩
 rcases hF with hF|hF
 · exact (hG0.lt _ (List.mem_append_left _ he') b h).2 hF
 · exact hH b hF e' he' h
theorem Uk {f:FuncId} {fn:Func} {c:Code} {x:Operand} {vs:List Value} {caps:List SP} {xs:Array Operand} {ts:Array TypeId} {args:List SP} {inn rest:List Ent} {R:SP→List Ent→Prop} (hx:ev env x=some (ex (.func (.func f) #[] vs.toArray))) (hcap:CapOk env vs caps) (ht:Takes loc inn rest) (hf:C.P.funcs[f]?=some fn) (hbody:fn.body=some c) (hc:FnC C.P f (args++caps) inn R) (ha:xs.toList.map (ev env)=args.map some) (hk: ∀p loc',R p loc'→K ((d,p)::env) (loc'++rest)) (hname:(fn.name== "runtime.NumGoroutine")=false:=by rfl) (hd:Nat.blt d C.N=true:=by rfl) (hH: ∀b,H b→ ∀e∈inn,b∉e.foot:=by exact fun _ h=>absurd h (by rintro ⟨_,h,_⟩;cases h)):WO C H ⟨some d,.call ⟨.value x,xs,ts⟩,ty,pos,af,g⟩ K env loc:=by
 constructor
 intro F a w hR
 have hG0:=ht.good hR.good
 have hcv:CellsR F w (args++caps) (xs.toList.map a.eval++vs):=(Tb hR ha).app (hcap.cells hR)
 unfold Oper.wp
 rw [Xcv (X8 hR hx) hf hbody hname]
 refine (hc F w _ _ hG0 hcv).mono ?_
 rintro e2 w' ⟨v,F',p,loc',rfl,hRp,hp,hG,hch,hgr,hown⟩
 refine ⟨F',_,_,hR.calledG ht hp hG hch hgr hown hd,hch.size,hgr,fun b hb hF=>hch.block b hb ?_,hk p loc' hRp⟩
 rintro ⟨e',he',h⟩
 rcases hF with hF|hF
 · exact (hG0.lt _ (List.mem_append_left _ he') b h).2 hF
 · exact hH b hF e' he' h
end
end Go.Fr
namespace Go.Fr
open Go.RowKit Go.Kx
theorem Xh1 {P:Program} {f:FuncId} {args:List SP} {e0:Ent} {R:SP→List Ent→Prop} (h: ∀F w vals,e0.rel F w→CellsR F w args vals→Calls P f vals.toArray w (fun e w'=> ∃v p,e= .returned v∧R p []∧p.rel (Up F w) w' v∧Below w.heap.size w w')):FnC P f args [e0] R:=by
 intro F w vals out hG hA
 refine (h F w vals (hG.rel e0 Ybn) hA).mono ?_
 rintro e w' ⟨v,p,rfl,hR,hp,hb⟩
 have hG':Good F out w:=⟨fun e he=>hG.rel e (List.mem_append_right _ he),fun e he=>hG.lt e (List.mem_append_right _ he),(List.pairwise_append.1 hG.disj).2.1⟩
 refine ⟨v,Up F w,p,[],rfl,hR,hp,?_,⟨hb.os,hb.tape,hb.output,hb.size,fun k hk _=>hb.block k hk⟩,fun b hb _=> .inl hb,fun e he=>absurd he Ybn⟩
 refine ⟨fun e he=>?_,fun e he b hb'=>?_,hG'.disj⟩
 · exact e.mono (hG'.rel e he) (fun b hF hl=>⟨.inl hF,hb.block b hl⟩) fun b hb'=>hb.block b (hG'.lt e he b hb').1
 · obtain ⟨h1,h2⟩:=hG'.lt e he b hb'
   exact ⟨Nat.lt_of_lt_of_le h1 hb.size,fun h=>h.elim h2 fun h=>absurd h Yan⟩
class Says (p:SP) (q:Prop):Prop where
 out: ∀{F w v},p.rel F w v→q
theorem Ws {α:Type} {E:Enc α} {l:List α}:Says (isl E l) (l.length≤maxLen∧l.length * E.bytes≤140737488355328):=⟨by
 rintro F w v ⟨a,n,c,_,h⟩
 exact ⟨by have:=h.length;have:=h.cap;have:=h.capMax;omega,by rw [h.length];exact h.bytes⟩⟩
theorem Ui {ps:List SP} {i:Nat} {p:SP} {q:Prop} (hi:ps[i]?=some p) (h:Says p q):Says (agg ps) q:=⟨by
 rintro F w v ⟨cs,_,hc⟩
 obtain ⟨u,_,hu⟩:=hc.at_ i p hi
 exact h.out hu⟩
theorem Wl {P:Program} {f:FuncId} {args:List SP} {inn:List Ent} {R:SP→List Ent→Prop} {i:Nat} {p:SP} {q:Prop} (hi:args[i]?=some p) (hs:Says p q) (h:q→FnC P f args inn R):FnC P f args inn R:=fun F w vals out hG hA=>by
 obtain ⟨v,_,hv⟩:=hA.at_ i p hi
 exact h (hs.out hv) F w vals out hG hA
theorem Xmj {C:Cx} {c:Code} {Q:Post} {env:Env} {loc:List Ent} {t:Nat} {p:SP} {q:Prop} (ht:look t env=some p) (hs:Says p q) (h:q→WP C c Q env loc):WP C c Q env loc:=⟨fun F a w hR=>(h (hs.out (hR.env t p ht))).out F a w hR⟩
instance Xrt {ps:List SP} {n:Nat} [h:Scs ps]:Scs (ps.take n):=⟨fun p hp=>h.out p (List.mem_of_mem_take hp)⟩
instance Xru {ps:List SP} {n:Nat} [h:Scs ps]:Scs (ps.drop n):=⟨fun p hp=>h.out p (List.mem_of_mem_drop hp)⟩
inductive EqF (P:Program) (ps qs:List SP):List Field→Bool→Prop
 | nil:EqF P ps qs [] true
 | int {f:Field} {fs:List Field} {k' k:IntKind} {m n:Int} {r:Bool} (hn:(f.name== "_")=false) (hu:P.underlying f.type=some (.int k')) (h1:ps[f.offset]?=some (exI k m)) (h2:qs[f.offset]?=some (exI k n)) (h:EqF P ps qs fs r):EqF P ps qs (f::fs) (decide (m=n)&&r)
 | str {f:Field} {fs:List Field} {m n:List UInt8} {r:Bool} (hn:(f.name== "_")=false) (hu:P.underlying f.type=some .string) (h1:ps[f.offset]?=some (exT m)) (h2:qs[f.offset]?=some (exT n)) (h:EqF P ps qs fs r):EqF P ps qs (f::fs) (decide (m=n)&&r)
 | bool {f:Field} {fs:List Field} {m n:Bool} {r:Bool} (hn:(f.name== "_")=false) (hu:P.underlying f.type=some .bool) (h1:ps[f.offset]?=some (exB m)) (h2:qs[f.offset]?=some (exB n)) (h:EqF P ps qs fs r):EqF P ps qs (f::fs) (decide (m=n)&&r)
theorem Q0 {P:Program} {t:TypeId} {d:TypeDesc} {cs:Array Value} {off:Nat} {v:Value} {w:World} (hu:P.underlying t=some d) (hd:Desc.aggB d=false) (h:cs[off]?=some v):(part t cs off).run P w= .ok v w:=by
 have h1:(isAgg t).run P w= .ok false w:=by
   cases d<;>first|(simp [Desc.aggB] at hd;done)|simp [isAgg,Vz hu,go_sem]
 simp [part,h1,go_sem,h]
theorem Xrf (p q:List UInt8):((⟨p.toArray⟩:ByteArray).toList==(⟨q.toArray⟩:ByteArray).toList)=decide (p=q):=by
 rw [Xqu];exact decide_eq_decide.2 Xi2
theorem EqF.run {P:Program} {F:Nat→Prop} {w w':World} {ps qs:List SP} {xs ys:List Value} (hx:CellsR F w ps xs) (hy:CellsR F w qs ys) {d:Nat}: ∀{fs:List Field} {r:Bool},EqF P ps qs fs r→(Op.eqFields (d+1) xs.toArray ys.toArray fs).run P w'= .ok r w'
 | _,_,.nil=>rfl
 | _,_,.int (f:=f) (m:=m) (n:=n) hn hu h1 h2 h=>by
   obtain ⟨_,h3,rfl⟩:=hx.at_ _ _ h1
   obtain ⟨_,h4,rfl⟩:=hy.at_ _ _ h2
   have hn':f.name≠ "_":=by simpa using hn
   have ih:=h.run hx hy (d:=d) (w':=w')
   simp only [Op.eqFields,hn',ne_eq,not_false_eq_true,if_true,Sem.run_bind,Q0 (w:=w') hu rfl (show xs.toArray[f.offset]?=_ by simpa using h3),Q0 (w:=w') hu rfl (show ys.toArray[f.offset]?=_ by simpa using h4),Result.andThen_ok,run_equalIn_int w' d _ _ _ m n hu]
   by_cases e:m=n
   · subst e;simp [ih]
   · simp [e,go_sem]
 | _,_,.str (f:=f) (m:=m) (n:=n) hn hu h1 h2 h=>by
   obtain ⟨_,h3,rfl⟩:=hx.at_ _ _ h1
   obtain ⟨_,h4,rfl⟩:=hy.at_ _ _ h2
   have hn':f.name≠ "_":=by simpa using hn
   have ih:=h.run hx hy (d:=d) (w':=w')
   simp only [Op.eqFields,hn',ne_eq,not_false_eq_true,if_true,Sem.run_bind,Q0 (w:=w') hu rfl (show xs.toArray[f.offset]?=_ by simpa using h3),Q0 (w:=w') hu rfl (show ys.toArray[f.offset]?=_ by simpa using h4),Result.andThen_ok,run_equalIn_string w' d _ _ _ hu,Xrf]
   by_cases e:m=n
   · subst e;simp [ih]
   · simp [e,go_sem]
 | _,_,.bool (f:=f) (m:=m) (n:=n) hn hu h1 h2 h=>by
   obtain ⟨_,h3,rfl⟩:=hx.at_ _ _ h1
   obtain ⟨_,h4,rfl⟩:=hy.at_ _ _ h2
   have hn':f.name≠ "_":=by simpa using hn
   have ih:=h.run hx hy (d:=d) (w':=w')
   simp only [Op.eqFields,hn',ne_eq,not_false_eq_true,if_true,Sem.run_bind,Q0 (w:=w') hu rfl (show xs.toArray[f.offset]?=_ by simpa using h3),Q0 (w:=w') hu rfl (show ys.toArray[f.offset]?=_ by simpa using h4),Result.andThen_ok,run_equalIn_bool' w' d _ _ _ hu]
   by_cases e:m=n
   · subst e;simp [ih]
   · simp [e,go_sem]
section
variable {C:Cx} {S:(Nat→Prop)→World→World→Prop} {env:Env} {loc:List Ent} {dst:Option Tmp} {ty:TypeId} {pos:String} {af:Array Edge} {g:Option (Nat×Bool)}
theorem Xrg {x y:Operand} {t u:TypeId} {ps qs:List SP} {fs:Array Field} {r:Bool} (hx:ev env x=some (agg ps)) (hy:ev env y=some (agg qs)) (ht:C.P.underlying t=some (.struct fs)) (hp:C.P.stoodInHeld t=false) (hm:C.P.eqGuardType C.P.depth t=false) (he:EqF C.P ps qs fs.toList r):WT C S ⟨dst,.binOp .neq t x y u,ty,pos,af,g⟩ (exB (!r)) env loc:=by
 constructor
 intro F a w hR
 obtain ⟨xs,h1,h2⟩:=X8 hR hx
 obtain ⟨ys,h3,h4⟩:=X8 hR hy
 refine ⟨_,rfl,fun w' _=>?_⟩
 have hf:C.P.fieldsOf t=fs:=by simp [Program.fieldsOf,ht]
 have hr:=run_equalIn_struct (P:=C.P) w' 9999 t xs.toArray ys.toArray (by rw [hf];exact ht) hp
 rw [hf,he.run h2 h4 (d:=9998)] at hr
 have hg:=run_eqGuard_agg (P:=C.P) w' .neq t x y xs.toArray ys.toArray hm
 have hb:=run_neq_struct (P:=C.P) w' t xs.toArray ys.toArray
 rw [hr] at hb
 generalize a.eval=ρ at h1 h3 ⊢
 simp only [execOp,h1,h3]
 generalize binOp .neq t (.agg xs.toArray) (.agg ys.toArray)=s at hb ⊢
 generalize eqGuard .neq t x y (.agg xs.toArray) (.agg ys.toArray)=s2 at hg ⊢
 simp [hb,hg,go_sem]
end
class EqD (P:Program) (t:TypeId) {α:outParam Type} [DecidableEq α] (V:outParam (α→List SP)):Prop where
 out: ∃fs,P.underlying t=some (.struct fs)∧P.stoodInHeld t=false∧P.eqGuardType P.depth t=false∧ ∀a b,∃r,EqF P (V a) (V b) fs.toList r∧r=decide (a=b)
theorem Xqe {α:Type} [DecidableEq α] {V:α→List SP} {C:Cx} {S:(Nat→Prop)→World→World→Prop} {env:Env} {loc:List Ent} {dst:Option Tmp} {ty:TypeId} {pos:String} {af:Array Edge} {g:Option (Nat×Bool)} {x y:Operand} {t u:TypeId} {a b:α} (h:EqD C.P t V) (hx:ev env x=some (agg (V a))) (hy:ev env y=some (agg (V b))):WT C S ⟨dst,.binOp .neq t x y u,ty,pos,af,g⟩ (exB (!decide (a=b))) env loc:=by
 obtain ⟨fs,h1,h2,h3,h4⟩:=h.out
 obtain ⟨r,h5,rfl⟩:=h4 a b
 exact Xrg hx hy h1 h2 h3 h5
def Xso (g:Nat):Ent where
 foot:=[]
 rel F w:=F g∧g<w.heap.size∧ ∀c:Nat,c<256→w.cell? ⟨g,c,none⟩=some (.int .u8 (if Lib.isSp (UInt8.ofNat c) then 1 else 0))
 mono:=by
   rintro S S' w w' ⟨h1,h2,h3⟩ hk _
   obtain ⟨hb,hw⟩:=hk g h1 h2
   refine ⟨hb,?_,fun c hc=>(World.cell?_of_block (w:=w) hw).trans (h3 c hc)⟩
   have:w.heap[g]?≠none:=by rw [Array.getElem?_eq_getElem h2];simp
   rw [←hw] at this
   exact Nat.lt_of_not_le fun h=>this (Array.getElem?_eq_none h)
end Go.Fr
namespace Go.Kx
open Go.RowKit Go.ChangeShapes Go.WideShapes Go.ChangeAt
def ReadsK (P:Program) {α:Type} (t:TypeId) (K:Nat) (E:Enc α):Prop:=
 ∀(H:Type) (enc:TypeId×Value→H) (w:World) (fuel:Nat) (cs:List Value) (x:DataW H×List MemPlace),fuel≤K→
   DataW.trod enc P w 0 (fun _=>true) true fuel t cs=some x→(∀n∈x.1.weights P t,n≤reachBytes)→ ∃a,E.rel (fun _=>True) w cs a
theorem Reads.at {P:Program} {α:Type} {t:TypeId} {E:Enc α} (h:Reads P t E) (K:Nat):ReadsK P t K E:=fun H enc w fuel cs x _=>h H enc w fuel cs x
theorem ReadsK.zero {P:Program} {α:Type} {t:TypeId} {E:Enc α}:ReadsK P t 0 E:=fun H enc w fuel cs x hK h _=>by
 obtain rfl:fuel=0:=by omega
 simp [DataW.trod] at h
theorem Tj {K:Nat} {P:Program} {α:Type} {t e:TypeId} {E:Enc α} (ht:P.underlying t=some (.slice e)) (hsz:P.cellsOf e=E.size) (h0:0<E.size) (hby:P.bytesOf e=E.bytes) (hE:ReadsK P e K E):ReadsK P t K (eSl E):=by
 intro H enc w fuel cs x hK h hw
 rcases DataW.trod_slice ht h with ⟨rfl,rfl⟩|⟨a,len,cap,elems,rest,n,hfu,rfl,rfl,_,hl,hm,hlen,hel,hsp,_⟩
 · exact ⟨[],none,0,0,rfl,Sl.zero _ _ _⟩
 · have hwt: ∀k,k∈((elems.map (·.1)).length+(rest.map (·.1)).length) * P.bytesOf e::(DataW.weightsAll P e (elems.map (·.1))++DataW.weightsAll P e (rest.map (·.1)))→k≤reachBytes:=by
     intro k hk
     apply hw
     simpa [DataW.weights,ht] using hk
   have hall: ∀i,i<len→ ∃y,∃b off cs',some a=some (⟨b,off,none⟩:Addr)∧b<w.heap.size∧cs'.length=E.size∧(∀j,j<E.size→w.cell? ⟨b,off+i * E.size+j,none⟩=cs'[j]?)∧E.rel (fun _=>True) w cs' y:=by
     intro i hi
     have hk:=hel i hi
     rw [List.getElem?_eq_getElem Yan] at hk
     obtain ⟨cs',h1,h2⟩:=Option.bind_eq_some_iff.1 hk
     obtain ⟨y,hy⟩:=hE H enc w n cs' _ Yan h2 (fun k hkk=>hwt k (List.mem_cons_of_mem _ (List.mem_append.2 (Or.inl (Rt (List.mem_map_of_mem (List.getElem_mem (l:=elems) (n:=i) Yan)) k hkk)))))
     obtain ⟨_,hlen',hcells⟩:=World.cells?_some h1
     rw [hsz] at hcells hlen'
     have hc0:=hcells 0 h0
     obtain ⟨v,hv⟩: ∃v,cs'[0]?=some v:=⟨_,List.getElem?_eq_getElem Yan⟩
     rw [hv] at hc0
     obtain ⟨hb,hs⟩:=Xdf hc0
     have hspot:a.spot=none∨i≠0:=by
       by_cases hi0:i=0
       · subst hi0;left;simpa [Addr.add] using hs
       · exact Or.inr hi0
     have hblk:a.block<w.heap.size:=by
       have e:((a.add (i * E.size)).add 0).block=a.block:=by unfold Addr.add;split<;>split<;>rfl
       rwa [e] at hb
     have hns:a.spot=none:=by
       rcases hspot with h|h
       · exact h
       · have hk0:=hel 0 Yan
         rw [List.getElem?_eq_getElem Yan] at hk0
         obtain ⟨cs0,h10,_⟩:=Option.bind_eq_some_iff.1 hk0
         obtain ⟨_,hlen0,hcells0⟩:=World.cells?_some h10
         rw [hsz] at hcells0 hlen0
         have hc00:=hcells0 0 h0
         rw [List.getElem?_eq_getElem Yan] at hc00
         simpa [Addr.add] using (Xdf hc00).2
     obtain ⟨ab,ao,asp⟩:=a
     simp only at hns hblk
     subst hns
     refine ⟨y,ab,ao,cs',rfl,hblk,hlen',fun j hj=>?_,hy⟩
     rw [←hcells j hj]
     congr 1
     unfold Addr.add
     by_cases h1:i * E.size=0<;>by_cases h2:j=0<;>simp [h1,h2]
   obtain ⟨l,hll,hl2⟩:=Xii hall
   refine ⟨l,some a,len,cap,rfl,Sl.mk hll hl hm ?_ (fun h=>absurd h Ybn) fun i hi=>?_⟩
   · have:=hwt _ List.mem_cons_self
     rw [hby] at this
     simp only [List.length_map,hlen,reachBytes] at this
     have h2:len * E.bytes≤(len+rest.length) * E.bytes:=Nat.mul_le_mul_right _ Yan
     omega
   · obtain ⟨b,off,cs',h1,h2,h3,h4,h5⟩:=hl2 i hi
     exact ⟨b,off,cs',h1,trivial,h2,h3,h4,h5⟩
theorem Xkk {P:Program} {t:TypeId} (ht:P.underlying t=some .string):Reads P t Fr.eStr:=by
 intro H enc w fuel cs x h _
 obtain ⟨s,rfl,_⟩:=DataW.trod_string ht h
 exact ⟨s.data.toList,rfl⟩
theorem Xqf {P:Program} {t:TypeId} (ht:P.underlying t=some (.int .i64)):Reads P t Fr.eI:=by
 intro H enc w fuel cs x h _
 obtain ⟨n,rfl,_,_⟩:=DataW.trod_int ht h
 exact ⟨n,rfl⟩
end Go.Kx
namespace Go.Fr
open Go.RowKit Go.Kx Go.ChangeShapes Go.WideShapes Go.ChangeAt
theorem CellsR.parts {F:Nat→Prop} {w:World} {ps qs:List SP} {cs:List Value} {off sz:Nat} (h1:CellsR F w ps ((cs.drop off).take sz)) (h2:CellsR F w qs (cs.drop (off+sz))) (hl:ps.length=sz):CellsR F w (ps++qs) (cs.drop off):=by
 have hlen:((cs.drop off).take sz).length=sz:=by rw [h1.len,hl]
 have e:cs.drop off=(cs.drop off).take sz++cs.drop (off+sz):=by rw [←List.drop_drop,List.take_append_drop]
 refine ⟨by rw [e,List.length_append,List.length_append,h1.len,h2.len],fun i p hp=>?_⟩
 rw [e]
 by_cases hi:i<sz
 · rw [List.getElem?_append_left Yan] at hp
   rw [List.getElem?_append_left Yan]
   exact h1.at_ i p hp
 · rw [List.getElem?_append_right Yan] at hp
   rw [List.getElem?_append_right Yan,hlen]
   exact h2.at_ _ p (by rw [hl] at hp;exact hp)
theorem CellsR.parts0 {F:Nat→Prop} {w:World} {cs:List Value} {n:Nat} (h:cs.length=n):CellsR F w [] (cs.drop n):=by
 rw [List.drop_of_length_le Yan]
 exact ⟨rfl,fun i p hp=>by simp at hp⟩
theorem Wp {K:Nat} {P:Program} {t:TypeId} {fs:Array Field} (ht:P.underlying t=some (.struct fs)) {H:Type} {enc:TypeId×Value→H} {w:World} {fuel:Nat} {cs:List Value} {x:DataW H×List MemPlace}
   (h:DataW.trod enc P w 0 (fun _=>true) true fuel t cs=some x) (hw: ∀n∈x.1.weights P t,n≤reachBytes) (hK:fuel≤K+1) (i:Nat) (f:Field) (hf:fs[i]?=some f) {α:Type} {E:Enc α} {gs:α→List SP} (hF:Fits E gs) (hE:ReadsK P f.type K E) (off sz:Nat) (hoff:f.offset=off) (hsz:P.cellsOf f.type=sz):
   ∃a,CellsR (fun _=>True) w (gs a) ((cs.drop off).take sz):=by
 obtain ⟨xs,n,hfu,rfl,hl,hlen,hfs⟩:=DataW.trod_struct ht h
 have hi:i<fs.size:=by
   rcases Nat.lt_or_ge i fs.size with h|h
   · exact h
   · rw [Array.getElem?_eq_none h] at hf;cases hf
 have hk:=hfs i f hf
 rw [List.getElem?_eq_getElem Yan] at hk
 obtain ⟨a,ha⟩:=hE H enc w n _ _ Yan hk fun k hkk=>hw k (by
   simp only [DataW.weights,ht]
   exact DataW.weights_mem_each (j:=i) (t:=f.type) (d:=xs[i].1) (by rw [List.getElem?_map,Array.getElem?_toList,hf];rfl) (by rw [List.getElem?_map,List.getElem?_eq_getElem Yan];rfl) k hkk)
 subst hoff hsz
 exact ⟨a,hF.out ha⟩
theorem R2 {P:Program} {t:TypeId} {fs:Array Field} (ht:P.underlying t=some (.struct fs)) {H:Type} {enc:TypeId×Value→H} {w:World} {fuel:Nat} {cs:List Value} {x:DataW H×List MemPlace}
   (h:DataW.trod enc P w 0 (fun _=>true) true fuel t cs=some x) {n:Nat} (hn:P.cellsOf t=n):cs.length=n:=by
 obtain ⟨_,_,_,_,hl,_⟩:=DataW.trod_struct ht h
 rw [hl,hn]
theorem S0 {α:Type} {E:Enc α}:Fits (eSl E) (fun l=>[isl E l]) where
 out h:=by
   obtain ⟨a,n,c,rfl,h⟩:=h
   exact .cons ⟨a,n,c,rfl,h⟩ .nil
 inn {F w cs a} h:=by
   obtain ⟨v,h1,h2⟩:=h.at_ 0 _ rfl
   have hl:cs.length=1:=h.len
   obtain ⟨u,rfl⟩:=List.length_eq_one_iff.1 hl
   cases h1
   obtain ⟨b,n,c,rfl,h3⟩:=h2
   exact ⟨b,n,c,rfl,h3⟩
theorem fits_bool':Fits eBool (fun b=>[exB b]) where
 out h:=by simp only [eBool] at h;subst h;exact .cons rfl .nil
 inn {F w cs a} h:=by
   obtain ⟨v,h1,h2⟩:=h.at_ 0 _ rfl
   have hl:cs.length=1:=h.len
   obtain ⟨u,rfl⟩:=List.length_eq_one_iff.1 hl
   cases h1
   have h3:v= .bool a:=h2
   rw [h3];rfl
theorem ArgIn.agg {P:Program} {W:World} {t:TypeId} {fs:Array Field} {v:Value} {α:Type} {E:Nat→Enc α} {gs:Nat→α→List SP} (h:ArgIn P W t v) (ht:P.underlying t=some (.struct fs)) (hE: ∀K,ReadsK P t K (E K)) (hF: ∀K,Fits (E K) (gs K)): ∃K a,(Fr.agg (gs K a)).rel (fun _=>True) W v:=by
 obtain ⟨base,H,enc,d,p,hok,⟨fuel,hf⟩,hw⟩:=h
 obtain ⟨cs,rfl,_⟩:=okWide_struct ht hok
 obtain ⟨a,ha⟩:=hE fuel H enc W fuel _ _ (Nat.le_refl _) hf hw
 exact ⟨fuel,a,cs.toList,by simp,(hF fuel).out ha⟩
theorem ArgIn.text {P:Program} {W:World} {t:TypeId} {v:Value} (h:ArgIn P W t v) (ht:P.underlying t=some .string): ∃l:List UInt8,(exT l).rel (fun _=>True) W v∧l.length≤maxLen:=by
 obtain ⟨base,H,enc,d,p,hok,⟨fuel,hf⟩,hw⟩:=h
 obtain ⟨s,rfl⟩:=okWide_string ht hok
 obtain ⟨s',hs,_,hl⟩:=DataW.trod_string ht hf
 simp only [Value.cells,List.cons.injEq,and_true,Value.string.injEq] at hs
 subst hs
 exact ⟨s.data.toList,rfl,by rw [Array.length_toList];exact hl⟩
theorem ArgIn.sl {P:Program} {W:World} {t e:TypeId} {v:Value} {α:Type} {E:Nat→Enc α} (h:ArgIn P W t v) (ht:P.underlying t=some (.slice e)) (hE: ∀K,ReadsK P t K (eSl (E K))): ∃K l,(isl (E K) l).rel (fun _=>True) W v:=by
 obtain ⟨base,H,enc,d,p,hok,⟨fuel,hf⟩,hw⟩:=h
 obtain ⟨a,n,c,rfl⟩:=okWide_slice ht hok
 obtain ⟨l,a',n',c',hc,hs⟩:=hE fuel H enc W fuel _ _ (Nat.le_refl _) hf hw
 simp only [Value.cells,List.cons.injEq,Value.slice.injEq,and_true] at hc
 obtain ⟨rfl,rfl,rfl⟩:=hc
 exact ⟨fuel,l,a,n,c,rfl,hs⟩
theorem Xh2 {C:Checked} {os:Os} {f:FuncId} {fn:Func} {s:OpenSpec} {laid:List (String×DataW Unit)} {H:Type} {enc:TypeId×Value→H} (w0:World) (args:Array Value) (hos:w0.os=os)
   (hv:(w0.forCall (fun _ _=>0) ⟨#[],args,[]⟩).variablesRefB C.prog=true)
   (hr:((w0.forCall (fun _ _=>0) ⟨#[],args,[]⟩).heap.toList.drop C.prog.globals.size).take ((begin C.prog (fun _ _=>0) default).world.heap.size-C.prog.globals.size)=
     (begin C.prog (fun _ _=>0) default).world.heap.toList.drop C.prog.globals.size)
   (hok:Input.okWideB C.prog (w0.forCall (fun _ _=>0) ⟨#[],args,[]⟩) f ⟨#[],args,[]⟩=true)
   (hrow:s.preRow enc C.prog fn [] false laid (w0.forCall (fun _ _=>0) ⟨#[],args,[]⟩).memory args):
   ∃(w:World) (tape:Tape) (i:Input),w.os=os∧(w.forCall tape i).Shaped C.prog∧i.vars=[]∧Input.okWide C.prog (w.forCall tape i) .any w.heap.size f i∧
     s.preRow enc C.prog fn [] false laid (w.forCall tape i).memory i.args∧({}:Assume).holds C.prog (lone (Frame.enter C.prog f i.args .normal) [] (w.forCall tape i)):=
 ⟨w0,fun _ _=>0,⟨#[],args,[]⟩,hos,World.shaped_of_RefB hv hr,(Input.okWide_of_okWideB (base:=0) hok).1,(Input.okWide_of_okWideB hok).2,hrow,by
   simp only [Assume.holds]
   exact ⟨by simp,by simp,fun h=>(by cases h),by simp,by simp⟩⟩
theorem Xom {C:Checked} {os:Os} {f:FuncId} {fn:Func} {s:ChangeSpec} {F:Stop.Interp} {laid:List (String×DataW Unit)} {tb:TypeId} {H:Type} {enc:TypeId×Value→H}
   (own:ownKnob C.prog.godebug=none) (hl:laidOutB C.prog=true) (started:os.Started) (noInit:C.prog.inits.idxOf? f=none) (hfn:C.prog.funcs[f]?=some fn)
   (hres:fn.resultTypes= #[tb]) (htb:C.prog.underlying tb=some .bool) (hvars:s.vars=[])
   (hread:fn.params.toList.all (fun t=>C.prog.readableRec t&&decide (t<C.prog.types.size))=true)
   (hs: ∀ds:List (DataW H),ds.length=fn.params.size→s.fn H (ds++[])={ results:=[.lit (.bool true)],args:=ds })
   (witness: ∃(w:World) (tape:Tape) (i:Input),w.os=os∧(w.forCall tape i).Shaped C.prog∧i.vars=[]∧Input.okWide C.prog (w.forCall tape i) .any w.heap.size f i∧
     (OpenSpec.ofChange s).preRow enc C.prog fn [] false laid (w.forCall tape i).memory i.args∧({}:Assume).holds C.prog (lone (Frame.enter C.prog f i.args .normal) [] (w.forCall tape i)))
   (walk: ∀(W:World) (args:Array Value),ArgsIn C.prog W fn.params.toList args.toList→laidMetH C.prog laid W→Calls C.prog f args W fun e W'=>e= .returned (.bool true)∧Below W.heap.size W W'):
   ReturnsInHanded {} C os f .any ((OpenSpec.ofChange s).preRow enc C.prog fn [] false laid) (((OpenSpec.ofChange s).at F).post enc C.prog fn false true false false):=by
 refine returnsInHanded_of_row (s:=OpenSpec.ofChange s) own started noInit hfn witness ?_
 intro W base args ds gs before hval hW _ _ hsz hL _ _
 have hlt:=hW.lt
 have hW':=hW
 obtain ⟨p,q,hA,hV,rfl,_,_⟩:=hW
 have hvars':(OpenSpec.ofChange s).vars=[]:=hvars
 rw [hvars'] at hV
 obtain ⟨rfl,rfl⟩:=trodVars_none hV
 have hvt:(OpenSpec.ofChange s).bare.plain.varTypes C.prog=[]:=by simp [DataSpec.varTypes,ChangeSpec.plain,OpenSpec.bare,hvars']
 rw [hvt,List.append_nil,List.append_nil] at hsz
 have hlen: ∀{ts:List TypeId} {vs:List Value} {es:List (DataW H)} {ps:List MemPlace},DataW.TrodAll enc C.prog W 0 (fun _=>true) true ts vs es ps→es.length=ts.length:=by
   intro ts
   induction ts with
   | nil=>intro vs es ps h;match vs,es,h with|[],[],_=>rfl
   | cons t ts ih=>intro vs es ps h;match vs,es,h with|v::vs,d::es,⟨_,_,_,h2,_⟩=>simp [ih h2]
 have hd:=hs ds ((hlen hA).trans Ybn)
 refine (walk W args ⟨base,H,enc,ds,p,fun j t v h1 h2=>hval j t v (by simpa using h1) Ydi,hA,fun n hn=>by simpa using List.all_eq_true.1 hsz n hn⟩ hL).mono ?_
 rintro e W' ⟨rfl,hb⟩
 have hsv:((OpenSpec.ofChange s).at F).vars=[]:=hvars
 have hsf:((OpenSpec.ofChange s).at F).fn H (ds++[])={ results:=[.lit (.bool true)],args:=ds }:=hd
 refine ⟨_,rfl,ds,[],p++[],[],p,[],hW',?_,?_,?_,hb.frame _,fun h=>by cases h⟩
 · rw [hsf,hres]
   exact trodAll_mk1 (shut_bool htb true)
 · rw [hsf]
   exact Xbd hl hb (fun t ht=>by simpa using List.all_eq_true.1 hread t ht) hA fun x hx=>hlt x (List.mem_append.2 (Or.inl hx))
 · rw [hsf,hsv];rfl
end Go.Fr
namespace Go.Proofs.YthdldeenpgeemaaGreatDoor
open Go Go.Fr
instance ti2:TI Tryz.prog 2 1 8 (.int .i64 0):=⟨_,rfl,rfl,rfl,rfl⟩
instance ti3:TI Tryz.prog 3 1 8 (.int .i64 0):=⟨_,rfl,rfl,rfl,rfl⟩
instance ti4:TI Tryz.prog 4 1 1 (.bool false):=⟨_,rfl,rfl,rfl,rfl⟩
instance ti5:TI Tryz.prog 5 1 1 (.int .u8 0):=⟨_,rfl,rfl,rfl,rfl⟩
instance ti9:TI Tryz.prog 9 1 16 (.string .empty):=⟨_,rfl,rfl,rfl,rfl⟩
instance ti12:TI Tryz.prog 12 1 8 (.int .u64 0):=⟨_,rfl,rfl,rfl,rfl⟩
instance ti17:TI Tryz.prog 17 1 8 (.pointer none):=⟨_,rfl,rfl,rfl,rfl⟩
instance ti20:TI Tryz.prog 20 1 16 (.nilIface):=⟨_,rfl,rfl,rfl,rfl⟩
instance ti21:TI Tryz.prog 21 1 4 (.int .i32 0):=⟨_,rfl,rfl,rfl,rfl⟩
instance ti23:TI Tryz.prog 23 1 24 (.slice none 0 0):=⟨_,rfl,rfl,rfl,rfl⟩
instance ti24:TI Tryz.prog 24 1 24 (.slice none 0 0):=⟨_,rfl,rfl,rfl,rfl⟩
instance ti25:TI Tryz.prog 25 1 24 (.slice none 0 0):=⟨_,rfl,rfl,rfl,rfl⟩
instance ti26:TI Tryz.prog 26 1 24 (.slice none 0 0):=⟨_,rfl,rfl,rfl,rfl⟩
instance ti27:TI Tryz.prog 27 1 24 (.slice none 0 0):=⟨_,rfl,rfl,rfl,rfl⟩
instance ti28:TI Tryz.prog 28 9 192 (.agg #[(.string .empty),(.slice none 0 0),(.slice none 0 0),(.slice none 0 0),(.slice none 0 0),(.slice none 0 0),(.slice none 0 0),(.slice none 0 0),(.int .i64 0)]):=⟨_,rfl,rfl,rfl,rfl⟩
instance ti29:TI Tryz.prog 29 9 192 (.agg #[(.string .empty),(.slice none 0 0),(.slice none 0 0),(.slice none 0 0),(.slice none 0 0),(.slice none 0 0),(.slice none 0 0),(.slice none 0 0),(.int .i64 0)]):=⟨_,rfl,rfl,rfl,rfl⟩
instance ti30:TI Tryz.prog 30 1 8 (.int .i64 0):=⟨_,rfl,rfl,rfl,rfl⟩
instance ti39:TI Tryz.prog 39 4 40 (.agg #[(.int .i64 0),(.string .empty),(.int .i64 0),(.int .i64 0)]):=⟨_,rfl,rfl,rfl,rfl⟩
instance ti40:TI Tryz.prog 40 4 40 (.agg #[(.int .i64 0),(.string .empty),(.int .i64 0),(.int .i64 0)]):=⟨_,rfl,rfl,rfl,rfl⟩
instance ti41:TI Tryz.prog 41 1 24 (.slice none 0 0):=⟨_,rfl,rfl,rfl,rfl⟩
instance ti45:TI Tryz.prog 45 1 8 (.int .u64 0):=⟨_,rfl,rfl,rfl,rfl⟩
instance ti50:TI Tryz.prog 50 1 24 (.slice none 0 0):=⟨_,rfl,rfl,rfl,rfl⟩
instance ti51:TI Tryz.prog 51 5 64 (.agg #[(.int .i64 0),(.string .empty),(.int .i64 0),(.int .i64 0),(.slice none 0 0)]):=⟨_,rfl,rfl,rfl,rfl⟩
instance ti52:TI Tryz.prog 52 5 64 (.agg #[(.int .i64 0),(.string .empty),(.int .i64 0),(.int .i64 0),(.slice none 0 0)]):=⟨_,rfl,rfl,rfl,rfl⟩
instance ti53:TI Tryz.prog 53 13 136 (.agg #[(.string .empty),(.int .i64 0),(.int .i64 0),(.int .i64 0),(.bool false),(.bool false),(.int .i64 0),(.string .empty),(.int .i64 0),(.int .i64 0),(.slice none 0 0),(.string .empty),(.int .i64 0)]):=⟨_,rfl,rfl,rfl,rfl⟩
instance ti54:TI Tryz.prog 54 13 136 (.agg #[(.string .empty),(.int .i64 0),(.int .i64 0),(.int .i64 0),(.bool false),(.bool false),(.int .i64 0),(.string .empty),(.int .i64 0),(.int .i64 0),(.slice none 0 0),(.string .empty),(.int .i64 0)]):=⟨_,rfl,rfl,rfl,rfl⟩
instance ti58:TI Tryz.prog 58 2 24 (.agg #[(.string .empty),(.int .i64 0)]):=⟨_,rfl,rfl,rfl,rfl⟩
instance ti59:TI Tryz.prog 59 1 24 (.slice none 0 0):=⟨_,rfl,rfl,rfl,rfl⟩
instance ti64:TI Tryz.prog 64 5 56 (.agg #[(.slice none 0 0),(.int .i64 0),(.int .i64 0),(.bool false),(.int .i64 0)]):=⟨_,rfl,rfl,rfl,rfl⟩
instance ti65:TI Tryz.prog 65 5 56 (.agg #[(.slice none 0 0),(.int .i64 0),(.int .i64 0),(.bool false),(.int .i64 0)]):=⟨_,rfl,rfl,rfl,rfl⟩
instance ti69:TI Tryz.prog 69 7 64 (.agg #[(.string .empty),(.int .i64 0),(.int .i64 0),(.int .i64 0),(.int .i64 0),(.int .i64 0),(.bool false)]):=⟨_,rfl,rfl,rfl,rfl⟩
instance ti70:TI Tryz.prog 70 7 64 (.agg #[(.string .empty),(.int .i64 0),(.int .i64 0),(.int .i64 0),(.int .i64 0),(.int .i64 0),(.bool false)]):=⟨_,rfl,rfl,rfl,rfl⟩
instance ti72:TI Tryz.prog 72 1 24 (.slice none 0 0):=⟨_,rfl,rfl,rfl,rfl⟩
instance ti73:TI Tryz.prog 73 2 40 (.agg #[(.string .empty),(.slice none 0 0)]):=⟨_,rfl,rfl,rfl,rfl⟩
instance ti74:TI Tryz.prog 74 2 40 (.agg #[(.string .empty),(.slice none 0 0)]):=⟨_,rfl,rfl,rfl,rfl⟩
instance ti78:TI Tryz.prog 78 1 8 (.pointer none):=⟨_,rfl,rfl,rfl,rfl⟩
instance ti79:TI Tryz.prog 79 1 24 (.agg #[(.slice none 0 0)]):=⟨_,rfl,rfl,rfl,rfl⟩
instance ti80:TI Tryz.prog 80 1 24 (.agg #[(.slice none 0 0)]):=⟨_,rfl,rfl,rfl,rfl⟩
instance ti83:TI Tryz.prog 83 1 8 (.int .i64 0):=⟨_,rfl,rfl,rfl,rfl⟩
instance ti85:TI Tryz.prog 85 6 48 (.agg #[.nilFunc,.nilFunc,.nilFunc,.nilFunc,.nilFunc,.nilFunc]):=⟨_,rfl,rfl,rfl,rfl⟩
instance ti86:TI Tryz.prog 86 6 48 (.agg #[.nilFunc,.nilFunc,.nilFunc,.nilFunc,.nilFunc,.nilFunc]):=⟨_,rfl,rfl,rfl,rfl⟩
instance ti87:TI Tryz.prog 87 6 48 (.agg #[.nilFunc,.nilFunc,.nilFunc,.nilFunc,.nilFunc,.nilFunc]):=⟨_,rfl,rfl,rfl,rfl⟩
instance ti88:TI Tryz.prog 88 1 8 (.pointer none):=⟨_,rfl,rfl,rfl,rfl⟩
instance ti89:TI Tryz.prog 89 3 48 (.agg #[(.string .empty),(.int .i64 0),(.slice none 0 0)]):=⟨_,rfl,rfl,rfl,rfl⟩
instance ti90:TI Tryz.prog 90 3 48 (.agg #[(.string .empty),(.int .i64 0),(.slice none 0 0)]):=⟨_,rfl,rfl,rfl,rfl⟩
instance ti93:TI Tryz.prog 93 1 24 (.slice none 0 0):=⟨_,rfl,rfl,rfl,rfl⟩
instance ti96:TI Tryz.prog 96 3 32 (.agg #[(.int .i64 0),(.string .empty),(.int .i64 0)]):=⟨_,rfl,rfl,rfl,rfl⟩
instance ti97:TI Tryz.prog 97 3 32 (.agg #[(.int .i64 0),(.string .empty),(.int .i64 0)]):=⟨_,rfl,rfl,rfl,rfl⟩
instance ti99:TI Tryz.prog 99 1 8 (.map none):=⟨_,rfl,rfl,rfl,rfl⟩
instance ti100:TI Tryz.prog 100 1 8 (.map none):=⟨_,rfl,rfl,rfl,rfl⟩
instance ti105:TI Tryz.prog 105 3 32 (.agg #[(.string .empty),(.int .i64 0),(.int .i64 0)]):=⟨_,rfl,rfl,rfl,rfl⟩
instance ti106:TI Tryz.prog 106 3 32 (.agg #[(.string .empty),(.int .i64 0),(.int .i64 0)]):=⟨_,rfl,rfl,rfl,rfl⟩
instance ti119:TI Tryz.prog 119 1 8 (.pointer none):=⟨_,rfl,rfl,rfl,rfl⟩
instance ti122:TI Tryz.prog 122 1 8 (.map none):=⟨_,rfl,rfl,rfl,rfl⟩
instance ti123:TI Tryz.prog 123 1 8 (.pointer none):=⟨_,rfl,rfl,rfl,rfl⟩
instance ti127:TI Tryz.prog 127 1 8 (.pointer none):=⟨_,rfl,rfl,rfl,rfl⟩
instance ti128:TI Tryz.prog 128 1 24 (.slice none 0 0):=⟨_,rfl,rfl,rfl,rfl⟩
instance ti129:TI Tryz.prog 129 2 32 (.agg #[(.pointer none),(.slice none 0 0)]):=⟨_,rfl,rfl,rfl,rfl⟩
instance ti130:TI Tryz.prog 130 2 32 (.agg #[(.pointer none),(.slice none 0 0)]):=⟨_,rfl,rfl,rfl,rfl⟩
instance ti132:TI Tryz.prog 132 1 16 (.nilIface):=⟨_,rfl,rfl,rfl,rfl⟩
instance ti133:TI Tryz.prog 133 1 16 (.nilIface):=⟨_,rfl,rfl,rfl,rfl⟩
instance ti138:TI Tryz.prog 138 1 8 (.agg #[(.int .i64 0)]):=⟨_,rfl,rfl,rfl,rfl⟩
instance ti139:TI Tryz.prog 139 1 8 (.agg #[(.int .i64 0)]):=⟨_,rfl,rfl,rfl,rfl⟩
instance ti141:TI Tryz.prog 141 1 8 (.pointer none):=⟨_,rfl,rfl,rfl,rfl⟩
instance ti142:TI Tryz.prog 142 11 224 (.agg #[(.slice none 0 0),(.int .i64 0),(.string .empty),(.slice none 0 0),(.slice none 0 0),(.slice none 0 0),(.slice none 0 0),(.slice none 0 0),(.slice none 0 0),(.slice none 0 0),(.int .i64 0)]):=⟨_,rfl,rfl,rfl,rfl⟩
instance ti143:TI Tryz.prog 143 11 224 (.agg #[(.slice none 0 0),(.int .i64 0),(.string .empty),(.slice none 0 0),(.slice none 0 0),(.slice none 0 0),(.slice none 0 0),(.slice none 0 0),(.slice none 0 0),(.slice none 0 0),(.int .i64 0)]):=⟨_,rfl,rfl,rfl,rfl⟩
instance ti144:TI Tryz.prog 144 1 24 (.slice none 0 0):=⟨_,rfl,rfl,rfl,rfl⟩
instance ti164:TI Tryz.prog 164 1 16 (.string .empty):=⟨_,rfl,rfl,rfl,rfl⟩
instance ti167:TI Tryz.prog 167 1 8 (.map none):=⟨_,rfl,rfl,rfl,rfl⟩
instance ti185:TI Tryz.prog 185 2 16 (.agg #[(.int .i64 0),(.int .i64 0)]):=⟨_,rfl,rfl,rfl,rfl⟩
instance ti186:TI Tryz.prog 186 2 16 (.agg #[(.int .i64 0),(.int .i64 0)]):=⟨_,rfl,rfl,rfl,rfl⟩
instance ti188:TI Tryz.prog 188 1 8 (.pointer none):=⟨_,rfl,rfl,rfl,rfl⟩
instance ti189:TI Tryz.prog 189 1 24 (.slice none 0 0):=⟨_,rfl,rfl,rfl,rfl⟩
instance ti193:TI Tryz.prog 193 1 4 (.int .u32 0):=⟨_,rfl,rfl,rfl,rfl⟩
instance ti196:TI Tryz.prog 196 1 8 (.int .u64 0):=⟨_,rfl,rfl,rfl,rfl⟩
instance ti199:TI Tryz.prog 199 1 8 (.pointer none):=⟨_,rfl,rfl,rfl,rfl⟩
instance ti221:TI Tryz.prog 221 1 24 (.slice none 0 0):=⟨_,rfl,rfl,rfl,rfl⟩
instance ti222:TI Tryz.prog 222 5 64 (.agg #[(.int .i64 0),(.string .empty),(.int .i64 0),(.int .i64 0),(.slice none 0 0)]):=⟨_,rfl,rfl,rfl,rfl⟩
instance ti231:TI Tryz.prog 231 1 24 (.slice none 0 0):=⟨_,rfl,rfl,rfl,rfl⟩
instance ti244:TI Tryz.prog 244 1 8 (.map none):=⟨_,rfl,rfl,rfl,rfl⟩
instance ti252:TI Tryz.prog 252 1 8 (.pointer none):=⟨_,rfl,rfl,rfl,rfl⟩
instance ti255:TI Tryz.prog 255 24 24 (.agg #[(.int .u8 0),(.int .u8 0),(.int .u8 0),(.int .u8 0),(.int .u8 0),(.int .u8 0),(.int .u8 0),(.int .u8 0),(.int .u8 0),(.int .u8 0),(.int .u8 0),(.int .u8 0),(.int .u8 0),(.int .u8 0),(.int .u8 0),(.int .u8 0),(.int .u8 0),(.int .u8 0),(.int .u8 0),(.int .u8 0),(.int .u8 0),(.int .u8 0),(.int .u8 0),(.int .u8 0)]):=⟨_,rfl,rfl,rfl,rfl⟩
instance ti261:TI Tryz.prog 261 256 256 (.agg #[(.int .u8 0),(.int .u8 0),(.int .u8 0),(.int .u8 0),(.int .u8 0),(.int .u8 0),(.int .u8 0),(.int .u8 0),(.int .u8 0),(.int .u8 0),(.int .u8 0),(.int .u8 0),(.int .u8 0),(.int .u8 0),(.int .u8 0),(.int .u8 0),(.int .u8 0),(.int .u8 0),(.int .u8 0),(.int .u8 0),(.int .u8 0),(.int .u8 0),(.int .u8 0),(.int .u8 0),(.int .u8 0),(.int .u8 0),(.int .u8 0),(.int .u8 0),(.int .u8 0),(.int .u8 0),(.int .u8 0),(.int .u8 0),(.int .u8 0),(.int .u8 0),(.int .u8 0),(.int .u8 0),(.int .u8 0),(.int .u8 0),(.int .u8 0),(.int .u8 0),(.int .u8 0),(.int .u8 0),(.int .u8 0),(.int .u8 0),(.int .u8 0),(.int .u8 0),(.int .u8 0),(.int .u8 0),(.int .u8 0),(.int .u8 0),(.int .u8 0),(.int .u8 0),(.int .u8 0),(.int .u8 0),(.int .u8 0),(.int .u8 0),(.int .u8 0),(.int .u8 0),(.int .u8 0),(.int .u8 0),(.int .u8 0),(.int .u8 0),(.int .u8 0),(.int .u8 0),(.int .u8 0),(.int .u8 0),(.int .u8 0),(.int .u8 0),(.int .u8 0),(.int .u8 0),(.int .u8 0),(.int .u8 0),(.int .u8 0),(.int .u8 0),(.int .u8 0),(.int .u8 0),(.int .u8 0),(.int .u8 0),(.int .u8 0),(.int .u8 0),(.int .u8 0),(.int .u8 0),(.int .u8 0),(.int .u8 0),(.int .u8 0),(.int .u8 0),(.int .u8 0),(.int .u8 0),(.int .u8 0),(.int .u8 0),(.int .u8 0),(.int .u8 0),(.int .u8 0),(.int .u8 0),(.int .u8 0),(.int .u8 0),(.int .u8 0),(.int .u8 0),(.int .u8 0),(.int .u8 0),(.int .u8 0),(.int .u8 0),(.int .u8 0),(.int .u8 0),(.int .u8 0),(.int .u8 0),(.int .u8 0),(.int .u8 0),(.int .u8 0),(.int .u8 0),(.int .u8 0),(.int .u8 0),(.int .u8 0),(.int .u8 0),(.int .u8 0),(.int .u8 0),(.int .u8 0),(.int .u8 0),(.int .u8 0),(.int .u8 0),(.int .u8 0),(.int .u8 0),(.int .u8 0),(.int .u8 0),(.int .u8 0),(.int .u8 0),(.int .u8 0),(.int .u8 0),(.int .u8 0),(.int .u8 0),(.int .u8 0),(.int .u8 0),(.int .u8 0),(.int .u8 0),(.int .u8 0),(.int .u8 0),(.int .u8 0),(.int .u8 0),(.int .u8 0),(.int .u8 0),(.int .u8 0),(.int .u8 0),(.int .u8 0),(.int .u8 0),(.int .u8 0),(.int .u8 0),(.int .u8 0),(.int .u8 0),(.int .u8 0),(.int .u8 0),(.int .u8 0),(.int .u8 0),(.int .u8 0),(.int .u8 0),(.int .u8 0),(.int .u8 0),(.int .u8 0),(.int .u8 0),(.int .u8 0),(.int .u8 0),(.int .u8 0),(.int .u8 0),(.int .u8 0),(.int .u8 0),(.int .u8 0),(.int .u8 0),(.int .u8 0),(.int .u8 0),(.int .u8 0),(.int .u8 0),(.int .u8 0),(.int .u8 0),(.int .u8 0),(.int .u8 0),(.int .u8 0),(.int .u8 0),(.int .u8 0),(.int .u8 0),(.int .u8 0),(.int .u8 0),(.int .u8 0),(.int .u8 0),(.int .u8 0),(.int .u8 0),(.int .u8 0),(.int .u8 0),(.int .u8 0),(.int .u8 0),(.int .u8 0),(.int .u8 0),(.int .u8 0),(.int .u8 0),(.int .u8 0),(.int .u8 0),(.int .u8 0),(.int .u8 0),(.int .u8 0),(.int .u8 0),(.int .u8 0),(.int .u8 0),(.int .u8 0),(.int .u8 0),(.int .u8 0),(.int .u8 0),(.int .u8 0),(.int .u8 0),(.int .u8 0),(.int .u8 0),(.int .u8 0),(.int .u8 0),(.int .u8 0),(.int .u8 0),(.int .u8 0),(.int .u8 0),(.int .u8 0),(.int .u8 0),(.int .u8 0),(.int .u8 0),(.int .u8 0),(.int .u8 0),(.int .u8 0),(.int .u8 0),(.int .u8 0),(.int .u8 0),(.int .u8 0),(.int .u8 0),(.int .u8 0),(.int .u8 0),(.int .u8 0),(.int .u8 0),(.int .u8 0),(.int .u8 0),(.int .u8 0),(.int .u8 0),(.int .u8 0),(.int .u8 0),(.int .u8 0),(.int .u8 0),(.int .u8 0),(.int .u8 0),(.int .u8 0),(.int .u8 0),(.int .u8 0),(.int .u8 0),(.int .u8 0),(.int .u8 0),(.int .u8 0),(.int .u8 0),(.int .u8 0),(.int .u8 0),(.int .u8 0),(.int .u8 0),(.int .u8 0),(.int .u8 0),(.int .u8 0),(.int .u8 0)]):=⟨_,rfl,rfl,rfl,rfl⟩
instance ti264:TI Tryz.prog 264 2 24 (.agg #[(.string .empty),(.int .i64 0)]):=⟨_,rfl,rfl,rfl,rfl⟩
instance ti265:TI Tryz.prog 265 1 24 (.slice none 0 0):=⟨_,rfl,rfl,rfl,rfl⟩
instance ti272:TI Tryz.prog 272 3 48 (.agg #[(.string .empty),(.string .empty),.nilIface]):=⟨_,rfl,rfl,rfl,rfl⟩
instance ti273:TI Tryz.prog 273 3 48 (.agg #[(.string .empty),(.string .empty),.nilIface]):=⟨_,rfl,rfl,rfl,rfl⟩
instance ti276:TI Tryz.prog 276 20 160 (.agg #[(.int .u64 0),(.int .u64 0),(.int .u64 0),(.int .u64 0),(.int .u64 0),(.int .u64 0),(.int .u64 0),(.int .u64 0),(.int .u64 0),(.int .u64 0),(.int .u64 0),(.int .u64 0),(.int .u64 0),(.int .u64 0),(.int .u64 0),(.int .u64 0),(.int .u64 0),(.int .u64 0),(.int .u64 0),(.int .u64 0)]):=⟨_,rfl,rfl,rfl,rfl⟩
instance ti277:TI Tryz.prog 277 65 65 (.agg #[(.int .u8 0),(.int .u8 0),(.int .u8 0),(.int .u8 0),(.int .u8 0),(.int .u8 0),(.int .u8 0),(.int .u8 0),(.int .u8 0),(.int .u8 0),(.int .u8 0),(.int .u8 0),(.int .u8 0),(.int .u8 0),(.int .u8 0),(.int .u8 0),(.int .u8 0),(.int .u8 0),(.int .u8 0),(.int .u8 0),(.int .u8 0),(.int .u8 0),(.int .u8 0),(.int .u8 0),(.int .u8 0),(.int .u8 0),(.int .u8 0),(.int .u8 0),(.int .u8 0),(.int .u8 0),(.int .u8 0),(.int .u8 0),(.int .u8 0),(.int .u8 0),(.int .u8 0),(.int .u8 0),(.int .u8 0),(.int .u8 0),(.int .u8 0),(.int .u8 0),(.int .u8 0),(.int .u8 0),(.int .u8 0),(.int .u8 0),(.int .u8 0),(.int .u8 0),(.int .u8 0),(.int .u8 0),(.int .u8 0),(.int .u8 0),(.int .u8 0),(.int .u8 0),(.int .u8 0),(.int .u8 0),(.int .u8 0),(.int .u8 0),(.int .u8 0),(.int .u8 0),(.int .u8 0),(.int .u8 0),(.int .u8 0),(.int .u8 0),(.int .u8 0),(.int .u8 0),(.int .u8 0)]):=⟨_,rfl,rfl,rfl,rfl⟩
instance ti280:TI Tryz.prog 280 1 24 (.slice none 0 0):=⟨_,rfl,rfl,rfl,rfl⟩
instance ti281:TI Tryz.prog 281 2 16 (.agg #[(.int .i64 0),(.int .i64 0)]):=⟨_,rfl,rfl,rfl,rfl⟩
instance ti282:TI Tryz.prog 282 2 16 (.agg #[(.int .i64 0),(.int .i64 0)]):=⟨_,rfl,rfl,rfl,rfl⟩
instance ti284:TI Tryz.prog 284 1 8 (.pointer none):=⟨_,rfl,rfl,rfl,rfl⟩
instance ti287:TI Tryz.prog 287 1 8 (.pointer none):=⟨_,rfl,rfl,rfl,rfl⟩
instance ti288:TI Tryz.prog 288 1 16 (.agg #[(.string .empty)]):=⟨_,rfl,rfl,rfl,rfl⟩
instance ti289:TI Tryz.prog 289 1 16 (.agg #[(.string .empty)]):=⟨_,rfl,rfl,rfl,rfl⟩
instance ti291:TI Tryz.prog 291 1 24 (.slice none 0 0):=⟨_,rfl,rfl,rfl,rfl⟩
instance ti292:TI Tryz.prog 292 1 24 (.slice none 0 0):=⟨_,rfl,rfl,rfl,rfl⟩
instance ti293:TI Tryz.prog 293 3 56 (.agg #[(.slice none 0 0),(.slice none 0 0),(.int .i64 0)]):=⟨_,rfl,rfl,rfl,rfl⟩
instance ti294:TI Tryz.prog 294 3 56 (.agg #[(.slice none 0 0),(.slice none 0 0),(.int .i64 0)]):=⟨_,rfl,rfl,rfl,rfl⟩
instance ti295:TI Tryz.prog 295 1 2 (.int .u16 0):=⟨_,rfl,rfl,rfl,rfl⟩
instance ti296:TI Tryz.prog 296 3 6 (.agg #[(.int .u16 0),(.int .u16 0),(.int .u16 0)]):=⟨_,rfl,rfl,rfl,rfl⟩
instance ti297:TI Tryz.prog 297 3 6 (.agg #[(.int .u16 0),(.int .u16 0),(.int .u16 0)]):=⟨_,rfl,rfl,rfl,rfl⟩
instance ti299:TI Tryz.prog 299 3 12 (.agg #[(.int .u32 0),(.int .u32 0),(.int .u32 0)]):=⟨_,rfl,rfl,rfl,rfl⟩
instance ti300:TI Tryz.prog 300 3 12 (.agg #[(.int .u32 0),(.int .u32 0),(.int .u32 0)]):=⟨_,rfl,rfl,rfl,rfl⟩
instance ti302:TI Tryz.prog 302 32 32 (.agg #[(.int .u8 0),(.int .u8 0),(.int .u8 0),(.int .u8 0),(.int .u8 0),(.int .u8 0),(.int .u8 0),(.int .u8 0),(.int .u8 0),(.int .u8 0),(.int .u8 0),(.int .u8 0),(.int .u8 0),(.int .u8 0),(.int .u8 0),(.int .u8 0),(.int .u8 0),(.int .u8 0),(.int .u8 0),(.int .u8 0),(.int .u8 0),(.int .u8 0),(.int .u8 0),(.int .u8 0),(.int .u8 0),(.int .u8 0),(.int .u8 0),(.int .u8 0),(.int .u8 0),(.int .u8 0),(.int .u8 0),(.int .u8 0)]):=⟨_,rfl,rfl,rfl,rfl⟩
instance ti303:TI Tryz.prog 303 64 64 (.agg #[(.int .u8 0),(.int .u8 0),(.int .u8 0),(.int .u8 0),(.int .u8 0),(.int .u8 0),(.int .u8 0),(.int .u8 0),(.int .u8 0),(.int .u8 0),(.int .u8 0),(.int .u8 0),(.int .u8 0),(.int .u8 0),(.int .u8 0),(.int .u8 0),(.int .u8 0),(.int .u8 0),(.int .u8 0),(.int .u8 0),(.int .u8 0),(.int .u8 0),(.int .u8 0),(.int .u8 0),(.int .u8 0),(.int .u8 0),(.int .u8 0),(.int .u8 0),(.int .u8 0),(.int .u8 0),(.int .u8 0),(.int .u8 0),(.int .u8 0),(.int .u8 0),(.int .u8 0),(.int .u8 0),(.int .u8 0),(.int .u8 0),(.int .u8 0),(.int .u8 0),(.int .u8 0),(.int .u8 0),(.int .u8 0),(.int .u8 0),(.int .u8 0),(.int .u8 0),(.int .u8 0),(.int .u8 0),(.int .u8 0),(.int .u8 0),(.int .u8 0),(.int .u8 0),(.int .u8 0),(.int .u8 0),(.int .u8 0),(.int .u8 0),(.int .u8 0),(.int .u8 0),(.int .u8 0),(.int .u8 0),(.int .u8 0),(.int .u8 0),(.int .u8 0),(.int .u8 0)]):=⟨_,rfl,rfl,rfl,rfl⟩
instance ti304:TI Tryz.prog 304 1 8 (.pointer none):=⟨_,rfl,rfl,rfl,rfl⟩
instance ti305:TI Tryz.prog 305 1 8 (.pointer none):=⟨_,rfl,rfl,rfl,rfl⟩
instance ti316:TI Tryz.prog 316 11 48 (.agg #[(.int .u64 0),(.int .u64 0),(.int .u32 0),(.int .u8 0),(.int .u8 0),(.int .u8 0),(.int .u8 0),.nilFunc,(.pointer none),(.int .i32 0),(.int .i32 0)]):=⟨_,rfl,rfl,rfl,rfl⟩
end Go.Proofs.YthdldeenpgeemaaGreatDoor
namespace Go.Proofs.YthdldeenpgeemaaGreatDoor
open Go Go.RowKit Go.Kx Go.Fr
theorem Xh3 (s:ByteArray) (c:Int) (w:World):
   Calls Tryz.prog 175 #[.string s,.int .u8 c] w fun e w'=>e= .returned (.int .i64 (Lib.indexByte s.data.toList c.toNat.toUInt8))∧w'=w:=by
 go_enter Tryz.func175,Tryz.ntmps175
 go_wp2
 rw [run_callFunc_extern Tryz.func204 Yat Yat Yat (e:=Extern.BytealgIndexByte.indexByte) Yat,Lib.run_indexByteString]
 simp only [Result.andThen]
 rw [Oper.upon_value]
 go_wp2
 go_ret
 exact ⟨rfl,rfl⟩
theorem Xgi (l:List UInt8) (c:UInt8):FnC Tryz.prog 175 [exT l,exI .u8 c.toNat] [] (fun p loc=>p=exI .i64 (Lib.indexByte l c)∧loc=[]):=by
 refine Xiy fun F w vals h=>?_
 obtain ⟨v,u,rfl,rfl,rfl⟩:=h.two
 refine (Xh3 ⟨l.toArray⟩ c.toNat w).mono ?_
 rintro e w' ⟨rfl,rfl⟩
 refine ⟨_,_,rfl,⟨rfl,rfl⟩,?_,Below.refl _ _⟩
 show Value.int .i64 _=Value.int .i64 _
 congr 2
 · rw [Int.toNat_natCast];exact UInt8.ofNat_toNat
theorem Q9 (l:List UInt8) (c:UInt8):FnC Tryz.prog 129 [exT l,exI .u8 c.toNat] [] (fun p loc=>p=exI .i64 (Lib.indexByte l c)∧loc=[]):=by
 refine X4 Tryz.func129 rfl Tryz.ntmps129 rfl fun w0 F0 out=>?_
 have hI:=Xgi l c
 (repeat' (first|refine Xf ?_|refine Xb ?_|refine Xd ?_|(apply Xk;exact Ya0;exact rfl)|refine Xz ?_|(apply Xi;exact rfl;(apply Xn;(refine X9 Tryz.func175 rfl hI rfl ?_;rintro _ _ ⟨rfl,rfl⟩)))))
 exact ⟨.inr rfl,Vk rfl (.tmp rfl) (List.nil_sublist _) ⟨rfl,rfl⟩⟩
def R3 (c:UInt8):Bool:=(decide (97≤c.toNat)&&decide (c.toNat≤122))||(decide (65≤c.toNat)&&decide (c.toNat≤90))
def Xe7 (c:UInt8):Bool:=decide (48≤c.toNat)&&decide (c.toNat≤57)
def Xpe (c:UInt8):Bool:=decide (c.toNat=32)||decide (c.toNat=9)||decide (c.toNat=10)||decide (c.toNat=13)
def signs:List UInt8:=[123,125,40,41,59,44,61,58,46,60,62,33,43,45,42,47]
def Ul (c:UInt8):Int:=if R3 c then 2 else if Xe7 c then 3 else if c.toNat=95 then 5 else if Xpe c then 1 else if 0≤Lib.indexByte signs c then 4 else 0
def partF (c:UInt8):Bool:=R3 c||Xe7 c||decide (c.toNat=95)
theorem Sq (c:UInt8):FnC Tryz.prog 46 [exI .u8 c.toNat] [] (fun p loc=>p=exI .i64 (Ul c)∧loc=[]):=by
 refine X4 Tryz.func46 rfl Tryz.ntmps46 rfl fun w0 F0 out=>?_
 have hI:=Q9 signs c
 (repeat' (first|refine Xf ?_|refine Xb ?_|refine Xd ?_|(apply Xk;(first|exact Xe rfl|exact Xj rfl|exact Wk (b:=true) rfl (fun _=>rfl) (fun e=>by cases e)|exact Wk (b:=false) rfl (fun e=>by cases e) (fun _=>rfl)|(apply V1;first|exact Qf rfl rfl|exact Xdh rfl rfl));exact rfl)|(refine Ve rfl rfl rfl rfl rfl ?_)|(refine Xo2 rfl rfl rfl rfl ?_)|(apply Vh;exact rfl;exact rfl;exact rfl;(first|exact Xe rfl|exact Wk (b:=true) rfl (fun _=>rfl) (fun e=>by cases e)|exact Wk (b:=false) rfl (fun e=>by cases e) (fun _=>rfl)|(apply V1;first|exact Qf rfl rfl|exact Xjl rfl rfl|exact Xdh rfl rfl));exact rfl)|refine Xp ?_|refine Xs ?_|refine Xz ?_|refine Xx rfl ?_|refine X2 rfl ?_|(apply Xi;exact rfl;(apply Xn;(refine X9 Tryz.func129 rfl hI rfl ?_;rintro _ _ ⟨rfl,rfl⟩)))|(refine W0 rfl rfl (fun hb=>?_) (fun hb=>?_)<;>(repeat (first|replace hb:=X0 hb|replace hb:=X1 hb))<;>(try (exfalso;omega)))|(refine Xo rfl (fun hb=>?_) (fun hb=>?_)<;>(repeat (first|replace hb:=X0 hb|replace hb:=X1 hb))<;>(try (exfalso;omega)))))
 all_goals (refine ⟨by first|exact .inr rfl|exact .inl rfl,Vk rfl (.tmp rfl) (List.nil_sublist _) ⟨congrArg (exI .i64) ?_,rfl⟩⟩)
 all_goals (unfold Ul R3 Xe7 Xpe;simp [*])
 all_goals omega
theorem Xb4 (c:UInt8):Ul c=2↔R3 c=true:=by
 unfold Ul
 split
 · rename_i h;simp [h]
 · rename_i h
   constructor
   · intro e;repeat' split at e
     all_goals simp at e
   · intro e;exact absurd e h
theorem Xd9 (c:UInt8):(Ul c=2∨Ul c=3∨Ul c=5)↔partF c=true:=by
 unfold Ul partF
 cases h1:R3 c<;>cases h2:Xe7 c<;>by_cases h3:c.toNat=95<;>simp [h3]
 · repeat' split
   all_goals simp
def Xe8 (s:List UInt8):Bool:=decide (1≤s.length)&&(decide (s.length≤32)&&(R3 (s[0]?.getD 0)&&s.all partF))
theorem Xh4 (s:List UInt8):Xe8 s=(decide (1≤s.length)&&(decide (s.length≤32)&&(decide (Ul (s[0]?.getD 0)=2)&&s.all fun c=>decide (Ul c=2)||(decide (Ul c=3)||decide (Ul c=5))))):=by
 have h1:decide (Ul (s[0]?.getD 0)=2)=R3 (s[0]?.getD 0):=by
   rw [Bool.eq_iff_iff,decide_eq_true_eq];exact Xb4 _
 have h2:(fun c=>decide (Ul c=2)||(decide (Ul c=3)||decide (Ul c=5)))=partF:=by
   funext c
   rw [Bool.eq_iff_iff]
   simp only [Bool.or_eq_true,decide_eq_true_eq]
   exact Xd9 c
 rw [h1,h2];rfl
theorem Xi9 (s:List UInt8):FnC Tryz.prog 130 [exT s] [] (fun p loc=>p=exB (Xe8 s)∧loc=[]):=by
 refine X4 Tryz.func130 rfl Tryz.ntmps130 rfl fun w0 F0 out=>?_
 by_cases h0:1≤s.length∧s.length≤32∧Ul (s[0]?.getD 0)=2
 · obtain ⟨h1,h2,h3⟩:=h0
   have h3':Ul (s[0]'Yan)=2:=by rw [List.getElem?_eq_getElem Yan] at h3;exact h3
   have hne: ¬s=[]:=fun e=>by rw [e] at h1;simp at h1
   (repeat' (first|refine Xf ?_|refine Xb ?_|refine Xd ?_|(apply Xk;(first|exact Xe rfl|exact Xj rfl|exact Wk (b:=true) rfl (fun _=>rfl) (fun e=>by cases e)|exact Wk (b:=false) rfl (fun e=>by cases e) (fun _=>rfl)|(apply V1;exact Xav rfl rfl)|exact Ybm);exact rfl)|(refine Ve rfl rfl rfl rfl rfl ?_)|(apply Vh;exact rfl;exact rfl;exact rfl;exact Yee;exact rfl)|refine Xp ?_|refine Xs ?_|refine Xz ?_|refine Xx rfl ?_|(apply Vt;exact rfl;exact rfl;exact rfl;exact rfl;(apply Xn;(refine X9 Tryz.func46 rfl (Sq _) rfl ?_;rintro _ _ ⟨rfl,rfl⟩)))|(refine W0 rfl rfl (fun hb=>?_) (fun hb=>?_)<;>(repeat (first|replace hb:=X0 hb|replace hb:=X1 hb))<;>(try (exfalso;omega)))|(refine Xo rfl (fun hb=>?_) (fun hb=>?_)<;>(repeat (first|replace hb:=X0 hb|replace hb:=X1 hb|replace hb:=Vf hb|replace hb:=Vg hb))<;>(try (exfalso;omega)))))
   all_goals (try (exfalso;first|omega|(simp_all;done)))
   refine W1 (fun k:Nat=>([(0,exT s),(18,exT s),(19,exI .i64 s.length),(20,exI .i64 k)],[])) (fun k=>k≤s.length∧(s.take k).all partF=true) (fun k=>s.length-k) 0 ?_ ⟨Nat.zero_le _,rfl⟩ fun k hk=>?_
   · exact Xg (by repeat (first|exact Xm|refine Xh rfl ?_)) (List.Sublist.refl _)
   obtain ⟨hk,hall⟩:=hk
   by_cases hlt:k<s.length
   · have hcp:=Xd9 s[k]
     cases hp:partF s[k]
     · (repeat' (first|refine Xf ?_|refine Xb ?_|refine Xd ?_|(apply Xk;exact Yb8;exact rfl)|(refine Ve rfl rfl rfl rfl rfl ?_)|(apply Vh;exact rfl;exact rfl;exact rfl;(first|exact Xe rfl|exact Ybi);exact rfl)|refine Xp ?_|refine Xs ?_|refine Xz ?_|refine X2 rfl ?_|(apply Xi;exact rfl;(apply Xn;(refine X9 Tryz.func46 rfl (Sq _) rfl ?_;rintro _ _ ⟨rfl,rfl⟩)))|(refine W0 rfl rfl (fun hb=>?_) (fun hb=>?_)<;>(repeat (first|replace hb:=X0 hb|replace hb:=X1 hb|replace hb:=Vf hb|replace hb:=Vg hb))<;>(try (exfalso;fail)))|(refine Xo rfl (fun hb=>?_) (fun hb=>?_)<;>(repeat (first|replace hb:=X0 hb|replace hb:=X1 hb|replace hb:=Vf hb|replace hb:=Vg hb))<;>(try (exfalso;omega)))))
       all_goals (try (exfalso;simp_all;done))
       refine ⟨.inr rfl,Vk rfl (.tmp rfl) (List.nil_sublist _) ⟨congrArg exB ?_,rfl⟩⟩
       have hn:s.all partF=false:=by rw [List.all_eq_false];exact ⟨_,List.getElem_mem hlt,by simp [hp]⟩
       unfold Xe8
       rw [hn];simp
     · (repeat' (first|refine Xf ?_|refine Xb ?_|refine Xd ?_|(apply Xk;exact Yb8;exact rfl)|(refine Ve rfl rfl rfl rfl rfl ?_)|(apply Vh;exact rfl;exact rfl;exact rfl;(first|exact Xe rfl|exact Ybi);exact rfl)|refine Xp ?_|refine Xs ?_|refine Xz ?_|refine X2 rfl ?_|(apply Xi;exact rfl;(apply Xn;(refine X9 Tryz.func46 rfl (Sq _) rfl ?_;rintro _ _ ⟨rfl,rfl⟩)))|(refine W0 rfl rfl (fun hb=>?_) (fun hb=>?_)<;>(repeat (first|replace hb:=X0 hb|replace hb:=X1 hb|replace hb:=Vf hb|replace hb:=Vg hb))<;>(try (exfalso;fail)))|(refine Xo rfl (fun hb=>?_) (fun hb=>?_)<;>(repeat (first|replace hb:=X0 hb|replace hb:=X1 hb|replace hb:=Vf hb|replace hb:=Vg hb))<;>(try (exfalso;omega)))))
       all_goals first|exact ⟨k+1,⟨by omega,by rw [List.take_succ_eq_append_getElem hlt,List.all_append,hall];simp [hp]⟩,by omega,Xg (by repeat (first|exact Xm|refine Xh rfl ?_)) (List.Sublist.refl _)⟩|(exfalso;simp_all;done)
   · have hk9:k=s.length:=by omega
     subst hk9
     rw [List.take_length] at hall
     (repeat' (first|refine Xf ?_|refine Xb ?_|refine Xd ?_|(apply Xk;exact Ybv;exact rfl)|refine Xz ?_|refine Wy ?_|(refine Xo rfl (fun hb=>?_) (fun hb=>?_)<;>(repeat (first|replace hb:=X0 hb|replace hb:=X1 hb))<;>(try (exfalso;omega)))))
     all_goals (refine ⟨.inr rfl,Vk rfl (.tmp rfl) (List.nil_sublist _) ⟨congrArg exB ?_,rfl⟩⟩)
     all_goals (rw [Xb4] at h3;unfold Xe8;simp [*])
 · have hn:Xe8 s=false:=by
     cases e:Xe8 s
     · rfl
     · rw [Xh4] at e
       simp only [Bool.and_eq_true,decide_eq_true_eq] at e
       exact absurd ⟨e.1,e.2.1,e.2.2.1⟩ h0
   rw [hn]
   by_cases e0:s=[]
   · subst e0
     (repeat' (first|refine Xf ?_|refine Xb ?_|refine Xd ?_|(apply Xk;(first|exact Xe rfl|exact Xj rfl|exact Wk (b:=true) rfl (fun _=>rfl) (fun e=>by cases e)|(apply V1;exact Xav rfl rfl));exact rfl)|(refine Ve rfl rfl rfl rfl rfl ?_)|refine Xz ?_|refine Xx rfl ?_))
     all_goals exact ⟨.inr rfl,Vk rfl (.tmp rfl) (List.nil_sublist _) ⟨rfl,rfl⟩⟩
   · have h1:1≤s.length:=by
       rcases s with _|⟨c,t⟩
       · exact absurd rfl e0
       · simp
     by_cases h32:s.length≤32
     · have hc: ¬Ul (s[0]'Yan)=2:=fun e=>h0 ⟨h1,h32,by rw [List.getElem?_eq_getElem Yan];exact e⟩
       (repeat' (first|refine Xf ?_|refine Xb ?_|refine Xd ?_|(apply Xk;exact Ycs;exact rfl)|(refine Ve rfl rfl rfl rfl rfl ?_)|(apply Vh;exact rfl;exact rfl;exact rfl;exact Yee;exact rfl)|refine Xz ?_|refine Xx rfl ?_|(apply Vt;exact rfl;exact rfl;exact rfl;exact rfl;(apply Xn;(refine X9 Tryz.func46 rfl (Sq _) rfl ?_;rintro _ _ ⟨rfl,rfl⟩)))|(refine W0 rfl rfl (fun hb=>?_) (fun hb=>?_)<;>(repeat (first|replace hb:=X0 hb|replace hb:=X1 hb))<;>(try (exfalso;omega)))|(refine Xo rfl (fun hb=>?_) (fun hb=>?_)<;>(repeat (first|replace hb:=X0 hb|replace hb:=X1 hb|replace hb:=Vf hb|replace hb:=Vg hb))<;>(try (exfalso;omega)))))
       all_goals first|exact ⟨.inr rfl,Vk rfl (.tmp rfl) (List.nil_sublist _) ⟨rfl,rfl⟩⟩|(exfalso;first|omega|(simp_all;done))
     · (repeat' (first|refine Xf ?_|refine Xb ?_|refine Xd ?_|(apply Xk;exact Ycs;exact rfl)|(refine Ve rfl rfl rfl rfl rfl ?_)|(apply Vh;exact rfl;exact rfl;exact rfl;exact Yd1;exact rfl)|refine Xz ?_|refine Xx rfl ?_|(refine W0 rfl rfl (fun hb=>?_) (fun hb=>?_)<;>(repeat (first|replace hb:=X0 hb|replace hb:=X1 hb))<;>(try (exfalso;omega)))))
       all_goals first|exact ⟨.inr rfl,Vk rfl (.tmp rfl) (List.nil_sublist _) ⟨rfl,rfl⟩⟩|(exfalso;first|omega|(simp_all;done))
end Go.Proofs.YthdldeenpgeemaaGreatDoor
namespace Go.Fr
open Go.RowKit Go.Kx
structure Crit where
 name:List UInt8
 low:Int
 high:Int
 step:Int
 how:Int
 trim:Int
 rev:Bool
instance:DecidableEq Crit:=fun a b=>decidable_of_iff (a.name=b.name∧a.low=b.low∧a.high=b.high∧a.step=b.step∧a.how=b.how∧a.trim=b.trim∧a.rev=b.rev) Ydj
structure ItemD where
 name:List UInt8
 value:Int
 most:Int
instance:DecidableEq ItemD:=fun a b=>decidable_of_iff (a.name=b.name∧a.value=b.value∧a.most=b.most) Ydj
structure KeyD where
 kind:Int
 name:List UInt8
 n:Int
instance:DecidableEq KeyD:=fun a b=>decidable_of_iff (a.kind=b.kind∧a.name=b.name∧a.n=b.n) Ydj
structure TieD where
 name:List UInt8
 keys:List KeyD
instance:DecidableEq TieD:=fun a b=>decidable_of_iff (a.name=b.name∧a.keys=b.keys) Ydj
inductive Ex where
 | mk (kind:Int) (name:List UInt8) (n d:Int) (l:List Ex)
namespace Ex
def kind:Ex→Int|mk k _ _ _ _=>k
def name:Ex→List UInt8|mk _ s _ _ _=>s
def n:Ex→Int|mk _ _ n _ _=>n
def d:Ex→Int|mk _ _ _ d _=>d
def l:Ex→List Ex|mk _ _ _ _ l=>l
mutual
def beq:Ex→Ex→Bool
 | mk k s n d l,mk k' s' n' d' l'=>decide (k=k')&&(decide (s=s')&&(decide (n=n')&&(decide (d=d')&&beqs l l')))
def beqs:List Ex→List Ex→Bool
 | [],[]=>true
 | x::xs,y::ys=>beq x y&&beqs xs ys
 | _,_=>false
end
mutual
theorem beq_iff: ∀a b:Ex,beq a b=true↔a=b
 | mk k s n d l,mk k' s' n' d' l'=>by
   simp only [beq,Bool.and_eq_true,decide_eq_true_eq,beqs_iff l l',mk.injEq]
theorem beqs_iff: ∀a b:List Ex,beqs a b=true↔a=b
 | [],[]=>by simp [beqs]
 | [],y::ys=>by simp [beqs]
 | x::xs,[]=>by simp [beqs]
 | x::xs,y::ys=>by simp only [beqs,Bool.and_eq_true,beq_iff x y,beqs_iff xs ys,List.cons.injEq]
end
instance:DecidableEq Ex:=fun a b=>if h:beq a b=true then isTrue ((beq_iff a b).1 h) else isFalse fun e=>h ((beq_iff a b).2 e)
theorem ext_iff' (a b:Ex):a=b↔a.kind=b.kind∧a.name=b.name∧a.n=b.n∧a.d=b.d∧a.l=b.l:=by
 cases a;cases b;simp [kind,name,n,d,l]
end Ex
structure RoundD where
 name:List UInt8
 panel:Int
 quota:Int
 cut:Int
 places:Bool
 free:Bool
 score:Ex
 tie:List UInt8
 tieNo:Int
instance:DecidableEq RoundD:=fun a b=>decidable_of_iff (a.name=b.name∧a.panel=b.panel∧a.quota=b.quota∧a.cut=b.cut∧a.places=b.places∧a.free=b.free∧a.score=b.score∧a.tie=b.tie∧a.tieNo=b.tieNo) Ydj
structure RulesD where
 name:List UInt8
 crits:List Crit
 bonus:List ItemD
 malus:List ItemD
 ties:List TieD
 rounds:List RoundD
 prizes:List Int
 points:List Int
 best:Int
instance:DecidableEq RulesD:=fun a b=>decidable_of_iff (a.name=b.name∧a.crits=b.crits∧a.bonus=b.bonus∧a.malus=b.malus∧a.ties=b.ties∧a.rounds=b.rounds∧a.prizes=b.prizes∧a.points=b.points∧a.best=b.best) Ydj
def noSP:SP:=⟨fun _ _ _=>False,fun h _=>h⟩
instance:Sc noSP:=⟨fun _ _ _ h=>h.elim⟩
def critV (c:Crit):List SP:=[exT c.name,exI .i64 c.low,exI .i64 c.high,exI .i64 c.step,exI .i64 c.how,exI .i64 c.trim,exB c.rev]
instance {c:Crit}:Scs (critV c):=by unfold critV;infer_instance
instance:LenS critV 7:=⟨fun _=>rfl⟩
abbrev eCrit:Enc Crit:=Xh0 critV 7 64
def itemV (c:ItemD):List SP:=[exT c.name,exI .i64 c.value,exI .i64 c.most]
instance {c:ItemD}:Scs (itemV c):=by unfold itemV;infer_instance
instance:LenS itemV 3:=⟨fun _=>rfl⟩
abbrev eItem:Enc ItemD:=Xh0 itemV 3 32
def keyV (c:KeyD):List SP:=[exI .i64 c.kind,exT c.name,exI .i64 c.n]
instance {c:KeyD}:Scs (keyV c):=by unfold keyV;infer_instance
instance:LenS keyV 3:=⟨fun _=>rfl⟩
abbrev eKey:Enc KeyD:=Xh0 keyV 3 32
def tieV (c:TieD):List SP:=[exT c.name,isl eKey c.keys]
instance {c:TieD}:Scs (tieV c):=by unfold tieV;infer_instance
instance:LenS tieV 2:=⟨fun _=>rfl⟩
abbrev eTie:Enc TieD:=Xh0 tieV 2 40
def exL:Nat→List Ex→SP
 | 0,_=>noSP
 | k+1,l=>isl (Xh0 (fun a:Ex=>[exI .i64 a.kind,exT a.name,exI .i64 a.n,exI .i64 a.d,exL k a.l]) 5 64) l
def exV (k:Nat) (a:Ex):List SP:=[exI .i64 a.kind,exT a.name,exI .i64 a.n,exI .i64 a.d,exL k a.l]
instance {k:Nat}:LenS (exV k) 5:=⟨fun _=>rfl⟩
abbrev eEx (k:Nat):Enc Ex:=Xh0 (exV k) 5 64
instance {k:Nat} {l:List Ex}:Sc (exL k l):=by
 cases k with
 | zero=>exact inferInstanceAs (Sc noSP)
 | succ k=>exact inferInstanceAs (Sc (isl (eEx k) l))
instance {k:Nat} {c:Ex}:Scs (exV k c):=by unfold exV;infer_instance
def W3 (k:Nat) (y:RoundD):List SP:=[exT y.name,exI .i64 y.panel,exI .i64 y.quota,exI .i64 y.cut,exB y.places,exB y.free,exI .i64 y.score.kind,exT y.score.name,exI .i64 y.score.n,exI .i64 y.score.d,exL k y.score.l,exT y.tie,exI .i64 y.tieNo]
instance {k:Nat} {c:RoundD}:Scs (W3 k c):=by unfold W3;infer_instance
instance {k:Nat}:LenS (W3 k) 13:=⟨fun _=>rfl⟩
abbrev Vy (k:Nat):Enc RoundD:=Xh0 (W3 k) 13 136
def Vc (k:Nat) (r:RulesD):List SP:=[exT r.name,isl eCrit r.crits,isl eItem r.bonus,isl eItem r.malus,isl eTie r.ties,isl (Vy k) r.rounds,isl eI r.prizes,isl eI r.points,exI .i64 r.best]
instance {k:Nat} {c:RulesD}:Scs (Vc k c):=by unfold Vc;infer_instance
theorem Xrh {α:Type} {fs gs:α→List SP} {sz bt:Nat} {l:List α} (h: ∀a F w cs,CellsR F w (fs a) cs→CellsR F w (gs a) cs):Im (isl (Xh0 fs sz bt) l) (isl (Xh0 gs sz bt) l):=by
 rintro F w v ⟨a,n,c,rfl,hs⟩
 refine ⟨a,n,c,rfl,hs.length,hs.cap,hs.capMax,hs.bytes,hs.nil,fun i hi=>?_⟩
 obtain ⟨b,off,cs,h1,h2,h3,h4,h5,h6⟩:=hs.elem i hi
 exact ⟨b,off,cs,h1,h2,h3,h4,h5,h6.1,h _ _ _ _ h6.2⟩
theorem exL_mono: ∀(k:Nat) (l:List Ex),Im (exL k l) (exL (k+1) l)
 | 0,_=>fun _ _ _ h=>h.elim
 | k+1,l=>Xrh fun a F w cs h=>by
   have hi:Ims [exI .i64 a.kind,exT a.name,exI .i64 a.n,exI .i64 a.d,exL k a.l] [exI .i64 a.kind,exT a.name,exI .i64 a.n,exI .i64 a.d,exL (k+1) a.l]:=
     .cons (Im.refl _) (.cons (Im.refl _) (.cons (Im.refl _) (.cons (Im.refl _) (.cons (exL_mono k a.l) .nil))))
   exact hi.cells h
end Go.Fr
namespace Go.Fr
open Go.RowKit Go.Kx
namespace Ex
mutual
def tot:Ex→Nat
 | mk _ _ _ _ l=>1+tots l
def tots:List Ex→Nat
 | []=>0
 | x::xs=>tot x+tots xs
end
mutual
def depth:Ex→Nat
 | mk _ _ _ _ l=>depths l+1
def depths:List Ex→Nat
 | []=>0
 | x::xs=>max (depth x) (depths xs)
end
mutual
def partsN:Ex→Nat→Nat
 | mk _ _ _ _ l,m=>partsL l m 1
def partsL:List Ex→Nat→Nat→Nat
 | [],_,n=>n
 | x::xs,m,n=>if n≤m then partsL xs m (n+partsN x (m-n)) else n
end
mutual
def sizeN:Ex→Nat→Nat×Nat
 | mk _ _ _ _ l,p=>if 256<p+1 then (p+1,0) else ((sizesN l (p+1) 0).1,(sizesN l (p+1) 0).2+1)
def sizesN:List Ex→Nat→Nat→Nat×Nat
 | [],p,d=>(p,d)
 | x::xs,p,d=>sizesN xs (sizeN x p).1 (max d (sizeN x p).2)
end
theorem Xmk (x:Ex):1≤x.tot:=by cases x;simp [tot]
theorem tot_l (x:Ex):x.tot=1+tots x.l:=by cases x;rfl
theorem Xqg (x:Ex):x.depth=depths x.l+1:=by cases x;rfl
theorem partsN_l (x:Ex) (m:Nat):x.partsN m=partsL x.l m 1:=by cases x;rfl
theorem sizeN_l (x:Ex) (p:Nat):x.sizeN p=if 256<p+1 then (p+1,0) else ((sizesN x.l (p+1) 0).1,(sizesN x.l (p+1) 0).2+1):=by cases x;rfl
theorem partsL_big: ∀(l:List Ex) (m n:Nat),m<n→partsL l m n=n
 | [],_,_,_=>rfl
 | x::xs,m,n,h=>by rw [partsL,if_neg Yan]
mutual
theorem partsN_spec: ∀(x:Ex) (m:Nat),(x.partsN m≤m+1)∧(x.tot≤m→x.partsN m=x.tot)∧(m<x.tot→m<x.partsN m)
 | mk _ _ _ _ l,m=>by
   have h:=partsL_spec l m 1
   simp only [partsN,tot]
   rcases Nat.eq_zero_or_pos m with h0|h0
   · subst h0
     rw [partsL_big l 0 1 Yan]
     omega
   · obtain ⟨h1,h2,h3⟩:=h Yan
     exact ⟨h1,h2,h3⟩
theorem partsL_spec: ∀(l:List Ex) (m n:Nat),n≤m+1→(partsL l m n≤m+1)∧(n+tots l≤m→partsL l m n=n+tots l)∧(m<n+tots l→m<partsL l m n)
 | [],m,n,h=>by simp only [partsL,tots];omega
 | x::xs,m,n,h=>by
   simp only [partsL,tots]
   have hp:=Xmk x
   split
   · rename_i hn
     obtain ⟨h1,h2,h3⟩:=partsN_spec x (m-n)
     obtain ⟨h4,h5,h6⟩:=partsL_spec xs m (n+x.partsN (m-n)) Yan
     refine ⟨h4,fun hx=>?_,fun hx=>?_⟩
     · have e:=h2 Yan
       rw [e] at h5 ⊢
       rw [h5 Yan];omega
     · by_cases hc:x.tot≤m-n
       · have e:=h2 hc
         rw [e] at h6 ⊢
         exact h6 Yan
       · have e:=h3 Yan
         exact h6 Yan
   · omega
end
mutual
theorem sizeN_spec: ∀(x:Ex) (p:Nat),(p<(x.sizeN p).1)∧((x.sizeN p).1≤p+x.tot)∧(p+x.tot≤256→x.sizeN p=(p+x.tot,x.depth))∧(256<p+x.tot→256<(x.sizeN p).1)
 | mk _ _ _ _ l,p=>by
   simp only [sizeN,tot,depth]
   split
   · refine ⟨by omega,by show p+1≤_;omega,fun h=>by omega,fun _=>by show 256<p+1;omega⟩
   · obtain ⟨h1,h2,h3,h4⟩:=sizesN_spec l (p+1) 0
     refine ⟨by show p<(sizesN l (p+1) 0).1;omega,by show (sizesN l (p+1) 0).1≤_;omega,fun h=>?_,fun h=>?_⟩
     · rw [h3 Yan];simp;omega
     · exact h4 Yan
theorem sizesN_spec: ∀(l:List Ex) (p d:Nat),(p≤(sizesN l p d).1)∧((sizesN l p d).1≤p+tots l)∧(p+tots l≤256→sizesN l p d=(p+tots l,max d (depths l)))∧(256<p+tots l→256<(sizesN l p d).1)
 | [],p,d=>by simp [sizesN,tots,depths]
 | x::xs,p,d=>by
   simp only [sizesN,tots,depths]
   obtain ⟨h1,h2,h3,h4⟩:=sizeN_spec x p
   obtain ⟨h5,h6,h7,h8⟩:=sizesN_spec xs (x.sizeN p).1 (max d (x.sizeN p).2)
   refine ⟨by omega,by omega,fun h=>?_,fun h=>?_⟩
   · have e:=h3 Yan
     rw [e] at h7 ⊢
     rw [h7 (by show p+x.tot+tots xs≤256;omega)]
     simp only [Prod.mk.injEq]
     exact ⟨by omega,by rw [Nat.max_assoc]⟩
   · by_cases hc:256<p+x.tot
     · have:=h4 hc;omega
     · have e:=h3 Yan
       rw [e] at h8 ⊢
       exact h8 (by show 256<p+x.tot+tots xs;omega)
end
theorem tots_drop {l:List Ex} {k:Nat} (h:k<l.length):tots (l.drop k)=l[k].tot+tots (l.drop (k+1)):=by
 rw [List.drop_eq_getElem_cons h,tots]
theorem partsL_drop {l:List Ex} {k m n:Nat} (h:k<l.length):partsL (l.drop k) m n=if n≤m then partsL (l.drop (k+1)) m (n+l[k].partsN (m-n)) else n:=by
 rw [List.drop_eq_getElem_cons h,partsL]
theorem sizesN_drop {l:List Ex} {k p d:Nat} (h:k<l.length):sizesN (l.drop k) p d=sizesN (l.drop (k+1)) (l[k].sizeN p).1 (max d (l[k].sizeN p).2):=by
 rw [List.drop_eq_getElem_cons h,sizesN]
theorem depth_le_tot:(∀x:Ex,x.depth≤x.tot):=by
 intro x
 have key: ∀n (x:Ex),x.tot≤n→x.depth≤x.tot:=by
   intro n
   induction n with
   | zero=>intro x h;have:=Xmk x;omega
   | succ n ih=>
     intro x h
     rw [Xqg,tot_l]
     rw [tot_l] at h
     have: ∀l:List Ex,tots l≤n→depths l≤tots l:=by
       intro l
       induction l with
       | nil=>intro _;simp [depths]
       | cons y ys ihl=>
         intro h
         simp only [tots] at h
         have h1:=ih y Yan
         have h2:=ihl Yan
         simp only [depths,tots];omega
     have:=this x.l Yan
     omega
 exact key _ x (Nat.le_refl _)
end Ex
theorem Wu {C:Cx} {env env':Env} {loc loc':List Ent} (n:Nat) (he: ∀t q,look t env'=some q→look t env=some q) (hs:loc.drop n=loc'):Leads C env loc env' loc':=Xg he (hs ▸ List.drop_sublist n loc)
theorem Uy {α:Type} {C:Cx} {c:Code} {Q:Post} {env:Env} {loc:List Ent} (I:α→Env×List Ent) (ok:α→Prop) (h:WP C c (cutP C I ok Q) env loc) (k: ∀z,ok z→Q .normal (I z).1 (I z).2):WP C c Q env loc:=by
 constructor
 intro F a w hR
 refine Code.wp_mono ?_ (h.out F a w hR)
 rintro e a' w' ⟨F',env',loc',hR',hq⟩
 cases e with
 | normal=>
   obtain ⟨z,hz,hl⟩:=hq
   obtain ⟨F2,hR2⟩:=hl F' a' w' hR'
   exact ⟨F2,_,_,hR2,k z hz⟩
 | _=>exact ⟨F',env',loc',hR',hq⟩
theorem Xja {C:Cx} {ops:Array Oper} {Q:Post} {l:List Oper} {env:Env} {loc:List Ent} {k T sz n:Nat} {v:Value} {ps:List SP} (he:loc[k]?=some (vec v T sz n ps)) (hn:0<n) (h: ∀b c,v= .slice (some ⟨b,0,none⟩) n c→WPL C ops Q l env loc):WPL C ops Q l env loc:=⟨fun F a w hR=>by obtain ⟨b,c,hv,_,_⟩:=Xfp hR he hn;exact (h b c hv).out F a w hR⟩
theorem Tc {C:Cx} {env env':Env} {loc loc':List Ent} (T sz:Nat) (h:Leads C env (vec (.slice none 0 0) T sz 0 []::loc) env' loc'):Leads C env loc env' loc':=(Ro (T:=T) (sz:=sz)).leads.trans h
theorem Sm {x:Ex}:Says (agg (exV 0 x)) False:=Ui (i:=4) (p:=noSP) rfl ⟨fun h=>h⟩
end Go.Fr
namespace Go.Fr
open Go.RowKit Go.Kx
theorem Xa4 {α:Type} {fs:α→List SP} {s:Nat} (h0: ∀a,(fs a).length=s): ∀(l:List α) (i:Nat) (hi:i<l.length),(l.flatMap fs).drop (i * s)=fs l[i]++(l.drop (i+1)).flatMap fs
 | x::xs,0,_=>by simp
 | x::xs,i+1,hi=>by
   rw [List.flatMap_cons,show (i+1) * s=(fs x).length+i * s by rw [h0,Nat.succ_mul,Nat.add_comm],←List.drop_drop,List.drop_left]
   rw [Xa4 h0 xs i Ydt]
   simp
theorem Xgj {α:Type} {fs:α→List SP} {s:Nat} (h0: ∀a,(fs a).length=s) (l:List α) (i:Nat) (hi:i<l.length):((l.flatMap fs).drop (i * s)).take s=fs l[i]:=by
 rw [Xa4 h0 l i hi,List.take_append_of_le_length (by rw [h0];omega),List.take_of_length_le (by rw [h0];omega)]
theorem Xc3 {α:Type} {fs:α→List SP} {s:Nat} (h0: ∀a,(fs a).length=s): ∀(l:List α) (i:Nat),(l.flatMap fs).take (i * s)=(l.take i).flatMap fs
 | [],i=>by simp
 | x::xs,0=>by simp
 | x::xs,i+1=>by
   rw [List.flatMap_cons,show (i+1) * s=(fs x).length+i * s by rw [h0,Nat.succ_mul,Nat.add_comm],List.take_length_add_append,Xc3 h0 xs i]
   simp
theorem Xgk {α:Type} {fs:α→List SP} {s:Nat} (h0: ∀a,(fs a).length=s) (l:List α) (i:Nat) (hi:i<l.length) (x:α):Xbf (l.flatMap fs) (i * s) (fs x)=(l.set i x).flatMap fs:=by
 unfold Xbf
 have e1:i * s+(fs x).length=(i+1) * s:=by rw [h0,Nat.succ_mul]
 have e2:(l.flatMap fs).drop ((i+1) * s)=(l.drop (i+1)).flatMap fs:=by
   rw [Nat.succ_mul,←List.drop_drop,Xa4 h0 l i hi,←h0 l[i],List.drop_left]
 rw [e1,e2,Xc3 h0,List.set_eq_take_append_cons_drop,if_pos hi]
 simp [List.append_assoc]
section
variable {C:Cx} {H:Nat→Prop} {l0:List Ent} {env:Env} {loc:List Ent} {d:Nat} {dst:Option Tmp} {ty:TypeId} {pos:String} {af:Array Edge} {g:Option (Nat×Bool)} {K:Env→List Ent→Prop}
theorem Xjb {α:Type} {fs:α→List SP} {l:List α} {t:TypeId} {x:Operand} {k b i sz T tot:Nat} {dd:TypeDesc} {bt:Nat} {z:Value} (hx:ev env x=some (ex (.pointer (some ⟨b,0+i * sz,none⟩)))) (he:loc[k]?=some (row b T tot (l.flatMap fs))) (hu:C.P.underlying t=some dd) [hl:LenS fs sz] [hT:TI C.P t sz bt z] (hi:i<l.length:=by first|assumption|omega|(simp;omega)) (hH:H b:=by first|trivial|exact W7 (k:=0) rfl|exact W7 (k:=1) rfl|exact W7 (k:=2) rfl|exact W7 (k:=3) rfl|exact W7 (k:=4) rfl|exact W7 (k:=5) rfl|exact W7 (k:=6) rfl|exact W7 (k:=7) rfl) (hd:Desc.aggB dd=true:=by rfl):
   WT C (Xca H) ⟨dst,.load t x,ty,pos,af,g⟩ (agg (fs (l[i]'hi))) env loc:=by
 have h1:Nat.ble (0+i * sz+sz) (l.flatMap fs).length=true:=by
   rw [Nat.ble_eq,Ud hl.len,Nat.zero_add]
   have:(i+1) * sz≤l.length * sz:=Nat.mul_le_mul_right _ hi
   rw [Nat.succ_mul] at this;exact this
 have h:=Xfn (C:=C) (H:=H) (dst:=dst) (ty:=ty) (pos:=pos) (af:=af) (g:=g) hx he hu (hT:=hT) hH hd h1
 rw [Nat.zero_add,Xgj hl.len l i hi] at h
 exact h
theorem Xc4 {α:Type} {fs:α→List SP} {l:List α} {v:α} {t:TypeId} {x y:Operand} {k b i sz T tot bt:Nat} {z:Value} (hx:ev env x=some (ex (.pointer (some ⟨b,0+i * sz,none⟩)))) (he:loc[k]?=some (row b T tot (l.flatMap fs))) (hy:ev env y=some (agg (fs v))) [hl:LenS fs sz] [hs:Scs (fs v)] [hT:TI C.P t sz bt z] (hk:K env (loc.set k (row b T tot ((l.set i v).flatMap fs)))) (hi:i<l.length:=by first|assumption|omega|(simp;omega)) (hH:l0.Sublist (loc.eraseIdx k):=by exact List.nil_sublist _):WO C (U6 l0) ⟨none,.store t x y,ty,pos,af,g⟩ K env loc:=by
 have hT':TI C.P t (fs v).length bt z:=by rw [hl.len];exact hT
 refine Xq (k:=k) hx hy he (hT:=hT') (hc:=Xnq) (hs:=hs) ?_ ?_ hH
 · rw [Nat.zero_add,Xgk hl.len l i hi];exact hk
 · rw [hl.len,Ud hl.len,Nat.zero_add]
   have:(i+1) * sz≤l.length * sz:=Nat.mul_le_mul_right _ hi
   rw [Nat.succ_mul] at this;exact this
theorem Xjc {t:TypeId} {x:Operand} {b:Nat} {p:SP} {ps:List SP} {dd:TypeDesc} (hx:ev env x=some (fpx b (p::ps))) (hu:C.P.underlying t=some dd) (hd:Desc.aggB dd=false:=by rfl):WT C (Xca H) ⟨dst,.load t x,ty,pos,af,g⟩ p env loc:=by
 constructor
 intro F a w hR
 obtain ⟨hv,h1,h2,h3⟩:=X8 hR hx
 obtain ⟨u,h4,h5⟩:=h3 0 p rfl
 exact ⟨u,h5,fun w' hs=>Qs hv hu hd ((World.cell?_of_block (w:=w) (hs b h2 (.inl h1))).trans h4)⟩
end
theorem Xc5 {C:Cx} {F:Nat→Prop} {env:Env} {loc:List Ent} {a:Act} {w:World} (hR:Rel C F env loc a w) {k T sz n:Nat} {v:Value} {ps:List SP} (he:loc[k]?=some (vec v T sz n ps)): ∃oa c,v= .slice oa n c:=by
 obtain ⟨xs,h1,_⟩:=hR.good.rel _ (List.mem_append_left _ (List.mem_of_getElem? he))
 rcases h1.2 with ⟨h2,h3⟩|⟨g,cap,cur,h2,_⟩
 · subst h3;exact ⟨none,0,h2⟩
 · exact ⟨_,_,h2⟩
theorem Xml {C:Cx} {ops:Array Oper} {Q:Post} {l:List Oper} {env:Env} {loc:List Ent} {k T sz n:Nat} {v:Value} {ps:List SP} (he:loc[k]?=some (vec v T sz n ps)) (h: ∀oa c,v= .slice oa n c→WPL C ops Q l env loc):WPL C ops Q l env loc:=⟨fun F a w hR=>by obtain ⟨b,c,hv⟩:=Xc5 hR he;exact (h b c hv).out F a w hR⟩
theorem Vi {C:Cx} {env env':Env} {loc loc':List Ent} {k b T tot sz n c:Nat} {ps:List SP} (he:loc[k]?=some (row b T tot ps)) (ht:tot=c * sz) (hn:ps.length=n * sz) (h0:0<sz) (hc:c≤maxLen) (h:Leads C env (loc.set k (vec (.slice (some ⟨b,0,none⟩) n c) T sz n ps)) env' loc'):Leads C env loc env' loc':=(Sn he ht hn h0 hc).leads.trans h
end Go.Fr
namespace Go.Fr
open Go.RowKit Go.Kx
theorem Rel.frz {C:Cx} {F:Nat→Prop} {env:Env} {loc:List Ent} {a:Act} {w:World} {k:Nat} {e:Ent} (hR:Rel C F env loc a w) (he:loc[k]?=some e):Rel C (fun j=>F j∨j∈e.foot) env (loc.eraseIdx k) a w:=by
 have hmem:e∈loc++C.out:=List.mem_append_left _ (List.mem_of_getElem? he)
 have hm: ∀j,F j→j<w.heap.size→(F j∨j∈e.foot)∧w.heap[j]?=w.heap[j]?:=fun j hj _=>⟨.inl hj,rfl⟩
 have hG:=hR.good.perm ((S1 he).append_right C.out)
 have hdis: ∀e2∈loc.eraseIdx k++C.out,∀b∈e2.foot,b∉e.foot:=by
   intro e2 h2 b hb hb2
   have hd:=hG.disj
   rw [List.cons_append] at hd
   exact (List.pairwise_cons.1 hd).1 e2 h2 b hb2 hb
 have hsub: ∀e2∈loc.eraseIdx k++C.out,e2∈loc++C.out:=fun e2 h=>by
   rcases List.mem_append.1 h with h|h
   · exact List.mem_append_left _ (List.mem_of_mem_eraseIdx h)
   · exact List.mem_append_right _ h
 refine ⟨⟨fun e2 h2=>e2.mono (hR.good.rel e2 (hsub e2 h2)) hm fun _ _=>rfl,fun e2 h2 j hj=>⟨(hR.good.lt e2 (hsub e2 h2) j hj).1,?_⟩,?_⟩,fun t' q' hq=>q'.mono (hR.env t' q' hq) hm,hR.size,hR.defers,hR.ch,fun e2 h2=>hR.own e2 (List.mem_of_mem_eraseIdx h2),fun j hj hlt=> .inl (hR.grow j hj hlt)⟩
 · rintro (h|h)
   · exact (hR.good.lt e2 (hsub e2 h2) j hj).2 h
   · exact hdis e2 h2 j hj h
 · have:=hG.disj
   rw [List.cons_append] at this
   exact (List.pairwise_cons.1 this).2
theorem Xe9 {C:Cx} {env:Env} {loc:List Ent} {j k i b T tot:Nat} {e:Ent} {ps:List SP} {p0 p:SP} (hj:loc[j]?=some e) (hk:(loc.eraseIdx j)[k]?=some (row b T tot ps)) (hi:ps[i]?=some p0)
   (hc: ∀F w v,e.rel F w→(∀b∈e.foot,b<w.heap.size)→p0.rel F w v→p.rel (fun j=>F j∨j∈e.foot) w v):Leads C env loc env ((loc.eraseIdx j).set k (row b T tot (ps.set i p))):=by
 intro F a w hR
 have hR2:=hR.frz hj
 have hmem:e∈loc++C.out:=List.mem_append_left _ (List.mem_of_getElem? hj)
 have hmem2:row b T tot ps∈loc++C.out:=List.mem_append_left _ (List.mem_of_mem_eraseIdx (List.mem_of_getElem? hk))
 refine ⟨_,hR2.turn hk (fun _ h=>h) ?_⟩
 obtain ⟨cur,h1,h2,h3⟩:=hR.good.rel _ hmem2
 refine ⟨cur,h1,h2,fun n q hq=>?_⟩
 by_cases hn:n=i
 · subst hn
   have hlt:n<ps.length:=(List.getElem?_eq_some_iff.1 hi).1
   rw [List.getElem?_set_self hlt] at hq
   cases hq
   obtain ⟨v,h4,h5⟩:=h3 n p0 hi
   exact ⟨v,h4,hc F w v (hR.good.rel e hmem) (fun b hb=>(hR.good.lt e hmem b hb).1) h5⟩
 · rw [List.getElem?_set_ne (Ne.symm hn)] at hq
   obtain ⟨v,h4,h5⟩:=h3 n q hq
   exact ⟨v,h4,q.mono h5 fun j hj _=>⟨.inl hj,rfl⟩⟩
theorem Xaa {κ:Type} [DecidableEq κ] [MK κ] {C:Cx} {env:Env} {loc:List Ent} {j k i b bm T tot:Nat} {m:List (κ×SP)} {ps:List SP} (hj:loc[j]?=some (Re bm m)) (hk:(loc.eraseIdx j)[k]?=some (row b T tot ps)) (hi:ps[i]?=some (ex (.map (some bm)))):Leads C env loc env ((loc.eraseIdx j).set k (row b T tot (ps.set i (U0 m)))):=by
 refine Xe9 hj hk hi ?_
 rintro F w v h hlt hv
 exact ⟨bm,hv,.inr (by simp [Re]),hlt bm (by simp [Re]),h.mono (fun j hj _=>⟨.inl hj,rfl⟩) rfl⟩
theorem Wt {C:Cx} {H:Nat→Prop} {n0:Nat} {ops:Array Oper} {Q:Post} {fuel:Nat} {listed:Array Bool} {env:Env} {loc:List Ent} {k T sz n:Nat} {v:Value} {ps:List SP} (he:loc[k]?=some (vec v T sz n ps)) (h: ∀oa c,v= .slice oa n c→WPY C H n0 ops Q fuel listed env loc):WPY C H n0 ops Q fuel listed env loc:=⟨fun F a w hR=>by obtain ⟨oa,c,hv⟩:=Xc5 hR he;exact (h oa c hv).out F a w hR⟩
end Go.Fr
namespace Go.Fr
open Go.RowKit Go.Kx
theorem Xa5 {ps:List SP} {off:Nat} {p:SP} (h:off<ps.length):Xbf ps off [p]=ps.set off p:=by
 unfold Xbf
 rw [List.set_eq_take_append_cons_drop,if_pos h]
 simp
theorem Xa6 {α:Type} {fs:α→List SP} {s:Nat} (h0: ∀a,(fs a).length=s): ∀(l:List α) (i:Nat) (hi:i<l.length) (j:Nat) (_:j<s) (p:SP) (x:α) (_:(fs l[i]).set j p=fs x),(l.flatMap fs).set (i * s+j) p=(l.set i x).flatMap fs
 | y::ys,0,_,j,hj,p,x,hx=>by
   simp only [Nat.zero_mul,Nat.zero_add,List.flatMap_cons,List.set_cons_zero]
   rw [List.set_append_left _ _ Yd5]
   rw [show (fs y).set j p=fs x from hx]
 | y::ys,i+1,hi,j,hj,p,x,hx=>by
   simp only [List.flatMap_cons,List.set_cons_succ]
   rw [List.set_append_right _ _ (by rw [h0,Nat.succ_mul];omega),h0,show (i+1) * s+j-s=i * s+j by rw [Nat.succ_mul];omega]
   rw [Xa6 h0 ys i Ydt j hj p x (by simpa using hx)]
section
variable {C:Cx} {H:Nat→Prop} {l0:List Ent} {env:Env} {loc:List Ent} {d:Nat} {dst:Option Tmp} {ty:TypeId} {pos:String} {af:Array Edge} {g:Option (Nat×Bool)} {K:Env→List Ent→Prop}
theorem Uu {t:TypeId} {x y:Operand} {k b off T tot:Nat} {ps:List SP} {p:SP} {bt:Nat} {z:Value} (hx:ev env x=some (ex (.pointer (some ⟨b,off,none⟩)))) (hy:ev env y=some p) (he:loc[k]?=some (row b T tot ps)) [hs:Sc p] [hT:TI C.P t 1 bt z] (hk:K env (loc.set k (row b T tot (ps.set off p)))) (ho:off<ps.length:=by first|assumption|omega) (hH:l0.Sublist (loc.eraseIdx k):=by exact List.nil_sublist _):WO C (U6 l0) ⟨none,.store t x y,ty,pos,af,g⟩ K env loc:=by
 refine Xq (k:=k) (qs:=[p]) hx hy he (hc:=AsC_one) (hs:=inferInstance) (hT:=hT) ?_ ?_ hH
 · rw [Xa5 ho];exact hk
 · exact ho
end
end Go.Fr
namespace Go.Fr
open Go.RowKit Go.Kx
theorem Ims.get {ps qs:List SP} (h:Ims ps qs): ∀{i:Nat} {q:SP},qs[i]?=some q→ ∃p,ps[i]?=some p∧Im p q:=by
 induction h with
 | nil=>intro i q hq;simp at hq
 | cons h _ ih=>
   intro i q hq
   cases i with
   | zero=>simp at hq;subst hq;exact ⟨_,rfl,h⟩
   | succ i=>exact ih (by simpa using hq)
theorem Tz {C:Cx} {env:Env} {loc:List Ent} {k b T tot:Nat} {ps qs:List SP} (he:loc[k]?=some (row b T tot ps)) (h:Ims ps qs):Leads C env loc env (loc.set k (row b T tot qs)):=
 (Qc (e':=row b T tot qs) he (fun _ hx=>hx) (by
   rintro F w ⟨cur,h1,h2,h3⟩
   refine ⟨cur,h1,h2,fun i q hq=>?_⟩
   obtain ⟨p,hp,hi⟩:=h.get hq
   obtain ⟨v,hv,hr⟩:=h3 i p hp
   exact ⟨v,hv,hi _ _ _ hr⟩)).leads
theorem Xc6 {C:Cx} {env:Env} {loc:List Ent} {ops:Array Oper} {Q:Post} {ol:List Oper} {k b T n c t tot:Nat} {ps:List SP} {α:Type} {E:Enc α} {fs:α→List SP} (l:List α) (ht:look t env=some (ex (.slice (some ⟨b,0,none⟩) n c))) (he:loc[k]?=some (row b T tot ps)) [hE:Fits E fs] (hps:Ims ps (l.flatMap fs)) (hn:l.length=n) (h:WPL C ops Q ol ((t,isl E l)::env) (loc.eraseIdx k)) (htot:tot=c * E.size:=by first|rfl|omega) (hc:c≤maxLen:=by first|assumption|omega|(simp only [maxLen];omega)) (hf0: ∀a,(fs a).length=E.size:=by exact fun _=>rfl) (hpos:0<E.size:=by first|decide|exact Yd7) (hby:n * E.bytes≤140737488355328:=by first|omega|(simp only [eSl,eByte];omega)):WPL C ops Q ol env loc:=by
 refine Xbg (Tz he hps) ?_
 have hk:k<loc.length:=(List.getElem?_eq_some_iff.1 he).1
 refine Wj (k:=k) (E:=E) (fs:=fs) (c:=c) l ht (List.getElem?_set_self hk) rfl hn ?_ htot hc hf0 hpos hby
 have e:(loc.set k (row b T tot (l.flatMap fs))).eraseIdx k=loc.eraseIdx k:=by
   rw [List.eraseIdx_set_eq]
 rw [e];exact h
theorem Xy (d:Nat) {C:Cx} {ops:Array Oper} {Q:Post} {op:Op} {ty:TypeId} {pos:String} {af:Array Edge} {g:Option (Nat×Bool)} {rest:List Oper} {env:Env} {loc:List Ent} (h:WPL C ops Q (⟨some d,op,ty,pos,af,g⟩::rest) env loc):WPL C ops Q (⟨some d,op,ty,pos,af,g⟩::rest) env loc:=h
end Go.Fr
namespace Go.Fr
open Go.RowKit Go.Kx
def Xsp (f:Fn) (ps:List SP):SP where
 rel F w u:= ∃vs:List Value,u= .func f #[] vs.toArray∧CellsR F w ps vs
 mono:=fun ⟨vs,h1,h2⟩ hk=>⟨vs,h1,h2.mono hk⟩
instance {f:Fn} {ps:List SP}:Sc (Xsp f ps):=⟨by rintro F w v ⟨vs,rfl,_⟩;rfl⟩
inductive CapUp (env:Env):List SP→List SP→Prop
 | nil:CapUp env [] []
 | keep {p:SP} {ps qs:List SP} (h:CapUp env ps qs):CapUp env (p::ps) (p::qs)
 | slot {v:Value} {q:SP} {ps qs:List SP} (t:Nat) (ht:Fr.look t env=some q) (hq: ∀F w u,q.rel F w u→u=v) (h:CapUp env ps qs):CapUp env (ex v::ps) (q::qs)
section
variable {C:Cx} {S:(Nat→Prop)→World→World→Prop} {H:Nat→Prop} {l0:List Ent} {env:Env} {loc:List Ent} {d:Nat} {dst:Option Tmp} {ty:TypeId} {pos:String} {af:Array Edge} {g:Option (Nat×Bool)} {K:Env→List Ent→Prop}
theorem CapUp.cells {F:Nat→Prop} {a:Act} {w:World} (hR:Rel C F env loc a w): ∀{ps qs:List SP} {vs:List Value},CapUp env ps qs→CellsR F w ps vs→CellsR F w qs vs
 | _,_,vs,.nil,h=>h
 | _,_,vs,.keep (p:=p) (ps:=ps) (qs:=qs) k,h=>by
   have hl:vs.length=ps.length+1:=h.len
   match vs,hl with
   | v::vs,hl=>
     obtain ⟨u,h1,h2⟩:=h.at_ 0 p rfl
     cases h1
     have ht:CellsR F w ps vs:=⟨by simpa using hl,fun i q hq=>h.at_ (i+1) q hq⟩
     exact .cons h2 (k.cells hR ht)
 | _,_,vs,.slot (v:=v0) (q:=q) (ps:=ps) (qs:=qs) t ht hq k,h=>by
   have hl:vs.length=ps.length+1:=h.len
   match vs,hl with
   | v::vs,hl=>
     obtain ⟨u,h1,h2⟩:=h.at_ 0 (ex v0) rfl
     have hv:v=v0:=by
       have e:v=u:=by simpa using h1
       rw [e];exact h2
     have ht':CellsR F w ps vs:=⟨by simpa using hl,fun i q hq=>h.at_ (i+1) q hq⟩
     have h3:=hR.env t q ht
     have h4:=hq _ _ _ h3
     rw [h4,←hv] at h3
     exact .cons h3 (k.cells hR ht')
end
end Go.Fr
