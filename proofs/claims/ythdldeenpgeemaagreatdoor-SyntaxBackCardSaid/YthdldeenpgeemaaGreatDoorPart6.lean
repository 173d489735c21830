/- podiumref03.Lex. -/
import Derived.Test.YthdldeenpgeemaaGreatDoorPart5
import Derived.Test.YthdldeenpgeemaaGreatDoorPart4
import Derived.Test.YthdldeenpgeemaaGreatDoorPart3
namespace Go.Proofs.YthdldeenpgeemaaGreatDoor
open Go Go.RowKit Go.Kx Go.Fr Go.Lx
def lexV (z : List TokD × Int × Int) : SP := tup [isl eTok z.1, exI .i64 z.2.1, exI .i64 z.2.2]
end Go.Proofs.YthdldeenpgeemaaGreatDoor
namespace Go.Fr
open Go.RowKit Go.Kx
section
variable {C : Cx} {S : (Nat → Prop) → World → World → Prop} {env : Env} {loc : List Ent} {dst : Option Tmp} {ty : TypeId} {pos : String} {af : Array Edge} {g : Option (Nat × Bool)}
theorem WT_buildA {t e m : TypeId} {parts : Array (Nat × Operand)} {pq : List (Nat × List SP)} {sz bt sze bte : Nat} {z ze : Value} {qs : List SP} (ht : C.P.underlying t = some (.array m e)) [hT : TI C.P t sz bt z] [hE : TI C.P e sze bte ze] (hp : PartsO env (fun i => some (i * sze, sze)) parts.toList pq) (hq : Nf (fillC (z.cells.toList.map ex) pq) qs := by simp only [fillC, putC, Value.cells, List.foldl_cons, List.foldl_nil, List.map_cons, List.map_nil, List.length_cons, List.length_nil, Nat.zero_add, Nat.reduceAdd, Nat.reduceMul, Nat.mul_one, List.take_succ_cons, List.take_zero, List.drop_succ_cons, List.drop_zero, List.nil_append, List.cons_append, List.drop_nil, List.take_nil, List.set_cons_zero, List.set_cons_succ]; exact ⟨rfl⟩) (hle : pq.all (fun x => Nat.ble (x.1 + x.2.length) z.cells.size) = true := by rfl) :
   WT C S ⟨dst, .build t parts, ty, pos, af, g⟩ (agg qs) env loc := by
 constructor
 intro F a w hR
 obtain ⟨ti, hi, _, _, hz⟩ := hT.out
 obtain ⟨te, hie, hse, _, _⟩ := hE.out
 obtain ⟨r, h1, h2⟩ := fill_rel (hp.vals hR) (ex_cells z.cells) (fun x hx => by
   have := List.all_eq_true.1 hle x hx
   simpa using Nat.le_of_ble_eq_true this)
 rw [hq.h]
 refine ⟨.agg r, ⟨r.toList, by simp, h2⟩, fun w' _ => ?_⟩
 have hb : C.P.built t (parts.map fun x => (x.1, a.eval x.2)).toList = some r := by
   simp only [Program.built, hi, ht, hz, hie, hse]
   rw [Array.toList_map]; exact h1
 have := run_build (P := C.P) w' t (parts.map fun x => (x.1, a.eval x.2)) r hb
 generalize a.eval = ρ at this ⊢
 simp only [execOp, Sem.run_bind, this]
 rfl
theorem ba_app (p q : List UInt8) : (⟨p.toArray⟩ : ByteArray) ++ ⟨q.toArray⟩ = ⟨(p ++ q).toArray⟩ := by
 apply ByteArray.ext
 rw [ByteArray.data_append]
 simp
theorem WT_catT {x y : Operand} {t u : TypeId} {p q : List UInt8} (hx : ev env x = some (exT p)) (hy : ev env y = some (exT q)) (hl : p.length + q.length ≤ 9223372036854775807 := by first | omega | (simp; omega)) : WT C S ⟨dst, .binOp .add t x y u, ty, pos, af, g⟩ (exT (p ++ q)) env loc := by
 unfold exT
 rw [← ba_app p q]
 exact WT_cat hx hy (by show p.toArray.size + q.toArray.size ≤ _; simpa using hl)
end
end Go.Fr
namespace Go.Fr
theorem at_regionD (id : Nat) {C : Cx} {ops : Array Oper} {dr : Bool} {y : Code} {T : Exit → Act → World → Prop} {env : Env} {loc : List Ent} (h : WPR C (.seq (.region id ops dr) y) T env loc) : WPR C (.seq (.region id ops dr) y) T env loc := h
end Go.Fr
namespace Go.Proofs.YthdldeenpgeemaaGreatDoor
open Go Go.RowKit Go.Kx Go.Fr Go.Lx
set_option maxHeartbeats 4000000 in
set_option maxRecDepth 100000 in
theorem lex3_any (s : List UInt8) : FnC Tryz.prog 17 [exT s] [Lab] (fun p loc => p = lexV (lexA s) ∧ loc = []) := by
 generalize hz : lexA s = z
 unfold lexV
 unfold lexA at hz
 by_cases hmx : 65536 < s.length
 · rw [if_pos hmx] at hz
   subst hz
   refine FnC_enterD Tryz.func17 rfl Tryz.ntmps17 rfl fun w0 F0 out => ?_
   (repeat' (first | refine WPR_seq ?_ | refine Za7 ?_ | refine Za1 ?_ | refine Za3 ?_ | (apply Za8; (first | exact Za2 rfl | (apply Zai; exact Zcu rfl rfl) | (apply Zba; exact Zcr rfl rfl)); exact rfl) | refine Zb2 ?_ | (apply Zac; exact rfl; first | (apply Zbs; refine Zbh ?_; intro _) | (apply Zaz; first | refine Zao (k := 0) (l0 := []) rfl rfl rfl ?_ | refine Zao (k := 1) (l0 := []) rfl rfl rfl ?_ | refine Zao (k := 2) (l0 := []) rfl rfl rfl ?_)) | (refine Zag rfl (fun hb => ?_) (fun hb => ?_) <;> (repeat (first | replace hb := Zas hb | replace hb := Zat hb)) <;> (try (exfalso; omega)))))
   all_goals (try (exfalso; omega))
   refine raw_retD0 rfl ⟨.inr rfl, retw (loc' := []) (ret3 rfl (.cell1 (k := 2) rfl rfl rfl rfl rfl) (.cell1 (k := 1) rfl rfl rfl rfl rfl) (.cell1 (k := 0) rfl rfl rfl rfl rfl) (List.nil_sublist _) ⟨rfl, rfl⟩) ?_ ⟨rfl, rfl⟩⟩
   exact Ims.tup (.cons Im.nil (.cons (Im.refl _) (.cons (Im.refl _) .nil)))
 rw [if_neg hmx] at hz
 have hmax : s.length ≤ 65536 := by omega
 refine FnC_enterD Tryz.func17 rfl Tryz.ntmps17 rfl fun w0 F0 out => ?_
 (repeat' (first | (apply at_regionD 3; refine Stop.out ?_) | refine WPR_seq ?_ | refine Za7 ?_ | refine Za1 ?_ | refine Za3 ?_ | (apply Za8; (first | exact Za2 rfl | (apply Zai; exact Zcu rfl rfl) | (apply Zba; exact Zcr rfl rfl)); exact rfl) | refine Zan ?_ | (apply Zac; exact rfl; (apply Zbs; refine Zbh ?_; intro _)) | (refine Zag rfl (fun hb => ?_) (fun hb => ?_) <;> (repeat (first | replace hb := Zas hb | replace hb := Zat hb)) <;> (try (exfalso; omega)))))
 all_goals (try (exfalso; omega))
 rename_i b2 b3 b4
 refine ⟨?_⟩
 refine WPR_region ?_
 refine WPLR_t (WT_mkfunc (vs := [.pointer (some ⟨b2, 0, none⟩), .pointer (some ⟨b3, 0, none⟩), .pointer (some ⟨b4, 0, none⟩)]) rfl) rfl ?_
 refine WPLR_deferF rfl ?_ rfl
 refine WPR_of ?_
 (repeat' (first | refine Za7 ?_ | refine Za1 ?_ | refine Za3 ?_ | (apply Za8; (first | exact Za2 rfl | exact Za5 rfl | (apply Zam; exact Zad rfl rfl rfl) | (apply Zcz; first | exact Zcg rfl rfl (by repeat (first | exact PartsO.nil | (apply PartsO.cons; exact rfl; exact inferInstance; exact rfl; exact rfl))) | exact WT_buildA rfl (by repeat (first | exact PartsO.nil | (apply PartsO.cons; exact rfl; exact inferInstance; exact rfl; exact rfl))))); exact rfl) | refine Zak ?_ | (apply Zac; exact rfl; first | (apply Zdv; refine Zdn rfl ?_; intro _) | (apply Zbs; refine Zbh ?_; intro _) | (apply Zaz; refine Zao (k := 0) (l0 := []) rfl rfl rfl ?_))))
 rename_i b5 b6
 refine Zck (fun x : Nat × Option Addr × Nat × List TokD => ([(0, exT s), (2, ex (.pointer (some ⟨b2, 0, none⟩))), (3, ex (.pointer (some ⟨b3, 0, none⟩))), (4, ex (.pointer (some ⟨b4, 0, none⟩))), (5, ex (.pointer (some ⟨b5, 0, none⟩))), (6, ex (.pointer (some ⟨b6, 0, none⟩)))], [row b6 90 3 [exT s, exI .i64 (x.1 : Int), ex (.slice x.2.1 x.2.2.2.length x.2.2.1)], vec (.slice x.2.1 x.2.2.2.length x.2.2.1) 40 4 x.2.2.2.length (x.2.2.2.flatMap tokV), row b5 87 6 [ex (.func (.func 41) #[] #[]), ex (.func (.func 42) #[] #[]), ex (.func (.func 43) #[] #[]), ex (.func (.func 44) #[] #[]), ex (.func (.func 45) #[] #[]), ex (.func (.func 41) #[] #[])], row b4 30 1 [exI .i64 0], row b3 3 1 [exI .i64 0], row b2 41 1 [ex (.slice none 0 0)], Lab])) (fun x => x.1 ≤ s.length ∧ x.2.2.2.length ≤ x.1 ∧ lexF 0 s = (lexF x.1 (s.drop x.1)).map (x.2.2.2 ++ ·)) (fun x => s.length - x.1) (0, none, 0, []) ?_ ⟨Nat.zero_le _, Nat.le_refl _, ?_⟩ fun x hx => ?_
 · refine Leads.trans (LeadsS_vec_nil (T := 40) (sz := 4)).leads ?_
   refine Leads.trans (Leads_perm (.swap _ _ _)) ?_
   exact Zaa (by repeat (first | exact Zaj | refine Zae rfl ?_)) (List.Sublist.refl _)
 · show lexF 0 s = (lexF 0 s).map ([] ++ ·)
   cases lexF 0 s <;> rfl
 obtain ⟨i, oa, c, acc⟩ := x
 obtain ⟨hi, hacc, hinv⟩ := hx
 simp only at hi hacc hinv ⊢
 have hpanic : ∀ {env : Env}, lexF i (s.drop i) = .error i → Fr.look 2 env = some (ex (.pointer (some ⟨b2, 0, none⟩))) → Fr.look 3 env = some (ex (.pointer (some ⟨b3, 0, none⟩))) → Fr.look 4 env = some (ex (.pointer (some ⟨b4, 0, none⟩))) → ∀ e2 : Ent, rawP (Cx.withD ⟨Tryz.prog, w0, F0, footX [Lab], out, 39, []⟩ ⟨.fn (.func 40) #[.pointer (some ⟨b2, 0, none⟩), .pointer (some ⟨b3, 0, none⟩), .pointer (some ⟨b4, 0, none⟩)], #[]⟩) (retD ⟨Tryz.prog, w0, F0, footX [Lab], out, 39, []⟩ Tryz.f17 fun p loc => p = tup [isl eTok z.1, exI .i64 z.2.1, exI .i64 z.2.2] ∧ loc = []) (.panic [{ v := .iface 83 (.int .i64 (i : Int)), recovered := false }]) env ([e2, row b4 30 1 [exI .i64 0], row b3 3 1 [exI .i64 0], row b2 41 1 [ex (.slice none 0 0)], Lab]) := by
   intro env he g2 g3 g4 e2
   rw [he] at hinv
   rw [show lexF 0 s = .error i from hinv] at hz
   subst hz
   refine raw_D (vs := [.pointer (some ⟨b2, 0, none⟩), .pointer (some ⟨b3, 0, none⟩), .pointer (some ⟨b4, 0, none⟩)]) rfl rfl (.one 3 rfl (.one 2 rfl (.one 1 rfl .nil))) Tryz.func40 rfl rfl (lex1_panic b2 b3 b4 _ _ _ i) (.ex (.ex (.ex .nil))) ?_
   rintro u' loc' ⟨rfl, rfl⟩
   refine ⟨rfl, .inr rfl, retw (loc' := []) (ret3 rfl (.cell1 (k := 0) g2 rfl rfl rfl rfl) (.cell1 (k := 1) g3 rfl rfl rfl rfl) (.cell1 (k := 2) g4 rfl rfl rfl rfl) (List.nil_sublist _) ⟨rfl, rfl⟩) ?_ ⟨rfl, rfl⟩⟩
   exact Ims.tup (.cons Im.nil (.cons (Im.refl _) (.cons (Im.refl _) .nil)))
 have hpanicv : ∀ {env : Env}, lexF i (s.drop i) = .error i → Fr.look 2 env = some (ex (.pointer (some ⟨b2, 0, none⟩))) → Fr.look 3 env = some (ex (.pointer (some ⟨b3, 0, none⟩))) → Fr.look 4 env = some (ex (.pointer (some ⟨b4, 0, none⟩))) → ∀ e1 e2 : Ent, rawP (Cx.withD ⟨Tryz.prog, w0, F0, footX [Lab], out, 39, []⟩ ⟨.fn (.func 40) #[.pointer (some ⟨b2, 0, none⟩), .pointer (some ⟨b3, 0, none⟩), .pointer (some ⟨b4, 0, none⟩)], #[]⟩) (retD ⟨Tryz.prog, w0, F0, footX [Lab], out, 39, []⟩ Tryz.f17 fun p loc => p = tup [isl eTok z.1, exI .i64 z.2.1, exI .i64 z.2.2] ∧ loc = []) (.panic [{ v := .iface 83 (.int .i64 (i : Int)), recovered := false }]) env (e1 :: [e2, row b4 30 1 [exI .i64 0], row b3 3 1 [exI .i64 0], row b2 41 1 [ex (.slice none 0 0)], Lab]) := by
   intro env he g2 g3 g4 e1 e2 F a w hR
   obtain ⟨F', hR'⟩ := Leads_drop (C := Cx.withD ⟨Tryz.prog, w0, F0, footX [Lab], out, 39, []⟩ ⟨.fn (.func 40) #[.pointer (some ⟨b2, 0, none⟩), .pointer (some ⟨b3, 0, none⟩), .pointer (some ⟨b4, 0, none⟩)], #[]⟩) (env := env) (List.sublist_cons_self e1 _) F a w hR
   exact hpanic he g2 g3 g4 e2 F' a w hR'
 by_cases hlt : i < s.length
 · have hcs := class_any s[i]
   have hcf := classF_eq s[i]
   generalize classF s[i] = cf at hcs hcf
   by_cases h1 : letterB s[i] = true
   · rw [if_pos h1] at hcf
     subst hcf
     have hst := name3_any b6 i s oa c acc hlt hmax hacc h1
     unfold scanL at hst
     (repeat' (first | (apply Zaq 34; refine WPL_callvP (vs := []) (args := [ex (.pointer (some ⟨b6, 0, none⟩))]) rfl .nil (.one 0 rfl (.one 0 rfl .nil)) Tryz.func43 rfl hst rfl ?_ ?_) | refine Za7 ?_ | refine Za1 ?_ | refine Za3 ?_ | (apply Za8; (first | exact Za2 rfl | (apply Za9; first | exact Zah (k := 0) rfl rfl rfl rfl | exact Zah (k := 2) rfl rfl rfl rfl) | (apply Zam; exact Zad rfl rfl rfl) | (apply Zai; exact Zbg rfl rfl) | (apply Zb3; exact WT_indexa rfl rfl rfl) | (apply Zba; exact Zcr rfl rfl) | (apply g_idxt; exact WT_idxt rfl rfl rfl) | (apply Zbi; exact Zb9 rfl)); exact rfl) | refine Zak ?_ | refine Zan ?_ | (apply Zac; exact rfl; (apply Zaf; (refine Zbl Tryz.func46 rfl hcs rfl ?_; rintro _ _ ⟨rfl, rfl⟩))) | (refine Zag rfl (fun hb => ?_) (fun hb => ?_) <;> (repeat (first | replace hb := Zas hb | replace hb := Zat hb)) <;> (try (exfalso; omega)))))
     all_goals (try (exfalso; first | contradiction | omega))
     · (rintro p loc ⟨n, oa2, c2, acc2, rfl, g1, g2, g3, g4⟩; (repeat' (refine Za3 ?_)); exact ⟨(i + n, oa2, c2, acc2), ⟨g2, by show acc2.length ≤ i + n; omega, hinv.trans g4⟩, by show s.length - (i + n) < s.length - i; omega, Zaa (by repeat (first | exact Zaj | refine Zae rfl ?_)) (List.Sublist.refl _)⟩)
     · rintro ch loc ⟨e1, rfl, rfl⟩
       refine hpanic e1 ?_ ?_ ?_ _ <;> rfl
   rw [if_neg h1] at hcf
   by_cases h2 : digitB s[i] = true
   · rw [if_pos h2] at hcf
     subst hcf
     have hst := number3_any b6 i s oa c acc hlt hmax hacc h2
     unfold scanL at hst
     (repeat' (first | (apply Zaq 34; refine WPL_callvP (vs := []) (args := [ex (.pointer (some ⟨b6, 0, none⟩))]) rfl .nil (.one 0 rfl (.one 0 rfl (.dup 4 rfl rfl .nil))) Tryz.func44 rfl hst rfl ?_ ?_) | refine Za7 ?_ | refine Za1 ?_ | refine Za3 ?_ | (apply Za8; (first | exact Za2 rfl | (apply Za9; first | exact Zah (k := 0) rfl rfl rfl rfl | exact Zah (k := 2) rfl rfl rfl rfl) | (apply Zam; exact Zad rfl rfl rfl) | (apply Zai; exact Zbg rfl rfl) | (apply Zb3; exact WT_indexa rfl rfl rfl) | (apply Zba; exact Zcr rfl rfl) | (apply g_idxt; exact WT_idxt rfl rfl rfl) | (apply Zbi; exact Zb9 rfl)); exact rfl) | refine Zak ?_ | refine Zan ?_ | (apply Zac; exact rfl; (apply Zaf; (refine Zbl Tryz.func46 rfl hcs rfl ?_; rintro _ _ ⟨rfl, rfl⟩))) | (refine Zag rfl (fun hb => ?_) (fun hb => ?_) <;> (repeat (first | replace hb := Zas hb | replace hb := Zat hb)) <;> (try (exfalso; omega)))))
     all_goals (try (exfalso; first | contradiction | omega))
     · (rintro p loc ⟨n, oa2, c2, acc2, rfl, g1, g2, g3, g4⟩; (repeat' (refine Za3 ?_)); exact ⟨(i + n, oa2, c2, acc2), ⟨g2, by show acc2.length ≤ i + n; omega, hinv.trans g4⟩, by show s.length - (i + n) < s.length - i; omega, Zaa (by repeat (first | exact Zaj | refine Zae rfl ?_)) (List.Sublist.refl _)⟩)
     · rintro ch loc ⟨e1, rfl, rfl⟩
       refine hpanic e1 ?_ ?_ ?_ _ <;> rfl
   rw [if_neg h2] at hcf
   by_cases h5 : s[i] = 95
   · rw [if_pos h5] at hcf
     subst hcf
     have hst := wrong3_any b6 i s (ex (.slice oa acc.length c))
     (repeat' (first | (apply Zaq 34; refine WPL_callvP (vs := []) (args := [ex (.pointer (some ⟨b6, 0, none⟩))]) rfl .nil (.one 0 rfl .nil) Tryz.func41 rfl hst rfl ?_ ?_) | refine Za7 ?_ | refine Za1 ?_ | refine Za3 ?_ | (apply Za8; (first | exact Za2 rfl | (apply Za9; first | exact Zah (k := 0) rfl rfl rfl rfl | exact Zah (k := 2) rfl rfl rfl rfl) | (apply Zam; exact Zad rfl rfl rfl) | (apply Zai; exact Zbg rfl rfl) | (apply Zb3; exact WT_indexa rfl rfl rfl) | (apply Zba; exact Zcr rfl rfl) | (apply g_idxt; exact WT_idxt rfl rfl rfl) | (apply Zbi; exact Zb9 rfl)); exact rfl) | refine Zak ?_ | refine Zan ?_ | (apply Zac; exact rfl; (apply Zaf; (refine Zbl Tryz.func46 rfl hcs rfl ?_; rintro _ _ ⟨rfl, rfl⟩))) | (refine Zag rfl (fun hb => ?_) (fun hb => ?_) <;> (repeat (first | replace hb := Zas hb | replace hb := Zat hb)) <;> (try (exfalso; omega)))))
     all_goals (try (exfalso; first | contradiction | omega))
     · rintro p loc hF; exact hF.elim
     · rintro ch loc ⟨rfl, rfl⟩
       refine hpanicv (at_wrong hlt (by rw [h5]; decide) (by rw [h5]; decide) (by rw [h5]; decide) (by rw [h5]; decide)) ?_ ?_ ?_ _ _ <;> rfl
   rw [if_neg h5] at hcf
   by_cases h3 : spaceB s[i] = true
   · rw [if_pos h3] at hcf
     subst hcf
     have hst := space3_any b6 i s oa c acc hlt hmax h3
     unfold scanL at hst
     (repeat' (first | (apply Zaq 34; refine WPL_callvP (vs := []) (args := [ex (.pointer (some ⟨b6, 0, none⟩))]) rfl .nil (.one 0 rfl (.one 0 rfl .nil)) Tryz.func42 rfl hst rfl ?_ ?_) | refine Za7 ?_ | refine Za1 ?_ | refine Za3 ?_ | (apply Za8; (first | exact Za2 rfl | (apply Za9; first | exact Zah (k := 0) rfl rfl rfl rfl | exact Zah (k := 2) rfl rfl rfl rfl) | (apply Zam; exact Zad rfl rfl rfl) | (apply Zai; exact Zbg rfl rfl) | (apply Zb3; exact WT_indexa rfl rfl rfl) | (apply Zba; exact Zcr rfl rfl) | (apply g_idxt; exact WT_idxt rfl rfl rfl) | (apply Zbi; exact Zb9 rfl)); exact rfl) | refine Zak ?_ | refine Zan ?_ | (apply Zac; exact rfl; (apply Zaf; (refine Zbl Tryz.func46 rfl hcs rfl ?_; rintro _ _ ⟨rfl, rfl⟩))) | (refine Zag rfl (fun hb => ?_) (fun hb => ?_) <;> (repeat (first | replace hb := Zas hb | replace hb := Zat hb)) <;> (try (exfalso; omega)))))
     all_goals (try (exfalso; first | contradiction | omega))
     · (rintro p loc ⟨n, oa2, c2, acc2, rfl, g1, g2, g3, g4⟩; (repeat' (refine Za3 ?_)); exact ⟨(i + n, oa2, c2, acc2), ⟨g2, by show acc2.length ≤ i + n; omega, hinv.trans g4⟩, by show s.length - (i + n) < s.length - i; omega, Zaa (by repeat (first | exact Zaj | refine Zae rfl ?_)) (List.Sublist.refl _)⟩)
     · rintro ch loc ⟨e1, rfl, rfl⟩
       refine hpanic e1 ?_ ?_ ?_ _ <;> rfl
   rw [if_neg h3] at hcf
   by_cases h4 : signB s[i] = true
   · rw [if_pos h4] at hcf
     subst hcf
     have hst := sign3_any b6 i s oa c acc hlt hmax hacc h4
     unfold scanL at hst
     (repeat' (first | (apply Zaq 34; refine WPL_callvP (vs := []) (args := [ex (.pointer (some ⟨b6, 0, none⟩))]) rfl .nil (.one 0 rfl (.one 0 rfl .nil)) Tryz.func45 rfl hst rfl ?_ ?_) | refine Za7 ?_ | refine Za1 ?_ | refine Za3 ?_ | (apply Za8; (first | exact Za2 rfl | (apply Za9; first | exact Zah (k := 0) rfl rfl rfl rfl | exact Zah (k := 2) rfl rfl rfl rfl) | (apply Zam; exact Zad rfl rfl rfl) | (apply Zai; exact Zbg rfl rfl) | (apply Zb3; exact WT_indexa rfl rfl rfl) | (apply Zba; exact Zcr rfl rfl) | (apply g_idxt; exact WT_idxt rfl rfl rfl) | (apply Zbi; exact Zb9 rfl)); exact rfl) | refine Zak ?_ | refine Zan ?_ | (apply Zac; exact rfl; (apply Zaf; (refine Zbl Tryz.func46 rfl hcs rfl ?_; rintro _ _ ⟨rfl, rfl⟩))) | (refine Zag rfl (fun hb => ?_) (fun hb => ?_) <;> (repeat (first | replace hb := Zas hb | replace hb := Zat hb)) <;> (try (exfalso; omega)))))
     all_goals (try (exfalso; first | contradiction | omega))
     · (rintro p loc ⟨n, oa2, c2, acc2, rfl, g1, g2, g3, g4⟩; (repeat' (refine Za3 ?_)); exact ⟨(i + n, oa2, c2, acc2), ⟨g2, by show acc2.length ≤ i + n; omega, hinv.trans g4⟩, by show s.length - (i + n) < s.length - i; omega, Zaa (by repeat (first | exact Zaj | refine Zae rfl ?_)) (List.Sublist.refl _)⟩)
     · rintro ch loc ⟨e1, rfl, rfl⟩
       refine hpanic e1 ?_ ?_ ?_ _ <;> rfl
   · rw [if_neg h4] at hcf
     subst hcf
     have hst := wrong3_any b6 i s (ex (.slice oa acc.length c))
     (repeat' (first | (apply Zaq 34; refine WPL_callvP (vs := []) (args := [ex (.pointer (some ⟨b6, 0, none⟩))]) rfl .nil (.one 0 rfl .nil) Tryz.func41 rfl hst rfl ?_ ?_) | refine Za7 ?_ | refine Za1 ?_ | refine Za3 ?_ | (apply Za8; (first | exact Za2 rfl | (apply Za9; first | exact Zah (k := 0) rfl rfl rfl rfl | exact Zah (k := 2) rfl rfl rfl rfl) | (apply Zam; exact Zad rfl rfl rfl) | (apply Zai; exact Zbg rfl rfl) | (apply Zb3; exact WT_indexa rfl rfl rfl) | (apply Zba; exact Zcr rfl rfl) | (apply g_idxt; exact WT_idxt rfl rfl rfl) | (apply Zbi; exact Zb9 rfl)); exact rfl) | refine Zak ?_ | refine Zan ?_ | (apply Zac; exact rfl; (apply Zaf; (refine Zbl Tryz.func46 rfl hcs rfl ?_; rintro _ _ ⟨rfl, rfl⟩))) | (refine Zag rfl (fun hb => ?_) (fun hb => ?_) <;> (repeat (first | replace hb := Zas hb | replace hb := Zat hb)) <;> (try (exfalso; omega)))))
     all_goals (try (exfalso; first | contradiction | omega))
     · rintro p loc hF; exact hF.elim
     · rintro ch loc ⟨rfl, rfl⟩
       refine hpanicv (at_wrong hlt (by simpa using h3) (by simpa using h1) (by simpa using h2) (by simpa using h4)) ?_ ?_ ?_ _ _ <;> rfl
 · rw [show i = s.length by omega, List.drop_length, lexF_nil] at hinv
   have hinv : lexF 0 s = .ok acc := by rw [hinv]; show Except.ok _ = Except.ok _; simp
   rw [hinv] at hz
   subst hz
   (repeat' (first | refine Za7 ?_ | refine Za1 ?_ | refine Za3 ?_ | (apply Za8; (first | exact Za2 rfl | (apply Za9; exact Zah (k := 0) rfl rfl rfl rfl) | (apply Zam; exact Zad rfl rfl rfl) | (apply Zai; exact Zbg rfl rfl) | (apply Zba; exact Zcr rfl rfl) | (apply Zbi; exact Zb9 rfl)); exact rfl) | refine Zb2 ?_ | refine Zcf ?_ | (apply Zac; exact rfl; (apply Zaz; first | refine Zao (k := 3) (l0 := []) rfl rfl rfl ?_ | refine Zao (k := 4) (l0 := []) rfl rfl rfl ?_ | refine Zao (k := 5) (l0 := []) rfl rfl rfl ?_)) | (refine Zag rfl (fun hb => ?_) (fun hb => ?_) <;> (repeat (first | replace hb := Zas hb | replace hb := Zat hb)) <;> (try (exfalso; omega)))))
   all_goals (try (exfalso; first | contradiction | omega))
   refine raw_D (vs := [.pointer (some ⟨b2, 0, none⟩), .pointer (some ⟨b3, 0, none⟩), .pointer (some ⟨b4, 0, none⟩)]) rfl rfl (.one 5 rfl (.one 4 rfl (.one 3 rfl .nil))) Tryz.func40 rfl rfl (lex1_idle b2 b3 b4 (ex (.slice oa acc.length c)) (exI .i64 0) (exI .i64 0)) (.ex (.ex (.ex .nil))) ?_
   rintro u' loc' ⟨rfl, rfl⟩
   refine ⟨rfl, retP_leads (Leads_fcell (j := 4) (k := 0) (i := 0) (E := eTok) acc rfl rfl rfl rfl rfl rfl (hby := by show acc.length * 40 ≤ _; omega)) ?_⟩
   exact ⟨.inr rfl, ret3 rfl (.cell1 (k := 0) rfl rfl rfl rfl rfl) (.cell1 (k := 1) rfl rfl rfl rfl rfl) (.cell1 (k := 2) rfl rfl rfl rfl rfl) (List.nil_sublist _) ⟨rfl, rfl⟩⟩
end Go.Proofs.YthdldeenpgeemaaGreatDoor
namespace Go.Lx
end Go.Lx
namespace Go.Proofs.YthdldeenpgeemaaGreatDoor
open Go Go.RowKit Go.Kx Go.Fr Go.Lx
end Go.Proofs.YthdldeenpgeemaaGreatDoor
namespace Go.Lx
theorem decF_len : ∀ (k n : Nat), n < 10 ^ (k + 1) → (decF n).length ≤ k + 1
 | 0, n, h => by rw [decF_small (by simpa using h)]; exact Nat.le_refl _
 | k + 1, n, h => by
   by_cases h1 : n < 10
   · rw [decF_small h1]; exact Nat.succ_le_succ (Nat.zero_le _)
   · rw [decF_big h1, List.length_append]
     have := decF_len k (n / 10) (by rw [Nat.pow_succ] at h; omega)
     simp only [List.length_cons, List.length_nil]; omega
theorem word_len {t : TokD} (h : validB t = true) : (word t).length ≤ 32 := by
 unfold validB at h
 unfold word
 by_cases h1 : t.kind = 1
 · rw [if_pos h1] at h
   rw [if_neg (by omega)]
   unfold nameB at h
   simp only [Bool.and_eq_true, decide_eq_true_eq] at h
   exact h.1.1.2
 rw [if_neg h1] at h
 by_cases h2 : t.kind = 2
 · rw [if_pos h2] at h
   rw [if_pos h2]
   simp only [Bool.and_eq_true, decide_eq_true_eq] at h
   exact Nat.le_trans (decF_len 12 _ (by have := h.2; show _ < 10000000000000; omega)) (by decide)
 rw [if_neg h2] at h
 rw [if_neg h2]
 by_cases h3 : t.kind = 3
 · rw [if_pos h3] at h
   simp only [Bool.and_eq_true, decide_eq_true_eq] at h
   omega
 · rw [if_neg h3] at h; cases h
theorem joinF_len : ∀ (l : List (List UInt8)), (∀ w ∈ l, w.length ≤ 32) → (joinF l).length ≤ 33 * l.length
 | [], _ => Nat.zero_le _
 | [w], h => by have := h w (by simp); show w.length ≤ 33; omega
 | w :: v :: l, h => by
   rw [joinF_cons]
   have h1 := h w (by simp)
   have h2 := joinF_len (v :: l) fun x hx => h x (List.mem_cons_of_mem _ hx)
   simp only [List.length_append, List.length_cons] at h2 ⊢
   omega
theorem words_len {l : List TokD} (h : ∀ t ∈ l, validB t = true) : (joinF (l.map word)).length ≤ 33 * l.length := by
 have := joinF_len (l.map word) fun w hw => by
   obtain ⟨t, ht, rfl⟩ := List.mem_map.1 hw
   exact word_len (h t ht)
 rwa [List.length_map] at this
end Go.Lx
namespace Go.Proofs.YthdldeenpgeemaaGreatDoor
open Go Go.RowKit Go.Kx Go.Fr Go.Lx
end Go.Proofs.YthdldeenpgeemaaGreatDoor
namespace Go.Lx
theorem textA_no {l : List TokD} {i : Nat} (hi : i < l.length) (h : validB l[i] = false) : textA l = ([], 30) := by
 unfold textA
 rw [if_neg (fun e => by rw [List.all_eq_true.1 e l[i] (List.getElem_mem hi)] at h; cases h)]
theorem textA_yes {l : List TokD} (h : ∀ t ∈ l, validB t = true) : textA l = (joinF (l.map word), 0) := by
 unfold textA
 rw [if_pos (List.all_eq_true.2 h)]
theorem valid_num {t : TokD} (h : validB t = true) (h2 : t.kind = 2) : ((t.n.toNat : Nat) : Int) = t.n ∧ t.n.toNat ≤ 1099511627776 := by
 unfold validB at h
 rw [if_neg (by omega), if_pos h2] at h
 simp only [Bool.and_eq_true, decide_eq_true_eq] at h
 omega
theorem word_num {t : TokD} (h : t.kind = 2) : word t = decF t.n.toNat := by unfold word; rw [if_pos h]
theorem word_text {t : TokD} (h : ¬ t.kind = 2) : word t = t.text := by unfold word; rw [if_neg h]
theorem pre_succ {l : List TokD} {i : Nat} (hi : i < l.length) (hv : ∀ t ∈ l.take i, validB t = true) (h : validB l[i] = true) : ∀ t ∈ l.take (i + 1), validB t = true := fun t ht => by
 rw [List.take_succ_eq_append_getElem hi] at ht
 rcases List.mem_append.1 ht with ht | ht
 · exact hv t ht
 · rw [List.mem_singleton.1 ht]; exact h
end Go.Lx
namespace Go.Proofs.YthdldeenpgeemaaGreatDoor
open Go Go.RowKit Go.Kx Go.Fr Go.Lx
def textV (z : List UInt8 × Int) : SP := tup [exT z.1, exI .i64 z.2]
set_option maxHeartbeats 2000000 in
set_option maxRecDepth 100000 in
theorem text3_any (l : List TokD) : FnC Tryz.prog 19 [isl eTok l] [Lab] (fun p loc => p = textV (textA l) ∧ loc = []) := by
 refine Zc1 (i := 0) rfl Zc9 fun ha => ?_
 replace ha : l.length * 40 ≤ 140737488355328 := ha.2
 generalize hz : textA l = z
 unfold textV
 refine Zbr Tryz.func19 rfl Tryz.ntmps19 rfl fun w0 F0 out => ?_
 (repeat' (first | refine Za7 ?_ | refine Za1 ?_ | refine Za3 ?_ | (apply Za8; (first | exact Za2 rfl | exact Za5 rfl | (apply Zba; exact Zbq rfl rfl)); exact rfl) | refine Zak ?_ | (apply Zac; exact rfl; (apply g_make; refine WO_make rfl rfl rfl ?_; intro _))))
 rename_i b4
 refine Zck (fun x : Nat × List (List UInt8) => ([(4, ex (.slice (some ⟨b4, 0, none⟩) l.length l.length)), (10, isl eTok l), (11, exI .i64 (l.length : Int)), (12, exI .i64 (x.1 : Int))], [row b4 9 l.length (x.2.map exT), Lab])) (fun x => x.1 ≤ l.length ∧ x.2.length = l.length ∧ x.2.take x.1 = (l.take x.1).map word ∧ ∀ t ∈ l.take x.1, validB t = true) (fun x => l.length - x.1) (0, List.replicate l.length []) ?_ ⟨Nat.zero_le _, by simp, rfl, fun t h => by cases h⟩ fun x hi => ?_
 · simp only [List.map_replicate]
   exact Zaa (by repeat (first | exact Zaj | refine Zae rfl ?_)) (List.Sublist.refl _)
 obtain ⟨i, ws⟩ := x
 obtain ⟨hi, hwl, hws, hpre⟩ := hi
 simp only at hi hwl hws hpre ⊢
 by_cases hlt : i < l.length
 · have hvl := valid_any l[i]
   cases hv : validB l[i]
   · rw [hv] at hvl
     rw [textA_no hlt hv] at hz
     subst hz
     clear hpre hws
     (repeat' (first | refine Za7 ?_ | refine Za1 ?_ | refine Za3 ?_ | (apply Za8; (first | exact Za2 rfl | exact Za5 rfl | (apply Za9; first | exact Zb4 rfl rfl | exact Zbm (k := 0) rfl rfl rfl) | (apply Zai; exact Zbg rfl rfl) | (apply Zb3; exact Zb1 rfl rfl rfl) | (apply g_un; exact Zcy rfl)); exact rfl) | refine Zak ?_ | refine Zan ?_ | refine Zb2 ?_ | refine Zaw rfl ?_ | (apply Zac; exact rfl; first | (apply Zaf; (refine Zbl Tryz.func49 rfl hvl rfl ?_; rintro _ _ ⟨rfl, rfl⟩)) | (apply Zbs; refine Zbh ?_; intro _) | (apply Zaz; refine Zao (k := 0) (l0 := []) rfl rfl rfl ?_)) | (refine Zag rfl (fun hb => ?_) (fun hb => ?_) <;> (repeat (first | replace hb := Zas hb | replace hb := Zat hb)) <;> (try (exfalso; omega)))))
     all_goals (try (exfalso; first | contradiction | omega))
     all_goals exact ⟨.inr rfl, ret2 rfl (.tmp rfl) (.tmp rfl) (List.nil_sublist _) ⟨rfl, rfl⟩⟩
   · rw [hv] at hvl
     have hpre2 := pre_succ hlt hpre hv
     have hws2 : ∀ w, w = word l[i] → (ws.set i w).take (i + 1) = (l.take (i + 1)).map word := fun w e => by
       rw [List.take_succ_eq_append_getElem (by rw [List.length_set]; omega), List.take_set_of_le (Nat.le_refl _), List.getElem_set_self, hws, List.take_succ_eq_append_getElem hlt, List.map_append, e]; rfl
     clear hpre hws
     by_cases h2 : l[i].kind = 2
     · obtain ⟨hn1, hn2⟩ := valid_num hv h2
       have hito := itoa_any l[i].n.toNat (by omega)
       rw [hn1, ← word_num h2] at hito
       clear hn1
       have hput := putC_set exT ws i (word l[i]) (by omega)
       (repeat' (first | refine Za7 ?_ | refine Za1 ?_ | refine Za3 ?_ | (apply Za8; (first | exact Za2 rfl | exact Za5 rfl | (apply Za9; first | exact Zah (k := 0) rfl rfl rfl rfl | exact Zb4 rfl rfl | exact Zbm (k := 0) rfl rfl rfl) | (apply Zam; exact Zad rfl rfl rfl) | (apply Zai; first | exact Zbg rfl rfl | exact Zc4 rfl rfl | exact Zbz rfl rfl) | (apply Zb3; first | exact Zb1 rfl rfl rfl | exact WT_indexo rfl rfl rfl) | (apply g_un; exact Zcy rfl)); exact rfl) | refine Zak ?_ | refine Zan ?_ | refine Zb0 rfl ?_ | (apply Zac; exact rfl; first | (apply Zaf; first | (refine Zbl Tryz.func49 rfl hvl rfl ?_; rintro _ _ ⟨rfl, rfl⟩) | (refine Zab (.dup 2 rfl rfl .nil) Tryz.func50 rfl hito rfl ?_; rintro _ _ ⟨rfl, rfl⟩)) | (apply Zbs; refine Zbh ?_; intro _) | (apply Zaz; first | refine Zao (k := 0) (l0 := []) rfl rfl rfl ?_ | refine Zao (k := 1) (l0 := []) rfl rfl rfl ?_)) | (refine Zag rfl (fun hb => ?_) (fun hb => ?_) <;> (repeat (first | replace hb := Zas hb | replace hb := Zat hb)) <;> (try (exfalso; first | contradiction | omega)))))
       all_goals (try (exfalso; first | contradiction | omega))
       simp only [Nat.zero_add, Nat.mul_one, hput]
       exact ⟨(i + 1, ws.set i (word l[i])), ⟨by show i + 1 ≤ _; omega, by rw [List.length_set]; exact hwl, hws2 _ rfl, hpre2⟩, by show l.length - (i + 1) < l.length - i; omega, Zaa (by repeat (first | exact Zaj | refine Zae rfl ?_)) (by exact .cons _ (.refl _))⟩
     · rw [word_text h2] at hws2
       have hput := putC_set exT ws i l[i].text (by omega)
       (repeat' (first | refine Za7 ?_ | refine Za1 ?_ | refine Za3 ?_ | (apply Za8; (first | exact Za2 rfl | exact Za5 rfl | (apply Za9; first | exact Zah (k := 0) rfl rfl rfl rfl | exact Zb4 rfl rfl | exact Zbm (k := 0) rfl rfl rfl) | (apply Zam; exact Zad rfl rfl rfl) | (apply Zai; first | exact Zbg rfl rfl | exact Zc4 rfl rfl | exact Zbz rfl rfl) | (apply Zb3; first | exact Zb1 rfl rfl rfl | exact WT_indexo rfl rfl rfl) | (apply g_un; exact Zcy rfl)); exact rfl) | refine Zak ?_ | refine Zan ?_ | refine Zb0 rfl ?_ | (apply Zac; exact rfl; first | (apply Zaf; (refine Zbl Tryz.func49 rfl hvl rfl ?_; rintro _ _ ⟨rfl, rfl⟩)) | (apply Zbs; refine Zbh ?_; intro _) | (apply Zaz; first | refine Zao (k := 0) (l0 := []) rfl rfl rfl ?_ | refine Zao (k := 1) (l0 := []) rfl rfl rfl ?_)) | (refine Zag rfl (fun hb => ?_) (fun hb => ?_) <;> (repeat (first | replace hb := Zas hb | replace hb := Zat hb)) <;> (try (exfalso; first | contradiction | omega)))))
       all_goals (try (exfalso; first | contradiction | omega))
       simp only [Nat.zero_add, Nat.mul_one, hput]
       exact ⟨(i + 1, ws.set i l[i].text), ⟨by show i + 1 ≤ _; omega, by rw [List.length_set]; exact hwl, hws2 _ rfl, hpre2⟩, by show l.length - (i + 1) < l.length - i; omega, Zaa (by repeat (first | exact Zaj | refine Zae rfl ?_)) (by exact .cons _ (.refl _))⟩
 · rw [show i = l.length by omega, List.take_length, ← hwl, List.take_length] at hws
   rw [show i = l.length by omega, List.take_length] at hpre
   rw [textA_yes hpre] at hz
   subst hz
   have hjl := words_len hpre
   have hjoin := join_any (l.map word) (by rw [List.length_map]; omega) (by omega)
   subst hws
   clear hpre
   have hfl : ∀ x : List (List UInt8), x.map exT = x.flatMap strV := fun x => by
     induction x with
     | nil => rfl
     | cons a x ih => rw [List.map_cons, List.flatMap_cons, ih]; rfl
   (repeat' (first | (apply Zaq 38; refine Zbp (k := 0) (E := eStr) (t := 37) (l.map word) rfl rfl (hfl _) (List.length_map ..) ?_ (htot := (Nat.mul_one _).symm) (hc := by simp only [maxLen]; omega) (hby := by show l.length * 16 ≤ _; omega)) | refine Za7 ?_ | refine Za1 ?_ | refine Za3 ?_ | (apply Za8; (first | exact Za2 rfl | exact Za5 rfl | (apply Zai; exact Zbg rfl rfl)); exact rfl) | refine Zb2 ?_ | refine Zcf ?_ | (apply Zac; exact rfl; (apply Zaf; (refine Zbl Tryz.func51 rfl hjoin rfl ?_; rintro _ _ ⟨rfl, rfl⟩))) | (refine Zag rfl (fun hb => ?_) (fun hb => ?_) <;> (repeat (first | replace hb := Zas hb | replace hb := Zat hb)) <;> (try (exfalso; omega)))))
   all_goals (try (exfalso; omega))
   exact ⟨.inr rfl, ret2 rfl (.tmp rfl) (.tmp rfl) (List.nil_sublist _) ⟨rfl, rfl⟩⟩
end Go.Proofs.YthdldeenpgeemaaGreatDoor
namespace Go.Sx
open Go.Lx Go.Fr
abbrev wCompetition : List UInt8 := [99, 111, 109, 112, 101, 116, 105, 116, 105, 111, 110]
abbrev wCriterion : List UInt8 := [99, 114, 105, 116, 101, 114, 105, 111, 110]
abbrev wFrom : List UInt8 := [102, 114, 111, 109]
abbrev wTo : List UInt8 := [116, 111]
abbrev wStep : List UInt8 := [115, 116, 101, 112]
abbrev wSum : List UInt8 := [115, 117, 109]
abbrev wMean : List UInt8 := [109, 101, 97, 110]
abbrev wTrim : List UInt8 := [116, 114, 105, 109]
abbrev wMedian : List UInt8 := [109, 101, 100, 105, 97, 110]
abbrev wReverse : List UInt8 := [114, 101, 118, 101, 114, 115, 101]
abbrev wBonus : List UInt8 := [98, 111, 110, 117, 115]
abbrev wValue : List UInt8 := [118, 97, 108, 117, 101]
abbrev wMost : List UInt8 := [109, 111, 115, 116]
abbrev wMalus : List UInt8 := [109, 97, 108, 117, 115]
abbrev wTie : List UInt8 := [116, 105, 101]
abbrev wTotal : List UInt8 := [116, 111, 116, 97, 108]
abbrev wScore : List UInt8 := [115, 99, 111, 114, 101]
abbrev wHighest : List UInt8 := [104, 105, 103, 104, 101, 115, 116]
abbrev wRule : List UInt8 := [114, 117, 108, 101]
abbrev wLot : List UInt8 := [108, 111, 116]
abbrev wRound : List UInt8 := [114, 111, 117, 110, 100]
abbrev wPanel : List UInt8 := [112, 97, 110, 101, 108]
abbrev wQuota : List UInt8 := [113, 117, 111, 116, 97]
abbrev wOver : List UInt8 := [111, 118, 101, 114]
abbrev wUnder : List UInt8 := [117, 110, 100, 101, 114]
abbrev wLots : List UInt8 := [108, 111, 116, 115]
abbrev wFree : List UInt8 := [102, 114, 101, 101]
abbrev wPlaces : List UInt8 := [112, 108, 97, 99, 101, 115]
abbrev wPrizes : List UInt8 := [112, 114, 105, 122, 101, 115]
abbrev wPoints : List UInt8 := [112, 111, 105, 110, 116, 115]
abbrev wBest : List UInt8 := [98, 101, 115, 116]
abbrev wLeast : List UInt8 := [108, 101, 97, 115, 116]
abbrev wGreatest : List UInt8 := [103, 114, 101, 97, 116, 101, 115, 116]
abbrev wIf : List UInt8 := [105, 102]
abbrev wUpto : List UInt8 := [117, 112, 116, 111]
abbrev wThen : List UInt8 := [116, 104, 101, 110]
abbrev wElse : List UInt8 := [101, 108, 115, 101]
abbrev wEnd : List UInt8 := [101, 110, 100]
abbrev sSemi : List UInt8 := [59]
abbrev sComma : List UInt8 := [44]
abbrev sPlus : List UInt8 := [43]
abbrev sMinus : List UInt8 := [45]
abbrev sStar : List UInt8 := [42]
abbrev sSlash : List UInt8 := [47]
abbrev sOpen : List UInt8 := [40]
abbrev sClose : List UInt8 := [41]
abbrev wordsL : List (List UInt8) := [[99, 111, 109, 112, 101, 116, 105, 116, 105, 111, 110], [99, 114, 105, 116, 101, 114, 105, 111, 110], [102, 114, 111, 109], [116, 111], [115, 116, 101, 112], [115, 117, 109], [109, 101, 97, 110], [116, 114, 105, 109], [109, 101, 100, 105, 97, 110], [114, 101, 118, 101, 114, 115, 101], [98, 111, 110, 117, 115], [118, 97, 108, 117, 101], [109, 111, 115, 116], [109, 97, 108, 117, 115], [116, 105, 101], [116, 111, 116, 97, 108], [115, 99, 111, 114, 101], [104, 105, 103, 104, 101, 115, 116], [114, 117, 108, 101], [108, 111, 116], [114, 111, 117, 110, 100], [112, 97, 110, 101, 108], [113, 117, 111, 116, 97], [111, 118, 101, 114], [117, 110, 100, 101, 114], [108, 111, 116, 115], [102, 114, 101, 101], [112, 108, 97, 99, 101, 115], [112, 114, 105, 122, 101, 115], [112, 111, 105, 110, 116, 115], [98, 101, 115, 116], [108, 101, 97, 115, 116], [103, 114, 101, 97, 116, 101, 115, 116], [105, 102], [117, 112, 116, 111], [116, 104, 101, 110], [101, 108, 115, 101], [101, 110, 100]]
def reservedB (s : List UInt8) : Bool := decide (s ∈ wordsL)
abbrev Res (α : Type) := Except (List TokD) (α × List TokD)
def bnd {α β : Type} (f : List TokD → Res α) (g : α → List TokD → Res β) (ts : List TokD) : Res β := match f ts with
 | .error e => .error e
 | .ok (x, r) => g x r
def ret {α : Type} (x : α) (ts : List TokD) : Res α := .ok (x, ts)
def isT (w : List UInt8) : List TokD → Bool
 | t :: _ => decide (t.kind ≠ 2) && decide (t.text = w)
 | [] => false
def isName : List TokD → Bool
 | t :: _ => decide (t.kind = 1) && !reservedB t.text
 | [] => false
def isNum : List TokD → Bool
 | t :: _ => decide (t.kind = 2)
 | [] => false
def want (w : List UInt8) (ts : List TokD) : Res Unit := if isT w ts then .ok ((), ts.tail) else .error ts
def nameP (ts : List TokD) : Res (List UInt8) := match ts with
 | t :: r => if isName (t :: r) then .ok (t.text, r) else .error (t :: r)
 | [] => .error []
def numP (ts : List TokD) : Res Int := match ts with
 | t :: r => if isNum (t :: r) then .ok (t.n, r) else .error (t :: r)
 | [] => .error []
def flag (w : List UInt8) (ts : List TokD) : Res Bool := if isT w ts then bnd (want w) (fun _ => ret true) ts else ret false ts
def named (w : List UInt8) : List TokD → Res (List UInt8) := bnd (want w) fun _ => nameP
def valued (w : List UInt8) : List TokD → Res Int := bnd (want w) fun _ => numP
def loopP {σ : Type} (test : List TokD → Bool) (item : σ → List TokD → Res σ) : Nat → σ → List TokD → Res σ
 | 0, s, ts => .ok (s, ts)
 | f + 1, s, ts => if test ts then (match item s ts with
   | .error e => .error e
   | .ok (s', r) => loopP test item f s' r) else .ok (s, ts)
def runP {σ : Type} (test : List TokD → Bool) (item : σ → List TokD → Res σ) (s : σ) (ts : List TokD) : Res σ := loopP test item ts.length s ts
def commaStep {α : Type} (item : List TokD → Res α) (l : List α) : List TokD → Res (List α) := bnd (want sComma) fun _ => bnd item fun y => ret (l ++ [y])
def listP {α : Type} (item : List TokD → Res α) : List TokD → Res (List α) := bnd item fun x => runP (isT sComma) (commaStep item) [x]
def someStep {α : Type} (item : List TokD → Res α) (l : List α) : List TokD → Res (List α) := bnd item fun x => bnd (want sSemi) fun _ => ret (l ++ [x])
def someP {α : Type} (w : List UInt8) (item : List TokD → Res α) : List TokD → Res (List α) := runP (isT w) (someStep item) []
def howP (ts : List TokD) : Res (Int × Int) :=
 if isT wSum ts then bnd (want wSum) (fun _ => ret (1, 0)) ts
 else if isT wMean ts then bnd (want wMean) (fun _ => bnd (valued wTrim) fun n => ret (2, n)) ts
 else bnd (want wMedian) (fun _ => ret (3, 0)) ts
def critB : List TokD → Res Crit := bnd (named wCriterion) fun nm => bnd (valued wFrom) fun lo => bnd (valued wTo) fun hi => bnd (valued wStep) fun st => bnd howP fun h => bnd (flag wReverse) fun rv => ret ⟨nm, lo, hi, st, h.1, h.2, rv⟩
def itemB (w : List UInt8) : List TokD → Res ItemD := bnd (named w) fun nm => bnd (valued wValue) fun v => bnd (valued wMost) fun m => ret ⟨nm, v, m⟩
def keyP (ts : List TokD) : Res KeyD :=
 if isT wTotal ts then bnd (named wTotal) (fun nm => ret ⟨1, nm, 0⟩) ts
 else if isT wScore ts then bnd (named wScore) (fun nm => ret ⟨2, nm, 0⟩) ts
 else if isT wRule ts then bnd (named wRule) (fun nm => ret ⟨5, nm, 0⟩) ts
 else if isT wHighest ts then bnd (want wHighest) (fun _ => ret ⟨3, [], 0⟩) ts
 else if isT wBonus ts then bnd (want wBonus) (fun _ => ret ⟨4, [], 0⟩) ts
 else bnd (want wLot) (fun _ => ret ⟨6, [], 0⟩) ts
def tieB : List TokD → Res TieD := bnd (named wTie) fun nm => bnd (listP keyP) fun ks => ret ⟨nm, ks⟩
def zeroHere (ts : List TokD) : Bool := match ts with
 | t :: _ => decide (t.kind = 2) && decide (t.n = 0)
 | [] => false
def fracP : List TokD → Res (Int × Int) := bnd numP fun n ts =>
 if isT sSlash ts then bnd (want sSlash) (fun _ ts => if zeroHere ts then .error ts else bnd numP (fun d => ret (n, d)) ts) ts
 else ret (n, 1) ts
def gate {α : Type} (ok : Bool) (f : List TokD → Res α) (ts : List TokD) : Res α := if ok then f ts else .error ts
def addT (ts : List TokD) : Bool := isT sPlus ts || isT sMinus ts
def addStep (tm : List TokD → Res Ex) (x : Ex) (ts : List TokD) : Res Ex :=
 if isT sPlus ts then bnd (want sPlus) (fun _ => bnd tm fun y => ret (.mk 6 [] 0 0 [x, y])) ts
 else bnd (want sMinus) (fun _ => bnd tm fun y => ret (.mk 7 [] 0 0 [x, y])) ts
def exprOf (tm : List TokD → Res Ex) : List TokD → Res Ex := bnd tm fun x => runP addT (addStep tm) x
def pairP (ex : List TokD → Res Ex) (k : Int) : List TokD → Res Ex := bnd (want sOpen) fun _ => bnd ex fun x => bnd (want sComma) fun _ => bnd ex fun y => bnd (want sClose) fun _ => ret (.mk k [] 0 0 [x, y])
def factorB (ok : Bool) (ex : List TokD → Res Ex) (ts : List TokD) : Res Ex :=
 if isName ts then bnd nameP (fun nm => ret (.mk 2 nm 0 0 [])) ts
 else if isT wBonus ts then bnd (want wBonus) (fun _ => ret (.mk 3 [] 0 0 [])) ts
 else if isT wMalus ts then bnd (want wMalus) (fun _ => ret (.mk 4 [] 0 0 [])) ts
 else if isT wRound ts then bnd (named wRound) (fun nm => ret (.mk 5 nm 0 0 [])) ts
 else if isT wLeast ts then gate ok (bnd (want wLeast) fun _ => pairP ex 9) ts
 else if isT wGreatest ts then gate ok (bnd (want wGreatest) fun _ => pairP ex 10) ts
 else if isT wIf ts then gate ok (bnd (want wIf) fun _ => bnd ex fun a => bnd (want wUpto) fun _ => bnd ex fun b => bnd (want wThen) fun _ => bnd ex fun c => bnd (want wElse) fun _ => bnd ex fun d => bnd (want wEnd) fun _ => ret (.mk 11 [] 0 0 [a, b, c, d])) ts
 else if isT sOpen ts then gate ok (bnd (want sOpen) fun _ => bnd ex fun x => bnd (want sClose) fun _ => ret x) ts
 else .error ts
def termB (ok : Bool) (tm ex : List TokD → Res Ex) (ts : List TokD) : Res Ex :=
 if isNum ts then bnd fracP (fun q ts => if isT sStar ts then gate ok (bnd (want sStar) fun _ => bnd tm fun x => ret (.mk 8 [] q.1 q.2 [x])) ts else ret (.mk 1 [] q.1 q.2 []) ts) ts
 else factorB ok ex ts
def termN : Nat → List TokD → Res Ex
 | 0 => termB false (fun ts => .error ts) (fun ts => .error ts)
 | n + 1 => termB true (termN n) (exprOf (termN n))
def exprN (n : Nat) : List TokD → Res Ex := exprOf (termN n)
def cutP (ts : List TokD) : Res Int :=
 if isT wOver ts then bnd (want wOver) (fun _ => ret 1) ts
 else if isT wUnder ts then bnd (want wUnder) (fun _ => ret 2) ts
 else bnd (want wLots) (fun _ => ret 3) ts
def scoreP (ts : List TokD) : Res (Bool × Ex) :=
 if isT wPlaces ts then bnd (want wPlaces) (fun _ => ret (true, .mk 0 [] 0 0 [])) ts
 else bnd (want wScore) (fun _ => bnd (exprN 16) fun x => ret (false, x)) ts
def tieRefP (ts : List TokD) : Res (List UInt8 × Int) :=
 if isT wTie ts then bnd (named wTie) (fun nm => ret (nm, 0)) ts else ret ([], -1) ts
def roundB : List TokD → Res RoundD := bnd (named wRound) fun nm => bnd (valued wPanel) fun pn => bnd (valued wQuota) fun qt => bnd cutP fun ct => bnd (flag wFree) fun fr => bnd scoreP fun s => bnd tieRefP fun t => ret ⟨nm, pn, qt, ct, s.1, fr, s.2, t.1, t.2⟩
def prizesP (ts : List TokD) : Res (List Int) :=
 if isT wPrizes ts then bnd (want wPrizes) (fun _ => bnd (listP numP) fun l => bnd (want sSemi) fun _ => ret l) ts else ret [] ts
def pointsP (ts : List TokD) : Res (List Int × Int) :=
 if isT wPoints ts then bnd (want wPoints) (fun _ => bnd (listP numP) fun l => bnd (valued wBest) fun b => bnd (want sSemi) fun _ => ret (l, b)) ts else ret ([], 0) ts
def endP (ts : List TokD) : Res Unit := if ts = [] then .ok ((), []) else .error ts
def rulesP : List TokD → Res RulesD := bnd (named wCompetition) fun nm => bnd (want sSemi) fun _ => bnd (someP wCriterion critB) fun cs => bnd (someP wBonus (itemB wBonus)) fun bs => bnd (someP wMalus (itemB wMalus)) fun ms => bnd (someP wTie tieB) fun tis => bnd (someP wRound roundB) fun rs => bnd prizesP fun pz => bnd pointsP fun pt => bnd endP fun _ => ret ⟨nm, cs, bs, ms, tis, rs, pz, pt.1, pt.2⟩
end Go.Sx
namespace Go.Sx
open Go.Lx Go.Fr
structure Lw {α : Type} (Q : TokD → Prop) (f : List TokD → Res α) : Prop where
 ok : ∀ {ts x r}, f ts = .ok (x, r) → ∃ c, ts = c ++ r ∧ (∀ t ∈ c, Q t) ∧ (r ≠ [] → ∀ z : List TokD, z.head? = r.head? → f (c ++ z) = .ok (x, z))
 err : ∀ {ts e}, f ts = .error e → ∃ c, ts = c ++ e ∧ (e ≠ [] → ∀ z : List TokD, z.head? = e.head? → f (c ++ z) = .error z)
structure Less {α : Type} (f : List TokD → Res α) : Prop where
 lt : ∀ {ts x r}, f ts = .ok (x, r) → r.length < ts.length
def Hd (test : List TokD → Bool) : Prop := ∀ a b : List TokD, a.head? = b.head? → test a = test b
variable {α β σ : Type} {Q : TokD → Prop}
theorem Zd1 {f : List TokD → Res α} {g : α → List TokD → Res β} {ts : List TokD} {y : β} {r : List TokD} (h : bnd f g ts = .ok (y, r)) : ∃ x u, f ts = .ok (x, u) ∧ g x u = .ok (y, r) := by
 unfold bnd at h
 cases hf : f ts with
 | error e => rw [hf] at h; cases h
 | ok q => obtain ⟨x, u⟩ := q; rw [hf] at h; exact ⟨x, u, rfl, h⟩
theorem bnd_err {f : List TokD → Res α} {g : α → List TokD → Res β} {ts : List TokD} {e : List TokD} (h : bnd f g ts = .error e) : f ts = .error e ∨ ∃ x u, f ts = .ok (x, u) ∧ g x u = .error e := by
 unfold bnd at h
 cases hf : f ts with
 | error e' => rw [hf] at h; injection h with h; subst h; exact .inl rfl
 | ok q => obtain ⟨x, u⟩ := q; rw [hf] at h; exact .inr ⟨x, u, rfl, h⟩
theorem Zal {f : List TokD → Res α} {g : α → List TokD → Res β} {ts u : List TokD} {x : α} (h : f ts = .ok (x, u)) : bnd f g ts = g x u := by unfold bnd; rw [h]
theorem Zap {f : List TokD → Res α} {g : α → List TokD → Res β} {ts e : List TokD} (h : f ts = .error e) : bnd f g ts = .error e := by unfold bnd; rw [h]
theorem head_cat {c a b : List TokD} (h : a.head? = b.head?) : (c ++ a).head? = (c ++ b).head? := by cases c <;> simp [h]
theorem ne_cat {c a : List TokD} (h : a ≠ []) : c ++ a ≠ [] := by simp [h]
theorem Zct (w : List UInt8) : Hd (isT w) := fun a b h => by
 cases a <;> cases b
 · rfl
 · cases h
 · cases h
 · simp only [List.head?_cons, Option.some.injEq] at h; subst h; simp only [isT]
theorem hd_isName : Hd isName := fun a b h => by
 cases a <;> cases b
 · rfl
 · cases h
 · cases h
 · simp only [List.head?_cons, Option.some.injEq] at h; subst h; simp only [isName]
theorem hd_isNum : Hd isNum := fun a b h => by
 cases a <;> cases b
 · rfl
 · cases h
 · cases h
 · simp only [List.head?_cons, Option.some.injEq] at h; subst h; simp only [isNum]
theorem hd_zero : Hd zeroHere := fun a b h => by
 cases a <;> cases b
 · rfl
 · cases h
 · cases h
 · simp only [List.head?_cons, Option.some.injEq] at h; subst h; simp only [zeroHere]
theorem hd_add : Hd addT := fun a b h => by unfold addT; rw [Zct _ a b h, Zct _ a b h]
theorem Zbt (x : α) : Lw Q (ret x) where
 ok h := by injection h with h; injection h with h1 h2; subst h1 h2; exact ⟨[], rfl, fun t ht => by (cases ht), fun _ z _ => rfl⟩
 err h := by cases h
theorem lw_fail : Lw Q (fun ts => (.error ts : Res α)) where
 ok h := by cases h
 err h := by injection h with h; subst h; exact ⟨[], rfl, fun _ z _ => rfl⟩
theorem Zav {f : List TokD → Res α} {g : α → List TokD → Res β} (hf : Lw Q f) (hg : ∀ x, Lw Q (g x)) : Lw Q (bnd f g) where
 ok h := by
   obtain ⟨x, u, h1, h2⟩ := Zd1 h
   obtain ⟨c1, rfl, q1, l1⟩ := hf.ok h1
   obtain ⟨c2, rfl, q2, l2⟩ := (hg x).ok h2
   refine ⟨c1 ++ c2, by simp, fun t ht => ?_, fun hr z hz => ?_⟩
   · rcases List.mem_append.1 ht with ht | ht
     · exact q1 t ht
     · exact q2 t ht
   · rw [List.append_assoc, Zal (l1 (ne_cat hr) _ (head_cat hz))]
     exact l2 hr z hz
 err h := by
   rcases bnd_err h with h1 | ⟨x, u, h1, h2⟩
   · obtain ⟨c, e, l⟩ := hf.err h1
     exact ⟨c, e, fun hr z hz => Zap (l hr z hz)⟩
   · obtain ⟨c1, rfl, q1, l1⟩ := hf.ok h1
     obtain ⟨c2, rfl, l2⟩ := (hg x).err h2
     refine ⟨c1 ++ c2, by simp, fun hr z hz => ?_⟩
     rw [List.append_assoc, Zal (l1 (ne_cat hr) _ (head_cat hz))]
     exact l2 hr z hz
theorem Zdi {test : List TokD → Bool} {f g : List TokD → Res α} (ht : Hd test) (hf : Lw Q f) (hg : Lw Q g) : Lw Q (fun ts => if test ts then f ts else g ts) where
 ok {ts x r} h := by
   cases hb : test ts with
   | true =>
     simp only [hb, if_true] at h
     obtain ⟨c, rfl, q, l⟩ := hf.ok h
     refine ⟨c, rfl, q, fun hr z hz => ?_⟩
     have : test (c ++ z) = true := (ht _ _ (head_cat hz)).trans hb
     simp only [this, if_true]
     exact l hr z hz
   | false =>
     simp only [hb] at h
     obtain ⟨c, rfl, q, l⟩ := hg.ok h
     refine ⟨c, rfl, q, fun hr z hz => ?_⟩
     have : test (c ++ z) = false := (ht _ _ (head_cat hz)).trans hb
     simp only [this]
     exact l hr z hz
 err {ts e} h := by
   cases hb : test ts with
   | true =>
     simp only [hb, if_true] at h
     obtain ⟨c, rfl, l⟩ := hf.err h
     refine ⟨c, rfl, fun hr z hz => ?_⟩
     have : test (c ++ z) = true := (ht _ _ (head_cat hz)).trans hb
     simp only [this, if_true]
     exact l hr z hz
   | false =>
     simp only [hb] at h
     obtain ⟨c, rfl, l⟩ := hg.err h
     refine ⟨c, rfl, fun hr z hz => ?_⟩
     have : test (c ++ z) = false := (ht _ _ (head_cat hz)).trans hb
     simp only [this]
     exact l hr z hz
theorem isT_cons {w : List UInt8} {ts : List TokD} (h : isT w ts = true) : ∃ t r, ts = t :: r ∧ t.kind ≠ 2 ∧ t.text = w := by
 cases ts with
 | nil => cases h
 | cons t r =>
   unfold isT at h
   simp only [Bool.and_eq_true, decide_eq_true_eq] at h
   exact ⟨t, r, rfl, h.1, h.2⟩
theorem want_ok {w : List UInt8} {ts r : List TokD} {x : Unit} (h : want w ts = .ok (x, r)) : ∃ t, ts = t :: r ∧ t.kind ≠ 2 ∧ t.text = w := by
 unfold want at h
 by_cases hb : isT w ts = true
 · rw [if_pos hb] at h
   obtain ⟨t, r', rfl, h1, h2⟩ := isT_cons hb
   injection h with h; injection h with _ h; subst h
   exact ⟨t, rfl, h1, h2⟩
 · rw [if_neg hb] at h; cases h
theorem Zbb {w : List UInt8} (hQ : ∀ t : TokD, t.kind ≠ 2 → t.text = w → Q t) : Lw Q (want w) where
 ok {ts x r} h := by
   obtain ⟨t, rfl, h1, h2⟩ := want_ok h
   refine ⟨[t], rfl, fun u hu => by rw [List.mem_singleton.1 hu]; exact hQ t h1 h2, fun _ z _ => ?_⟩
   show want w (t :: z) = _
   unfold want
   rw [if_pos (by unfold isT; simp [h1, h2])]; rfl
 err {ts e} h := by
   unfold want at h
   by_cases hb : isT w ts = true
   · rw [if_pos hb] at h; cases h
   · rw [if_neg hb] at h
     injection h with h; subst h
     refine ⟨[], rfl, fun _ z hz => ?_⟩
     show want w z = _
     unfold want
     rw [if_neg (by rw [Zct w z ts hz]; exact hb)]
theorem name_ok {ts r : List TokD} {x : List UInt8} (h : nameP ts = .ok (x, r)) : ∃ t, ts = t :: r ∧ t.kind = 1 ∧ reservedB t.text = false ∧ x = t.text := by
 cases ts with
 | nil => cases h
 | cons t u =>
   unfold nameP at h
   simp only at h
   by_cases hb : isName (t :: u) = true
   · rw [if_pos hb] at h
     injection h with h; injection h with h1 h2; subst h1 h2
     unfold isName at hb
     simp only [Bool.and_eq_true, decide_eq_true_eq, Bool.not_eq_true'] at hb
     exact ⟨t, rfl, hb.1, hb.2, rfl⟩
   · rw [if_neg hb] at h; cases h
theorem lw_name (hQ : ∀ t : TokD, t.kind = 1 → reservedB t.text = false → Q t) : Lw Q nameP where
 ok {ts x r} h := by
   obtain ⟨t, rfl, h1, h2, rfl⟩ := name_ok h
   refine ⟨[t], rfl, fun u hu => by rw [List.mem_singleton.1 hu]; exact hQ t h1 h2, fun _ z _ => ?_⟩
   show nameP (t :: z) = _
   unfold nameP
   simp only
   rw [if_pos (by unfold isName; simp [h1, h2])]
 err {ts e} h := by
   cases ts with
   | nil => injection h with h; subst h; exact ⟨[], rfl, fun hr => absurd rfl hr⟩
   | cons t u =>
     unfold nameP at h
     simp only at h
     by_cases hb : isName (t :: u) = true
     · rw [if_pos hb] at h; cases h
     · rw [if_neg hb] at h
       injection h with h; subst h
       refine ⟨[], rfl, fun _ z hz => ?_⟩
       cases z with
       | nil => cases hz
       | cons v z =>
         simp only [List.head?_cons, Option.some.injEq] at hz; subst hz
         show nameP (v :: z) = _
         unfold nameP
         simp only
         rw [if_neg (by rw [hd_isName (v :: z) (v :: u) rfl]; exact hb)]
theorem num_ok {ts r : List TokD} {x : Int} (h : numP ts = .ok (x, r)) : ∃ t, ts = t :: r ∧ t.kind = 2 ∧ x = t.n := by
 cases ts with
 | nil => cases h
 | cons t u =>
   unfold numP at h
   simp only at h
   by_cases hb : isNum (t :: u) = true
   · rw [if_pos hb] at h
     injection h with h; injection h with h1 h2; subst h1 h2
     unfold isNum at hb
     exact ⟨t, rfl, of_decide_eq_true hb, rfl⟩
   · rw [if_neg hb] at h; cases h
theorem lw_num (hQ : ∀ t : TokD, t.kind = 2 → Q t) : Lw Q numP where
 ok {ts x r} h := by
   obtain ⟨t, rfl, h1, rfl⟩ := num_ok h
   refine ⟨[t], rfl, fun u hu => by rw [List.mem_singleton.1 hu]; exact hQ t h1, fun _ z _ => ?_⟩
   show numP (t :: z) = _
   unfold numP
   simp only
   rw [if_pos (by unfold isNum; simp [h1])]
 err {ts e} h := by
   cases ts with
   | nil => injection h with h; subst h; exact ⟨[], rfl, fun hr => absurd rfl hr⟩
   | cons t u =>
     unfold numP at h
     simp only at h
     by_cases hb : isNum (t :: u) = true
     · rw [if_pos hb] at h; cases h
     · rw [if_neg hb] at h
       injection h with h; subst h
       refine ⟨[], rfl, fun _ z hz => ?_⟩
       cases z with
       | nil => cases hz
       | cons v z =>
         simp only [List.head?_cons, Option.some.injEq] at hz; subst hz
         show numP (v :: z) = _
         unfold numP
         simp only
         rw [if_neg (by rw [hd_isNum (v :: z) (v :: u) rfl]; exact hb)]
theorem lw_gate {ok : Bool} {f : List TokD → Res α} (h : Lw Q f) : Lw Q (gate ok f) := by cases ok; exact lw_fail; exact h
theorem Lw.len {f : List TokD → Res α} (h : Lw Q f) {ts r : List TokD} {x : α} (e : f ts = .ok (x, r)) : r.length ≤ ts.length := by
 obtain ⟨c, rfl, _⟩ := h.ok e; simp
theorem Lw.lenE {f : List TokD → Res α} (h : Lw Q f) {ts r : List TokD} (e : f ts = .error r) : r.length ≤ ts.length := by
 obtain ⟨c, rfl, _⟩ := h.err e; simp
theorem Zcq (w : List UInt8) : Less (want w) := ⟨fun h => by obtain ⟨t, rfl, _⟩ := want_ok h; simp⟩
theorem less_name : Less nameP := ⟨fun h => by obtain ⟨t, rfl, _⟩ := name_ok h; simp⟩
theorem less_num : Less numP := ⟨fun h => by obtain ⟨t, rfl, _⟩ := num_ok h; simp⟩
theorem Zcp {f : List TokD → Res α} {g : α → List TokD → Res β} (hf : Less f) (hg : ∀ x, Lw Q (g x)) : Less (bnd f g) := ⟨fun h => by
 obtain ⟨x, u, h1, h2⟩ := Zd1 h
 exact Nat.lt_of_le_of_lt ((hg x).len h2) (hf.lt h1)⟩
theorem less_if {test : List TokD → Bool} {f g : List TokD → Res α} (hf : Less f) (hg : Less g) : Less (fun ts => if test ts then f ts else g ts) := ⟨fun {ts x r} h => by
 cases hb : test ts with
 | true => simp only [hb, if_true] at h; exact hf.lt h
 | false => simp only [hb] at h; exact hg.lt h⟩
theorem less_fail : Less (fun ts => (.error ts : Res α)) := ⟨fun h => by cases h⟩
theorem less_gate {ok : Bool} {f : List TokD → Res α} (h : Less f) : Less (gate ok f) := by
 cases ok
 · exact ⟨fun h => by cases h⟩
 · exact h
section
variable {test : List TokD → Bool} {item : σ → List TokD → Res σ}
theorem loop_fuel (h0 : test [] = false) (hl : ∀ s, Less (item s)) : ∀ (f g : Nat) (s : σ) (ts : List TokD), ts.length ≤ f → ts.length ≤ g → loopP test item f s ts = loopP test item g s ts
 | 0, 0, _, _, _, _ => rfl
 | 0, g + 1, s, ts, h, _ => by
   rw [List.length_eq_zero_iff.1 (Nat.le_zero.1 h), loopP, loopP, if_neg (by rw [h0]; simp)]
 | f + 1, 0, s, ts, _, h => by
   rw [List.length_eq_zero_iff.1 (Nat.le_zero.1 h), loopP, loopP, if_neg (by rw [h0]; simp)]
 | f + 1, g + 1, s, ts, hf, hg => by
   rw [loopP, loopP]
   by_cases hb : test ts = true
   · rw [if_pos hb, if_pos hb]
     cases he : item s ts with
     | error e => rfl
     | ok q =>
       obtain ⟨s', r⟩ := q
       have := (hl s).lt he
       exact loop_fuel h0 hl f g s' r (by omega) (by omega)
   · rw [if_neg hb, if_neg hb]
theorem Zde (h0 : test [] = false) (hl : ∀ s, Less (item s)) (s : σ) (ts : List TokD) : runP test item s ts = if test ts then bnd (item s) (runP test item) ts else ret s ts := by
 unfold runP
 cases ts with
 | nil => rw [List.length_nil, loopP, if_neg (by rw [h0]; simp)]; rfl
 | cons t ts =>
   rw [List.length_cons, loopP]
   by_cases hb : test (t :: ts) = true
   · rw [if_pos hb, if_pos hb]
     unfold bnd
     cases he : item s (t :: ts) with
     | error e => rfl
     | ok q =>
       obtain ⟨s', r⟩ := q
       have := (hl s).lt he
       rw [List.length_cons] at this
       exact loop_fuel h0 hl _ _ s' r (by omega) (by omega)
   · rw [if_neg hb, if_neg hb]; rfl
theorem lw_run (h0 : test [] = false) (ht : Hd test) (hl : ∀ s, Less (item s)) (hi : ∀ s, Lw Q (item s)) (s : σ) : Lw Q (runP test item s) := by
 have key : ∀ (n : Nat) (s : σ) (ts : List TokD), ts.length ≤ n → (∀ {x r}, runP test item s ts = .ok (x, r) → ∃ c, ts = c ++ r ∧ (∀ t ∈ c, Q t) ∧ (r ≠ [] → ∀ z : List TokD, z.head? = r.head? → runP test item s (c ++ z) = .ok (x, z))) ∧ (∀ {e}, runP test item s ts = .error e → ∃ c, ts = c ++ e ∧ (e ≠ [] → ∀ z : List TokD, z.head? = e.head? → runP test item s (c ++ z) = .error z)) := by
   intro n
   induction n with
   | zero =>
     intro s ts hn
     rw [List.length_eq_zero_iff.1 (Nat.le_zero.1 hn), Zde h0 hl, if_neg (by rw [h0]; simp)]
     refine ⟨fun h => ?_, fun h => by cases h⟩
     injection h with h; injection h with h1 h2; subst h1 h2
     exact ⟨[], rfl, fun t ht => by (cases ht), fun hr => absurd rfl hr⟩
   | succ n ih =>
     intro s ts hn
     cases hb : test ts with
     | false =>
       rw [Zde h0 hl, if_neg (by rw [hb]; simp)]
       refine ⟨fun h => ?_, fun h => by cases h⟩
       injection h with h; injection h with h1 h2; subst h1 h2
       refine ⟨[], rfl, fun t ht => by (cases ht), fun hr z hz => ?_⟩
       show runP test item s z = _
       rw [Zde h0 hl, if_neg (by rw [ht z ts hz, hb]; simp)]; rfl
     | true =>
       rw [Zde h0 hl, if_pos hb]
       refine ⟨fun h => ?_, fun h => ?_⟩
       · obtain ⟨x1, u, h1, h2⟩ := Zd1 h
         have hlt := (hl s).lt h1
         obtain ⟨c1, rfl, q1, l1⟩ := (hi s).ok h1
         obtain ⟨c2, rfl, q2, l2⟩ := (ih x1 u (by omega)).1 h2
         refine ⟨c1 ++ c2, by simp, fun t ht => ?_, fun hr z hz => ?_⟩
         · rcases List.mem_append.1 ht with ht | ht
           · exact q1 t ht
           · exact q2 t ht
         · have hb2 : test (c1 ++ (c2 ++ z)) = true := (ht _ _ (head_cat (head_cat hz))).trans hb
           rw [List.append_assoc, Zde h0 hl, if_pos hb2, Zal (l1 (ne_cat hr) _ (head_cat hz))]
           exact l2 hr z hz
       · rcases bnd_err h with h1 | ⟨x1, u, h1, h2⟩
         · obtain ⟨c, rfl, l⟩ := (hi s).err h1
           refine ⟨c, rfl, fun hr z hz => ?_⟩
           have hb2 : test (c ++ z) = true := (ht _ _ (head_cat hz)).trans hb
           rw [Zde h0 hl, if_pos hb2]
           exact Zap (l hr z hz)
         · have hlt := (hl s).lt h1
           obtain ⟨c1, rfl, q1, l1⟩ := (hi s).ok h1
           obtain ⟨c2, rfl, l2⟩ := (ih x1 u (by omega)).2 h2
           refine ⟨c1 ++ c2, by simp, fun hr z hz => ?_⟩
           have hb2 : test (c1 ++ (c2 ++ z)) = true := (ht _ _ (head_cat (head_cat hz))).trans hb
           rw [List.append_assoc, Zde h0 hl, if_pos hb2, Zal (l1 (ne_cat hr) _ (head_cat hz))]
           exact l2 hr z hz
 exact ⟨fun h => (key _ s _ (Nat.le_refl _)).1 h, fun h => (key _ s _ (Nat.le_refl _)).2 h⟩
end
end Go.Sx
namespace Go.Sx
open Go.Lx Go.Fr
def QW (Q : TokD → Prop) (w : List UInt8) : Prop := ∀ t : TokD, t.kind ≠ 2 → t.text = w → Q t
def QN (Q : TokD → Prop) : Prop := ∀ t : TokD, t.kind = 1 → reservedB t.text = false → Q t
def QM (Q : TokD → Prop) : Prop := ∀ t : TokD, t.kind = 2 → Q t
variable {α : Type} {Q : TokD → Prop}
theorem lw_named {w : List UInt8} (h : QW Q w) (n : QN Q) : Lw Q (named w) := Zav (Zbb h) fun _ => lw_name n
theorem Zd6 {w : List UInt8} (h : QW Q w) (m : QM Q) : Lw Q (valued w) := Zav (Zbb h) fun _ => lw_num m
theorem lw_flag {w : List UInt8} (h : QW Q w) : Lw Q (flag w) := Zdi (Zct w) (Zav (Zbb h) fun _ => Zbt _) (Zbt _)
theorem less_named (w : List UInt8) : Less (named w) := Zcp (Q := fun _ => True) (Zcq w) fun _ => lw_name fun _ _ _ => trivial
theorem lw_comma {item : List TokD → Res α} (h : QW Q sComma) (hi : Lw Q item) (l : List α) : Lw Q (commaStep item l) := Zav (Zbb h) fun _ => Zav hi fun _ => Zbt _
theorem less_comma {item : List TokD → Res α} (hi : Lw Q item) (l : List α) : Less (commaStep item l) := Zcp (Zcq _) fun _ => Zav hi fun _ => Zbt _
theorem lw_list {item : List TokD → Res α} (h : QW Q sComma) (hi : Lw Q item) : Lw Q (listP item) := Zav hi fun _ => lw_run rfl (Zct _) (less_comma hi) (lw_comma h hi) _
theorem lw_someStep {item : List TokD → Res α} (h : QW Q sSemi) (hi : Lw Q item) (l : List α) : Lw Q (someStep item l) := Zav hi fun _ => Zav (Zbb h) fun _ => Zbt _
theorem less_someStep {item : List TokD → Res α} (hi : Less item) (l : List α) : Less (someStep item l) := Zcp (Q := fun _ => True) hi fun _ => Zav (Zbb fun _ _ _ => trivial) fun _ => Zbt _
theorem lw_some {item : List TokD → Res α} (w : List UInt8) (h : QW Q sSemi) (hi : Lw Q item) (hl : Less item) : Lw Q (someP w item) := lw_run rfl (Zct w) (less_someStep hl) (lw_someStep h hi) _
theorem lw_how (m : QM Q) (h : ∀ w ∈ [wSum, wMean, wTrim, wMedian], QW Q w) : Lw Q howP :=
 Zdi (Zct _) (Zav (Zbb (h _ (by decide))) fun _ => Zbt _) (Zdi (Zct _) (Zav (Zbb (h _ (by decide))) fun _ => Zav (Zd6 (h _ (by decide)) m) fun _ => Zbt _) (Zav (Zbb (h _ (by decide))) fun _ => Zbt _))
theorem lw_crit (n : QN Q) (m : QM Q) (h : ∀ w ∈ [wCriterion, wFrom, wTo, wStep, wReverse, wSum, wMean, wTrim, wMedian], QW Q w) : Lw Q critB :=
 Zav (lw_named (h _ (by decide)) n) fun _ => Zav (Zd6 (h _ (by decide)) m) fun _ => Zav (Zd6 (h _ (by decide)) m) fun _ => Zav (Zd6 (h _ (by decide)) m) fun _ => Zav (lw_how m fun w hw => h w (List.mem_of_mem_drop (i := 5) hw)) fun _ => Zav (lw_flag (h _ (by decide))) fun _ => Zbt _
theorem less_crit : Less critB := Zcp (Q := fun _ => True) (less_named _) fun _ => Zav (Zd6 (fun _ _ _ => trivial) fun _ _ => trivial) fun _ => Zav (Zd6 (fun _ _ _ => trivial) fun _ _ => trivial) fun _ => Zav (Zd6 (fun _ _ _ => trivial) fun _ _ => trivial) fun _ => Zav (lw_how (fun _ _ => trivial) fun _ _ _ _ _ => trivial) fun _ => Zav (lw_flag fun _ _ _ => trivial) fun _ => Zbt _
theorem lw_item {w : List UInt8} (n : QN Q) (m : QM Q) (h : ∀ v ∈ [w, wValue, wMost], QW Q v) : Lw Q (itemB w) :=
 Zav (lw_named (h _ (by simp)) n) fun _ => Zav (Zd6 (h _ (by simp)) m) fun _ => Zav (Zd6 (h _ (by simp)) m) fun _ => Zbt _
theorem less_item (w : List UInt8) : Less (itemB w) := Zcp (Q := fun _ => True) (less_named _) fun _ => Zav (Zd6 (fun _ _ _ => trivial) fun _ _ => trivial) fun _ => Zav (Zd6 (fun _ _ _ => trivial) fun _ _ => trivial) fun _ => Zbt _
theorem lw_key (n : QN Q) (h : ∀ w ∈ [wTotal, wScore, wRule, wHighest, wBonus, wLot], QW Q w) : Lw Q keyP :=
 Zdi (Zct _) (Zav (lw_named (h _ (by decide)) n) fun _ => Zbt _) (Zdi (Zct _) (Zav (lw_named (h _ (by decide)) n) fun _ => Zbt _) (Zdi (Zct _) (Zav (lw_named (h _ (by decide)) n) fun _ => Zbt _) (Zdi (Zct _) (Zav (Zbb (h _ (by decide))) fun _ => Zbt _) (Zdi (Zct _) (Zav (Zbb (h _ (by decide))) fun _ => Zbt _) (Zav (Zbb (h _ (by decide))) fun _ => Zbt _)))))
theorem lw_tie (n : QN Q) (hc : QW Q sComma) (ht : QW Q wTie) (h : ∀ w ∈ [wTotal, wScore, wRule, wHighest, wBonus, wLot], QW Q w) : Lw Q tieB :=
 Zav (lw_named ht n) fun _ => Zav (lw_list hc (lw_key n h)) fun _ => Zbt _
theorem less_tie : Less tieB := Zcp (Q := fun _ => True) (less_named _) fun _ => Zav (lw_list (fun _ _ _ => trivial) (lw_key (fun _ _ _ => trivial) fun _ _ _ _ _ => trivial)) fun _ => Zbt _
theorem lw_frac (m : QM Q) (h : QW Q sSlash) : Lw Q fracP :=
 Zav (lw_num m) fun _ => Zdi (Zct _) (Zav (Zbb h) fun _ => Zdi hd_zero lw_fail (Zav (lw_num m) fun _ => Zbt _)) (Zbt _)
theorem less_frac : Less fracP := Zcp (Q := fun _ => True) less_num fun _ => Zdi (Zct _) (Zav (Zbb fun _ _ _ => trivial) fun _ => Zdi hd_zero lw_fail (Zav (lw_num fun _ _ => trivial) fun _ => Zbt _)) (Zbt _)
section
variable {tm ex : List TokD → Res Ex}
theorem lw_addStep (p : QW Q sPlus) (m : QW Q sMinus) (ht : Lw Q tm) (x : Ex) : Lw Q (addStep tm x) := Zdi (Zct _) (Zav (Zbb p) fun _ => Zav ht fun _ => Zbt _) (Zav (Zbb m) fun _ => Zav ht fun _ => Zbt _)
theorem less_addStep (ht : Lw Q tm) (x : Ex) : Less (addStep tm x) := less_if (Zcp (Zcq _) fun _ => Zav ht fun _ => Zbt _) (Zcp (Zcq _) fun _ => Zav ht fun _ => Zbt _)
theorem lw_exprOf (p : QW Q sPlus) (m : QW Q sMinus) (ht : Lw Q tm) : Lw Q (exprOf tm) := Zav ht fun _ => lw_run rfl hd_add (less_addStep ht) (lw_addStep p m ht) _
theorem less_exprOf (ht : Lw Q tm) (hl : Less tm) : Less (exprOf tm) := Zcp (Q := fun _ => True) hl fun _ => lw_run rfl hd_add (less_addStep ht) (fun x => lw_addStep (fun _ _ _ => trivial) (fun _ _ _ => trivial) (by
 exact { ok := fun h => by obtain ⟨c, a, b, d⟩ := ht.ok h; exact ⟨c, a, fun _ _ => trivial, d⟩, err := fun h => ht.err h }) x) _
theorem lw_pair (h : ∀ w ∈ [sOpen, sComma, sClose], QW Q w) (hx : Lw Q ex) (k : Int) : Lw Q (pairP ex k) := Zav (Zbb (h _ (by decide))) fun _ => Zav hx fun _ => Zav (Zbb (h _ (by decide))) fun _ => Zav hx fun _ => Zav (Zbb (h _ (by decide))) fun _ => Zbt _
abbrev factorW : List (List UInt8) := [wBonus, wMalus, wRound, wLeast, wGreatest, wIf, wUpto, wThen, wElse, wEnd, sOpen, sComma, sClose]
theorem lw_factor {ok : Bool} (n : QN Q) (h : ∀ w ∈ factorW, QW Q w) (hx : Lw Q ex) : Lw Q (factorB ok ex) :=
 have hp := fun k => lw_pair (Q := Q) (fun w hw => h w (List.mem_of_mem_drop (i := 10) hw)) hx k
 Zdi hd_isName (Zav (lw_name n) fun _ => Zbt _) (Zdi (Zct _) (Zav (Zbb (h _ (by decide))) fun _ => Zbt _) (Zdi (Zct _) (Zav (Zbb (h _ (by decide))) fun _ => Zbt _) (Zdi (Zct _) (Zav (lw_named (h _ (by decide)) n) fun _ => Zbt _)
   (Zdi (Zct _) (lw_gate (Zav (Zbb (h _ (by decide))) fun _ => hp 9)) (Zdi (Zct _) (lw_gate (Zav (Zbb (h _ (by decide))) fun _ => hp 10))
   (Zdi (Zct _) (lw_gate (Zav (Zbb (h _ (by decide))) fun _ => Zav hx fun _ => Zav (Zbb (h _ (by decide))) fun _ => Zav hx fun _ => Zav (Zbb (h _ (by decide))) fun _ => Zav hx fun _ => Zav (Zbb (h _ (by decide))) fun _ => Zav hx fun _ => Zav (Zbb (h _ (by decide))) fun _ => Zbt _))
   (Zdi (Zct _) (lw_gate (Zav (Zbb (h _ (by decide))) fun _ => Zav hx fun _ => Zav (Zbb (h _ (by decide))) fun _ => Zbt _)) lw_fail)))))))
theorem less_factor {ok : Bool} (hx : Lw (fun _ => True) ex) : Less (factorB ok ex) :=
 have T : ∀ w, QW (fun _ => True) w := fun _ _ _ _ => trivial
 have hp := fun k => lw_pair (Q := fun _ => True) (fun w _ => T w) hx k
 less_if (Zcp less_name fun _ => Zbt (Q := fun _ => True) _) (less_if (Zcp (Zcq _) fun _ => Zbt (Q := fun _ => True) _) (less_if (Zcp (Zcq _) fun _ => Zbt (Q := fun _ => True) _) (less_if (Zcp (less_named _) fun _ => Zbt (Q := fun _ => True) _)
   (less_if (less_gate (Zcp (Zcq _) fun _ => hp 9)) (less_if (less_gate (Zcp (Zcq _) fun _ => hp 10))
   (less_if (less_gate (Zcp (Zcq _) fun _ => Zav hx fun _ => Zav (Zbb (T _)) fun _ => Zav hx fun _ => Zav (Zbb (T _)) fun _ => Zav hx fun _ => Zav (Zbb (T _)) fun _ => Zav hx fun _ => Zav (Zbb (T _)) fun _ => Zbt _))
   (less_if (less_gate (Zcp (Zcq _) fun _ => Zav hx fun _ => Zav (Zbb (T _)) fun _ => Zbt _)) less_fail)))))))
theorem lw_term {ok : Bool} (n : QN Q) (m : QM Q) (h : ∀ w ∈ sSlash :: sStar :: factorW, QW Q w) (ht : Lw Q tm) (hx : Lw Q ex) : Lw Q (termB ok tm ex) :=
 Zdi hd_isNum (Zav (lw_frac m (h _ (by decide))) fun _ => Zdi (Zct _) (lw_gate (Zav (Zbb (h _ (by decide))) fun _ => Zav ht fun _ => Zbt _)) (Zbt _)) (lw_factor n (fun w hw => h w (List.mem_of_mem_drop (i := 2) hw)) hx)
theorem less_term {ok : Bool} (ht : Lw (fun _ => True) tm) (hx : Lw (fun _ => True) ex) : Less (termB ok tm ex) :=
 less_if (Zcp less_frac fun _ => Zdi (Q := fun _ => True) (Zct _) (lw_gate (Zav (Zbb fun _ _ _ => trivial) fun _ => Zav ht fun _ => Zbt _)) (Zbt _)) (less_factor hx)
end
abbrev exprW : List (List UInt8) := sPlus :: sMinus :: sSlash :: sStar :: factorW
theorem lw_termN (n : QN Q) (m : QM Q) (h : ∀ w ∈ exprW, QW Q w) : ∀ k, Lw Q (termN k)
 | 0 => lw_term n m (fun w hw => h w (List.mem_of_mem_drop (i := 2) hw)) lw_fail lw_fail
 | k + 1 => lw_term n m (fun w hw => h w (List.mem_of_mem_drop (i := 2) hw)) (lw_termN n m h k) (lw_exprOf (h _ (by decide)) (h _ (by decide)) (lw_termN n m h k))
theorem lw_termT (k : Nat) : Lw (fun _ => True) (termN k) := lw_termN (fun _ _ _ => trivial) (fun _ _ => trivial) (fun _ _ _ _ _ => trivial) k
theorem lw_exprN (n : QN Q) (m : QM Q) (h : ∀ w ∈ exprW, QW Q w) (k : Nat) : Lw Q (exprN k) := lw_exprOf (h _ (by decide)) (h _ (by decide)) (lw_termN n m h k)
theorem lw_exprT (k : Nat) : Lw (fun _ => True) (exprN k) := lw_exprN (fun _ _ _ => trivial) (fun _ _ => trivial) (fun _ _ _ _ _ => trivial) k
theorem less_termN : ∀ k, Less (termN k)
 | 0 => less_term lw_fail lw_fail
 | k + 1 => less_term (lw_termT k) (lw_exprT k)
theorem less_exprN (k : Nat) : Less (exprN k) := less_exprOf (lw_termT k) (less_termN k)
abbrev roundW : List (List UInt8) := [wRound, wPanel, wQuota, wOver, wUnder, wLots, wFree, wPlaces, wScore, wTie]
theorem lw_cut (h : ∀ w ∈ [wOver, wUnder, wLots], QW Q w) : Lw Q cutP := Zdi (Zct _) (Zav (Zbb (h _ (by decide))) fun _ => Zbt _) (Zdi (Zct _) (Zav (Zbb (h _ (by decide))) fun _ => Zbt _) (Zav (Zbb (h _ (by decide))) fun _ => Zbt _))
theorem lw_score (n : QN Q) (m : QM Q) (hp : QW Q wPlaces) (hs : QW Q wScore) (h : ∀ w ∈ exprW, QW Q w) : Lw Q scoreP := Zdi (Zct _) (Zav (Zbb hp) fun _ => Zbt _) (Zav (Zbb hs) fun _ => Zav (lw_exprN n m h 16) fun _ => Zbt _)
theorem lw_tieRef (n : QN Q) (h : QW Q wTie) : Lw Q tieRefP := Zdi (Zct _) (Zav (lw_named h n) fun _ => Zbt _) (Zbt _)
theorem lw_round (n : QN Q) (m : QM Q) (h : ∀ w ∈ roundW, QW Q w) (hx : ∀ w ∈ exprW, QW Q w) : Lw Q roundB :=
 Zav (lw_named (h _ (by decide)) n) fun _ => Zav (Zd6 (h _ (by decide)) m) fun _ => Zav (Zd6 (h _ (by decide)) m) fun _ => Zav (lw_cut fun w hw => h w (List.mem_of_mem_drop (i := 3) (List.mem_of_mem_take (i := 3) hw))) fun _ => Zav (lw_flag (h _ (by decide))) fun _ => Zav (lw_score n m (h _ (by decide)) (h _ (by decide)) hx) fun _ => Zav (lw_tieRef n (h _ (by decide))) fun _ => Zbt _
theorem lw_roundT : Lw (fun _ => True) roundB := lw_round (fun _ _ _ => trivial) (fun _ _ => trivial) (fun _ _ _ _ _ => trivial) (fun _ _ _ _ _ => trivial)
theorem less_round : Less roundB := Zcp (Q := fun _ => True) (less_named _) fun _ => Zav (Zd6 (fun _ _ _ => trivial) fun _ _ => trivial) fun _ => Zav (Zd6 (fun _ _ _ => trivial) fun _ _ => trivial) fun _ => Zav (lw_cut fun _ _ _ _ _ => trivial) fun _ => Zav (lw_flag fun _ _ _ => trivial) fun _ => Zav (lw_score (fun _ _ _ => trivial) (fun _ _ => trivial) (fun _ _ _ => trivial) (fun _ _ _ => trivial) fun _ _ _ _ _ => trivial) fun _ => Zav (lw_tieRef (fun _ _ _ => trivial) fun _ _ _ => trivial) fun _ => Zbt _
theorem lw_prizes (m : QM Q) (h : ∀ w ∈ [wPrizes, sComma, sSemi], QW Q w) : Lw Q prizesP := Zdi (Zct _) (Zav (Zbb (h _ (by decide))) fun _ => Zav (lw_list (h _ (by decide)) (lw_num m)) fun _ => Zav (Zbb (h _ (by decide))) fun _ => Zbt _) (Zbt _)
theorem lw_points (m : QM Q) (h : ∀ w ∈ [wPoints, wBest, sComma, sSemi], QW Q w) : Lw Q pointsP := Zdi (Zct _) (Zav (Zbb (h _ (by decide))) fun _ => Zav (lw_list (h _ (by decide)) (lw_num m)) fun _ => Zav (Zd6 (h _ (by decide)) m) fun _ => Zav (Zbb (h _ (by decide))) fun _ => Zbt _) (Zbt _)
theorem end_ok {ts r : List TokD} {x : Unit} (h : endP ts = .ok (x, r)) : ts = [] ∧ r = [] := by
 unfold endP at h
 by_cases e : ts = []
 · rw [if_pos e] at h; injection h with h; injection h with _ h; exact ⟨e, h.symm⟩
 · rw [if_neg e] at h; cases h
theorem lw_end : Lw Q endP where
 ok {ts x r} h := by obtain ⟨rfl, rfl⟩ := end_ok h; exact ⟨[], rfl, fun t ht => by (cases ht), fun hr => absurd rfl hr⟩
 err {ts e} h := by
   unfold endP at h
   by_cases he : ts = []
   · rw [if_pos he] at h; cases h
   · rw [if_neg he] at h
     injection h with h; subst h
     refine ⟨[], rfl, fun hr z hz => ?_⟩
     show endP z = _
     unfold endP
     rw [if_neg (by rintro rfl; rw [List.head?_nil] at hz; exact hr (List.head?_eq_none_iff.1 hz.symm))]
theorem lw_rules : Lw (fun _ => True) rulesP :=
 have n : QN (fun _ => True) := fun _ _ _ => trivial
 have m : QM (fun _ => True) := fun _ _ => trivial
 have w : ∀ w, QW (fun _ => True) w := fun _ _ _ _ => trivial
 Zav (lw_named (w _) n) fun _ => Zav (Zbb (w _)) fun _ => Zav (lw_some _ (w _) (lw_crit n m fun v _ => w v) less_crit) fun _ => Zav (lw_some _ (w _) (lw_item n m fun v _ => w v) (less_item _)) fun _ => Zav (lw_some _ (w _) (lw_item n m fun v _ => w v) (less_item _)) fun _ => Zav (lw_some _ (w _) (lw_tie n (w _) (w _) fun v _ => w v) less_tie) fun _ => Zav (lw_some _ (w _) lw_roundT less_round) fun _ => Zav (lw_prizes m fun v _ => w v) fun _ => Zav (lw_points m fun v _ => w v) fun _ => Zav lw_end fun _ => Zbt _
end Go.Sx
namespace Go.Sx
open Go.Lx Go.Fr
variable {α β σ : Type} {Q : TokD → Prop}
abbrev TT : TokD → Prop := fun _ => True
structure Dp (f g : List TokD → Res α) : Prop where
 into : ∀ {ts x r}, f ts = .ok (x, r) → g ts = .ok (x, r) ∨ ∃ e, g ts = .error e ∧ r.length < e.length
theorem Zdd (f : List TokD → Res α) : Dp f f := ⟨fun h => .inl h⟩
theorem Zdp {f f' : List TokD → Res α} {g g' : α → List TokD → Res β} (hf : Dp f f') (hg : ∀ x, Dp (g x) (g' x)) (hl : ∀ x, Lw TT (g x)) : Dp (bnd f g) (bnd f' g') := ⟨fun h => by
 obtain ⟨x, u, h1, h2⟩ := Zd1 h
 rcases hf.into h1 with h3 | ⟨e, h3, h4⟩
 · rw [Zal h3]; exact (hg x).into h2
 · exact .inr ⟨e, Zap h3, Nat.lt_of_le_of_lt ((hl x).len h2) h4⟩⟩
theorem dp_if {test : List TokD → Bool} {f f' g g' : List TokD → Res α} (hf : Dp f f') (hg : Dp g g') : Dp (fun ts => if test ts then f ts else g ts) (fun ts => if test ts then f' ts else g' ts) := ⟨fun {ts x r} h => by
 cases hb : test ts with
 | true => simp only [hb, if_true] at h ⊢; exact hf.into h
 | false => simp only [hb] at h ⊢; exact hg.into h⟩
theorem dp_fail {f : List TokD → Res α} (hl : Less f) : Dp f (fun ts => .error ts) := ⟨fun h => .inr ⟨_, rfl, hl.lt h⟩⟩
theorem dp_gate {ok ok' : Bool} {f f' : List TokD → Res α} (hd : Dp f f') (hl : Less f) : Dp (gate ok f) (gate ok' f') := by
 cases ok
 · exact ⟨fun h => by cases h⟩
 · cases ok'
   · exact dp_fail hl
   · exact hd
theorem dp_run {test : List TokD → Bool} {item item' : σ → List TokD → Res σ} (h0 : test [] = false) (ht : Hd test) (hl : ∀ s, Less (item s)) (hl' : ∀ s, Less (item' s)) (hi : ∀ s, Lw TT (item s)) (hd : ∀ s, Dp (item s) (item' s)) (s : σ) : Dp (runP test item s) (runP test item' s) := by
 have key : ∀ (n : Nat) (s : σ) (ts : List TokD), ts.length ≤ n → ∀ {x r}, runP test item s ts = .ok (x, r) → runP test item' s ts = .ok (x, r) ∨ ∃ e, runP test item' s ts = .error e ∧ r.length < e.length := by
   intro n
   induction n with
   | zero =>
     intro s ts hn x r h
     rw [List.length_eq_zero_iff.1 (Nat.le_zero.1 hn), Zde h0 hl, if_neg (by rw [h0]; simp)] at h
     rw [List.length_eq_zero_iff.1 (Nat.le_zero.1 hn), Zde h0 hl', if_neg (by rw [h0]; simp)]
     exact .inl h
   | succ n ih =>
     intro s ts hn x r h
     rw [Zde h0 hl] at h
     rw [Zde h0 hl']
     cases hb : test ts with
     | false => rw [hb] at h; exact .inl h
     | true =>
       rw [hb, if_pos rfl] at h
       rw [if_pos rfl]
       obtain ⟨y, u, h1, h2⟩ := Zd1 h
       have hlt := (hl s).lt h1
       rcases (hd s).into h1 with h3 | ⟨e, h3, h4⟩
       · rw [Zal h3]; exact ih y u (by omega) h2
       · exact .inr ⟨e, Zap h3, Nat.lt_of_le_of_lt ((lw_run h0 ht hl hi y).len h2) h4⟩
 exact ⟨fun h => key _ s _ (Nat.le_refl _) h⟩
theorem tt_w (w : List UInt8) : QW TT w := fun _ _ _ => trivial
section
variable {tm tm' ex ex' : List TokD → Res Ex}
theorem dp_addStep (hd : Dp tm tm') (lt : Lw TT tm) (x : Ex) : Dp (addStep tm x) (addStep tm' x) :=
 dp_if (Zdp (Zdd _) (fun _ => Zdp hd (fun _ => Zdd _) fun _ => Zbt _) fun _ => Zav lt fun _ => Zbt _)
   (Zdp (Zdd _) (fun _ => Zdp hd (fun _ => Zdd _) fun _ => Zbt _) fun _ => Zav lt fun _ => Zbt _)
theorem dp_exprOf (hd : Dp tm tm') (lt : Lw TT tm) (lt' : Lw TT tm') : Dp (exprOf tm) (exprOf tm') :=
 Zdp hd (fun x => dp_run rfl hd_add (less_addStep lt) (less_addStep lt') (lw_addStep (tt_w _) (tt_w _) lt) (dp_addStep hd lt) x) fun x => lw_run rfl hd_add (less_addStep lt) (lw_addStep (tt_w _) (tt_w _) lt) x
theorem dp_pair (hd : Dp ex ex') (lx : Lw TT ex) (k : Int) : Dp (pairP ex k) (pairP ex' k) :=
 have l1 : ∀ x y : Ex, Lw TT (bnd (want sClose) fun _ => ret (Ex.mk k [] 0 0 [x, y])) := fun _ _ => Zav (Zbb (tt_w _)) fun _ => Zbt _
 have l2 : ∀ x : Ex, Lw TT (bnd ex fun y => bnd (want sClose) fun _ => ret (Ex.mk k [] 0 0 [x, y])) := fun x => Zav lx (l1 x)
 have l3 : ∀ x : Ex, Lw TT (bnd (want sComma) fun _ => bnd ex fun y => bnd (want sClose) fun _ => ret (Ex.mk k [] 0 0 [x, y])) := fun x => Zav (Zbb (tt_w _)) fun _ => l2 x
 Zdp (Zdd _) (fun _ => Zdp hd (fun x => Zdp (Zdd _) (fun _ => Zdp hd (fun _ => Zdd _) (l1 x)) fun _ => l2 x) l3) fun _ => Zav lx l3
theorem dp_if4 (hd : Dp ex ex') (lx : Lw TT ex) : Dp (bnd ex fun a => bnd (want wUpto) fun _ => bnd ex fun b => bnd (want wThen) fun _ => bnd ex fun c => bnd (want wElse) fun _ => bnd ex fun d => bnd (want wEnd) fun _ => ret (Ex.mk 11 [] 0 0 [a, b, c, d]))
   (bnd ex' fun a => bnd (want wUpto) fun _ => bnd ex' fun b => bnd (want wThen) fun _ => bnd ex' fun c => bnd (want wElse) fun _ => bnd ex' fun d => bnd (want wEnd) fun _ => ret (Ex.mk 11 [] 0 0 [a, b, c, d])) :=
 have l1 : ∀ a b c d : Ex, Lw TT (bnd (want wEnd) fun _ => ret (Ex.mk 11 [] 0 0 [a, b, c, d])) := fun _ _ _ _ => Zav (Zbb (tt_w _)) fun _ => Zbt _
 have l2 : ∀ a b c : Ex, Lw TT (bnd ex fun d => bnd (want wEnd) fun _ => ret (Ex.mk 11 [] 0 0 [a, b, c, d])) := fun a b c => Zav lx (l1 a b c)
 have l3 : ∀ a b c : Ex, Lw TT (bnd (want wElse) fun _ => bnd ex fun d => bnd (want wEnd) fun _ => ret (Ex.mk 11 [] 0 0 [a, b, c, d])) := fun a b c => Zav (Zbb (tt_w _)) fun _ => l2 a b c
 have l4 : ∀ a b : Ex, Lw TT (bnd ex fun c => bnd (want wElse) fun _ => bnd ex fun d => bnd (want wEnd) fun _ => ret (Ex.mk 11 [] 0 0 [a, b, c, d])) := fun a b => Zav lx (l3 a b)
 have l5 : ∀ a b : Ex, Lw TT (bnd (want wThen) fun _ => bnd ex fun c => bnd (want wElse) fun _ => bnd ex fun d => bnd (want wEnd) fun _ => ret (Ex.mk 11 [] 0 0 [a, b, c, d])) := fun a b => Zav (Zbb (tt_w _)) fun _ => l4 a b
 have l6 : ∀ a : Ex, Lw TT (bnd ex fun b => bnd (want wThen) fun _ => bnd ex fun c => bnd (want wElse) fun _ => bnd ex fun d => bnd (want wEnd) fun _ => ret (Ex.mk 11 [] 0 0 [a, b, c, d])) := fun a => Zav lx (l5 a)
 have l7 : ∀ a : Ex, Lw TT (bnd (want wUpto) fun _ => bnd ex fun b => bnd (want wThen) fun _ => bnd ex fun c => bnd (want wElse) fun _ => bnd ex fun d => bnd (want wEnd) fun _ => ret (Ex.mk 11 [] 0 0 [a, b, c, d])) := fun a => Zav (Zbb (tt_w _)) fun _ => l6 a
 Zdp hd (fun a => Zdp (Zdd _) (fun _ => Zdp hd (fun b => Zdp (Zdd _) (fun _ => Zdp hd (fun c => Zdp (Zdd _) (fun _ => Zdp hd (fun _ => Zdd _) (l1 a b c)) fun _ => l2 a b c) (l3 a b)) fun _ => l4 a b) (l5 a)) fun _ => l6 a) l7
theorem lw_if4 (lx : Lw TT ex) : Lw TT (bnd ex fun a => bnd (want wUpto) fun _ => bnd ex fun b => bnd (want wThen) fun _ => bnd ex fun c => bnd (want wElse) fun _ => bnd ex fun d => bnd (want wEnd) fun _ => ret (Ex.mk 11 [] 0 0 [a, b, c, d])) :=
 Zav lx fun _ => Zav (Zbb (tt_w _)) fun _ => Zav lx fun _ => Zav (Zbb (tt_w _)) fun _ => Zav lx fun _ => Zav (Zbb (tt_w _)) fun _ => Zav lx fun _ => Zav (Zbb (tt_w _)) fun _ => Zbt _
theorem dp_factor {ok ok' : Bool} (hd : Dp ex ex') (lx : Lw TT ex) : Dp (factorB ok ex) (factorB ok' ex') :=
 have hp := fun k => lw_pair (Q := TT) (fun w _ => tt_w w) lx k
 have l1 : ∀ x : Ex, Lw TT (bnd (want sClose) fun _ => ret x) := fun _ => Zav (Zbb (tt_w _)) fun _ => Zbt _
 dp_if (Zdd _) (dp_if (Zdd _) (dp_if (Zdd _) (dp_if (Zdd _)
   (dp_if (dp_gate (Zdp (Zdd _) (fun _ => dp_pair hd lx 9) fun _ => hp 9) (Zcp (Zcq _) fun _ => hp 9))
   (dp_if (dp_gate (Zdp (Zdd _) (fun _ => dp_pair hd lx 10) fun _ => hp 10) (Zcp (Zcq _) fun _ => hp 10))
   (dp_if (dp_gate (Zdp (Zdd _) (fun _ => dp_if4 hd lx) fun _ => lw_if4 lx) (Zcp (Zcq _) fun _ => lw_if4 lx))
   (dp_if (dp_gate (Zdp (Zdd _) (fun _ => Zdp hd (fun _ => Zdd _) l1) fun _ => Zav lx l1) (Zcp (Zcq _) fun _ => Zav lx l1)) (Zdd _))))))))
theorem dp_term {ok ok' : Bool} (hd : Dp tm tm') (lt : Lw TT tm) (hx : Dp ex ex') (lx : Lw TT ex) : Dp (termB ok tm ex) (termB ok' tm' ex') :=
 have l1 : ∀ q : Int × Int, Lw TT (bnd tm fun x => ret (Ex.mk 8 [] q.1 q.2 [x])) := fun _ => Zav lt fun _ => Zbt _
 dp_if (Zdp (Zdd _) (fun q => dp_if (dp_gate (Zdp (Zdd _) (fun _ => Zdp hd (fun _ => Zdd _) fun _ => Zbt _) fun _ => l1 q) (Zcp (Zcq _) fun _ => l1 q)) (Zdd _))
   fun q => Zdi (Zct _) (lw_gate (Zav (Zbb (tt_w _)) fun _ => l1 q)) (Zbt _)) (dp_factor hx lx)
end
theorem dp_termN : ∀ n m, m ≤ n → Dp (termN n) (termN m)
 | 0, 0, _ => Zdd _
 | 0, m + 1, h => absurd h (by omega)
 | n + 1, 0, _ => dp_term (dp_fail (less_termN n)) (lw_termT n) (dp_fail (less_exprN n)) (lw_exprT n)
 | n + 1, m + 1, h => dp_term (dp_termN n m (by omega)) (lw_termT n) (dp_exprOf (dp_termN n m (by omega)) (lw_termT n) (lw_termT m)) (lw_exprT n)
theorem dp_exprN (n m : Nat) (h : m ≤ n) : Dp (exprN n) (exprN m) := dp_exprOf (dp_termN n m h) (lw_termT n) (lw_termT m)
def Inert (z : List TokD) : Prop := isT sPlus z = false ∧ isT sMinus z = false ∧ isT sSlash z = false ∧ isT sStar z = false
structure Fol (f : List TokD → Res α) : Prop where
 into : ∀ {c x r}, f (c ++ r) = .ok (x, r) → Inert r → ∀ z, Inert z → f (c ++ z) = .ok (x, z)
theorem fol_bnd {f : List TokD → Res α} {g : α → List TokD → Res β} (hf : Fol f) (lf : Lw TT f) (hg : ∀ x, Fol (g x)) (lg : ∀ x, Lw TT (g x)) : Fol (bnd f g) := ⟨fun {c y r} h hr z hz => by
 obtain ⟨x, u, h1, h2⟩ := Zd1 h
 obtain ⟨c1, e1, -, l1⟩ := lf.ok h1
 obtain ⟨c2, rfl, -, -⟩ := (lg x).ok h2
 rw [← List.append_assoc] at e1
 obtain rfl := List.append_cancel_right e1
 rw [List.append_assoc] at h1 ⊢
 cases c2 with
 | nil =>
   rw [List.nil_append] at h1 ⊢
   rw [Zal (hf.into h1 hr z hz)]
   exact (hg x).into (c := []) h2 hr z hz
 | cons t c2 =>
   rw [Zal (l1 (by simp) _ (by simp))]
   exact (hg x).into h2 hr z hz⟩
theorem fol_if {test : List TokD → Bool} {f g : List TokD → Res α} (ht : Hd test) (hf : Fol f) (lf : Less f) (hg : Fol g) (lg : Less g) : Fol (fun ts => if test ts then f ts else g ts) := ⟨fun {c x r} h hr z hz => by
 have hc : c ≠ [] := by
   rintro rfl
   cases hb : test ([] ++ r) with
   | true => simp only [hb, if_true] at h; exact absurd (lf.lt h) (by simp)
   | false => simp only [hb] at h; exact absurd (lg.lt h) (by simp)
 have e : test (c ++ z) = test (c ++ r) := ht _ _ (by cases c with | nil => exact absurd rfl hc | cons t c => rfl)
 simp only [e]
 cases hb : test (c ++ r) with
 | true => simp only [hb, if_true] at h ⊢; exact hf.into h hr z hz
 | false => simp only [hb] at h ⊢; exact hg.into h hr z hz⟩
theorem fol_ifI {test : List TokD → Bool} {f g : List TokD → Res α} (ht : Hd test) (hi : ∀ z, Inert z → test z = false) (hf : Fol f) (hg : Fol g) : Fol (fun ts => if test ts then f ts else g ts) := ⟨fun {c x r} h hr z hz => by
 cases c with
 | nil =>
   simp only [List.nil_append, hi r hr, hi z hz] at h ⊢
   exact hg.into (c := []) h hr z hz
 | cons t c =>
   have e : test (t :: c ++ z) = test (t :: c ++ r) := ht _ _ rfl
   simp only [e]
   cases hb : test (t :: c ++ r) with
   | true => simp only [hb, if_true] at h ⊢; exact hf.into h hr z hz
   | false => simp only [hb] at h ⊢; exact hg.into h hr z hz⟩
theorem fol_ret (x : α) : Fol (ret x) := ⟨fun {c y r} h _ z _ => by
 injection h with h; injection h with h1 h2
 obtain rfl : c = [] := by simpa using congrArg List.length h2
 rw [h1]; rfl⟩
theorem fol_fail : Fol (fun ts => (.error ts : Res α)) := ⟨fun h => by cases h⟩
theorem fol_lw {f : List TokD → Res α} (h : ∀ {ts x r}, f ts = .ok (x, r) → ∃ t, ts = t :: r ∧ ∀ z, f (t :: z) = .ok (x, z)) : Fol f := ⟨fun {c x r} h1 _ z _ => by
 obtain ⟨t, e, h2⟩ := h h1
 obtain rfl : c = [t] := List.append_cancel_right (e.trans rfl)
 exact h2 z⟩
theorem fol_want (w : List UInt8) : Fol (want w) := fol_lw fun h => by
 obtain ⟨t, rfl, h1, h2⟩ := want_ok h
 exact ⟨t, rfl, fun z => by unfold want; rw [if_pos (by unfold isT; simp [h1, h2])]; rfl⟩
theorem fol_name : Fol nameP := fol_lw fun h => by
 obtain ⟨t, rfl, h1, h2, rfl⟩ := name_ok h
 exact ⟨t, rfl, fun z => by unfold nameP; simp only; rw [if_pos (by unfold isName; simp [h1, h2])]⟩
theorem fol_num : Fol numP := fol_lw fun h => by
 obtain ⟨t, rfl, h1, rfl⟩ := num_ok h
 exact ⟨t, rfl, fun z => by unfold numP; simp only; rw [if_pos (by unfold isNum; simp [h1])]⟩
theorem fol_gate {ok : Bool} {f : List TokD → Res α} (h : Fol f) : Fol (gate ok f) := by cases ok; exact fol_fail; exact h
theorem fol_run {test : List TokD → Bool} {item : σ → List TokD → Res σ} (h0 : test [] = false) (ht : Hd test) (hin : ∀ z, Inert z → test z = false) (hl : ∀ s, Less (item s)) (hi : ∀ s, Lw TT (item s)) (hf : ∀ s, Fol (item s)) (s : σ) : Fol (runP test item s) := by
 have key : ∀ (n : Nat) (s : σ) (c r : List TokD), (c ++ r).length ≤ n → ∀ {x}, runP test item s (c ++ r) = .ok (x, r) → Inert r → ∀ z, Inert z → runP test item s (c ++ z) = .ok (x, z) := by
   intro n
   induction n with
   | zero =>
     intro s c r hn x h hr z hz
     obtain ⟨rfl, rfl⟩ : c = [] ∧ r = [] := by simpa using List.length_eq_zero_iff.1 (Nat.le_zero.1 hn)
     rw [List.append_nil, Zde h0 hl, if_neg (by rw [h0]; simp)] at h
     rw [List.nil_append, Zde h0 hl, if_neg (by rw [hin z hz]; simp)]
     injection h with h; injection h with h1 h2; rw [h1]; rfl
   | succ n ih =>
     intro s c r hn x h hr z hz
     rw [Zde h0 hl] at h
     rw [Zde h0 hl]
     cases c with
     | nil =>
       rw [List.nil_append, if_neg (by rw [hin r hr]; simp)] at h
       rw [List.nil_append, if_neg (by rw [hin z hz]; simp)]
       injection h with h; injection h with h1 h2; rw [h1]; rfl
     | cons t c =>
       have e : test (t :: c ++ z) = test (t :: c ++ r) := ht _ _ rfl
       rw [e]
       cases hb : test (t :: c ++ r) with
       | false =>
         rw [hb] at h
         injection h with h; injection h with h1 h2
         have := congrArg List.length h2
         simp only [List.length_append, List.length_cons] at this
         omega
       | true =>
         rw [hb, if_pos rfl] at h
         rw [if_pos rfl]
         obtain ⟨y, u, h1, h2⟩ := Zd1 h
         have hlt := (hl s).lt h1
         obtain ⟨c1, e1, -, l1⟩ := (hi s).ok h1
         obtain ⟨c2, rfl, -, -⟩ := (lw_run h0 ht hl hi y).ok h2
         rw [← List.append_assoc] at e1
         have e2 := List.append_cancel_right e1
         rw [e2, List.append_assoc] at h1 ⊢
         rw [e1, List.append_assoc] at hlt
         have hn2 : (c2 ++ r).length ≤ n := by
           have e3 := congrArg List.length e1
           rw [List.append_assoc] at e3
           omega
         cases c2 with
         | nil =>
           rw [List.nil_append] at h1 ⊢
           rw [Zal ((hf s).into h1 hr z hz)]
           exact ih y [] r hn2 h2 hr z hz
         | cons v c2 =>
           rw [Zal (l1 (by simp) _ (by simp))]
           exact ih y (v :: c2) r hn2 h2 hr z hz
 exact ⟨fun h => key _ s _ _ (Nat.le_refl _) h⟩
theorem inert_add (z : List TokD) (h : Inert z) : addT z = false := by unfold addT; rw [h.1, h.2.1]; rfl
theorem fol_frac : Fol fracP :=
 have l1 : ∀ n : Int, Lw TT (bnd numP fun d => ret (n, d)) := fun _ => Zav (lw_num fun _ _ => trivial) fun _ => Zbt _
 have l2 : ∀ n : Int, Lw TT (fun ts => if zeroHere ts then .error ts else bnd numP (fun d => ret (n, d)) ts) := fun n => Zdi hd_zero lw_fail (l1 n)
 fol_bnd fol_num (lw_num fun _ _ => trivial) (fun n => fol_ifI (Zct _) (fun _ h => h.2.2.1) (fol_bnd (fol_want _) (Zbb (tt_w _)) (fun _ => fol_if hd_zero fol_fail less_fail (fol_bnd fol_num (lw_num fun _ _ => trivial) (fun _ => fol_ret _) fun _ => Zbt _) (Zcp (Q := TT) less_num fun _ => Zbt _)) fun _ => l2 n) (fol_ret _))
   fun n => Zdi (Zct _) (Zav (Zbb (tt_w _)) fun _ => l2 n) (Zbt _)
section
variable {tm ex : List TokD → Res Ex}
theorem fol_addStep (ht : Fol tm) (lt : Lw TT tm) (x : Ex) : Fol (addStep tm x) :=
 have l1 : ∀ k, Lw TT (bnd tm fun y => ret (Ex.mk k [] 0 0 [x, y])) := fun _ => Zav lt fun _ => Zbt _
 fol_if (Zct _) (fol_bnd (fol_want _) (Zbb (tt_w _)) (fun _ => fol_bnd ht lt (fun _ => fol_ret _) fun _ => Zbt _) fun _ => l1 6) (Zcp (Zcq _) fun _ => l1 6)
   (fol_bnd (fol_want _) (Zbb (tt_w _)) (fun _ => fol_bnd ht lt (fun _ => fol_ret _) fun _ => Zbt _) fun _ => l1 7) (Zcp (Zcq _) fun _ => l1 7)
theorem fol_exprOf (ht : Fol tm) (lt : Lw TT tm) : Fol (exprOf tm) :=
 fol_bnd ht lt (fun x => fol_run rfl hd_add inert_add (less_addStep lt) (lw_addStep (tt_w _) (tt_w _) lt) (fol_addStep ht lt) x) fun x => lw_run rfl hd_add (less_addStep lt) (lw_addStep (tt_w _) (tt_w _) lt) x
theorem fol_end {f : List TokD → Res α} {w : List UInt8} {g : α → β} (lf : Lw TT f) : Fol (bnd f fun x => bnd (want w) fun _ => ret (g x)) := ⟨fun {c y r} h _ z _ => by
 obtain ⟨x, u, h1, h2⟩ := Zd1 h
 obtain ⟨v, u2, h3, h4⟩ := Zd1 h2
 obtain ⟨t, rfl, k1, k2⟩ := want_ok h3
 injection h4 with h4; injection h4 with h5 h6; subst h6
 obtain ⟨c1, e1, -, l1⟩ := lf.ok h1
 obtain rfl : c = c1 ++ [t] := List.append_cancel_right (bs := u2) (by rw [e1]; simp)
 rw [List.append_assoc, List.cons_append, List.nil_append, Zal (l1 (by simp) (t :: z) rfl)]
 have : want w (t :: z) = .ok ((), z) := by unfold want; rw [if_pos (by unfold isT; simp [k1, k2])]; rfl
 rw [Zal this, ← h5]; rfl⟩
theorem fol_bndL {f : List TokD → Res α} {g : α → List TokD → Res β} (lf : Lw TT f) (hg : ∀ x, Fol (g x)) (lg : ∀ x, Lw TT (g x)) (ll : ∀ x, Less (g x)) : Fol (bnd f g) := ⟨fun {c y r} h hr z hz => by
 obtain ⟨x, u, h1, h2⟩ := Zd1 h
 obtain ⟨c1, e1, -, l1⟩ := lf.ok h1
 have hlt := (ll x).lt h2
 obtain ⟨c2, rfl, -, -⟩ := (lg x).ok h2
 rw [← List.append_assoc] at e1
 obtain rfl := List.append_cancel_right e1
 rw [List.append_assoc]
 cases c2 with
 | nil => simp at hlt
 | cons t c2 =>
   rw [Zal (l1 (by simp) _ (by simp))]
   exact (hg x).into h2 hr z hz⟩
theorem fol_wr (w : List UInt8) (y : β) : Fol (bnd (want w) fun _ => ret y) := fol_bnd (fol_want w) (Zbb (tt_w _)) (fun _ => fol_ret _) fun _ => Zbt _
theorem less_wr (w : List UInt8) (y : β) : Less (bnd (want w) fun _ => ret y) := Zcp (Q := TT) (Zcq w) fun _ => Zbt _
theorem lw_wr (w : List UInt8) (y : β) : Lw TT (bnd (want w) fun _ => ret y) := Zav (Zbb (tt_w _)) fun _ => Zbt _
theorem fol_pair (lx : Lw TT ex) (hl : Less ex) (k : Int) : Fol (pairP ex k) :=
 have l2 : ∀ x : Ex, Lw TT (bnd ex fun y => bnd (want sClose) fun _ => ret (Ex.mk k [] 0 0 [x, y])) := fun _x => Zav lx fun _ => lw_wr _ _
 have l3 : ∀ x : Ex, Lw TT (bnd (want sComma) fun _ => bnd ex fun y => bnd (want sClose) fun _ => ret (Ex.mk k [] 0 0 [x, y])) := fun x => Zav (Zbb (tt_w _)) fun _ => l2 x
 fol_bndL (Zbb (tt_w _)) (fun _ => fol_bndL lx (fun x => fol_bndL (Zbb (tt_w _)) (fun _ => fol_end lx) (fun _ => l2 x) fun _ => Zcp (Q := TT) hl fun _ => lw_wr _ _) l3 fun x => Zcp (Zcq _) fun _ => l2 x) (fun _ => Zav lx l3) fun _ => Zcp (Q := TT) hl l3
theorem fol_if4 (lx : Lw TT ex) (hl : Less ex) : Fol (bnd ex fun a => bnd (want wUpto) fun _ => bnd ex fun b => bnd (want wThen) fun _ => bnd ex fun c => bnd (want wElse) fun _ => bnd ex fun d => bnd (want wEnd) fun _ => ret (Ex.mk 11 [] 0 0 [a, b, c, d])) :=
 have l2 : ∀ a b c : Ex, Lw TT (bnd ex fun d => bnd (want wEnd) fun _ => ret (Ex.mk 11 [] 0 0 [a, b, c, d])) := fun _a _b _c => Zav lx fun _ => lw_wr _ _
 have l3 : ∀ a b c : Ex, Lw TT (bnd (want wElse) fun _ => bnd ex fun d => bnd (want wEnd) fun _ => ret (Ex.mk 11 [] 0 0 [a, b, c, d])) := fun a b c => Zav (Zbb (tt_w _)) fun _ => l2 a b c
 have l4 : ∀ a b : Ex, Lw TT (bnd ex fun c => bnd (want wElse) fun _ => bnd ex fun d => bnd (want wEnd) fun _ => ret (Ex.mk 11 [] 0 0 [a, b, c, d])) := fun a b => Zav lx (l3 a b)
 have l5 : ∀ a b : Ex, Lw TT (bnd (want wThen) fun _ => bnd ex fun c => bnd (want wElse) fun _ => bnd ex fun d => bnd (want wEnd) fun _ => ret (Ex.mk 11 [] 0 0 [a, b, c, d])) := fun a b => Zav (Zbb (tt_w _)) fun _ => l4 a b
 have l6 : ∀ a : Ex, Lw TT (bnd ex fun b => bnd (want wThen) fun _ => bnd ex fun c => bnd (want wElse) fun _ => bnd ex fun d => bnd (want wEnd) fun _ => ret (Ex.mk 11 [] 0 0 [a, b, c, d])) := fun a => Zav lx (l5 a)
 have l7 : ∀ a : Ex, Lw TT (bnd (want wUpto) fun _ => bnd ex fun b => bnd (want wThen) fun _ => bnd ex fun c => bnd (want wElse) fun _ => bnd ex fun d => bnd (want wEnd) fun _ => ret (Ex.mk 11 [] 0 0 [a, b, c, d])) := fun a => Zav (Zbb (tt_w _)) fun _ => l6 a
 fol_bndL lx (fun a => fol_bndL (Zbb (tt_w _)) (fun _ => fol_bndL lx (fun b => fol_bndL (Zbb (tt_w _)) (fun _ => fol_bndL lx (fun c => fol_bndL (Zbb (tt_w _)) (fun _ => fol_end lx) (fun _ => l2 a b c) fun _ => Zcp (Q := TT) hl fun _ => lw_wr _ _) (l3 a b) fun c => Zcp (Zcq _) fun _ => l2 a b c) (fun _ => l4 a b) fun _ => Zcp (Q := TT) hl (l3 a b)) (l5 a) fun b => Zcp (Zcq _) fun _ => l4 a b) (fun _ => l6 a) fun _ => Zcp (Q := TT) hl (l5 a)) l7 fun a => Zcp (Zcq _) fun _ => l6 a
theorem fol_factor {ok : Bool} (lx : Lw TT ex) (hl : Less ex) : Fol (factorB ok ex) :=
 have hp := fun k => lw_pair (Q := TT) (fun w _ => tt_w w) lx k
 have hpl : ∀ k, Less (pairP ex k) := fun _k => Zcp (Q := TT) (Zcq _) fun _ => Zav lx fun _ => Zav (Zbb (tt_w _)) fun _ => Zav lx fun _ => lw_wr _ _
 have l1 : ∀ x : Ex, Lw TT (bnd (want sClose) fun _ => ret x) := fun _ => lw_wr _ _
 have a8 : Less (gate ok (bnd (want sOpen) fun _ => bnd ex fun x => bnd (want sClose) fun _ => ret x)) := less_gate (Zcp (Zcq _) fun _ => Zav lx l1)
 have a7 : Less (gate ok (bnd (want wIf) fun _ => bnd ex fun a => bnd (want wUpto) fun _ => bnd ex fun b => bnd (want wThen) fun _ => bnd ex fun c => bnd (want wElse) fun _ => bnd ex fun d => bnd (want wEnd) fun _ => ret (Ex.mk 11 [] 0 0 [a, b, c, d]))) := less_gate (Zcp (Zcq _) fun _ => lw_if4 lx)
 have a6 : Less (gate ok (bnd (want wGreatest) fun _ => pairP ex 10)) := less_gate (Zcp (Zcq _) fun _ => hp 10)
 have a5 : Less (gate ok (bnd (want wLeast) fun _ => pairP ex 9)) := less_gate (Zcp (Zcq _) fun _ => hp 9)
 have a4 : Less (bnd (named wRound) fun nm => ret (Ex.mk 5 nm 0 0 [])) := Zcp (Q := TT) (less_named _) fun _ => Zbt _
 have a1 : Less (bnd nameP fun nm => ret (Ex.mk 2 nm 0 0 [])) := Zcp (Q := TT) less_name fun _ => Zbt _
 have b8 := less_if (test := isT sOpen) a8 (less_fail (α := Ex))
 have b7 := less_if (test := isT wIf) a7 b8
 have b6 := less_if (test := isT wGreatest) a6 b7
 have b5 := less_if (test := isT wLeast) a5 b6
 have b4 := less_if (test := isT wRound) a4 b5
 have b3 := less_if (test := isT wMalus) (less_wr wMalus (Ex.mk 4 [] 0 0 [])) b4
 have b2 := less_if (test := isT wBonus) (less_wr wBonus (Ex.mk 3 [] 0 0 [])) b3
 fol_if hd_isName (fol_bnd fol_name (lw_name fun _ _ _ => trivial) (fun _ => fol_ret _) fun _ => Zbt _) a1 (fol_if (Zct _) (fol_wr _ _) (less_wr _ _) (fol_if (Zct _) (fol_wr _ _) (less_wr _ _)
   (fol_if (Zct _) (fol_bnd (fol_bnd (fol_want _) (Zbb (tt_w _)) (fun _ => fol_name) fun _ => lw_name fun _ _ _ => trivial) (lw_named (tt_w _) fun _ _ _ => trivial) (fun _ => fol_ret _) fun _ => Zbt _) a4
   (fol_if (Zct _) (fol_gate (fol_bndL (Zbb (tt_w _)) (fun _ => fol_pair lx hl 9) (fun _ => hp 9) fun _ => hpl 9)) a5
   (fol_if (Zct _) (fol_gate (fol_bndL (Zbb (tt_w _)) (fun _ => fol_pair lx hl 10) (fun _ => hp 10) fun _ => hpl 10)) a6
   (fol_if (Zct _) (fol_gate (fol_bndL (Zbb (tt_w _)) (fun _ => fol_if4 lx hl) (fun _ => lw_if4 lx) fun _ => Zcp (Q := TT) hl fun _ => Zav (Zbb (tt_w _)) fun _ => Zav lx fun _ => Zav (Zbb (tt_w _)) fun _ => Zav lx fun _ => Zav (Zbb (tt_w _)) fun _ => Zav lx fun _ => lw_wr _ _)) a7
   (fol_if (Zct _) (fol_gate (fol_bndL (Zbb (tt_w _)) (fun _ => fol_end (g := fun x => x) lx) (fun _ => Zav lx l1) fun _ => Zcp (Q := TT) hl l1)) a8 fol_fail less_fail) b8) b7) b6) b5) b4) b3) b2
theorem fol_term {ok : Bool} (ht : Fol tm) (lt : Lw TT tm) (lx : Lw TT ex) (hl : Less ex) : Fol (termB ok tm ex) :=
 have l1 : ∀ q : Int × Int, Lw TT (bnd tm fun x => ret (Ex.mk 8 [] q.1 q.2 [x])) := fun _ => Zav lt fun _ => Zbt _
 have l2 : ∀ q : Int × Int, Lw TT (fun ts => if isT sStar ts then gate ok (bnd (want sStar) fun _ => bnd tm fun x => ret (Ex.mk 8 [] q.1 q.2 [x])) ts else ret (Ex.mk 1 [] q.1 q.2 []) ts) := fun q => Zdi (Zct _) (lw_gate (Zav (Zbb (tt_w _)) fun _ => l1 q)) (Zbt _)
 fol_if hd_isNum (fol_bnd fol_frac (lw_frac (fun _ _ => trivial) (tt_w _)) (fun q => fol_ifI (Zct _) (fun _ h => h.2.2.2) (fol_gate (fol_bnd (fol_want _) (Zbb (tt_w _)) (fun _ => fol_bnd ht lt (fun _ => fol_ret _) fun _ => Zbt _) fun _ => l1 q)) (fol_ret _)) l2) (Zcp (Q := TT) less_frac l2) (fol_factor lx hl) (less_factor lx)
end
theorem fol_termN : ∀ n, Fol (termN n)
 | 0 => fol_term fol_fail lw_fail lw_fail less_fail
 | n + 1 => fol_term (fol_termN n) (lw_termT n) (lw_exprT n) (less_exprN n)
theorem fol_exprN (n : Nat) : Fol (exprN n) := fol_exprOf (fol_termN n) (lw_termT n)
end Go.Sx
namespace Go.Sx
open Go.Lx Go.Fr
variable {α β σ : Type} {Q : TokD → Prop}
structure Pres (h : TokD → TokD) : Prop where
 kind : ∀ t, (h t).kind = t.kind
 text : ∀ t, (h t).text = t.text
 n : ∀ t, (h t).n = t.n
def mapR (h : TokD → TokD) : Res α → Res α
 | .ok (x, r) => .ok (x, r.map h)
 | .error e => .error (e.map h)
structure Bl (f : List TokD → Res α) : Prop where
 eq : ∀ {h : TokD → TokD}, Pres h → ∀ ts, f (ts.map h) = mapR h (f ts)
def Bt (test : List TokD → Bool) : Prop := ∀ {h : TokD → TokD}, Pres h → ∀ ts : List TokD, test (ts.map h) = test ts
theorem Zdg (w : List UInt8) : Bt (isT w) := fun hp ts => by
 cases ts with
 | nil => rfl
 | cons t ts => simp only [List.map_cons, isT, hp.kind, hp.text]
theorem bt_name : Bt isName := fun hp ts => by
 cases ts with
 | nil => rfl
 | cons t ts => simp only [List.map_cons, isName, hp.kind, hp.text]
theorem bt_num : Bt isNum := fun hp ts => by
 cases ts with
 | nil => rfl
 | cons t ts => simp only [List.map_cons, isNum, hp.kind]
theorem bt_zero : Bt zeroHere := fun hp ts => by
 cases ts with
 | nil => rfl
 | cons t ts => simp only [List.map_cons, zeroHere, hp.kind, hp.n]
theorem bt_add : Bt addT := fun hp ts => by simp only [addT, Zdg _ hp]
theorem Zdq (x : α) : Bl (ret x) := ⟨fun _ _ => rfl⟩
theorem bl_fail : Bl (fun ts => (.error ts : Res α)) := ⟨fun _ _ => rfl⟩
theorem Zc2 {f : List TokD → Res α} {g : α → List TokD → Res β} (hf : Bl f) (hg : ∀ x, Bl (g x)) : Bl (bnd f g) := ⟨fun hp ts => by
 unfold bnd
 rw [hf.eq hp]
 cases f ts with
 | error e => rfl
 | ok q => exact (hg q.1).eq hp q.2⟩
theorem Zdt {test : List TokD → Bool} {f g : List TokD → Res α} (ht : Bt test) (hf : Bl f) (hg : Bl g) : Bl (fun ts => if test ts then f ts else g ts) := ⟨fun hp ts => by
 simp only [ht hp]
 cases test ts with
 | true => exact hf.eq hp ts
 | false => exact hg.eq hp ts⟩
theorem Zdf (w : List UInt8) : Bl (want w) := ⟨fun hp ts => by
 unfold want
 rw [Zdg w hp]
 cases isT w ts with
 | true => simp [mapR, List.map_tail]
 | false => simp [mapR]⟩
theorem bl_nameP : Bl nameP := ⟨fun hp ts => by
 cases ts with
 | nil => rfl
 | cons t ts =>
   have := bt_name hp (t :: ts)
   simp only [List.map_cons] at this
   simp only [List.map_cons, nameP, this, hp.text]
   cases isName (t :: ts) <;> simp [mapR]⟩
theorem bl_numP : Bl numP := ⟨fun hp ts => by
 cases ts with
 | nil => rfl
 | cons t ts =>
   have := bt_num hp (t :: ts)
   simp only [List.map_cons] at this
   simp only [List.map_cons, numP, this, hp.n]
   cases isNum (t :: ts) <;> simp [mapR]⟩
theorem bl_gate {ok : Bool} {f : List TokD → Res α} (h : Bl f) : Bl (gate ok f) := by cases ok; exact bl_fail; exact h
theorem bl_run {test : List TokD → Bool} {item : σ → List TokD → Res σ} (ht : Bt test) (hi : ∀ s, Bl (item s)) (s : σ) : Bl (runP test item s) := ⟨fun {h} hp ts => by
 have key : ∀ (f : Nat) (s : σ) (ts : List TokD), loopP test item f s (ts.map h) = mapR h (loopP test item f s ts) := by
   intro f
   induction f with
   | zero => intro s ts; rfl
   | succ f ih =>
     intro s ts
     rw [loopP, loopP, ht hp]
     cases test ts with
     | false => rfl
     | true =>
       rw [if_pos rfl, if_pos rfl, (hi s).eq hp]
       cases item s ts with
       | error e => rfl
       | ok q => exact ih q.1 q.2
 unfold runP
 rw [List.length_map]
 exact key _ _ _⟩
theorem bl_named (w : List UInt8) : Bl (named w) := Zc2 (Zdf w) fun _ => bl_nameP
theorem bl_valued (w : List UInt8) : Bl (valued w) := Zc2 (Zdf w) fun _ => bl_numP
theorem bl_wr (w : List UInt8) (y : β) : Bl (bnd (want w) fun _ => ret y) := Zc2 (Zdf w) fun _ => Zdq _
theorem bl_flag (w : List UInt8) : Bl (flag w) := Zdt (Zdg w) (bl_wr _ _) (Zdq _)
theorem bl_list {item : List TokD → Res α} (hi : Bl item) : Bl (listP item) := Zc2 hi fun _ => bl_run (Zdg _) (fun _ => Zc2 (Zdf _) fun _ => Zc2 hi fun _ => Zdq _) _
theorem bl_some {item : List TokD → Res α} (w : List UInt8) (hi : Bl item) : Bl (someP w item) := bl_run (Zdg w) (fun _ => Zc2 hi fun _ => Zc2 (Zdf _) fun _ => Zdq _) _
theorem bl_how : Bl howP := Zdt (Zdg _) (bl_wr _ _) (Zdt (Zdg _) (Zc2 (Zdf _) fun _ => Zc2 (bl_valued _) fun _ => Zdq _) (bl_wr _ _))
theorem bl_crit : Bl critB := Zc2 (bl_named _) fun _ => Zc2 (bl_valued _) fun _ => Zc2 (bl_valued _) fun _ => Zc2 (bl_valued _) fun _ => Zc2 bl_how fun _ => Zc2 (bl_flag _) fun _ => Zdq _
theorem bl_item (w : List UInt8) : Bl (itemB w) := Zc2 (bl_named _) fun _ => Zc2 (bl_valued _) fun _ => Zc2 (bl_valued _) fun _ => Zdq _
theorem bl_nr (w : List UInt8) (g : List UInt8 → β) : Bl (bnd (named w) fun nm => ret (g nm)) := Zc2 (bl_named w) fun _ => Zdq _
theorem bl_key : Bl keyP := Zdt (Zdg _) (bl_nr _ _) (Zdt (Zdg _) (bl_nr _ _) (Zdt (Zdg _) (bl_nr _ _) (Zdt (Zdg _) (bl_wr _ _) (Zdt (Zdg _) (bl_wr _ _) (bl_wr _ _)))))
theorem bl_tie : Bl tieB := Zc2 (bl_named _) fun _ => Zc2 (bl_list bl_key) fun _ => Zdq _
theorem bl_frac : Bl fracP := Zc2 bl_numP fun _ => Zdt (Zdg _) (Zc2 (Zdf _) fun _ => Zdt bt_zero bl_fail (Zc2 bl_numP fun _ => Zdq _)) (Zdq _)
section
variable {tm ex : List TokD → Res Ex}
theorem bl_addStep (ht : Bl tm) (x : Ex) : Bl (addStep tm x) := Zdt (Zdg _) (Zc2 (Zdf _) fun _ => Zc2 ht fun _ => Zdq _) (Zc2 (Zdf _) fun _ => Zc2 ht fun _ => Zdq _)
theorem bl_exprOf (ht : Bl tm) : Bl (exprOf tm) := Zc2 ht fun _ => bl_run bt_add (bl_addStep ht) _
theorem bl_pair (hx : Bl ex) (k : Int) : Bl (pairP ex k) := Zc2 (Zdf _) fun _ => Zc2 hx fun _ => Zc2 (Zdf _) fun _ => Zc2 hx fun _ => bl_wr _ _
theorem bl_factor {ok : Bool} (hx : Bl ex) : Bl (factorB ok ex) :=
 Zdt bt_name (Zc2 bl_nameP fun _ => Zdq _) (Zdt (Zdg _) (bl_wr _ _) (Zdt (Zdg _) (bl_wr _ _) (Zdt (Zdg _) (bl_nr _ _)
   (Zdt (Zdg _) (bl_gate (Zc2 (Zdf _) fun _ => bl_pair hx 9)) (Zdt (Zdg _) (bl_gate (Zc2 (Zdf _) fun _ => bl_pair hx 10))
   (Zdt (Zdg _) (bl_gate (Zc2 (Zdf _) fun _ => Zc2 hx fun _ => Zc2 (Zdf _) fun _ => Zc2 hx fun _ => Zc2 (Zdf _) fun _ => Zc2 hx fun _ => Zc2 (Zdf _) fun _ => Zc2 hx fun _ => bl_wr _ _))
   (Zdt (Zdg _) (bl_gate (Zc2 (Zdf _) fun _ => Zc2 hx fun _ => bl_wr _ _)) bl_fail)))))))
theorem bl_term {ok : Bool} (ht : Bl tm) (hx : Bl ex) : Bl (termB ok tm ex) :=
 Zdt bt_num (Zc2 bl_frac fun _ => Zdt (Zdg _) (bl_gate (Zc2 (Zdf _) fun _ => Zc2 ht fun _ => Zdq _)) (Zdq _)) (bl_factor hx)
end
theorem bl_termN : ∀ n, Bl (termN n)
 | 0 => bl_term bl_fail bl_fail
 | n + 1 => bl_term (bl_termN n) (bl_exprOf (bl_termN n))
theorem bl_exprN (n : Nat) : Bl (exprN n) := bl_exprOf (bl_termN n)
theorem bl_cut : Bl cutP := Zdt (Zdg _) (bl_wr _ _) (Zdt (Zdg _) (bl_wr _ _) (bl_wr _ _))
theorem bl_score : Bl scoreP := Zdt (Zdg _) (bl_wr _ _) (Zc2 (Zdf _) fun _ => Zc2 (bl_exprN 16) fun _ => Zdq _)
theorem bl_tieRef : Bl tieRefP := Zdt (Zdg _) (bl_nr _ _) (Zdq _)
theorem bl_round : Bl roundB := Zc2 (bl_named _) fun _ => Zc2 (bl_valued _) fun _ => Zc2 (bl_valued _) fun _ => Zc2 bl_cut fun _ => Zc2 (bl_flag _) fun _ => Zc2 bl_score fun _ => Zc2 bl_tieRef fun _ => Zdq _
theorem bl_prizes : Bl prizesP := Zdt (Zdg _) (Zc2 (Zdf _) fun _ => Zc2 (bl_list bl_numP) fun _ => bl_wr _ _) (Zdq _)
theorem bl_points : Bl pointsP := Zdt (Zdg _) (Zc2 (Zdf _) fun _ => Zc2 (bl_list bl_numP) fun _ => Zc2 (bl_valued _) fun _ => bl_wr _ _) (Zdq _)
theorem bl_end : Bl endP := ⟨fun hp ts => by cases ts <;> rfl⟩
theorem bl_rules : Bl rulesP := Zc2 (bl_named _) fun _ => Zc2 (Zdf _) fun _ => Zc2 (bl_some _ bl_crit) fun _ => Zc2 (bl_some _ (bl_item _)) fun _ => Zc2 (bl_some _ (bl_item _)) fun _ => Zc2 (bl_some _ bl_tie) fun _ => Zc2 (bl_some _ bl_round) fun _ => Zc2 bl_prizes fun _ => Zc2 bl_points fun _ => Zc2 bl_end fun _ => Zdq _
theorem rules_all {ts r : List TokD} {x : RulesD} (h : rulesP ts = .ok (x, r)) : r = [] := by
 unfold rulesP at h
 iterate 9 (obtain ⟨_, _, -, h⟩ := Zd1 h)
 obtain ⟨_, _, h1, h⟩ := Zd1 h
 obtain ⟨-, rfl⟩ := end_ok h1
 injection h with h; injection h with _ h; exact h.symm
def placed : Nat → List TokD → List TokD
 | _, [] => []
 | p, t :: l => ⟨t.kind, t.text, t.n, p⟩ :: placed (p + (word t).length + 1) l
def bare (t : TokD) : TokD := ⟨t.kind, t.text, t.n, 0⟩
theorem pres_bare : Pres bare := ⟨fun _ => rfl, fun _ => rfl, fun _ => rfl⟩
theorem placed_bare : ∀ (l : List TokD) (p : Nat), (placed p l).map bare = l.map bare
 | [], _ => rfl
 | t :: l, p => by rw [placed, List.map_cons, List.map_cons, placed_bare l]; rfl
theorem placed_len (p : Nat) (l : List TokD) : (placed p l).length = l.length := by
 have := congrArg List.length (placed_bare l p); simpa using this
def off (l : List TokD) (j : Nat) : Nat := ((l.take j).map fun t => (word t).length + 1).sum
theorem placed_at : ∀ (l : List TokD) (p j : Nat) (h : j < (placed p l).length), ((placed p l)[j]).at_ = ((p + off l j : Nat) : Int)
 | [], _, _, h => absurd h (Nat.not_lt_zero _)
 | t :: l, p, 0, _ => rfl
 | t :: l, p, j + 1, h => by
   have := placed_at l (p + (word t).length + 1) j (by rw [placed] at h; simpa using h)
   simp only [placed, List.getElem_cons_succ]
   rw [this]
   unfold off
   rw [List.take_succ_cons, List.map_cons, List.sum_cons]
   congr 1; omega
theorem off_mono (l : List TokD) {i j : Nat} (h : i ≤ j) : off l i ≤ off l j := by
 unfold off
 have e : l.take j = l.take i ++ (l.take j).drop i := by
   rw [List.drop_take]
   conv => lhs; rw [show j = i + (j - i) by omega, List.take_add]
 rw [e, List.map_append, List.sum_append]
 omega
theorem join_off : ∀ (l : List TokD), l ≠ [] → (joinF (l.map word)).length + 1 = off l l.length
 | [], h => absurd rfl h
 | [t], _ => by show (word t).length + 1 = _; unfold off; simp
 | t :: u :: l, _ => by
   have ih := join_off (u :: l) (by simp)
   rw [List.map_cons, List.map_cons, joinF_cons, List.length_append, List.length_cons]
   rw [List.map_cons] at ih
   unfold off at ih ⊢
   rw [List.take_length] at ih ⊢
   rw [List.map_cons, List.sum_cons]
   omega
theorem lex_placed : ∀ (l : List TokD) (p : Nat), (∀ t ∈ l, validB t = true) → lexF p (joinF (l.map word)) = .ok (placed p l)
 | [], _, _ => rfl
 | [t], p, h => by
   have := lex_word (h t (by simp)) (b := []) (fun d r e => by cases e) p
   rw [List.append_nil, lexF_nil] at this
   exact this
 | t :: u :: l, p, h => by
   have ih := lex_placed (u :: l) (p + (word t).length + 1) fun x hx => h x (List.mem_cons_of_mem _ hx)
   have hw := lex_word (h t (by simp)) (b := 32 :: joinF ((u :: l).map word)) (fun d r e => by injection e with e1 _; exact e1.symm) p
   rw [lex_space (by decide), ih] at hw
   exact hw
theorem rules_placed {l : List TokD} (p : Nat) : (∀ {x}, rulesP l = .ok (x, []) → rulesP (placed p l) = .ok (x, [])) ∧ (∀ {x}, rulesP (placed p l) = .ok (x, []) → rulesP l = .ok (x, [])) ∧ (∀ {e}, rulesP (placed p l) = .error e → ∃ e', rulesP l = .error e' ∧ e'.length = e.length) := by
 have h1 := bl_rules.eq pres_bare l
 have h2 := bl_rules.eq pres_bare (placed p l)
 rw [placed_bare] at h2
 have h3 := h1.symm.trans h2
 refine ⟨fun {x} h => ?_, fun {x} h => ?_, fun {e} h => ?_⟩
 · rw [h] at h3
   cases hp : rulesP (placed p l) with
   | error e => rw [hp] at h3; cases h3
   | ok q =>
     obtain ⟨y, r⟩ := q
     obtain rfl := rules_all hp
     rw [hp] at h3
     injection h3 with h3; injection h3 with h3 _; rw [h3]
 · rw [h] at h3
   cases hp : rulesP l with
   | error e => rw [hp] at h3; cases h3
   | ok q =>
     obtain ⟨y, r⟩ := q
     obtain rfl := rules_all hp
     rw [hp] at h3
     injection h3 with h3; injection h3 with h3 _; rw [h3]
 · rw [h] at h3
   cases hp : rulesP l with
   | ok q => obtain ⟨y, r⟩ := q; rw [hp] at h3; cases h3
   | error e' =>
     rw [hp] at h3
     injection h3 with h3
     exact ⟨e', rfl, by have := congrArg List.length h3; simpa using this⟩
def placeE (en : Nat) (e : List TokD) : Int := match e with
 | t :: _ => t.at_
 | [] => en
def zeroR : RulesD := ⟨[], [], [], [], [], [], [], [], 0⟩
def readA (l : List TokD) (en : Nat) : RulesD × Int × Int := match rulesP l with
 | .ok (r, _) => (r, 0, 0)
 | .error e => (zeroR, placeE en e, 130)
def parseA (s : List UInt8) : RulesD × Int × Int := if 65536 < s.length then (zeroR, 0, 2) else match lexF 0 s with
 | .error p => (zeroR, p, 30)
 | .ok l => readA l s.length
theorem parse_join {l : List TokD} (hv : ∀ t ∈ l, validB t = true) (hl : (joinF (l.map word)).length ≤ 65536) : parseA (joinF (l.map word)) = readA (placed 0 l) (joinF (l.map word)).length := by
 unfold parseA
 rw [if_neg (by omega), lex_placed l 0 hv]
theorem place_at {l e : List TokD} {t : TokD} (h : ∃ c, placed 0 l = c ++ t :: e) : t.at_ = ((off l (l.length - (t :: e).length) : Nat) : Int) ∧ (t :: e).length ≤ l.length := by
 obtain ⟨c, hc⟩ := h
 have hl := congrArg List.length hc
 rw [placed_len, List.length_append] at hl
 have hj : l.length - (t :: e).length < (placed 0 l).length := by rw [placed_len]; simp only [List.length_cons] at hl ⊢; omega
 have h1 := placed_at l 0 _ hj
 have h2 : (placed 0 l)[l.length - (t :: e).length] = t := by
   have : (placed 0 l)[l.length - (t :: e).length]? = some t := by
     rw [hc, show l.length - (t :: e).length = c.length by omega, List.getElem?_append_right (Nat.le_refl _), Nat.sub_self]; rfl
   rw [List.getElem?_eq_getElem hj] at this
   exact Option.some.inj this
 rw [h2, Nat.zero_add] at h1
 exact ⟨h1, by omega⟩
end Go.Sx
