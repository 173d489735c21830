/- Chapter 13: the writer puts keys and items. -/
import Derived.Test.YthdldeenpgeemaaGreatDoorPart9
import Derived.Test.YthdldeenpgeemaaGreatDoorPart6
import Derived.Test.YthdldeenpgeemaaGreatDoorPart3
import Derived.Test.YthdldeenpgeemaaGreatDoorProg
import Derived.Shelf.Strings.OnBuilder
import Derived.Shelf.Small.Strs
import Derived.Shelf.LaysM
import Derived.Shelf.LaysC
import Derived.Shelf.Strings.Repeat
namespace Go.Sx
open Go.Lx Go.Fr
theorem fm_take {α : Type} (tk : α → List TokD) (l : List α) (i : Nat) (h : i < l.length) : (l.take (i + 1)).flatMap tk = (l.take i).flatMap tk ++ tk l[i] := by
 rw [List.take_succ_eq_append_getElem h, List.flatMap_append, List.flatMap_cons, List.flatMap_nil, List.append_nil]
theorem fm_len {α : Type} (tk : α → List TokD) (l : List α) (i : Nat) (h : i < l.length) : ((l.take i).flatMap tk).length + (tk l[i]).length ≤ (l.flatMap tk).length := by
 have e : l.flatMap tk = (l.take (i + 1)).flatMap tk ++ (l.drop (i + 1)).flatMap tk := by rw [← List.flatMap_append, List.take_append_drop]
 rw [e, fm_take tk l i h]; simp only [List.length_append]; omega
end Go.Sx
namespace Go.Proofs.YthdldeenpgeemaaGreatDoor
open Go Go.RowKit Go.Kx Go.Fr Go.Lx Go.Sx
set_option maxHeartbeats 4000000 in
set_option maxRecDepth 100000 in
theorem wkey13_any (k : Nat) (q : KeyD) (b : Nat) (oa : Option Addr) (c : Nat) (acc : List TokD) (hlen : acc.length + (keyT q).length ≤ 70000) : FnC Tryz.prog 106 [ex (.pointer (some ⟨b, 0, none⟩)), agg (keyV q)] (wloc b oa c acc) (fun _ loc => ∃ oa' c', loc = wloc b oa' c' (acc ++ keyT q)) := by
 refine Zbr Tryz.func106 rfl Tryz.ntmps106 rfl fun w0 F0 out => ?_
 (repeat' (first | (apply Zci 1; refine StopW.out ?_) | refine Za7 ?_ | refine Za1 ?_ | refine Za3 ?_ | (apply Zac; exact rfl; (apply Zdv; refine Zdn rfl ?_; intro _))))
 refine ⟨?_⟩
 rename_i b3
 refine Zbc ((Leads_fp (k := 0) (t := 3) rfl rfl).trans (Zaa (env' := [(0, ex (.pointer (some ⟨b, 0, none⟩))), (3, fp [exI .i64 q.kind, exT q.name, exI .i64 q.n])]) (loc' := wloc b oa c acc) (by repeat (first | exact Zaj | refine Zae rfl ?_)) (List.Sublist.refl _))) ?_
 by_cases k1 : q.kind = 1
 · skip
   have hT : keyT q = [.s [116, 111, 116, 97, 108], .nm q.name].flatMap PutV.toks := by unfold keyT; rw [if_pos k1]; rfl
   rw [hT] at hlen ⊢
   simp only [List.flatMap_cons, List.flatMap_nil, PutV.toks, List.length_append, List.length_cons, List.length_nil] at hlen
   (repeat' (first | (apply Zaq 18; refine Zbp (k := 0) (E := eAny k) (t := 17) [.s [116, 111, 116, 97, 108], .nm q.name] rfl rfl rfl rfl ?_ (hc := by decide) (hby := by show _ * 16 ≤ 140737488355328; decide)) | refine Za7 ?_ | refine Za1 ?_ | refine Za3 ?_ | (apply Za8; (first | exact Za2 rfl | exact Za5 rfl | (apply Za9; exact Zau rfl rfl) | (apply Zam; exact Zax rfl rfl rfl) | (apply Zai; exact Zc4 rfl rfl) | (apply Zc5; exact Zbj rfl rfl)); exact rfl) | refine Zak ?_ | (apply Zac; exact rfl; first | (apply Zaf; (refine Zab (.one 0 rfl (.one 0 rfl .nil)) Tryz.func104 rfl (Zds k _ b _ _ _ (by simp only [List.flatMap_cons, List.flatMap_nil, PutV.toks, List.length_append, List.length_cons, List.length_nil]; omega)) rfl ?_; rintro _ _ ⟨_, _, rfl⟩)) | (apply Zb6; (refine Zbx rfl (by repeat (first | exact PartsO.nil | (apply PartsO.cons; exact rfl; exact inferInstance; exact rfl; exact rfl))) ?_); intro _)) | (refine Zag rfl (fun hb => ?_) (fun hb => ?_) <;> (repeat (first | replace hb := Zas hb | replace hb := Zat hb)) <;> (try (exfalso; contradiction)))))
   all_goals (try (exfalso; omega))
   all_goals (exact ⟨.inl rfl, ret0 (loc' := wloc b _ _ _) rfl (List.sublist_append_left _ _) ⟨_, _, rfl⟩⟩)
 by_cases k2 : q.kind = 2
 · skip
   have hT : keyT q = [.s [115, 99, 111, 114, 101], .nm q.name].flatMap PutV.toks := by unfold keyT; rw [if_neg k1, if_pos k2]; rfl
   rw [hT] at hlen ⊢
   simp only [List.flatMap_cons, List.flatMap_nil, PutV.toks, List.length_append, List.length_cons, List.length_nil] at hlen
   (repeat' (first | (apply Zaq 27; refine Zbp (k := 0) (E := eAny k) (t := 26) [.s [115, 99, 111, 114, 101], .nm q.name] rfl rfl rfl rfl ?_ (hc := by decide) (hby := by show _ * 16 ≤ 140737488355328; decide)) | refine Za7 ?_ | refine Za1 ?_ | refine Za3 ?_ | (apply Za8; (first | exact Za2 rfl | exact Za5 rfl | (apply Za9; exact Zau rfl rfl) | (apply Zam; exact Zax rfl rfl rfl) | (apply Zai; exact Zc4 rfl rfl) | (apply Zc5; exact Zbj rfl rfl)); exact rfl) | refine Zak ?_ | (apply Zac; exact rfl; first | (apply Zaf; (refine Zab (.one 0 rfl (.one 0 rfl .nil)) Tryz.func104 rfl (Zds k _ b _ _ _ (by simp only [List.flatMap_cons, List.flatMap_nil, PutV.toks, List.length_append, List.length_cons, List.length_nil]; omega)) rfl ?_; rintro _ _ ⟨_, _, rfl⟩)) | (apply Zb6; (refine Zbx rfl (by repeat (first | exact PartsO.nil | (apply PartsO.cons; exact rfl; exact inferInstance; exact rfl; exact rfl))) ?_); intro _)) | (refine Zag rfl (fun hb => ?_) (fun hb => ?_) <;> (repeat (first | replace hb := Zas hb | replace hb := Zat hb)) <;> (try (exfalso; contradiction)))))
   all_goals (try (exfalso; omega))
   all_goals (exact ⟨.inl rfl, ret0 (loc' := wloc b _ _ _) rfl (List.sublist_append_left _ _) ⟨_, _, rfl⟩⟩)
 by_cases k5 : q.kind = 5
 · skip
   have hT : keyT q = [.s [114, 117, 108, 101], .nm q.name].flatMap PutV.toks := by unfold keyT; rw [if_neg k1, if_neg k2, if_pos k5]; rfl
   rw [hT] at hlen ⊢
   simp only [List.flatMap_cons, List.flatMap_nil, PutV.toks, List.length_append, List.length_cons, List.length_nil] at hlen
   (repeat' (first | (apply Zaq 36; refine Zbp (k := 0) (E := eAny k) (t := 35) [.s [114, 117, 108, 101], .nm q.name] rfl rfl rfl rfl ?_ (hc := by decide) (hby := by show _ * 16 ≤ 140737488355328; decide)) | refine Za7 ?_ | refine Za1 ?_ | refine Za3 ?_ | (apply Za8; (first | exact Za2 rfl | exact Za5 rfl | (apply Za9; exact Zau rfl rfl) | (apply Zam; exact Zax rfl rfl rfl) | (apply Zai; exact Zc4 rfl rfl) | (apply Zc5; exact Zbj rfl rfl)); exact rfl) | refine Zak ?_ | (apply Zac; exact rfl; first | (apply Zaf; (refine Zab (.one 0 rfl (.one 0 rfl .nil)) Tryz.func104 rfl (Zds k _ b _ _ _ (by simp only [List.flatMap_cons, List.flatMap_nil, PutV.toks, List.length_append, List.length_cons, List.length_nil]; omega)) rfl ?_; rintro _ _ ⟨_, _, rfl⟩)) | (apply Zb6; (refine Zbx rfl (by repeat (first | exact PartsO.nil | (apply PartsO.cons; exact rfl; exact inferInstance; exact rfl; exact rfl))) ?_); intro _)) | (refine Zag rfl (fun hb => ?_) (fun hb => ?_) <;> (repeat (first | replace hb := Zas hb | replace hb := Zat hb)) <;> (try (exfalso; contradiction)))))
   all_goals (try (exfalso; omega))
   all_goals (exact ⟨.inl rfl, ret0 (loc' := wloc b _ _ _) rfl (List.sublist_append_left _ _) ⟨_, _, rfl⟩⟩)
 by_cases k3 : q.kind = 3
 · skip
   have hT : keyT q = [.s [104, 105, 103, 104, 101, 115, 116]].flatMap PutV.toks := by unfold keyT; rw [if_neg k1, if_neg k2, if_neg k5, if_pos k3]; rfl
   rw [hT] at hlen ⊢
   simp only [List.flatMap_cons, List.flatMap_nil, PutV.toks, List.length_append, List.length_cons, List.length_nil] at hlen
   (repeat' (first | (apply Zaq 42; refine Zbp (k := 0) (E := eAny k) (t := 41) [.s [104, 105, 103, 104, 101, 115, 116]] rfl rfl rfl rfl ?_ (hc := by decide) (hby := by show _ * 16 ≤ 140737488355328; decide)) | refine Za7 ?_ | refine Za1 ?_ | refine Za3 ?_ | (apply Za8; (first | exact Za2 rfl | exact Za5 rfl | (apply Za9; exact Zau rfl rfl) | (apply Zam; exact Zax rfl rfl rfl) | (apply Zai; exact Zc4 rfl rfl) | (apply Zc5; exact Zbj rfl rfl)); exact rfl) | refine Zak ?_ | (apply Zac; exact rfl; first | (apply Zaf; (refine Zab (.one 0 rfl (.one 0 rfl .nil)) Tryz.func104 rfl (Zds k _ b _ _ _ (by simp only [List.flatMap_cons, List.flatMap_nil, PutV.toks, List.length_append, List.length_cons, List.length_nil]; omega)) rfl ?_; rintro _ _ ⟨_, _, rfl⟩)) | (apply Zb6; (refine Zbf rfl rfl ?_); intro _)) | (refine Zag rfl (fun hb => ?_) (fun hb => ?_) <;> (repeat (first | replace hb := Zas hb | replace hb := Zat hb)) <;> (try (exfalso; contradiction)))))
   all_goals (try (exfalso; omega))
   all_goals (exact ⟨.inl rfl, ret0 (loc' := wloc b _ _ _) rfl (List.sublist_append_left _ _) ⟨_, _, rfl⟩⟩)
 by_cases k4 : q.kind = 4
 · skip
   have hT : keyT q = [.s [98, 111, 110, 117, 115]].flatMap PutV.toks := by unfold keyT; rw [if_neg k1, if_neg k2, if_neg k5, if_neg k3, if_pos k4]; rfl
   rw [hT] at hlen ⊢
   simp only [List.flatMap_cons, List.flatMap_nil, PutV.toks, List.length_append, List.length_cons, List.length_nil] at hlen
   (repeat' (first | (apply Zaq 48; refine Zbp (k := 0) (E := eAny k) (t := 47) [.s [98, 111, 110, 117, 115]] rfl rfl rfl rfl ?_ (hc := by decide) (hby := by show _ * 16 ≤ 140737488355328; decide)) | refine Za7 ?_ | refine Za1 ?_ | refine Za3 ?_ | (apply Za8; (first | exact Za2 rfl | exact Za5 rfl | (apply Za9; exact Zau rfl rfl) | (apply Zam; exact Zax rfl rfl rfl) | (apply Zai; exact Zc4 rfl rfl) | (apply Zc5; exact Zbj rfl rfl)); exact rfl) | refine Zak ?_ | (apply Zac; exact rfl; first | (apply Zaf; (refine Zab (.one 0 rfl (.one 0 rfl .nil)) Tryz.func104 rfl (Zds k _ b _ _ _ (by simp only [List.flatMap_cons, List.flatMap_nil, PutV.toks, List.length_append, List.length_cons, List.length_nil]; omega)) rfl ?_; rintro _ _ ⟨_, _, rfl⟩)) | (apply Zb6; (refine Zbf rfl rfl ?_); intro _)) | (refine Zag rfl (fun hb => ?_) (fun hb => ?_) <;> (repeat (first | replace hb := Zas hb | replace hb := Zat hb)) <;> (try (exfalso; contradiction)))))
   all_goals (try (exfalso; omega))
   all_goals (exact ⟨.inl rfl, ret0 (loc' := wloc b _ _ _) rfl (List.sublist_append_left _ _) ⟨_, _, rfl⟩⟩)
 · skip
   have hT : keyT q = [.s [108, 111, 116]].flatMap PutV.toks := by unfold keyT; rw [if_neg k1, if_neg k2, if_neg k5, if_neg k3, if_neg k4]; rfl
   rw [hT] at hlen ⊢
   simp only [List.flatMap_cons, List.flatMap_nil, PutV.toks, List.length_append, List.length_cons, List.length_nil] at hlen
   (repeat' (first | (apply Zaq 9; refine Zbp (k := 0) (E := eAny k) (t := 8) [.s [108, 111, 116]] rfl rfl rfl rfl ?_ (hc := by decide) (hby := by show _ * 16 ≤ 140737488355328; decide)) | refine Za7 ?_ | refine Za1 ?_ | refine Za3 ?_ | (apply Za8; (first | exact Za2 rfl | exact Za5 rfl | (apply Za9; exact Zau rfl rfl) | (apply Zam; exact Zax rfl rfl rfl) | (apply Zai; exact Zc4 rfl rfl) | (apply Zc5; exact Zbj rfl rfl)); exact rfl) | refine Zak ?_ | (apply Zac; exact rfl; first | (apply Zaf; (refine Zab (.one 0 rfl (.one 0 rfl .nil)) Tryz.func104 rfl (Zds k _ b _ _ _ (by simp only [List.flatMap_cons, List.flatMap_nil, PutV.toks, List.length_append, List.length_cons, List.length_nil]; omega)) rfl ?_; rintro _ _ ⟨_, _, rfl⟩)) | (apply Zb6; (refine Zbf rfl rfl ?_); intro _)) | (refine Zag rfl (fun hb => ?_) (fun hb => ?_) <;> (repeat (first | replace hb := Zas hb | replace hb := Zat hb)) <;> (try (exfalso; contradiction)))))
   all_goals (try (exfalso; omega))
   all_goals (exact ⟨.inl rfl, ret0 (loc' := wloc b _ _ _) rfl (List.sublist_append_left _ _) ⟨_, _, rfl⟩⟩)
set_option maxHeartbeats 4000000 in
set_option maxRecDepth 100000 in
theorem witems13_any (k : Nat) (w : List UInt8) (hw : reservedB w = true) (l : List ItemD) (b : Nat) (oa : Option Addr) (c : Nat) (acc : List TokD) (hlen : acc.length + (l.flatMap (itemT w)).length ≤ 70000) : FnC Tryz.prog 105 [ex (.pointer (some ⟨b, 0, none⟩)), exT w, isl eItem l] (wloc b oa c acc) (fun _ loc => ∃ oa' c', loc = wloc b oa' c' (acc ++ l.flatMap (itemT w))) := by
 refine Zc1 (i := 2) rfl Zc9 fun hl => ?_
 obtain ⟨hl, -⟩ := hl
 simp only [maxLen] at hl
 refine Zbr Tryz.func105 rfl Tryz.ntmps105 rfl fun w0 F0 out => ?_
 (repeat' (first | refine Za7 ?_ | refine Za1 ?_ | refine Za3 ?_ | (apply Za8; (first | exact Za2 rfl | (apply Zba; exact Zbq rfl rfl)); exact rfl) | refine Zak ?_))
 refine Zck (fun z : Nat × Option Addr × Nat => ([(0, ex (.pointer (some ⟨b, 0, none⟩))), (1, exT w), (8, isl eItem l), (9, exI .i64 l.length), (10, exI .i64 (z.1 : Int))], wloc b z.2.1 z.2.2 (acc ++ (l.take z.1).flatMap (itemT w)))) (fun z => z.1 ≤ l.length) (fun z => l.length - z.1) (0, oa, c) ?_ (Nat.zero_le _) fun z hz => ?_
 · exact Zaa (by repeat (first | exact Zaj | refine Zae rfl ?_)) (by show List.Sublist (wloc b oa c (acc ++ [])) _; rw [List.append_nil]; exact List.Sublist.refl _)
 obtain ⟨i, oa1, c1⟩ := z
 simp only at hz
 by_cases hi : i < l.length
 · have hb1 := fm_len (itemT w) l i hi
   have hb2 := fm_take (itemT w) l i hi
   have hT : itemT w l[i] = [.s w, .nm l[i].name, .s [118, 97, 108, 117, 101], .i l[i].value, .s [109, 111, 115, 116], .i l[i].most, .s [59]].flatMap PutV.toks := by
     show _ = [sT w, _, _, _, _, _, _]
     unfold sT; rw [hw]; rfl
   have hL : (itemT w l[i]).length = 7 := rfl
   generalize hA : acc ++ (l.take i).flatMap (itemT w) = A
   have hAl : A.length + 7 ≤ 70000 := by rw [← hA, List.length_append]; omega
   (repeat' (first | (apply Zcj 3; refine StopW.out ?_) | refine Za7 ?_ | refine Za1 ?_ | refine Za3 ?_ | (apply Za8; (first | (apply Za9; exact WT_loadfa2 rfl rfl) | (apply Zai; exact Zbg rfl rfl) | (apply Zb3; exact Zb1 rfl rfl rfl)); exact rfl) | refine Zak ?_ | refine Zan ?_ | (apply Zac; exact rfl; first | (apply Zbs; refine Zbh ?_; intro _) | (apply Zaz; refine Zao (k := 0) (l0 := []) rfl rfl rfl ?_)) | (refine Zag rfl (fun hb => ?_) (fun hb => ?_) <;> (repeat (first | replace hb := Zas hb | replace hb := Zat hb)) <;> (try (exfalso; omega)))))
   refine ⟨?_⟩
   rename_i b7
   refine Zbc (Leads_fp (k := 0) (t := 7) rfl rfl) ?_
   refine Zbc (env' := (7, fp (itemV l[i])) :: [(0, ex (.pointer (some ⟨b, 0, none⟩))), (1, exT w), (8, isl eItem l), (9, exI .i64 l.length), (10, exI .i64 (i : Int))]) (loc' := wloc b oa1 c1 A) (Zaa (by repeat (first | exact Zaj | refine Zae rfl ?_)) (by subst hA; exact List.Sublist.refl _)) ?_
   (repeat' (first | (apply Zaq 30; refine Zbp (k := 0) (E := eAny k) (t := 29) [.s w, .nm l[i].name, .s [118, 97, 108, 117, 101], .i l[i].value, .s [109, 111, 115, 116], .i l[i].most, .s [59]] rfl rfl rfl rfl ?_ (hc := by decide) (hby := by show _ * 16 ≤ 140737488355328; decide)) | refine Za1 ?_ | refine Za3 ?_ | (apply Za8; (first | exact Za2 rfl | (apply Za9; exact Zau rfl rfl) | (apply Zam; exact Zax rfl rfl rfl) | (apply Zai; exact Zbz rfl rfl) | (apply Zc5; exact Zbj rfl rfl)); exact rfl) | (apply Zac; exact rfl; first | (apply Zaf; (refine Zab (.one 0 rfl (.one 0 rfl .nil)) Tryz.func104 rfl (Zds k _ b _ _ _ (by simp only [List.flatMap_cons, List.flatMap_nil, PutV.toks, List.length_append, List.length_cons, List.length_nil]; omega)) rfl ?_; rintro _ _ ⟨_, _, rfl⟩)) | (apply Zb6; (refine Zbx rfl (by repeat (first | exact PartsO.nil | (apply PartsO.cons; exact rfl; exact inferInstance; exact rfl; exact rfl))) ?_); intro _))))
   refine ⟨(i + 1, _, _), by show i + 1 ≤ l.length; omega, by show l.length - (i + 1) < l.length - i; omega, Zaa (by repeat (first | exact Zaj | refine Zae rfl ?_)) (by show List.Sublist (wloc b _ _ (acc ++ (l.take (i + 1)).flatMap (itemT w))) _; rw [hb2, ← List.append_assoc, hA, hT]; exact List.sublist_append_left _ _)⟩
 · (repeat' (first | refine Za7 ?_ | refine Za1 ?_ | refine Za3 ?_ | (apply Za8; ((apply Zai; exact Zbg rfl rfl)); exact rfl) | refine Zcf ?_ | (refine Zag rfl (fun hb => ?_) (fun hb => ?_) <;> (repeat (first | replace hb := Zas hb | replace hb := Zat hb)) <;> (try (exfalso; omega)))))
   have hq : i = l.length := by omega
   subst hq
   refine ⟨.inl rfl, ret0 (loc' := wloc b oa1 c1 (acc ++ l.flatMap (itemT w))) rfl (by show List.Sublist _ (wloc b oa1 c1 (acc ++ (l.take l.length).flatMap (itemT w))); rw [List.take_length]; exact List.Sublist.refl _) ⟨oa1, c1, rfl⟩⟩
end Go.Proofs.YthdldeenpgeemaaGreatDoor
namespace Go.Sx
open Go.Lx Go.Fr
theorem keysT_take : ∀ (l : List KeyD) (j : Nat) (h : j < l.length), keysT (l.take (j + 1)) = keysT (l.take j) ++ ((if j = 0 then [] else [tkS sComma]) ++ keyT l[j])
 | x :: l, 0, _ => by show keyT x ++ [] = _; rw [List.append_nil]; rfl
 | x :: l, j + 1, h => by
   have h' : j < l.length := by simpa using h
   show keyT x ++ (l.take (j + 1)).flatMap (fun y => tkS sComma :: keyT y) = (keyT x ++ (l.take j).flatMap (fun y => tkS sComma :: keyT y)) ++ ([tkS sComma] ++ keyT l[j])
   rw [List.take_succ_eq_append_getElem h', List.flatMap_append, List.append_assoc]
   simp
theorem keysT_mono : ∀ (l : List KeyD) (i : Nat), (keysT (l.take i)).length ≤ (keysT l).length
 | l, 0 => Nat.zero_le _
 | [], i + 1 => Nat.le_refl _
 | x :: l, i + 1 => by
   show (keyT x ++ (l.take i).flatMap (fun y => tkS sComma :: keyT y)).length ≤ (keyT x ++ l.flatMap (fun y => tkS sComma :: keyT y)).length
   have h : l.flatMap (fun y => tkS sComma :: keyT y) = (l.take i).flatMap (fun y => tkS sComma :: keyT y) ++ (l.drop i).flatMap (fun y => tkS sComma :: keyT y) := by rw [← List.flatMap_append, List.take_append_drop]
   rw [h]; simp only [List.length_append]; omega
abbrev revT (x : Crit) : List TokD := if x.rev then [tkW wReverse] else []
abbrev freeT (x : RoundD) : List TokD := if x.free then [tkW wFree] else []
abbrev plT (x : RoundD) : List TokD := if x.places then [tkW wPlaces] else tkW wScore :: exT' x.score
abbrev tiT (x : RoundD) : List TokD := if x.tieNo = 0 then [tkW wTie, tkW x.tie] else []
theorem critT_len (x : Crit) : (critT x).length = 8 + (howT x).length + (revT x).length + 1 := by unfold critT; simp only [List.length_append]; rfl
theorem roundT_len (x : RoundD) : (roundT x).length = 6 + (cutT x.cut).length + (freeT x).length + (plT x).length + (tiT x).length + 1 := by unfold roundT; simp only [List.length_append]; rfl
theorem tieT_len (x : TieD) : (tieT x).length = 2 + (keysT x.keys).length + 1 := by unfold tieT; simp only [List.length_append]; rfl
abbrev przT (l : List Int) : List TokD := if l = [] then [] else tkW wPrizes :: commaT l ++ [tkS sSemi]
abbrev pntT (l : List Int) (b : Int) : List TokD := if l = [] then [] else tkW wPoints :: commaT l ++ [tkW wBest, tkN b, tkS sSemi]
end Go.Sx
namespace Go.Proofs.YthdldeenpgeemaaGreatDoor
open Go Go.RowKit Go.Kx Go.Fr Go.Lx Go.Sx
set_option maxHeartbeats 8000000 in
set_option maxRecDepth 100000 in
theorem wrules13_any (k : Nat) (r : RulesD) (b : Nat) (oa : Option Addr) (c : Nat) (acc : List TokD) (hlen : acc.length + (rulesT r).length ≤ 70000) : FnC Tryz.prog 36 [ex (.pointer (some ⟨b, 0, none⟩)), agg (rulesV k r)] (wloc b oa c acc) (fun _ loc => ∃ oa' c', loc = wloc b oa' c' (acc ++ rulesT r)) := by
 refine Zc1 (i := 1) rfl (Zda (i := 1) rfl Zc9) fun hc1 => ?_
 refine Zc1 (i := 1) rfl (Zda (i := 4) rfl Zc9) fun hc2 => ?_
 refine Zc1 (i := 1) rfl (Zda (i := 5) rfl Zc9) fun hc3 => ?_
 replace hc1 := hc1.1; replace hc2 := hc2.1; replace hc3 := hc3.1
 simp only [maxLen] at hc1 hc2 hc3
 have hRT : rulesT r = [tkW wCompetition, tkW r.name, tkS sSemi] ++ r.crits.flatMap critT ++ r.bonus.flatMap (itemT wBonus) ++ r.malus.flatMap (itemT wMalus) ++ r.ties.flatMap tieT ++ r.rounds.flatMap roundT ++ przT r.prizes ++ pntT r.points r.best := rfl
 rw [hRT] at hlen ⊢
 simp only [List.length_append, List.length_cons, List.length_nil] at hlen
 refine Zbr Tryz.func36 rfl Tryz.ntmps36 rfl fun w0 F0 out => ?_
 (repeat' (first | (apply Zci 1; refine StopW.out ?_) | refine Za7 ?_ | refine Za1 ?_ | refine Za3 ?_ | (apply Zac; exact rfl; (apply Zdv; refine Zdn rfl ?_; intro _))))
 refine ⟨?_⟩
 rename_i b3
 refine Zbc ((Leads_fp (k := 0) (t := 3) rfl rfl).trans (Zaa (env' := [(0, ex (.pointer (some ⟨b, 0, none⟩))), (3, fp (rulesV k r))]) (loc' := wloc b oa c acc) (by repeat (first | exact Zaj | refine Zae rfl ?_)) (List.Sublist.refl _))) ?_
 (repeat' (first | (apply Zci 2; refine StopW.out ?_) | (apply Zaq 22; refine Zbp (k := 0) (E := eAny k) (t := 21) [.s [99, 111, 109, 112, 101, 116, 105, 116, 105, 111, 110], .nm r.name, .s [59]] rfl rfl rfl rfl ?_ (hc := by decide) (hby := by show _ * 16 ≤ 140737488355328; decide)) | refine Za7 ?_ | refine Za1 ?_ | refine Za3 ?_ | (apply Za8; (first | exact Za2 rfl | (apply Za9; exact Zau rfl rfl) | (apply Zam; exact Zax rfl rfl rfl) | (apply Zc5; exact Zbj rfl rfl)); exact rfl) | (apply Zac; exact rfl; first | (apply Zaf; (refine Zab (.one 0 rfl (.one 0 rfl .nil)) Tryz.func104 rfl (Zds k _ b _ _ _ (by simp only [List.flatMap_cons, List.flatMap_nil, PutV.toks, List.length_append, List.length_cons, List.length_nil]; omega)) rfl ?_; rintro _ _ ⟨oaw, cw, rfl⟩)) | (apply Zb6; (refine Zbx rfl (by repeat (first | exact PartsO.nil | (apply PartsO.cons; exact rfl; exact inferInstance; exact rfl; exact rfl))) ?_); intro _))))
 refine ⟨?_⟩
 refine Zdj (fun z : Option Addr × Nat => ([(0, ex (.pointer (some ⟨b, 0, none⟩))), (3, fp (rulesV k r))], wloc b z.1 z.2 (acc ++ [tkW wCompetition, tkW r.name, tkS sSemi] ++ r.crits.flatMap critT))) (fun _ => True) ?_ fun z _ => ?_
 · generalize hA0 : acc ++ [tkW wCompetition, tkW r.name, tkS sSemi] = A0
   have hA0l : A0.length = acc.length + 3 := by rw [← hA0, List.length_append]; rfl
   refine Zbc (env' := [(0, ex (.pointer (some ⟨b, 0, none⟩))), (3, fp (rulesV k r))]) (loc' := wloc b _ _ A0) (Zaa (by repeat (first | exact Zaj | refine Zae rfl ?_)) (by subst hA0; exact List.sublist_append_left _ _)) ?_
   (repeat' (first | refine Za7 ?_ | refine Za1 ?_ | refine Za3 ?_ | (apply Za8; (first | exact Za2 rfl | (apply Za9; exact Zau rfl rfl) | (apply Zam; exact Zax rfl rfl rfl) | (apply Zba; exact Zbq rfl rfl)); exact rfl) | refine Zak ?_))
   refine Zck (fun z : Nat × Option Addr × Nat => ([(0, ex (.pointer (some ⟨b, 0, none⟩))), (3, fp (rulesV k r)), (24, isl eCrit r.crits), (25, exI .i64 r.crits.length), (26, exI .i64 (z.1 : Int))], wloc b z.2.1 z.2.2 (A0 ++ (r.crits.take z.1).flatMap critT))) (fun z => z.1 ≤ r.crits.length) (fun z => r.crits.length - z.1) (0, oaw, cw) ?_ (Nat.zero_le _) fun z hz => ?_
   · exact Zaa (by repeat (first | exact Zaj | refine Zae rfl ?_)) (by show List.Sublist (wloc b _ _ (A0 ++ [])) _; rw [List.append_nil]; exact List.Sublist.refl _)
   obtain ⟨i, oa1, c1⟩ := z
   simp only at hz
   by_cases hi : i < r.crits.length
   · have hb1 := fm_len critT r.crits i hi
     have hb2 := fm_take critT r.crits i hi
     generalize hA : A0 ++ (r.crits.take i).flatMap critT = A
     have hAl : A.length = A0.length + ((r.crits.take i).flatMap critT).length := by rw [← hA, List.length_append]
     (repeat' (first | (apply Zci 5; refine StopW.out ?_) | refine Za7 ?_ | refine Za1 ?_ | refine Za3 ?_ | (apply Za8; (first | (apply Za9; exact WT_loadfa2 rfl rfl) | (apply Zai; exact Zbg rfl rfl) | (apply Zb3; exact Zb1 rfl rfl rfl)); exact rfl) | refine Zak ?_ | refine Zan ?_ | (apply Zac; exact rfl; first | (apply Zbs; refine Zbh ?_; intro _) | (apply Zaz; refine Zao (k := 0) (l0 := []) rfl rfl rfl ?_)) | (refine Zag rfl (fun hb => ?_) (fun hb => ?_) <;> (repeat (first | replace hb := Zas hb | replace hb := Zat hb)) <;> (try (exfalso; omega)))))
     refine ⟨?_⟩
     rename_i b5
     refine Zbc (Leads_fp (k := 0) (t := 5) rfl rfl) ?_
     refine Zbc (env' := [(0, ex (.pointer (some ⟨b, 0, none⟩))), (3, fp (rulesV k r)), (24, isl eCrit r.crits), (25, exI .i64 r.crits.length), (26, exI .i64 (i : Int)), (5, fp (critV r.crits[i]))]) (loc' := wloc b oa1 c1 A) (Zaa (by repeat (first | exact Zaj | refine Zae rfl ?_)) (by subst hA; exact List.Sublist.refl _)) ?_
     generalize hx : r.crits[i] = x at hb1 hb2
     have hxl := critT_len x
     rw [hxl] at hb1
     (repeat' (first | (apply Zci 6; refine StopW.out ?_) | (apply Zaq 48; refine Zbp (k := 0) (E := eAny k) (t := 47) [.s [99, 114, 105, 116, 101, 114, 105, 111, 110], .nm x.name, .s [102, 114, 111, 109], .i x.low, .s [116, 111], .i x.high, .s [115, 116, 101, 112], .i x.step] rfl rfl rfl rfl ?_ (hc := by decide) (hby := by show _ * 16 ≤ 140737488355328; decide)) | refine Za7 ?_ | refine Za1 ?_ | refine Za3 ?_ | (apply Za8; (first | exact Za2 rfl | (apply Za9; exact Zau rfl rfl) | (apply Zam; exact Zax rfl rfl rfl) | (apply Zc5; exact Zbj rfl rfl)); exact rfl) | (apply Zac; exact rfl; first | (apply Zaf; (refine Zab (.one 0 rfl (.one 0 rfl .nil)) Tryz.func104 rfl (Zds k _ b _ _ _ (by simp only [List.flatMap_cons, List.flatMap_nil, PutV.toks, List.length_append, List.length_cons, List.length_nil]; omega)) rfl ?_; rintro _ _ ⟨oaw, cw, rfl⟩)) | (apply Zb6; (refine Zbx rfl (by repeat (first | exact PartsO.nil | (apply PartsO.cons; exact rfl; exact inferInstance; exact rfl; exact rfl))) ?_); intro _))))
     refine ⟨?_⟩
     refine Zdj (fun z : Option Addr × Nat => ([(0, ex (.pointer (some ⟨b, 0, none⟩))), (3, fp (rulesV k r)), (24, isl eCrit r.crits), (25, exI .i64 r.crits.length), (26, exI .i64 (i : Int)), (5, fp (critV x))], wloc b z.1 z.2 (A ++ [.s [99, 114, 105, 116, 101, 114, 105, 111, 110], .nm x.name, .s [102, 114, 111, 109], .i x.low, .s [116, 111], .i x.high, .s [115, 116, 101, 112], .i x.step].flatMap PutV.toks ++ howT x))) (fun _ => True) ?_ fun z _ => ?_
     · by_cases h1 : x.how = 1
       · have hh : howT x = [.s [115, 117, 109]].flatMap PutV.toks := by unfold howT; rw [if_pos h1]; rfl
         rw [hh] at hb1
         simp only [List.flatMap_cons, List.flatMap_nil, PutV.toks, List.length_append, List.length_cons, List.length_nil] at hb1
         (repeat' (first | (apply Zaq 60; refine Zbp (k := 0) (E := eAny k) (t := 59) [.s [115, 117, 109]] rfl rfl rfl rfl ?_ (hc := by decide) (hby := by show _ * 16 ≤ 140737488355328; decide)) | refine Za7 ?_ | refine Za1 ?_ | refine Za3 ?_ | (apply Za8; (first | exact Za2 rfl | exact Za5 rfl | (apply Za9; exact Zau rfl rfl) | (apply Zam; exact Zax rfl rfl rfl) | (apply Zai; exact Zc4 rfl rfl) | (apply Zc5; exact Zbj rfl rfl)); exact rfl) | refine Zak ?_ | (apply Zac; exact rfl; first | (apply Zaf; (refine Zab (.one 0 rfl (.one 0 rfl .nil)) Tryz.func104 rfl (Zds k _ b _ _ _ (by simp only [List.flatMap_cons, List.flatMap_nil, PutV.toks, List.length_append, List.length_cons, List.length_nil]; omega)) rfl ?_; rintro _ _ ⟨oaw, cw, rfl⟩)) | (apply Zb6; (refine Zbf rfl rfl ?_); intro _)) | (refine Zag rfl (fun hb => ?_) (fun hb => ?_) <;> (repeat (first | replace hb := Zas hb | replace hb := Zat hb)) <;> (try (exfalso; contradiction)))))
         all_goals (try (exfalso; omega))
         all_goals (refine Zch (Q := fun _ _ _ => True) (_, _) trivial (Zaa (by repeat (first | exact Zaj | refine Zae rfl ?_)) (by show List.Sublist (wloc b _ _ (A ++ [.s [99, 114, 105, 116, 101, 114, 105, 111, 110], .nm x.name, .s [102, 114, 111, 109], .i x.low, .s [116, 111], .i x.high, .s [115, 116, 101, 112], .i x.step].flatMap PutV.toks ++ howT x)) _; rw [hh]; first | exact List.sublist_append_left _ _ | exact List.Sublist.refl _)))
       by_cases h2 : x.how = 2
       · have hh : howT x = [.s [109, 101, 97, 110], .s [116, 114, 105, 109], .i x.trim].flatMap PutV.toks := by unfold howT; rw [if_neg h1, if_pos h2]; rfl
         rw [hh] at hb1
         simp only [List.flatMap_cons, List.flatMap_nil, PutV.toks, List.length_append, List.length_cons, List.length_nil] at hb1
         (repeat' (first | (apply Zaq 70; refine Zbp (k := 0) (E := eAny k) (t := 69) [.s [109, 101, 97, 110], .s [116, 114, 105, 109], .i x.trim] rfl rfl rfl rfl ?_ (hc := by decide) (hby := by show _ * 16 ≤ 140737488355328; decide)) | refine Za7 ?_ | refine Za1 ?_ | refine Za3 ?_ | (apply Za8; (first | exact Za2 rfl | exact Za5 rfl | (apply Za9; exact Zau rfl rfl) | (apply Zam; exact Zax rfl rfl rfl) | (apply Zai; exact Zc4 rfl rfl) | (apply Zc5; exact Zbj rfl rfl)); exact rfl) | refine Zak ?_ | (apply Zac; exact rfl; first | (apply Zaf; (refine Zab (.one 0 rfl (.one 0 rfl .nil)) Tryz.func104 rfl (Zds k _ b _ _ _ (by simp only [List.flatMap_cons, List.flatMap_nil, PutV.toks, List.length_append, List.length_cons, List.length_nil]; omega)) rfl ?_; rintro _ _ ⟨oaw, cw, rfl⟩)) | (apply Zb6; (refine Zbx rfl (by repeat (first | exact PartsO.nil | (apply PartsO.cons; exact rfl; exact inferInstance; exact rfl; exact rfl))) ?_); intro _)) | (refine Zag rfl (fun hb => ?_) (fun hb => ?_) <;> (repeat (first | replace hb := Zas hb | replace hb := Zat hb)) <;> (try (exfalso; contradiction)))))
         all_goals (try (exfalso; omega))
         all_goals (refine Zch (Q := fun _ _ _ => True) (_, _) trivial (Zaa (by repeat (first | exact Zaj | refine Zae rfl ?_)) (by show List.Sublist (wloc b _ _ (A ++ [.s [99, 114, 105, 116, 101, 114, 105, 111, 110], .nm x.name, .s [102, 114, 111, 109], .i x.low, .s [116, 111], .i x.high, .s [115, 116, 101, 112], .i x.step].flatMap PutV.toks ++ howT x)) _; rw [hh]; first | exact List.sublist_append_left _ _ | exact List.Sublist.refl _)))
       · have hh : howT x = [.s [109, 101, 100, 105, 97, 110]].flatMap PutV.toks := by unfold howT; rw [if_neg h1, if_neg h2]; rfl
         rw [hh] at hb1
         simp only [List.flatMap_cons, List.flatMap_nil, PutV.toks, List.length_append, List.length_cons, List.length_nil] at hb1
         (repeat' (first | (apply Zaq 54; refine Zbp (k := 0) (E := eAny k) (t := 53) [.s [109, 101, 100, 105, 97, 110]] rfl rfl rfl rfl ?_ (hc := by decide) (hby := by show _ * 16 ≤ 140737488355328; decide)) | refine Za7 ?_ | refine Za1 ?_ | refine Za3 ?_ | (apply Za8; (first | exact Za2 rfl | exact Za5 rfl | (apply Za9; exact Zau rfl rfl) | (apply Zam; exact Zax rfl rfl rfl) | (apply Zai; exact Zc4 rfl rfl) | (apply Zc5; exact Zbj rfl rfl)); exact rfl) | refine Zak ?_ | (apply Zac; exact rfl; first | (apply Zaf; (refine Zab (.one 0 rfl (.one 0 rfl .nil)) Tryz.func104 rfl (Zds k _ b _ _ _ (by simp only [List.flatMap_cons, List.flatMap_nil, PutV.toks, List.length_append, List.length_cons, List.length_nil]; omega)) rfl ?_; rintro _ _ ⟨oaw, cw, rfl⟩)) | (apply Zb6; (refine Zbf rfl rfl ?_); intro _)) | (refine Zag rfl (fun hb => ?_) (fun hb => ?_) <;> (repeat (first | replace hb := Zas hb | replace hb := Zat hb)) <;> (try (exfalso; contradiction)))))
         all_goals (try (exfalso; omega))
         all_goals (refine Zch (Q := fun _ _ _ => True) (_, _) trivial (Zaa (by repeat (first | exact Zaj | refine Zae rfl ?_)) (by show List.Sublist (wloc b _ _ (A ++ [.s [99, 114, 105, 116, 101, 114, 105, 111, 110], .nm x.name, .s [102, 114, 111, 109], .i x.low, .s [116, 111], .i x.high, .s [115, 116, 101, 112], .i x.step].flatMap PutV.toks ++ howT x)) _; rw [hh]; first | exact List.sublist_append_left _ _ | exact List.Sublist.refl _)))
     obtain ⟨oa2, c2⟩ := z
     simp only
     generalize hA2 : A ++ [.s [99, 114, 105, 116, 101, 114, 105, 111, 110], .nm x.name, .s [102, 114, 111, 109], .i x.low, .s [116, 111], .i x.high, .s [115, 116, 101, 112], .i x.step].flatMap PutV.toks ++ howT x = A2
     have hA2l : A2.length = A.length + 8 + (howT x).length := by rw [← hA2, List.length_append, List.length_append]; rfl
     (repeat' (first | (apply Zci 12; refine StopW.out ?_) | refine Za7 ?_))
     refine ⟨?_⟩
     refine Zdj (fun z : Option Addr × Nat => ([(0, ex (.pointer (some ⟨b, 0, none⟩))), (3, fp (rulesV k r)), (24, isl eCrit r.crits), (25, exI .i64 r.crits.length), (26, exI .i64 (i : Int)), (5, fp (critV x))], wloc b z.1 z.2 (A2 ++ revT x))) (fun _ => True) ?_ fun z _ => ?_
     · cases hr : x.rev
       · have hh : revT x = [] := by unfold revT; rw [hr]; rfl
         (repeat' (first | refine Za7 ?_ | refine Za1 ?_ | refine Za3 ?_ | (apply Za8; (first | exact Za2 rfl | (apply Za9; exact Zau rfl rfl) | (apply Zam; exact Zax rfl rfl rfl) | (apply Zc5; exact Zbj rfl rfl)); exact rfl) | refine Zan ?_ | (apply Zac; exact rfl; (apply Zb6; (refine Zbf rfl rfl ?_); intro _)) | (refine Zag rfl (fun hb => ?_) (fun hb => ?_) <;> (repeat (fail)) <;> (try (exfalso; fail)))))
         all_goals (try (exfalso; simp_all; done))
         all_goals (refine Zch (Q := fun _ _ _ => True) (_, _) trivial (Zaa (by repeat (first | exact Zaj | refine Zae rfl ?_)) (by show List.Sublist (wloc b _ _ (A2 ++ revT x)) _; rw [hh, List.append_nil]; exact List.Sublist.refl _)))
       · have hh : revT x = [.s [114, 101, 118, 101, 114, 115, 101]].flatMap PutV.toks := by unfold revT; rw [hr]; rfl
         rw [hh] at hb1
         simp only [List.flatMap_cons, List.flatMap_nil, PutV.toks, List.length_append, List.length_cons, List.length_nil] at hb1
         (repeat' (first | (apply Zaq 76; refine Zbp (k := 0) (E := eAny k) (t := 75) [.s [114, 101, 118, 101, 114, 115, 101]] rfl rfl rfl rfl ?_ (hc := by decide) (hby := by show _ * 16 ≤ 140737488355328; decide)) | refine Za7 ?_ | refine Za1 ?_ | refine Za3 ?_ | (apply Za8; (first | exact Za2 rfl | (apply Za9; exact Zau rfl rfl) | (apply Zam; exact Zax rfl rfl rfl) | (apply Zc5; exact Zbj rfl rfl)); exact rfl) | refine Zan ?_ | (apply Zac; exact rfl; first | (apply Zaf; (refine Zab (.one 0 rfl (.one 0 rfl .nil)) Tryz.func104 rfl (Zds k _ b _ _ _ (by simp only [List.flatMap_cons, List.flatMap_nil, PutV.toks, List.length_append, List.length_cons, List.length_nil]; omega)) rfl ?_; rintro _ _ ⟨oaw, cw, rfl⟩)) | (apply Zb6; (refine Zbf rfl rfl ?_); intro _)) | (refine Zag rfl (fun hb => ?_) (fun hb => ?_) <;> (repeat (fail)) <;> (try (exfalso; fail)))))
         all_goals (try (exfalso; simp_all; done))
         all_goals (refine Zch (Q := fun _ _ _ => True) (_, _) trivial (Zaa (by repeat (first | exact Zaj | refine Zae rfl ?_)) (by show List.Sublist (wloc b _ _ (A2 ++ revT x)) _; rw [hh]; first | exact List.sublist_append_left _ _ | exact List.Sublist.refl _)))
     obtain ⟨oa3, c3⟩ := z
     simp only
     generalize hA3 : A2 ++ revT x = A3
     have hA3l : A3.length = A2.length + (revT x).length := by rw [← hA3, List.length_append]
     (repeat' (first | (apply Zaq 80; refine Zbp (k := 0) (E := eAny k) (t := 79) [.s [59]] rfl rfl rfl rfl ?_ (hc := by decide) (hby := by show _ * 16 ≤ 140737488355328; decide)) | refine Za1 ?_ | refine Za3 ?_ | (apply Za8; (first | exact Za2 rfl | (apply Zai; exact Zbz rfl rfl) | (apply Zc5; exact Zbj rfl rfl)); exact rfl) | (apply Zac; exact rfl; first | (apply Zaf; (refine Zab (.one 0 rfl (.one 0 rfl .nil)) Tryz.func104 rfl (Zds k _ b _ _ _ (by simp only [List.flatMap_cons, List.flatMap_nil, PutV.toks, List.length_append, List.length_cons, List.length_nil]; omega)) rfl ?_; rintro _ _ ⟨oaw, cw, rfl⟩)) | (apply Zb6; (refine Zbf rfl rfl ?_); intro _))))
     refine ⟨(i + 1, _, _), by show i + 1 ≤ r.crits.length; omega, by show r.crits.length - (i + 1) < r.crits.length - i; omega, Zaa (by repeat (first | exact Zaj | refine Zae rfl ?_)) (by show List.Sublist (wloc b _ _ (A0 ++ (r.crits.take (i + 1)).flatMap critT)) _; rw [hb2, ← List.append_assoc, hA, show critT x = [.s [99, 114, 105, 116, 101, 114, 105, 111, 110], .nm x.name, .s [102, 114, 111, 109], .i x.low, .s [116, 111], .i x.high, .s [115, 116, 101, 112], .i x.step].flatMap PutV.toks ++ howT x ++ revT x ++ [tkS sSemi] from rfl, ← List.append_assoc, ← List.append_assoc, ← List.append_assoc, hA2, hA3]; exact List.sublist_append_left _ _)⟩
   · (repeat' (first | refine Za7 ?_ | refine Za1 ?_ | refine Za3 ?_ | (apply Za8; ((apply Zai; exact Zbg rfl rfl)); exact rfl) | refine Zcf ?_ | (refine Zag rfl (fun hb => ?_) (fun hb => ?_) <;> (repeat (first | replace hb := Zas hb | replace hb := Zat hb)) <;> (try (exfalso; omega)))))
     have hq : i = r.crits.length := by omega
     subst hq
     refine Zch (Q := fun _ _ _ => True) (oa1, c1) trivial (Zaa (by repeat (first | exact Zaj | refine Zae rfl ?_)) (by show List.Sublist (wloc b oa1 c1 (A0 ++ r.crits.flatMap critT)) (wloc b oa1 c1 (A0 ++ (r.crits.take r.crits.length).flatMap critT)); rw [List.take_length]; exact List.Sublist.refl _))
 obtain ⟨oa2, c2⟩ := z
 simp only
 generalize hA1 : acc ++ [tkW wCompetition, tkW r.name, tkS sSemi] ++ r.crits.flatMap critT = A1
 have hA1l : A1.length = acc.length + 3 + (r.crits.flatMap critT).length := by rw [← hA1]; simp only [List.length_append, List.length_cons, List.length_nil]
 have hI1 := fun oa c => witems13_any k wBonus (by decide) r.bonus b oa c A1 (by omega)
 have hI2 := fun oa c => witems13_any k wMalus (by decide) r.malus b oa c (A1 ++ r.bonus.flatMap (itemT wBonus)) (by rw [List.length_append]; omega)
 (repeat' (first | (apply Zci 18; refine StopW.out ?_) | refine Za7 ?_ | refine Za1 ?_ | refine Za3 ?_ | (apply Za8; (first | exact Za2 rfl | (apply Za9; exact Zau rfl rfl) | (apply Zam; exact Zax rfl rfl rfl)); exact rfl) | (apply Zac; exact rfl; (apply Zaf; first | (refine Zab (.one 0 rfl (.one 0 rfl .nil)) Tryz.func105 rfl (hI1 _ _) rfl ?_; rintro _ _ ⟨oaw, cw, rfl⟩) | (refine Zab (.one 0 rfl (.one 0 rfl .nil)) Tryz.func105 rfl (hI2 _ _) rfl ?_; rintro _ _ ⟨oaw, cw, rfl⟩)))))
 refine ⟨?_⟩
 refine Zdj (fun z : Option Addr × Nat => ([(0, ex (.pointer (some ⟨b, 0, none⟩))), (3, fp (rulesV k r))], wloc b z.1 z.2 (A1 ++ r.bonus.flatMap (itemT wBonus) ++ r.malus.flatMap (itemT wMalus) ++ r.ties.flatMap tieT))) (fun _ => True) ?_ fun z _ => ?_
 · generalize hA2 : A1 ++ r.bonus.flatMap (itemT wBonus) ++ r.malus.flatMap (itemT wMalus) = A2
   have hA2l : A2.length = A1.length + (r.bonus.flatMap (itemT wBonus)).length + (r.malus.flatMap (itemT wMalus)).length := by rw [← hA2, List.length_append, List.length_append]
   refine Zbc (env' := [(0, ex (.pointer (some ⟨b, 0, none⟩))), (3, fp (rulesV k r))]) (loc' := wloc b _ _ A2) (Zaa (by repeat (first | exact Zaj | refine Zae rfl ?_)) (by subst hA2; exact List.sublist_append_left _ _)) ?_
   (repeat' (first | refine Za7 ?_ | refine Za1 ?_ | refine Za3 ?_ | (apply Za8; (first | exact Za2 rfl | (apply Za9; exact Zau rfl rfl) | (apply Zam; exact Zax rfl rfl rfl) | (apply Zba; exact Zbq rfl rfl)); exact rfl) | refine Zak ?_))
   refine Zck (fun z : Nat × Option Addr × Nat => ([(0, ex (.pointer (some ⟨b, 0, none⟩))), (3, fp (rulesV k r)), (91, isl eTie r.ties), (92, exI .i64 r.ties.length), (93, exI .i64 (z.1 : Int))], wloc b z.2.1 z.2.2 (A2 ++ (r.ties.take z.1).flatMap tieT))) (fun z => z.1 ≤ r.ties.length) (fun z => r.ties.length - z.1) (0, oaw, cw) ?_ (Nat.zero_le _) fun z hz => ?_
   · exact Zaa (by repeat (first | exact Zaj | refine Zae rfl ?_)) (by show List.Sublist (wloc b _ _ (A2 ++ [])) _; rw [List.append_nil]; exact List.Sublist.refl _)
   obtain ⟨i, oa1, c1⟩ := z
   simp only at hz
   by_cases hi : i < r.ties.length
   · have hb1 := fm_len tieT r.ties i hi
     have hb2 := fm_take tieT r.ties i hi
     generalize hA : A2 ++ (r.ties.take i).flatMap tieT = A
     have hAl : A.length = A2.length + ((r.ties.take i).flatMap tieT).length := by rw [← hA, List.length_append]
     (repeat' (first | (apply Zci 21; refine StopW.out ?_) | refine Za7 ?_ | refine Za1 ?_ | refine Za3 ?_ | (apply Za8; (first | (apply Za9; exact WT_loadfa2 rfl rfl) | (apply Zai; exact Zbg rfl rfl) | (apply Zb3; exact Zb1 rfl rfl rfl)); exact rfl) | refine Zak ?_ | refine Zan ?_ | (apply Zac; exact rfl; first | (apply Zbs; refine Zbh ?_; intro _) | (apply Zaz; refine Zao (k := 0) (l0 := []) rfl rfl rfl ?_)) | (refine Zag rfl (fun hb => ?_) (fun hb => ?_) <;> (repeat (first | replace hb := Zas hb | replace hb := Zat hb)) <;> (try (exfalso; omega)))))
     refine ⟨?_⟩
     rename_i b7
     refine Zbc (Leads_fp (k := 0) (t := 7) rfl rfl) ?_
     refine Zbc (env' := [(0, ex (.pointer (some ⟨b, 0, none⟩))), (3, fp (rulesV k r)), (91, isl eTie r.ties), (92, exI .i64 r.ties.length), (93, exI .i64 (i : Int)), (7, fp (tieV r.ties[i]))]) (loc' := wloc b oa1 c1 A) (Zaa (by repeat (first | exact Zaj | refine Zae rfl ?_)) (by subst hA; exact List.Sublist.refl _)) ?_
     generalize hx : r.ties[i] = x at hb1 hb2
     have hxl := tieT_len x
     rw [hxl] at hb1
     (repeat' (first | (apply Zci 22; refine StopW.out ?_) | (apply Zaq 103; refine Zbp (k := 0) (E := eAny k) (t := 102) [.s [116, 105, 101], .nm x.name] rfl rfl rfl rfl ?_ (hc := by decide) (hby := by show _ * 16 ≤ 140737488355328; decide)) | refine Za7 ?_ | refine Za1 ?_ | refine Za3 ?_ | (apply Za8; (first | exact Za2 rfl | (apply Za9; exact Zau rfl rfl) | (apply Zam; exact Zax rfl rfl rfl) | (apply Zc5; exact Zbj rfl rfl)); exact rfl) | (apply Zac; exact rfl; first | (apply Zaf; (refine Zab (.one 0 rfl (.one 0 rfl .nil)) Tryz.func104 rfl (Zds k _ b _ _ _ (by simp only [List.flatMap_cons, List.flatMap_nil, PutV.toks, List.length_append, List.length_cons, List.length_nil]; omega)) rfl ?_; rintro _ _ ⟨oaw, cw, rfl⟩)) | (apply Zb6; (refine Zbx rfl (by repeat (first | exact PartsO.nil | (apply PartsO.cons; exact rfl; exact inferInstance; exact rfl; exact rfl))) ?_); intro _))))
     refine ⟨?_⟩
     refine Zdj (fun z : Option Addr × Nat => ([(0, ex (.pointer (some ⟨b, 0, none⟩))), (3, fp (rulesV k r)), (91, isl eTie r.ties), (92, exI .i64 r.ties.length), (93, exI .i64 (i : Int)), (7, fp (tieV x))], wloc b z.1 z.2 (A ++ [.s [116, 105, 101], .nm x.name].flatMap PutV.toks ++ keysT x.keys))) (fun _ => True) ?_ fun z _ => ?_
     · generalize hB : A ++ [.s [116, 105, 101], .nm x.name].flatMap PutV.toks = B
       have hBl : B.length = A.length + 2 := by rw [← hB, List.length_append]; rfl
       refine Zbc (env' := [(0, ex (.pointer (some ⟨b, 0, none⟩))), (3, fp (rulesV k r)), (91, isl eTie r.ties), (92, exI .i64 r.ties.length), (93, exI .i64 (i : Int)), (7, fp (tieV x))]) (loc' := wloc b _ _ B) (Zaa (by repeat (first | exact Zaj | refine Zae rfl ?_)) (by subst hB; exact List.sublist_append_left _ _)) ?_
       (repeat' (first | refine Za7 ?_ | refine Za1 ?_ | refine Za3 ?_ | (apply Za8; (first | exact Za2 rfl | (apply Za9; exact Zau rfl rfl) | (apply Zam; exact Zax rfl rfl rfl) | (apply Zba; exact Zbq rfl rfl)); exact rfl) | refine Zak ?_))
       refine WP_says (t := 105) rfl Zc9 fun hkl => ?_
       obtain ⟨hkl, -⟩ := hkl
       simp only [maxLen] at hkl
       refine Zck (fun z : Nat × Option Addr × Nat => ([(0, ex (.pointer (some ⟨b, 0, none⟩))), (3, fp (rulesV k r)), (91, isl eTie r.ties), (92, exI .i64 r.ties.length), (93, exI .i64 (i : Int)), (7, fp (tieV x)), (105, isl eKey x.keys), (106, exI .i64 x.keys.length), (107, exI .i64 (z.1 : Int))], wloc b z.2.1 z.2.2 (B ++ keysT (x.keys.take z.1)))) (fun z => z.1 ≤ x.keys.length) (fun z => x.keys.length - z.1) (0, oaw, cw) ?_ (Nat.zero_le _) fun z hz => ?_
       · exact Zaa (by repeat (first | exact Zaj | refine Zae rfl ?_)) (by show List.Sublist (wloc b _ _ (B ++ [])) _; rw [List.append_nil]; exact List.Sublist.refl _)
       obtain ⟨j, oa3, c3⟩ := z
       simp only at hz
       by_cases hj : j < x.keys.length
       · have hct := keysT_take x.keys j hj
         have hcl := keysT_mono x.keys (j + 1)
         have hky := wkey13_any k x.keys[j] b
         rw [hct] at hcl
         simp only [List.length_append] at hcl
         by_cases hj0 : j = 0
         · rw [if_pos hj0, List.nil_append] at hct
           rw [if_pos hj0, List.length_nil] at hcl
           have hp := fun oa c => hky oa c (B ++ keysT (x.keys.take j)) (by rw [List.length_append]; omega)
           rw [List.append_assoc, ← hct] at hp
           (repeat' (first | refine Za7 ?_ | refine Za1 ?_ | refine Za3 ?_ | (apply Za8; (first | exact Za2 rfl | exact Za5 rfl | (apply Za9; first | exact WT_loadfa2 rfl rfl | exact Zbm (k := 0) rfl rfl rfl) | (apply Zai; first | exact Zbg rfl rfl | exact Zcu rfl rfl | exact Zbz rfl rfl) | (apply Zb3; exact Zb1 rfl rfl rfl)); exact rfl) | refine Zak ?_ | refine Zan ?_ | (apply Zac; exact rfl; first | (apply Zaf; (refine Zab (.one 1 rfl (.one 1 rfl .nil)) Tryz.func106 rfl (hp _ _) rfl ?_; rintro _ _ ⟨oa4, c4, rfl⟩)) | (apply Zbs; refine Zbh ?_; intro _) | (apply Zaz; refine Zao (k := 0) (l0 := []) rfl rfl rfl ?_)) | (refine Zag rfl (fun hb => ?_) (fun hb => ?_) <;> (repeat (first | replace hb := Zas hb | replace hb := Zat hb)) <;> (try (exfalso; omega)))))
           all_goals (try (exfalso; omega))
           exact ⟨(j + 1, oa4, c4), by show j + 1 ≤ x.keys.length; omega, by show x.keys.length - (j + 1) < x.keys.length - j; omega, Zaa (by repeat (first | exact Zaj | refine Zae rfl ?_)) (List.sublist_append_left _ _)⟩
         · rw [if_neg hj0] at hct
           rw [if_neg hj0, List.length_singleton] at hcl
           have hp := fun oa c => hky oa c (B ++ keysT (x.keys.take j) ++ [tkS sComma]) (by simp only [List.length_append, List.length_singleton]; omega)
           rw [show B ++ keysT (x.keys.take j) ++ [tkS sComma] ++ keyT x.keys[j] = B ++ keysT (x.keys.take (j + 1)) by rw [hct]; simp only [List.append_assoc]] at hp
           (repeat' (first | (apply Zaq 117; refine Zbp (k := 0) (E := eAny k) (t := 116) [.s [44]] rfl rfl rfl rfl ?_ (hc := by decide) (hby := by show _ * 16 ≤ 140737488355328; decide)) | refine Za7 ?_ | refine Za1 ?_ | refine Za3 ?_ | (apply Za8; (first | exact Za2 rfl | exact Za5 rfl | (apply Za9; first | exact WT_loadfa2 rfl rfl | exact Zbm (k := 2) rfl rfl rfl) | (apply Zai; first | exact Zbg rfl rfl | exact Zcu rfl rfl | exact Zbz rfl rfl) | (apply Zb3; exact Zb1 rfl rfl rfl) | (apply Zc5; exact Zbj rfl rfl)); exact rfl) | refine Zak ?_ | refine Zan ?_ | (apply Zac; exact rfl; first | (apply Zaf; first | (refine Zab (.one 1 rfl (.one 1 rfl .nil)) Tryz.func104 rfl (Zds k _ b _ _ _ (by simp only [List.flatMap_cons, List.flatMap_nil, PutV.toks, List.length_append, List.length_cons, List.length_nil]; omega)) rfl ?_; rintro _ _ ⟨_, _, rfl⟩) | (refine Zab (.one 0 rfl (.one 0 rfl .nil)) Tryz.func106 rfl (hp _ _) rfl ?_; rintro _ _ ⟨oa4, c4, rfl⟩)) | (apply Zbs; refine Zbh ?_; intro _) | (apply Zaz; refine Zao (k := 0) (l0 := []) rfl rfl rfl ?_) | (apply Zb6; (refine Zbf rfl rfl ?_); intro _)) | (refine Zag rfl (fun hb => ?_) (fun hb => ?_) <;> (repeat (first | replace hb := Zas hb | replace hb := Zat hb)) <;> (try (exfalso; omega)))))
           all_goals (try (exfalso; omega))
           exact ⟨(j + 1, oa4, c4), by show j + 1 ≤ x.keys.length; omega, by show x.keys.length - (j + 1) < x.keys.length - j; omega, Zaa (by repeat (first | exact Zaj | refine Zae rfl ?_)) (List.sublist_append_left _ _)⟩
       · (repeat' (first | refine Za7 ?_ | refine Za1 ?_ | refine Za3 ?_ | (apply Za8; ((apply Zai; exact Zbg rfl rfl)); exact rfl) | refine Zcf ?_ | (refine Zag rfl (fun hb => ?_) (fun hb => ?_) <;> (repeat (first | replace hb := Zas hb | replace hb := Zat hb)) <;> (try (exfalso; omega)))))
         have hq : j = x.keys.length := by omega
         subst hq
         refine Zch (Q := fun _ _ _ => True) (oa3, c3) trivial (Zaa (by repeat (first | exact Zaj | refine Zae rfl ?_)) (by show List.Sublist (wloc b oa3 c3 (B ++ keysT x.keys)) (wloc b oa3 c3 (B ++ keysT (x.keys.take x.keys.length))); rw [List.take_length]; exact List.Sublist.refl _))
     obtain ⟨oa2, c2⟩ := z
     simp only
     generalize hA3 : A ++ [.s [116, 105, 101], .nm x.name].flatMap PutV.toks ++ keysT x.keys = A3
     have hA3l : A3.length = A.length + 2 + (keysT x.keys).length := by rw [← hA3, List.length_append, List.length_append]; rfl
     (repeat' (first | (apply Zaq 125; refine Zbp (k := 0) (E := eAny k) (t := 124) [.s [59]] rfl rfl rfl rfl ?_ (hc := by decide) (hby := by show _ * 16 ≤ 140737488355328; decide)) | refine Za1 ?_ | refine Za3 ?_ | (apply Za8; (first | exact Za2 rfl | (apply Zai; exact Zbz rfl rfl) | (apply Zc5; exact Zbj rfl rfl)); exact rfl) | (apply Zac; exact rfl; first | (apply Zaf; (refine Zab (.one 0 rfl (.one 0 rfl .nil)) Tryz.func104 rfl (Zds k _ b _ _ _ (by simp only [List.flatMap_cons, List.flatMap_nil, PutV.toks, List.length_append, List.length_cons, List.length_nil]; omega)) rfl ?_; rintro _ _ ⟨oaw, cw, rfl⟩)) | (apply Zb6; (refine Zbf rfl rfl ?_); intro _))))
     refine ⟨(i + 1, _, _), by show i + 1 ≤ r.ties.length; omega, by show r.ties.length - (i + 1) < r.ties.length - i; omega, Zaa (by repeat (first | exact Zaj | refine Zae rfl ?_)) (by show List.Sublist (wloc b _ _ (A2 ++ (r.ties.take (i + 1)).flatMap tieT)) _; rw [hb2, ← List.append_assoc, hA, show tieT x = [.s [116, 105, 101], .nm x.name].flatMap PutV.toks ++ keysT x.keys ++ [tkS sSemi] from rfl, ← List.append_assoc, ← List.append_assoc, hA3]; exact List.sublist_append_left _ _)⟩
   · (repeat' (first | refine Za7 ?_ | refine Za1 ?_ | refine Za3 ?_ | (apply Za8; ((apply Zai; exact Zbg rfl rfl)); exact rfl) | refine Zcf ?_ | (refine Zag rfl (fun hb => ?_) (fun hb => ?_) <;> (repeat (first | replace hb := Zas hb | replace hb := Zat hb)) <;> (try (exfalso; omega)))))
     have hq : i = r.ties.length := by omega
     subst hq
     refine Zch (Q := fun _ _ _ => True) (oa1, c1) trivial (Zaa (by repeat (first | exact Zaj | refine Zae rfl ?_)) (by show List.Sublist (wloc b oa1 c1 (A2 ++ r.ties.flatMap tieT)) (wloc b oa1 c1 (A2 ++ (r.ties.take r.ties.length).flatMap tieT)); rw [List.take_length]; exact List.Sublist.refl _))
 obtain ⟨oa3, c3⟩ := z
 simp only
 generalize hA3 : A1 ++ r.bonus.flatMap (itemT wBonus) ++ r.malus.flatMap (itemT wMalus) ++ r.ties.flatMap tieT = A3
 have hA3l : A3.length = A1.length + (r.bonus.flatMap (itemT wBonus)).length + (r.malus.flatMap (itemT wMalus)).length + (r.ties.flatMap tieT).length := by rw [← hA3]; simp only [List.length_append]
 (repeat' (first | (apply Zci 31; refine StopW.out ?_) | refine Za7 ?_))
 refine ⟨?_⟩
 refine Zdj (fun z : Option Addr × Nat => ([(0, ex (.pointer (some ⟨b, 0, none⟩))), (3, fp (rulesV k r))], wloc b z.1 z.2 (A3 ++ r.rounds.flatMap roundT))) (fun _ => True) ?_ fun z _ => ?_
 · skip
   (repeat' (first | refine Za7 ?_ | refine Za1 ?_ | refine Za3 ?_ | (apply Za8; (first | exact Za2 rfl | (apply Za9; exact Zau rfl rfl) | (apply Zam; exact Zax rfl rfl rfl) | (apply Zba; exact Zbq rfl rfl)); exact rfl) | refine Zak ?_))
   refine Zck (fun z : Nat × Option Addr × Nat => ([(0, ex (.pointer (some ⟨b, 0, none⟩))), (3, fp (rulesV k r)), (128, isl (eRound k) r.rounds), (129, exI .i64 r.rounds.length), (130, exI .i64 (z.1 : Int))], wloc b z.2.1 z.2.2 (A3 ++ (r.rounds.take z.1).flatMap roundT))) (fun z => z.1 ≤ r.rounds.length) (fun z => r.rounds.length - z.1) (0, oa3, c3) ?_ (Nat.zero_le _) fun z hz => ?_
   · exact Zaa (by repeat (first | exact Zaj | refine Zae rfl ?_)) (by show List.Sublist (wloc b _ _ (A3 ++ [])) _; rw [List.append_nil]; exact List.Sublist.refl _)
   obtain ⟨i, oa1, c1⟩ := z
   simp only at hz
   by_cases hi : i < r.rounds.length
   · have hb1 := fm_len roundT r.rounds i hi
     have hb2 := fm_take roundT r.rounds i hi
     generalize hA : A3 ++ (r.rounds.take i).flatMap roundT = A
     have hAl : A.length = A3.length + ((r.rounds.take i).flatMap roundT).length := by rw [← hA, List.length_append]
     (repeat' (first | (apply Zci 34; refine StopW.out ?_) | refine Za7 ?_ | refine Za1 ?_ | refine Za3 ?_ | (apply Za8; (first | (apply Za9; exact WT_loadfa2 rfl rfl) | (apply Zai; exact Zbg rfl rfl) | (apply Zb3; exact Zb1 rfl rfl rfl)); exact rfl) | refine Zak ?_ | refine Zan ?_ | (apply Zac; exact rfl; first | (apply Zbs; refine Zbh ?_; intro _) | (apply Zaz; refine Zao (k := 0) (l0 := []) rfl rfl rfl ?_)) | (refine Zag rfl (fun hb => ?_) (fun hb => ?_) <;> (repeat (first | replace hb := Zas hb | replace hb := Zat hb)) <;> (try (exfalso; omega)))))
     refine ⟨?_⟩
     rename_i b11
     refine Zbc (Leads_fp (k := 0) (t := 11) rfl rfl) ?_
     refine Zbc (env' := [(0, ex (.pointer (some ⟨b, 0, none⟩))), (3, fp (rulesV k r)), (128, isl (eRound k) r.rounds), (129, exI .i64 r.rounds.length), (130, exI .i64 (i : Int)), (11, fp (roundV k r.rounds[i]))]) (loc' := wloc b oa1 c1 A) (Zaa (by repeat (first | exact Zaj | refine Zae rfl ?_)) (by subst hA; exact List.Sublist.refl _)) ?_
     generalize hx : r.rounds[i] = x at hb1 hb2
     have hxl := roundT_len x
     rw [hxl] at hb1
     (repeat' (first | (apply Zci 35; refine StopW.out ?_) | (apply Zaq 148; refine Zbp (k := 0) (E := eAny k) (t := 147) [.s [114, 111, 117, 110, 100], .nm x.name, .s [112, 97, 110, 101, 108], .i x.panel, .s [113, 117, 111, 116, 97], .i x.quota] rfl rfl rfl rfl ?_ (hc := by decide) (hby := by show _ * 16 ≤ 140737488355328; decide)) | refine Za7 ?_ | refine Za1 ?_ | refine Za3 ?_ | (apply Za8; (first | exact Za2 rfl | (apply Za9; exact Zau rfl rfl) | (apply Zam; exact Zax rfl rfl rfl) | (apply Zc5; exact Zbj rfl rfl)); exact rfl) | (apply Zac; exact rfl; first | (apply Zaf; (refine Zab (.one 0 rfl (.one 0 rfl .nil)) Tryz.func104 rfl (Zds k _ b _ _ _ (by simp only [List.flatMap_cons, List.flatMap_nil, PutV.toks, List.length_append, List.length_cons, List.length_nil]; omega)) rfl ?_; rintro _ _ ⟨oaw, cw, rfl⟩)) | (apply Zb6; (refine Zbx rfl (by repeat (first | exact PartsO.nil | (apply PartsO.cons; exact rfl; exact inferInstance; exact rfl; exact rfl))) ?_); intro _))))
     refine ⟨?_⟩
     generalize hB0 : A ++ [.s [114, 111, 117, 110, 100], .nm x.name, .s [112, 97, 110, 101, 108], .i x.panel, .s [113, 117, 111, 116, 97], .i x.quota].flatMap PutV.toks = B0
     have hB0l : B0.length = A.length + 6 := by rw [← hB0, List.length_append]; rfl
     refine Zbc (env' := [(0, ex (.pointer (some ⟨b, 0, none⟩))), (3, fp (rulesV k r)), (128, isl (eRound k) r.rounds), (129, exI .i64 r.rounds.length), (130, exI .i64 (i : Int)), (11, fp (roundV k x))]) (loc' := wloc b _ _ B0) (Zaa (by repeat (first | exact Zaj | refine Zae rfl ?_)) (by subst hB0; exact List.sublist_append_left _ _)) ?_
     (repeat' (first | (apply Zac; exact rfl; apply g_mkmap; refine WO_mkmap (κ := Int) ?_; intro _) | (apply Zac; exact rfl; apply g_insert; refine WO_mapupX (κ := Int) (j := 0) (.inr rfl) rfl rfl rfl rfl rfl rfl ⟨_, rfl⟩ ?_) | (apply Zci 36; refine StopW.out ?_) | refine Za7 ?_ | refine Za1 ?_ | refine Za3 ?_ | (apply Za8; (first | exact Za2 rfl | exact Za5 rfl); exact rfl)))
     refine ⟨?_⟩
     refine Zdj (fun z : Option Addr × Nat => ([(0, ex (.pointer (some ⟨b, 0, none⟩))), (3, fp (rulesV k r)), (128, isl (eRound k) r.rounds), (129, exI .i64 r.rounds.length), (130, exI .i64 (i : Int)), (11, fp (roundV k x))], wloc b z.1 z.2 (B0 ++ cutT x.cut))) (fun _ => True) ?_ fun z _ => ?_
     · by_cases h1 : x.cut = 1
       · skip
         have hh : cutT x.cut = [.s [111, 118, 101, 114]].flatMap PutV.toks := by unfold cutT; rw [if_pos h1]; rfl
         rw [hh] at hb1
         simp only [List.flatMap_cons, List.flatMap_nil, PutV.toks, List.length_append, List.length_cons, List.length_nil] at hb1
         (repeat' (first | (apply Za8; (apply g_lookup; exact WT_looko (κ := Int) (j := 0) rfl rfl rfl (by rw [h1]; rfl) rfl rfl ⟨_, rfl⟩ trivial); exact rfl) | (apply Zaq 163; refine Zbp (k := 0) (E := eAny k) (t := 162) [.s [111, 118, 101, 114]] rfl rfl rfl rfl ?_ (hc := by decide) (hby := by show _ * 16 ≤ 140737488355328; decide)) | refine Za7 ?_ | refine Za1 ?_ | refine Za3 ?_ | (apply Za8; (first | exact Za2 rfl | exact Za5 rfl | exact Zbw rfl rfl | (apply Za9; exact Zau rfl rfl) | (apply Zam; exact Zax rfl rfl rfl) | (apply Zc5; exact Zbj rfl rfl)); exact rfl) | refine Zaw rfl ?_ | (apply Zac; exact rfl; first | (apply Zaf; (refine Zab (.one 1 rfl (.one 1 rfl .nil)) Tryz.func104 rfl (Zds k _ b _ _ _ (by simp only [List.flatMap_cons, List.flatMap_nil, PutV.toks, List.length_append, List.length_cons, List.length_nil]; omega)) rfl ?_; rintro _ _ ⟨oaw, cw, rfl⟩)) | (apply Zb6; (refine Zbf rfl rfl ?_); intro _))))
         all_goals (try (exfalso; omega))
         all_goals (refine Zch (Q := fun _ _ _ => True) (_, _) trivial (Zaa (by repeat (first | exact Zaj | refine Zae rfl ?_)) (by show List.Sublist (wloc b _ _ (B0 ++ cutT x.cut)) _; rw [hh]; first | exact List.sublist_append_left _ _ | exact List.Sublist.refl _)))
       by_cases h2 : x.cut = 2
       · skip
         have hh : cutT x.cut = [.s [117, 110, 100, 101, 114]].flatMap PutV.toks := by unfold cutT; rw [if_neg h1, if_pos h2]; rfl
         rw [hh] at hb1
         simp only [List.flatMap_cons, List.flatMap_nil, PutV.toks, List.length_append, List.length_cons, List.length_nil] at hb1
         (repeat' (first | (apply Za8; (apply g_lookup; exact WT_looko (κ := Int) (j := 0) rfl rfl rfl (by rw [h2]; rfl) rfl rfl ⟨_, rfl⟩ trivial); exact rfl) | (apply Zaq 163; refine Zbp (k := 0) (E := eAny k) (t := 162) [.s [117, 110, 100, 101, 114]] rfl rfl rfl rfl ?_ (hc := by decide) (hby := by show _ * 16 ≤ 140737488355328; decide)) | refine Za7 ?_ | refine Za1 ?_ | refine Za3 ?_ | (apply Za8; (first | exact Za2 rfl | exact Za5 rfl | exact Zbw rfl rfl | (apply Za9; exact Zau rfl rfl) | (apply Zam; exact Zax rfl rfl rfl) | (apply Zc5; exact Zbj rfl rfl)); exact rfl) | refine Zaw rfl ?_ | (apply Zac; exact rfl; first | (apply Zaf; (refine Zab (.one 1 rfl (.one 1 rfl .nil)) Tryz.func104 rfl (Zds k _ b _ _ _ (by simp only [List.flatMap_cons, List.flatMap_nil, PutV.toks, List.length_append, List.length_cons, List.length_nil]; omega)) rfl ?_; rintro _ _ ⟨oaw, cw, rfl⟩)) | (apply Zb6; (refine Zbf rfl rfl ?_); intro _))))
         all_goals (try (exfalso; omega))
         all_goals (refine Zch (Q := fun _ _ _ => True) (_, _) trivial (Zaa (by repeat (first | exact Zaj | refine Zae rfl ?_)) (by show List.Sublist (wloc b _ _ (B0 ++ cutT x.cut)) _; rw [hh]; first | exact List.sublist_append_left _ _ | exact List.Sublist.refl _)))
       · skip
         have hh : cutT x.cut = [.s [108, 111, 116, 115]].flatMap PutV.toks := by unfold cutT; rw [if_neg h1, if_neg h2]; rfl
         rw [hh] at hb1
         simp only [List.flatMap_cons, List.flatMap_nil, PutV.toks, List.length_append, List.length_cons, List.length_nil] at hb1
         (repeat' (first | (apply Za8; (apply g_lookup; exact WT_looko0 (κ := Int) (j := 0) rfl rfl rfl (by simp only [mput, mlook, Int.reduceEq, if_false]; rw [if_neg h1, if_neg h2]) rfl rfl ⟨_, rfl⟩ trivial); exact rfl) | (apply Zaq 167; refine Zbp (k := 0) (E := eAny k) (t := 166) [.s [108, 111, 116, 115]] rfl rfl rfl rfl ?_ (hc := by decide) (hby := by show _ * 16 ≤ 140737488355328; decide)) | refine Za7 ?_ | refine Za1 ?_ | refine Za3 ?_ | (apply Za8; (first | exact Za2 rfl | exact Za5 rfl | exact Zbw rfl rfl | (apply Za9; exact Zau rfl rfl) | (apply Zam; exact Zax rfl rfl rfl) | (apply Zc5; exact Zbj rfl rfl)); exact rfl) | refine Zb0 rfl ?_ | (apply Zac; exact rfl; first | (apply Zaf; (refine Zab (.one 1 rfl (.one 1 rfl .nil)) Tryz.func104 rfl (Zds k _ b _ _ _ (by simp only [List.flatMap_cons, List.flatMap_nil, PutV.toks, List.length_append, List.length_cons, List.length_nil]; omega)) rfl ?_; rintro _ _ ⟨oaw, cw, rfl⟩)) | (apply Zb6; (refine Zbf rfl rfl ?_); intro _))))
         all_goals (try (exfalso; omega))
         all_goals (refine Zch (Q := fun _ _ _ => True) (_, _) trivial (Zaa (by repeat (first | exact Zaj | refine Zae rfl ?_)) (by show List.Sublist (wloc b _ _ (B0 ++ cutT x.cut)) _; rw [hh]; first | exact List.sublist_append_left _ _ | exact List.Sublist.refl _)))
     obtain ⟨oa2, c2⟩ := z
     simp only
     generalize hB1 : B0 ++ cutT x.cut = B1
     have hB1l : B1.length = B0.length + (cutT x.cut).length := by rw [← hB1, List.length_append]
     (repeat' (first | (apply Zci 40; refine StopW.out ?_) | refine Za7 ?_))
     refine ⟨?_⟩
     refine Zdj (fun z : Option Addr × Nat => ([(0, ex (.pointer (some ⟨b, 0, none⟩))), (3, fp (rulesV k r)), (128, isl (eRound k) r.rounds), (129, exI .i64 r.rounds.length), (130, exI .i64 (i : Int)), (11, fp (roundV k x))], wloc b z.1 z.2 (B1 ++ freeT x))) (fun _ => True) ?_ fun z _ => ?_
     · cases hr : x.free
       · have hh : freeT x = [] := by unfold freeT; rw [hr]; rfl
         (repeat' (first | refine Za7 ?_ | refine Za1 ?_ | refine Za3 ?_ | (apply Za8; (first | exact Za2 rfl | (apply Za9; exact Zau rfl rfl) | (apply Zam; exact Zax rfl rfl rfl) | (apply Zc5; exact Zbj rfl rfl)); exact rfl) | refine Zan ?_ | (apply Zac; exact rfl; (apply Zb6; (refine Zbf rfl rfl ?_); intro _)) | (refine Zag rfl (fun hb => ?_) (fun hb => ?_) <;> (repeat (fail)) <;> (try (exfalso; fail)))))
         all_goals (try (exfalso; simp_all; done))
         all_goals (refine Zch (Q := fun _ _ _ => True) (_, _) trivial (Zaa (by repeat (first | exact Zaj | refine Zae rfl ?_)) (by show List.Sublist (wloc b _ _ (B1 ++ freeT x)) _; rw [hh, List.append_nil]; exact List.Sublist.refl _)))
       · have hh : freeT x = [.s [102, 114, 101, 101]].flatMap PutV.toks := by unfold freeT; rw [hr]; rfl
         rw [hh] at hb1
         simp only [List.flatMap_cons, List.flatMap_nil, PutV.toks, List.length_append, List.length_cons, List.length_nil] at hb1
         (repeat' (first | (apply Zaq 173; refine Zbp (k := 0) (E := eAny k) (t := 172) [.s [102, 114, 101, 101]] rfl rfl rfl rfl ?_ (hc := by decide) (hby := by show _ * 16 ≤ 140737488355328; decide)) | refine Za7 ?_ | refine Za1 ?_ | refine Za3 ?_ | (apply Za8; (first | exact Za2 rfl | (apply Za9; exact Zau rfl rfl) | (apply Zam; exact Zax rfl rfl rfl) | (apply Zc5; exact Zbj rfl rfl)); exact rfl) | refine Zan ?_ | (apply Zac; exact rfl; first | (apply Zaf; (refine Zab (.one 0 rfl (.one 0 rfl .nil)) Tryz.func104 rfl (Zds k _ b _ _ _ (by simp only [List.flatMap_cons, List.flatMap_nil, PutV.toks, List.length_append, List.length_cons, List.length_nil]; omega)) rfl ?_; rintro _ _ ⟨oaw, cw, rfl⟩)) | (apply Zb6; (refine Zbf rfl rfl ?_); intro _)) | (refine Zag rfl (fun hb => ?_) (fun hb => ?_) <;> (repeat (fail)) <;> (try (exfalso; fail)))))
         all_goals (try (exfalso; simp_all; done))
         all_goals (refine Zch (Q := fun _ _ _ => True) (_, _) trivial (Zaa (by repeat (first | exact Zaj | refine Zae rfl ?_)) (by show List.Sublist (wloc b _ _ (B1 ++ freeT x)) _; rw [hh]; first | exact List.sublist_append_left _ _ | exact List.Sublist.refl _)))
     obtain ⟨oa3, c3⟩ := z
     simp only
     generalize hB2 : B1 ++ freeT x = B2
     have hB2l : B2.length = B1.length + (freeT x).length := by rw [← hB2, List.length_append]
     (repeat' (first | (apply Zci 42; refine StopW.out ?_) | refine Za7 ?_))
     refine ⟨?_⟩
     refine Zdj (fun z : Option Addr × Nat => ([(0, ex (.pointer (some ⟨b, 0, none⟩))), (3, fp (rulesV k r)), (128, isl (eRound k) r.rounds), (129, exI .i64 r.rounds.length), (130, exI .i64 (i : Int)), (11, fp (roundV k x))], wloc b z.1 z.2 (B2 ++ plT x))) (fun _ => True) ?_ fun z _ => ?_
     · cases hr : x.places
       · have hh : plT x = [.s [115, 99, 111, 114, 101], .xx x.score].flatMap PutV.toks := by unfold plT; rw [hr]; show _ = sT [115, 99, 111, 114, 101] :: (exT' x.score ++ []); rw [List.append_nil]; rfl
         rw [hh] at hb1
         simp only [List.flatMap_cons, List.flatMap_nil, PutV.toks, List.length_append, List.length_cons, List.length_nil] at hb1
         (repeat' (first | (apply Zaq 186; refine Zbp (k := 0) (E := eAny k) (t := 185) [.s [115, 99, 111, 114, 101], .xx x.score] rfl rfl rfl rfl ?_ (hc := by decide) (hby := by show _ * 16 ≤ 140737488355328; decide)) | refine Za7 ?_ | refine Za1 ?_ | refine Za3 ?_ | (apply Za8; (first | exact Za2 rfl | (apply Za9; first | exact Zau rfl rfl | exact Zb4 rfl rfl) | (apply Zam; exact Zax rfl rfl rfl) | (apply Zc5; exact Zbj rfl rfl)); exact rfl) | (apply Zac; exact rfl; first | (apply Zaf; (refine Zab (.one 0 rfl (.one 0 rfl .nil)) Tryz.func104 rfl (Zds k _ b _ _ _ (by simp only [List.flatMap_cons, List.flatMap_nil, PutV.toks, List.length_append, List.length_cons, List.length_nil]; omega)) rfl ?_; rintro _ _ ⟨oaw, cw, rfl⟩)) | (apply Zb6; (first | refine Zbf rfl rfl ?_ | refine Zbx rfl (by repeat (first | exact PartsO.nil | (apply PartsO.cons; exact rfl; exact inferInstance; exact rfl; exact rfl))) ?_); intro _)) | (refine Zag rfl (fun hb => ?_) (fun hb => ?_) <;> (repeat (fail)) <;> (try (exfalso; fail)))))
         all_goals (try (exfalso; simp_all; done))
         all_goals (refine Zch (Q := fun _ _ _ => True) (_, _) trivial (Zaa (by repeat (first | exact Zaj | refine Zae rfl ?_)) (by show List.Sublist (wloc b _ _ (B2 ++ plT x)) _; rw [hh]; first | exact List.sublist_append_left _ _ | exact List.Sublist.refl _)))
       · have hh : plT x = [.s [112, 108, 97, 99, 101, 115]].flatMap PutV.toks := by unfold plT; rw [hr]; rfl
         rw [hh] at hb1
         simp only [List.flatMap_cons, List.flatMap_nil, PutV.toks, List.length_append, List.length_cons, List.length_nil] at hb1
         (repeat' (first | (apply Zaq 179; refine Zbp (k := 0) (E := eAny k) (t := 178) [.s [112, 108, 97, 99, 101, 115]] rfl rfl rfl rfl ?_ (hc := by decide) (hby := by show _ * 16 ≤ 140737488355328; decide)) | refine Za7 ?_ | refine Za1 ?_ | refine Za3 ?_ | (apply Za8; (first | exact Za2 rfl | (apply Za9; first | exact Zau rfl rfl | exact Zb4 rfl rfl) | (apply Zam; exact Zax rfl rfl rfl) | (apply Zc5; exact Zbj rfl rfl)); exact rfl) | (apply Zac; exact rfl; first | (apply Zaf; (refine Zab (.one 0 rfl (.one 0 rfl .nil)) Tryz.func104 rfl (Zds k _ b _ _ _ (by simp only [List.flatMap_cons, List.flatMap_nil, PutV.toks, List.length_append, List.length_cons, List.length_nil]; omega)) rfl ?_; rintro _ _ ⟨oaw, cw, rfl⟩)) | (apply Zb6; (first | refine Zbf rfl rfl ?_ | refine Zbx rfl (by repeat (first | exact PartsO.nil | (apply PartsO.cons; exact rfl; exact inferInstance; exact rfl; exact rfl))) ?_); intro _)) | (refine Zag rfl (fun hb => ?_) (fun hb => ?_) <;> (repeat (fail)) <;> (try (exfalso; fail)))))
         all_goals (try (exfalso; simp_all; done))
         all_goals (refine Zch (Q := fun _ _ _ => True) (_, _) trivial (Zaa (by repeat (first | exact Zaj | refine Zae rfl ?_)) (by show List.Sublist (wloc b _ _ (B2 ++ plT x)) _; rw [hh]; first | exact List.sublist_append_left _ _ | exact List.Sublist.refl _)))
     obtain ⟨oa4, c4⟩ := z
     simp only
     generalize hB3 : B2 ++ plT x = B3
     have hB3l : B3.length = B2.length + (plT x).length := by rw [← hB3, List.length_append]
     (repeat' (first | (apply Zci 45; refine StopW.out ?_) | refine Za7 ?_))
     refine ⟨?_⟩
     refine Zdj (fun z : Option Addr × Nat => ([(0, ex (.pointer (some ⟨b, 0, none⟩))), (3, fp (rulesV k r)), (128, isl (eRound k) r.rounds), (129, exI .i64 r.rounds.length), (130, exI .i64 (i : Int)), (11, fp (roundV k x))], wloc b z.1 z.2 (B3 ++ tiT x))) (fun _ => True) ?_ fun z _ => ?_
     · by_cases h1 : x.tieNo = 0
       · have hh : tiT x = [.s [116, 105, 101], .nm x.tie].flatMap PutV.toks := by unfold tiT; rw [if_pos h1]; rfl
         rw [hh] at hb1
         simp only [List.flatMap_cons, List.flatMap_nil, PutV.toks, List.length_append, List.length_cons, List.length_nil] at hb1
         (repeat' (first | (apply Zaq 196; refine Zbp (k := 0) (E := eAny k) (t := 195) [.s [116, 105, 101], .nm x.tie] rfl rfl rfl rfl ?_ (hc := by decide) (hby := by show _ * 16 ≤ 140737488355328; decide)) | refine Za7 ?_ | refine Za1 ?_ | refine Za3 ?_ | (apply Za8; (first | exact Za2 rfl | (apply Za9; exact Zau rfl rfl) | (apply Zam; exact Zax rfl rfl rfl) | (apply Zai; exact Zc4 rfl rfl) | (apply Zc5; exact Zbj rfl rfl)); exact rfl) | (apply Zac; exact rfl; first | (apply Zaf; (refine Zab (.one 0 rfl (.one 0 rfl .nil)) Tryz.func104 rfl (Zds k _ b _ _ _ (by simp only [List.flatMap_cons, List.flatMap_nil, PutV.toks, List.length_append, List.length_cons, List.length_nil]; omega)) rfl ?_; rintro _ _ ⟨oaw, cw, rfl⟩)) | (apply Zb6; (refine Zbx rfl (by repeat (first | exact PartsO.nil | (apply PartsO.cons; exact rfl; exact inferInstance; exact rfl; exact rfl))) ?_); intro _)) | (refine Zag rfl (fun hb => ?_) (fun hb => ?_) <;> (repeat (first | replace hb := Zas hb | replace hb := Zat hb)) <;> (try (exfalso; contradiction)))))
         all_goals (try (exfalso; omega))
         all_goals (refine Zch (Q := fun _ _ _ => True) (_, _) trivial (Zaa (by repeat (first | exact Zaj | refine Zae rfl ?_)) (by show List.Sublist (wloc b _ _ (B3 ++ tiT x)) _; rw [hh]; first | exact List.sublist_append_left _ _ | exact List.Sublist.refl _)))
       · have hh : tiT x = [] := by unfold tiT; rw [if_neg h1]
         (repeat' (first | refine Za7 ?_ | refine Za1 ?_ | refine Za3 ?_ | (apply Za8; (first | (apply Za9; exact Zau rfl rfl) | (apply Zam; exact Zax rfl rfl rfl) | (apply Zai; exact Zc4 rfl rfl)); exact rfl) | refine Zan ?_ | (refine Zag rfl (fun hb => ?_) (fun hb => ?_) <;> (repeat (first | replace hb := Zas hb | replace hb := Zat hb)) <;> (try (exfalso; contradiction)))))
         all_goals (try (exfalso; omega))
         all_goals (refine Zch (Q := fun _ _ _ => True) (_, _) trivial (Zaa (by repeat (first | exact Zaj | refine Zae rfl ?_)) (by show List.Sublist (wloc b _ _ (B3 ++ tiT x)) _; rw [hh, List.append_nil]; exact List.Sublist.refl _)))
     obtain ⟨oa5, c5⟩ := z
     simp only
     generalize hB4 : B3 ++ tiT x = B4
     have hB4l : B4.length = B3.length + (tiT x).length := by rw [← hB4, List.length_append]
     (repeat' (first | (apply Zaq 200; refine Zbp (k := 0) (E := eAny k) (t := 199) [.s [59]] rfl rfl rfl rfl ?_ (hc := by decide) (hby := by show _ * 16 ≤ 140737488355328; decide)) | refine Za1 ?_ | refine Za3 ?_ | (apply Za8; (first | exact Za2 rfl | (apply Zai; exact Zbz rfl rfl) | (apply Zc5; exact Zbj rfl rfl)); exact rfl) | (apply Zac; exact rfl; first | (apply Zaf; (refine Zab (.one 0 rfl (.one 0 rfl .nil)) Tryz.func104 rfl (Zds k _ b _ _ _ (by simp only [List.flatMap_cons, List.flatMap_nil, PutV.toks, List.length_append, List.length_cons, List.length_nil]; omega)) rfl ?_; rintro _ _ ⟨oaw, cw, rfl⟩)) | (apply Zb6; (refine Zbf rfl rfl ?_); intro _))))
     refine ⟨(i + 1, _, _), by show i + 1 ≤ r.rounds.length; omega, by show r.rounds.length - (i + 1) < r.rounds.length - i; omega, Zaa (by repeat (first | exact Zaj | refine Zae rfl ?_)) (by show List.Sublist (wloc b _ _ (A3 ++ (r.rounds.take (i + 1)).flatMap roundT)) _; rw [hb2, ← List.append_assoc, hA, show roundT x = [.s [114, 111, 117, 110, 100], .nm x.name, .s [112, 97, 110, 101, 108], .i x.panel, .s [113, 117, 111, 116, 97], .i x.quota].flatMap PutV.toks ++ cutT x.cut ++ freeT x ++ plT x ++ tiT x ++ [tkS sSemi] from rfl, ← List.append_assoc, ← List.append_assoc, ← List.append_assoc, ← List.append_assoc, ← List.append_assoc, hB0, hB1, hB2, hB3, hB4]; exact List.sublist_append_left _ _)⟩
   · (repeat' (first | refine Za7 ?_ | refine Za1 ?_ | refine Za3 ?_ | (apply Za8; ((apply Zai; exact Zbg rfl rfl)); exact rfl) | refine Zcf ?_ | (refine Zag rfl (fun hb => ?_) (fun hb => ?_) <;> (repeat (first | replace hb := Zas hb | replace hb := Zat hb)) <;> (try (exfalso; omega)))))
     have hq : i = r.rounds.length := by omega
     subst hq
     refine Zch (Q := fun _ _ _ => True) (oa1, c1) trivial (Zaa (by repeat (first | exact Zaj | refine Zae rfl ?_)) (by show List.Sublist (wloc b oa1 c1 (A3 ++ r.rounds.flatMap roundT)) (wloc b oa1 c1 (A3 ++ (r.rounds.take r.rounds.length).flatMap roundT)); rw [List.take_length]; exact List.Sublist.refl _))
 obtain ⟨oa4, c4⟩ := z
 simp only
 generalize hA4 : A3 ++ r.rounds.flatMap roundT = A4
 have hA4l : A4.length = A3.length + (r.rounds.flatMap roundT).length := by rw [← hA4, List.length_append]
 (repeat' (first | (apply Zci 49; refine StopW.out ?_) | refine Za7 ?_))
 refine ⟨?_⟩
 refine Zdj (fun z : Option Addr × Nat => ([(0, ex (.pointer (some ⟨b, 0, none⟩))), (3, fp (rulesV k r))], wloc b z.1 z.2 (A4 ++ przT r.prizes))) (fun _ => True) ?_ fun z _ => ?_
 · by_cases h1 : r.prizes = []
   · have hh : przT r.prizes = [] := by unfold przT; rw [if_pos h1]
     have hl0 : r.prizes.length = 0 := by rw [h1]; rfl
     (repeat' (first | refine Za7 ?_ | refine Za1 ?_ | refine Za3 ?_ | (apply Za8; (first | (apply Za9; exact Zau rfl rfl) | (apply Zam; exact Zax rfl rfl rfl) | (apply Zai; exact Zcu rfl rfl) | (apply Zba; exact Zbq rfl rfl)); exact rfl) | refine Zan ?_ | (refine Zag rfl (fun hb => ?_) (fun hb => ?_) <;> (repeat (first | replace hb := Zas hb | replace hb := Zat hb)) <;> (try (exfalso; omega)))))
     all_goals (try (exfalso; omega))
     all_goals (refine Zch (Q := fun _ _ _ => True) (_, _) trivial (Zaa (by repeat (first | exact Zaj | refine Zae rfl ?_)) (by show List.Sublist (wloc b _ _ (A4 ++ przT r.prizes)) _; rw [hh, List.append_nil]; exact List.Sublist.refl _)))
   · have hh : przT r.prizes = [.s [112, 114, 105, 122, 101, 115], .il r.prizes, .s [59]].flatMap PutV.toks := by unfold przT; rw [if_neg h1]; rfl
     have hl0 : r.prizes.length ≠ 0 := fun e => h1 (List.length_eq_zero_iff.1 e)
     rw [hh] at hlen
     simp only [List.flatMap_cons, List.flatMap_nil, PutV.toks, List.length_append, List.length_cons, List.length_nil] at hlen
     (repeat' (first | (apply Zaq 213; refine Zbp (k := 0) (E := eAny k) (t := 212) [.s [112, 114, 105, 122, 101, 115], .il r.prizes, .s [59]] rfl rfl rfl rfl ?_ (hc := by decide) (hby := by show _ * 16 ≤ 140737488355328; decide)) | refine Za7 ?_ | refine Za1 ?_ | refine Za3 ?_ | (apply Za8; (first | exact Za2 rfl | (apply Za9; exact Zau rfl rfl) | (apply Zam; exact Zax rfl rfl rfl) | (apply Zai; exact Zcu rfl rfl) | (apply Zba; exact Zbq rfl rfl) | (apply Zc5; exact Zbj rfl rfl)); exact rfl) | (apply Zac; exact rfl; first | (apply Zaf; (refine Zab (.one 0 rfl (.one 0 rfl .nil)) Tryz.func104 rfl (Zds k _ b _ _ _ (by simp only [List.flatMap_cons, List.flatMap_nil, PutV.toks, List.length_append, List.length_cons, List.length_nil]; omega)) rfl ?_; rintro _ _ ⟨oaw, cw, rfl⟩)) | (apply Zb6; (refine Zbx rfl (by repeat (first | exact PartsO.nil | (apply PartsO.cons; exact rfl; exact inferInstance; exact rfl; exact rfl))) ?_); intro _)) | (refine Zag rfl (fun hb => ?_) (fun hb => ?_) <;> (repeat (first | replace hb := Zas hb | replace hb := Zat hb)) <;> (try (exfalso; omega)))))
     all_goals (try (exfalso; omega))
     all_goals (refine Zch (Q := fun _ _ _ => True) (_, _) trivial (Zaa (by repeat (first | exact Zaj | refine Zae rfl ?_)) (by show List.Sublist (wloc b _ _ (A4 ++ przT r.prizes)) _; rw [hh]; first | exact List.sublist_append_left _ _ | exact List.Sublist.refl _)))
 obtain ⟨oa5, c5⟩ := z
 simp only
 generalize hA5 : A4 ++ przT r.prizes = A5
 have hA5l : A5.length = A4.length + (przT r.prizes).length := by rw [← hA5, List.length_append]
 have hEnd : acc ++ ([tkW wCompetition, tkW r.name, tkS sSemi] ++ r.crits.flatMap critT ++ r.bonus.flatMap (itemT wBonus) ++ r.malus.flatMap (itemT wMalus) ++ r.ties.flatMap tieT ++ r.rounds.flatMap roundT ++ przT r.prizes ++ pntT r.points r.best) = A5 ++ pntT r.points r.best := by
   rw [← hA5, ← hA4, ← hA3, ← hA1]; simp only [List.append_assoc]
 rw [hEnd]
 by_cases h1 : r.points = []
 · have hh : pntT r.points r.best = [] := by unfold pntT; rw [if_pos h1]
   have hl0 : r.points.length = 0 := by rw [h1]; rfl
   (repeat' (first | refine Za7 ?_ | refine Za1 ?_ | refine Za3 ?_ | (apply Za8; (first | (apply Za9; exact Zau rfl rfl) | (apply Zam; exact Zax rfl rfl rfl) | (apply Zai; exact Zcu rfl rfl) | (apply Zba; exact Zbq rfl rfl)); exact rfl) | refine Zan ?_ | (refine Zag rfl (fun hb => ?_) (fun hb => ?_) <;> (repeat (first | replace hb := Zas hb | replace hb := Zat hb)) <;> (try (exfalso; omega)))))
   all_goals (try (exfalso; omega))
   all_goals (exact ⟨.inl rfl, ret0 (loc' := wloc b _ _ _) rfl (List.Sublist.refl _) ⟨_, _, by rw [hh, List.append_nil]⟩⟩)
 · have hh : pntT r.points r.best = [.s [112, 111, 105, 110, 116, 115], .il r.points, .s [98, 101, 115, 116], .i r.best, .s [59]].flatMap PutV.toks := by unfold pntT; rw [if_neg h1]; rfl
   have hl0 : r.points.length ≠ 0 := fun e => h1 (List.length_eq_zero_iff.1 e)
   rw [hh] at hlen ⊢
   simp only [List.flatMap_cons, List.flatMap_nil, PutV.toks, List.length_append, List.length_cons, List.length_nil] at hlen
   (repeat' (first | (apply Zaq 229; refine Zbp (k := 0) (E := eAny k) (t := 228) [.s [112, 111, 105, 110, 116, 115], .il r.points, .s [98, 101, 115, 116], .i r.best, .s [59]] rfl rfl rfl rfl ?_ (hc := by decide) (hby := by show _ * 16 ≤ 140737488355328; decide)) | refine Za7 ?_ | refine Za1 ?_ | refine Za3 ?_ | (apply Za8; (first | exact Za2 rfl | (apply Za9; exact Zau rfl rfl) | (apply Zam; exact Zax rfl rfl rfl) | (apply Zai; exact Zcu rfl rfl) | (apply Zba; exact Zbq rfl rfl) | (apply Zc5; exact Zbj rfl rfl)); exact rfl) | (apply Zac; exact rfl; first | (apply Zaf; (refine Zab (.one 0 rfl (.one 0 rfl .nil)) Tryz.func104 rfl (Zds k _ b _ _ _ (by simp only [List.flatMap_cons, List.flatMap_nil, PutV.toks, List.length_append, List.length_cons, List.length_nil]; omega)) rfl ?_; rintro _ _ ⟨oaw, cw, rfl⟩)) | (apply Zb6; (refine Zbx rfl (by repeat (first | exact PartsO.nil | (apply PartsO.cons; exact rfl; exact inferInstance; exact rfl; exact rfl))) ?_); intro _)) | (refine Zag rfl (fun hb => ?_) (fun hb => ?_) <;> (repeat (first | replace hb := Zas hb | replace hb := Zat hb)) <;> (try (exfalso; omega)))))
   all_goals (try (exfalso; omega))
   all_goals (exact ⟨.inl rfl, ret0 (loc' := wloc b _ _ _) rfl (List.sublist_append_left _ _) ⟨_, _, rfl⟩⟩)
end Go.Proofs.YthdldeenpgeemaaGreatDoor
namespace Go.Proofs.YthdldeenpgeemaaGreatDoor
open Go Go.RowKit Go.Kx Go.Fr Go.Lx Go.Sx
set_option maxHeartbeats 4000000 in
set_option maxRecDepth 100000 in
theorem print13_any (k : Nat) (r : RulesD) (hlen : (rulesT r).length ≤ 70000) : FnC Tryz.prog 15 [agg (rulesV k r)] [Lab] (fun p loc => p = textV (printA r) ∧ loc = []) := by
 have hT := text3_any (rulesT r)
 have hR := read13_any (rulesT r) 0 hlen
 refine Zbr Tryz.func15 rfl Tryz.ntmps15 rfl fun w0 F0 out => ?_
 (repeat' (first | (apply Zci 2; refine StopW.out ?_) | refine Za7 ?_ | refine Za1 ?_ | refine Za3 ?_ | (apply Za8; (first | exact Za5 rfl | (apply Zcz; exact Zcg rfl rfl (by repeat (exact PartsO.nil)))); exact rfl) | (apply Zac; exact rfl; (apply Zdv; refine Zdn rfl ?_; intro _))))
 refine ⟨?_⟩
 rename_i b1 b9
 refine Zbc (env' := [(1, ex (.pointer (some ⟨b1, 0, none⟩))), (2, exT []), (3, exI .i64 0), (4, ex (.pointer (some ⟨b9, 0, none⟩)))]) (loc' := [row b9 80 1 [ex (.slice none 0 0)], row b1 29 9 (rulesV k r), Lab]) (Zaa (by repeat (first | exact Zaj | refine Zae rfl ?_)) (List.Sublist.refl _)) ?_
 refine Zbc (Leads_fp (k := 1) (t := 1) rfl rfl) ?_
 refine Zbc (env' := [(1, fp (rulesV k r)), (2, exT []), (3, exI .i64 0), (4, ex (.pointer (some ⟨b9, 0, none⟩)))]) (loc' := wloc b9 none 0 [] ++ [Lab]) ?_ ?_
 · exact Leads_nilv 40 4 ((Leads_perm (.swap _ _ _)).trans (Zaa (by repeat (first | exact Zaj | refine Zae rfl ?_)) (List.Sublist.refl _)))
 (repeat' (first | (apply Zci 3; refine StopW.out ?_) | refine Za7 ?_ | refine Za1 ?_ | refine Za3 ?_ | (apply Za8; (first | exact Za2 rfl | (apply Za9; exact Zb4 rfl rfl)); exact rfl) | (apply Zac; exact rfl; (apply Zaf; (refine Zab (.one 0 rfl (.one 0 rfl .nil)) Tryz.func36 rfl (wrules13_any k r b9 none 0 [] (by simpa using hlen)) rfl ?_; rintro _ _ ⟨oa, c, rfl⟩)))))
 refine ⟨?_⟩
 refine Zbc (env' := [(1, fp (rulesV k r)), (2, exT []), (3, exI .i64 0), (4, ex (.pointer (some ⟨b9, 0, none⟩)))]) (loc' := wloc b9 oa c (rulesT r) ++ [Lab]) (Zaa (by repeat (first | exact Zaj | refine Zae rfl ?_)) (List.Sublist.refl _)) ?_
 unfold wloc
 refine Zbc (Leads_fcell (j := 1) (k := 0) (i := 0) (E := eTok) (rulesT r) rfl rfl rfl rfl rfl rfl (hby := by show _ * 40 ≤ _; omega)) ?_
 refine Zbc (env' := [(1, fp (rulesV k r)), (2, exT []), (3, exI .i64 0), (4, ex (.pointer (some ⟨b9, 0, none⟩)))]) (loc' := [row b9 80 1 [isl eTok (rulesT r)], Lab]) (Zaa (by repeat (first | exact Zaj | refine Zae rfl ?_)) (List.Sublist.refl _)) ?_
 unfold printA
 by_cases hv : (rulesT r).all validB = true
 · have e1 : textA (rulesT r) = (joinF ((rulesT r).map word), 0) := by unfold textA; rw [if_pos hv]
   rw [e1] at hT
   rw [hv, Bool.true_and]
   generalize readA (rulesT r) 0 = z at hR ⊢
   by_cases h0 : z.2.2 = 0
   · by_cases h1 : z.1 = r
     · rw [if_pos (by simp [h0, h1])]
       (repeat' (first | refine Za7 ?_ | refine Za1 ?_ | refine Za3 ?_ | (apply Za8; (first | exact Za2 rfl | exact Za5 rfl | exact Zb8 (b := false) rfl (fun e => by cases e) (fun _ => rfl) | exact Zbw rfl rfl | (apply Za9; exact Zah (k := 0) rfl rfl rfl rfl) | (apply Zam; exact Zad rfl rfl rfl) | (apply Zai; exact Zca rfl rfl) | (apply Zbi; exact Zb9 rfl)); exact rfl) | (apply Zcn; exact rfl; exact rfl; exact rfl; (first | (apply Za9; first | exact Zb4 rfl rfl | exact Zbm (k := 0) rfl rfl rfl) | (apply g_un; exact Zcy rfl)); exact rfl) | refine Zan ?_ | refine Zb2 ?_ | refine Zb0 rfl ?_ | (apply Zac; exact rfl; first | (apply Zaf; first | (refine Zab (.dup 1 rfl rfl .nil) Tryz.func19 rfl hT rfl ?_; rintro _ _ ⟨rfl, rfl⟩) | (refine Zbl Tryz.func28 rfl hR rfl ?_; rintro _ _ ⟨⟨k2, rfl⟩, rfl⟩)) | (apply Zbs; refine Zbh ?_; intro _) | (apply Zaz; refine Zao (k := 0) (l0 := []) rfl rfl rfl ?_)) | (apply Zdh; exact rfl; exact rfl; exact rfl; exact rfl; (apply Zaf; (refine Zbl Tryz.func37 rfl (same13_any _ _ _ _) rfl ?_; rintro _ _ ⟨rfl, rfl⟩))) | (refine Zby rfl rfl (fun hb => ?_) (fun hb => ?_) <;> (repeat (first | replace hb := Zas hb | replace hb := Zat hb | replace hb := Zcc hb | replace hb := Zcb hb)) <;> (try (exfalso; contradiction))) | (refine Zag rfl (fun hb => ?_) (fun hb => ?_) <;> (repeat (first | replace hb := Zas hb | replace hb := Zat hb | replace hb := Zcc hb | replace hb := Zcb hb)) <;> (try (exfalso; contradiction)))))
       all_goals (try (exfalso; first | contradiction | omega))
       all_goals (exact ⟨.inr rfl, ret2 rfl (.tmp rfl) (.tmp rfl) (List.nil_sublist _) ⟨rfl, rfl⟩⟩)
     · rw [if_neg (by simp [h1])]
       (repeat' (first | refine Za7 ?_ | refine Za1 ?_ | refine Za3 ?_ | (apply Za8; (first | exact Za2 rfl | exact Za5 rfl | exact Zb8 (b := false) rfl (fun e => by cases e) (fun _ => rfl) | exact Zbw rfl rfl | (apply Za9; exact Zah (k := 0) rfl rfl rfl rfl) | (apply Zam; exact Zad rfl rfl rfl) | (apply Zai; exact Zca rfl rfl) | (apply Zbi; exact Zb9 rfl)); exact rfl) | (apply Zcn; exact rfl; exact rfl; exact rfl; (first | (apply Za9; first | exact Zb4 rfl rfl | exact Zbm (k := 0) rfl rfl rfl) | (apply g_un; exact Zcy rfl)); exact rfl) | refine Zan ?_ | refine Zb2 ?_ | refine Zb0 rfl ?_ | (apply Zac; exact rfl; first | (apply Zaf; first | (refine Zab (.dup 1 rfl rfl .nil) Tryz.func19 rfl hT rfl ?_; rintro _ _ ⟨rfl, rfl⟩) | (refine Zbl Tryz.func28 rfl hR rfl ?_; rintro _ _ ⟨⟨k2, rfl⟩, rfl⟩)) | (apply Zbs; refine Zbh ?_; intro _) | (apply Zaz; refine Zao (k := 0) (l0 := []) rfl rfl rfl ?_)) | (apply Zdh; exact rfl; exact rfl; exact rfl; exact rfl; (apply Zaf; (refine Zbl Tryz.func37 rfl (same13_any _ _ _ _) rfl ?_; rintro _ _ ⟨rfl, rfl⟩))) | (refine Zby rfl rfl (fun hb => ?_) (fun hb => ?_) <;> (repeat (first | replace hb := Zas hb | replace hb := Zat hb | replace hb := Zcc hb | replace hb := Zcb hb)) <;> (try (exfalso; contradiction))) | (refine Zag rfl (fun hb => ?_) (fun hb => ?_) <;> (repeat (first | replace hb := Zas hb | replace hb := Zat hb | replace hb := Zcc hb | replace hb := Zcb hb)) <;> (try (exfalso; contradiction)))))
       all_goals (try (exfalso; first | contradiction | omega))
       all_goals (exact ⟨.inr rfl, ret2 rfl (.tmp rfl) (.tmp rfl) (List.nil_sublist _) ⟨rfl, rfl⟩⟩)
   · rw [if_neg (by simp [h0])]
     (repeat' (first | refine Za7 ?_ | refine Za1 ?_ | refine Za3 ?_ | (apply Za8; (first | exact Za2 rfl | exact Za5 rfl | exact Zb8 (b := true) rfl (fun _ => rfl) (fun e => by cases e) | exact Zbw rfl rfl | (apply Za9; exact Zah (k := 0) rfl rfl rfl rfl) | (apply Zam; exact Zad rfl rfl rfl) | (apply Zai; exact Zca rfl rfl) | (apply Zbi; exact Zb9 rfl)); exact rfl) | (refine Zco rfl rfl rfl rfl rfl ?_) | refine Zan ?_ | refine Zb2 ?_ | refine Zaw rfl ?_ | refine Zb0 rfl ?_ | (apply Zac; exact rfl; first | (apply Zaf; first | (refine Zab (.dup 1 rfl rfl .nil) Tryz.func19 rfl hT rfl ?_; rintro _ _ ⟨rfl, rfl⟩) | (refine Zbl Tryz.func28 rfl hR rfl ?_; rintro _ _ ⟨⟨k2, rfl⟩, rfl⟩)) | (apply Zbs; refine Zbh ?_; intro _) | (apply Zaz; refine Zao (k := 0) (l0 := []) rfl rfl rfl ?_)) | (refine Zby rfl rfl (fun hb => ?_) (fun hb => ?_) <;> (repeat (first | replace hb := Zas hb | replace hb := Zat hb | replace hb := Zcc hb | replace hb := Zcb hb)) <;> (try (exfalso; contradiction)))))
     all_goals (try (exfalso; first | contradiction | omega))
     all_goals (exact ⟨.inr rfl, ret2 rfl (.tmp rfl) (.tmp rfl) (List.nil_sublist _) ⟨rfl, rfl⟩⟩)
 · have e1 : textA (rulesT r) = ([], 30) := by unfold textA; rw [if_neg hv]
   rw [e1] at hT
   rw [Bool.not_eq_true] at hv
   rw [hv, Bool.false_and, if_neg (by decide)]
   (repeat' (first | refine Za7 ?_ | refine Za1 ?_ | refine Za3 ?_ | (apply Za8; (first | exact Za2 rfl | exact Za5 rfl | exact Zbw rfl rfl | (apply Za9; exact Zah (k := 0) rfl rfl rfl rfl) | (apply Zam; exact Zad rfl rfl rfl) | (apply Zai; exact Zca rfl rfl) | (apply Zbi; exact Zb9 rfl)); exact rfl) | refine Zb2 ?_ | refine Zaw rfl ?_ | (apply Zac; exact rfl; (apply Zaf; (refine Zab (.dup 1 rfl rfl .nil) Tryz.func19 rfl hT rfl ?_; rintro _ _ ⟨rfl, rfl⟩)))))
   all_goals (try (exfalso; first | contradiction | omega))
   all_goals (exact ⟨.inr rfl, ret2 rfl (.tmp rfl) (.tmp rfl) (List.nil_sublist _) ⟨rfl, rfl⟩⟩)
end Go.Proofs.YthdldeenpgeemaaGreatDoor
namespace Go.Proofs.YthdldeenpgeemaaGreatDoor
open Go Go.RowKit Go.Kx Go.Fr
end Go.Proofs.YthdldeenpgeemaaGreatDoor
namespace Go.Proofs.YthdldeenpgeemaaGreatDoor
open Go Go.RowKit Go.Kx Go.Fr
set_option maxRecDepth 100000 in
instance eqItemD : EqD Tryz.prog 106 itemV := ⟨_, rfl, by kernel_rfl, by kernel_rfl, fun a b => ⟨_, (.str rfl rfl rfl rfl (.int rfl rfl rfl rfl (.int rfl rfl rfl rfl .nil))), by rw [Bool.eq_iff_iff]; cases a; cases b; simp⟩⟩
set_option maxRecDepth 100000 in
instance eqKeyD : EqD Tryz.prog 97 keyV := ⟨_, rfl, by kernel_rfl, by kernel_rfl, fun a b => ⟨_, (.int rfl rfl rfl rfl (.str rfl rfl rfl rfl (.int rfl rfl rfl rfl .nil))), by rw [Bool.eq_iff_iff]; cases a; cases b; simp⟩⟩
set_option maxRecDepth 100000 in
instance eqCritD : EqD Tryz.prog 70 critV := ⟨_, rfl, by kernel_rfl, by kernel_rfl, fun a b => ⟨_, (.str rfl rfl rfl rfl (.int rfl rfl rfl rfl (.int rfl rfl rfl rfl (.int rfl rfl rfl rfl (.int rfl rfl rfl rfl (.int rfl rfl rfl rfl (.bool rfl rfl rfl rfl .nil))))))), by rw [Bool.eq_iff_iff]; cases a; cases b; simp⟩⟩
end Go.Proofs.YthdldeenpgeemaaGreatDoor
namespace Go.Proofs.YthdldeenpgeemaaGreatDoor
open Go Go.RowKit Go.Kx Go.Fr
theorem round_iff (x y : RoundD) : x = y ↔ x.name = y.name ∧ x.panel = y.panel ∧ x.quota = y.quota ∧ x.cut = y.cut ∧ x.places = y.places ∧ x.free = y.free ∧ x.tie = y.tie ∧ x.tieNo = y.tieNo ∧ x.score = y.score := by
 cases x; cases y
 rw [RoundD.mk.injEq]
 exact ⟨fun ⟨h1, h2, h3, h4, h5, h6, h7, h8, h9⟩ => ⟨h1, h2, h3, h4, h5, h6, h8, h9, h7⟩, fun ⟨h1, h2, h3, h4, h5, h6, h8, h9, h7⟩ => ⟨h1, h2, h3, h4, h5, h6, h7, h8, h9⟩⟩
theorem rules_iff (x y : RulesD) : x = y ↔ x.name = y.name ∧ x.best = y.best ∧ x.bonus = y.bonus ∧ x.malus = y.malus ∧ x.ties = y.ties ∧ x.crits = y.crits ∧ x.rounds = y.rounds ∧ x.prizes = y.prizes ∧ x.points = y.points := by
 cases x; cases y
 rw [RulesD.mk.injEq]
 exact ⟨fun ⟨h1, h2, h3, h4, h5, h6, h7, h8, h9⟩ => ⟨h1, h9, h3, h4, h5, h2, h6, h7, h8⟩, fun ⟨h1, h9, h3, h4, h5, h2, h6, h7, h8⟩ => ⟨h1, h2, h3, h4, h5, h6, h7, h8, h9⟩⟩
abbrev rul (k : Nat) (r : RulesD) : SP := agg (rulesV k r)
end Go.Proofs.YthdldeenpgeemaaGreatDoor
namespace Go.Proofs.YthdldeenpgeemaaGreatDoor
open Go Go.RowKit Go.Kx Go.Fr
set_option maxHeartbeats 1000000 in
set_option maxRecDepth 100000 in
theorem r13sameExpr_any : ∀ (k j : Nat) (x y : Ex), FnC Tryz.prog 27 [agg (exV k x), agg (exV j y)] [] (fun p loc => p = exB (decide (x = y)) ∧ loc = []) := by
 intro k
 induction k with
 | zero => intro j x y; exact Zc1 (i := 0) rfl Says_ex0 fun h => h.elim
 | succ k ih =>
   intro j x y
   cases j with
   | zero => exact Zc1 (i := 1) rfl Says_ex0 fun h => h.elim
   | succ j =>
     refine Zc1 (i := 0) rfl (Zda (i := 4) (p := isl (eEx k) x.l) rfl Zc9) fun hlen => ?_
     refine Zc1 (i := 1) rfl (Zda (i := 4) (p := isl (eEx j) y.l) rfl Zc9) fun hlen2 => ?_
     show FnC Tryz.prog 27 [agg [exI .i64 x.kind, exT x.name, exI .i64 x.n, exI .i64 x.d, isl (eEx k) x.l], agg [exI .i64 y.kind, exT y.name, exI .i64 y.n, exI .i64 y.d, isl (eEx j) y.l]] [] (fun p loc => p = exB (decide (x = y)) ∧ loc = [])
     obtain ⟨hlen, -⟩ := hlen
     obtain ⟨hlen2, -⟩ := hlen2
     simp only [maxLen] at hlen hlen2
     refine Zbr Tryz.func27 rfl Tryz.ntmps27 rfl fun w0 F0 out => ?_
     by_cases h0 : x.kind = y.kind ∧ x.name = y.name ∧ x.n = y.n ∧ x.d = y.d ∧ x.l.length = y.l.length
     · obtain ⟨h1, h2, h3, h4, h5⟩ := h0
       (repeat' (first | refine Za7 ?_ | refine Za1 ?_ | refine Za3 ?_ | (apply Za8; (first | exact Za2 rfl | exact Za5 rfl | exact Zb8 (b := true) rfl (fun _ => rfl) (fun e => by cases e) | exact Zb8 (b := false) rfl (fun e => by cases e) (fun _ => rfl) | (apply Za9; first | exact Zah (k := 0) rfl rfl rfl rfl | exact Zah (k := 1) rfl rfl rfl rfl) | (apply Zam; exact Zad rfl rfl rfl) | (apply Zai; exact Zca rfl rfl)); exact rfl) | (refine Zco rfl rfl rfl rfl rfl ?_) | (apply Zcn; exact rfl; exact rfl; exact rfl; (first | (apply Za9; first | exact Zah (k := 0) rfl rfl rfl rfl | exact Zah (k := 1) rfl rfl rfl rfl) | (apply Zam; exact Zad rfl rfl rfl) | (apply Zai; first | exact WT_tne rfl rfl | exact Zca rfl rfl) | (apply Zba; exact Zbq rfl rfl)); exact rfl) | refine Zak ?_ | refine Zan ?_ | refine Zb2 ?_ | refine Zaw rfl ?_ | (apply Zac; exact rfl; (apply Zdv; refine Zdn rfl ?_; intro _)) | (refine Zby rfl rfl (fun hb => ?_) (fun hb => ?_) <;> (repeat (first | replace hb := Zas hb | replace hb := Zat hb | replace hb := Zcc hb | replace hb := Zcb hb)) <;> (try (exfalso; omega))) | (refine Zag rfl (fun hb => ?_) (fun hb => ?_) <;> (repeat (first | replace hb := Zas hb | replace hb := Zat hb | replace hb := Zcc hb | replace hb := Zcb hb)) <;> (try (exfalso; omega)))))
       all_goals (try (exfalso; first | contradiction | omega))
       rename_i b1 b2 _ _ _ _
       refine Zck (fun i : Nat => ([(2, ex (.pointer (some ⟨b1, 0, none⟩))), (3, ex (.pointer (some ⟨b2, 0, none⟩))), (5, exI .i64 (i : Int))], [row b2 52 5 [exI .i64 y.kind, exT y.name, exI .i64 y.n, exI .i64 y.d, isl (eEx j) y.l], row b1 52 5 [exI .i64 x.kind, exT x.name, exI .i64 x.n, exI .i64 x.d, isl (eEx k) x.l]])) (fun i => i ≤ x.l.length ∧ x.l.take i = y.l.take i) (fun i => x.l.length - i) 0 ?_ ⟨Nat.zero_le _, rfl⟩ fun i hi => ?_
       · exact Zaa (by repeat (first | exact Zaj | refine Zae rfl ?_)) (List.Sublist.refl _)
       obtain ⟨hi, ht⟩ := hi
       by_cases hlt : i < x.l.length
       · have hcall := ih j x.l[i] (y.l[i]'(by omega))
         by_cases he : x.l[i] = y.l[i]'(by omega)
         · (repeat' (first | refine Za7 ?_ | refine Za1 ?_ | refine Za3 ?_ | (apply Za8; (first | exact Za2 rfl | (apply Za9; exact Zah (k := 1) rfl rfl rfl rfl) | (apply Zam; exact Zad rfl rfl rfl) | (apply Zai; exact Zbg rfl rfl) | (apply Zba; exact Zbq rfl rfl)); exact rfl) | refine Zak ?_ | refine Zan ?_ | (refine Zag rfl (fun hb => ?_) (fun hb => ?_) <;> (repeat (first | replace hb := Zas hb | replace hb := Zat hb)) <;> (try (exfalso; omega)))))
           (refine Zcw 12 rfl ?_)
           all_goals ((apply Za4 0 rfl (by decide +kernel) rfl (by repeat (first | exact Za6)) Za0; (first | (apply Zam; first | exact Zad rfl rfl rfl)); exact rfl))
           all_goals ((apply Zay 1 rfl (by decide +kernel) rfl (by decide +kernel) (by repeat (exact Za6)) Za0; ((apply Za9; exact Zah (k := 1) rfl rfl rfl rfl)); exact rfl))
           all_goals ((apply Za4 2 rfl (by decide +kernel) rfl (by repeat (first | exact Za6)) Za0; (first | exact Za2 rfl); exact rfl))
           all_goals ((apply Za4 3 rfl (by decide +kernel) rfl (by repeat (first | exact Za6)) Za0; (first | (apply Zb3; first | exact Zb1 rfl rfl rfl)); exact rfl))
           all_goals ((apply Zay 4 rfl (by decide +kernel) rfl (by decide +kernel) (by repeat (exact Za6)) Za0; ((apply Za9; exact Zb4 rfl rfl)); exact rfl))
           all_goals ((apply Za4 5 rfl (by decide +kernel) rfl (by repeat (first | exact Za6)) Za0; (first | (apply Zam; first | exact Zad rfl rfl rfl)); exact rfl))
           all_goals ((apply Zay 6 rfl (by decide +kernel) rfl (by decide +kernel) (by repeat (exact Za6)) Za0; ((apply Za9; exact Zah (k := 0) rfl rfl rfl rfl)); exact rfl))
           all_goals ((apply Za4 7 rfl (by decide +kernel) rfl (by repeat (first | exact Za6)) Za0; (first | exact Za2 rfl); exact rfl))
           all_goals ((apply Za4 8 rfl (by decide +kernel) rfl (by repeat (first | exact Za6)) Za0; (first | (apply Zb3; first | exact Zb1 rfl rfl rfl)); exact rfl))
           all_goals ((apply Zay 9 rfl (by decide +kernel) rfl (by decide +kernel) (by repeat (exact Za6)) Za0; ((apply Za9; exact Zb4 rfl rfl)); exact rfl))
           all_goals ((apply Zbe 10; exact (by decide +kernel); exact rfl; exact Za0; exact (fun _ _ h => h); (apply Zaf; (refine Zbl Tryz.func27 rfl hcall rfl ?_; rintro _ _ ⟨rfl, rfl⟩))))
           all_goals ((apply Za4 11 rfl (by decide +kernel) rfl (by repeat (first | exact Za6)) Za0; (first | (apply g_un; first | exact Zcy rfl)); exact rfl))
           all_goals (refine Zbu (by decide +kernel) ?_)
           all_goals ((repeat' (first | refine Za7 ?_ | refine Za1 ?_ | refine Za3 ?_ | (apply Za8; (first | exact Za2 rfl | exact Za5 rfl | (apply Zai; exact Zbz rfl rfl)); exact rfl) | refine Zan ?_ | refine Zb2 ?_ | (refine Zag rfl (fun hb => ?_) (fun hb => ?_) <;> (repeat (first | replace hb := Zas hb | replace hb := Zat hb | replace hb := Zcc hb | replace hb := Zcb hb)) <;> (try (exfalso; fail))))))
           all_goals (try (exfalso; simp_all; done))
           exact ⟨i + 1, ⟨by omega, by rw [List.take_succ_eq_append_getElem hlt, List.take_succ_eq_append_getElem (by omega), ht, he]⟩, by omega, Zaa (by repeat (first | exact Zaj | refine Zae rfl ?_)) (List.Sublist.refl _)⟩
         · (repeat' (first | refine Za7 ?_ | refine Za1 ?_ | refine Za3 ?_ | (apply Za8; (first | exact Za2 rfl | (apply Za9; exact Zah (k := 1) rfl rfl rfl rfl) | (apply Zam; exact Zad rfl rfl rfl) | (apply Zai; exact Zbg rfl rfl) | (apply Zba; exact Zbq rfl rfl)); exact rfl) | refine Zak ?_ | refine Zan ?_ | (refine Zag rfl (fun hb => ?_) (fun hb => ?_) <;> (repeat (first | replace hb := Zas hb | replace hb := Zat hb)) <;> (try (exfalso; omega)))))
           (refine Zcw 12 rfl ?_)
           all_goals ((apply Za4 0 rfl (by decide +kernel) rfl (by repeat (first | exact Za6)) Za0; (first | (apply Zam; first | exact Zad rfl rfl rfl)); exact rfl))
           all_goals ((apply Zay 1 rfl (by decide +kernel) rfl (by decide +kernel) (by repeat (exact Za6)) Za0; ((apply Za9; exact Zah (k := 1) rfl rfl rfl rfl)); exact rfl))
           all_goals ((apply Za4 2 rfl (by decide +kernel) rfl (by repeat (first | exact Za6)) Za0; (first | exact Za2 rfl); exact rfl))
           all_goals ((apply Za4 3 rfl (by decide +kernel) rfl (by repeat (first | exact Za6)) Za0; (first | (apply Zb3; first | exact Zb1 rfl rfl rfl)); exact rfl))
           all_goals ((apply Zay 4 rfl (by decide +kernel) rfl (by decide +kernel) (by repeat (exact Za6)) Za0; ((apply Za9; exact Zb4 rfl rfl)); exact rfl))
           all_goals ((apply Za4 5 rfl (by decide +kernel) rfl (by repeat (first | exact Za6)) Za0; (first | (apply Zam; first | exact Zad rfl rfl rfl)); exact rfl))
           all_goals ((apply Zay 6 rfl (by decide +kernel) rfl (by decide +kernel) (by repeat (exact Za6)) Za0; ((apply Za9; exact Zah (k := 0) rfl rfl rfl rfl)); exact rfl))
           all_goals ((apply Za4 7 rfl (by decide +kernel) rfl (by repeat (first | exact Za6)) Za0; (first | exact Za2 rfl); exact rfl))
           all_goals ((apply Za4 8 rfl (by decide +kernel) rfl (by repeat (first | exact Za6)) Za0; (first | (apply Zb3; first | exact Zb1 rfl rfl rfl)); exact rfl))
           all_goals ((apply Zay 9 rfl (by decide +kernel) rfl (by decide +kernel) (by repeat (exact Za6)) Za0; ((apply Za9; exact Zb4 rfl rfl)); exact rfl))
           all_goals ((apply Zbe 10; exact (by decide +kernel); exact rfl; exact Za0; exact (fun _ _ h => h); (apply Zaf; (refine Zbl Tryz.func27 rfl hcall rfl ?_; rintro _ _ ⟨rfl, rfl⟩))))
           all_goals ((apply Za4 11 rfl (by decide +kernel) rfl (by repeat (first | exact Za6)) Za0; (first | (apply g_un; first | exact Zcy rfl)); exact rfl))
           all_goals (refine Zbu (by decide +kernel) ?_)
           all_goals ((repeat' (first | refine Za7 ?_ | refine Za1 ?_ | refine Za3 ?_ | (apply Za8; (first | exact Za2 rfl | exact Za5 rfl | (apply Zai; exact Zbz rfl rfl)); exact rfl) | refine Zan ?_ | refine Zb2 ?_ | (refine Zag rfl (fun hb => ?_) (fun hb => ?_) <;> (repeat (first | replace hb := Zas hb | replace hb := Zat hb | replace hb := Zcc hb | replace hb := Zcb hb)) <;> (try (exfalso; fail))))))
           all_goals (try (exfalso; simp_all; done))
           refine ⟨.inr rfl, ret1 rfl (.tmp rfl) (List.nil_sublist _) ⟨congrArg exB ?_, rfl⟩⟩
           exact (decide_eq_false fun e => he (by subst e; rfl)).symm
       · have hk9 : i = x.l.length := by omega
         subst hk9
         rw [List.take_length, h5, List.take_length] at ht
         (repeat' (first | refine Za7 ?_ | refine Za1 ?_ | refine Za3 ?_ | (apply Za8; (first | exact Za2 rfl | exact Za5 rfl | (apply Za9; exact Zah (k := 1) rfl rfl rfl rfl) | (apply Zam; exact Zad rfl rfl rfl) | (apply Zai; exact Zbg rfl rfl) | (apply Zba; exact Zbq rfl rfl)); exact rfl) | refine Zb2 ?_ | refine Zcf ?_ | (refine Zag rfl (fun hb => ?_) (fun hb => ?_) <;> (repeat (first | replace hb := Zas hb | replace hb := Zat hb)) <;> (try (exfalso; omega)))))
         all_goals (try (exfalso; omega))
         refine ⟨.inr rfl, ret1 rfl (.tmp rfl) (List.nil_sublist _) ⟨congrArg exB ?_, rfl⟩⟩
         exact (decide_eq_true ((Ex.ext_iff' x y).2 ⟨h1, h2, h3, h4, ht⟩)).symm
     · have hn : x ≠ y := fun e => h0 (by subst e; exact ⟨rfl, rfl, rfl, rfl, rfl⟩)
       rw [decide_eq_false hn]
       (repeat' (first | refine Za7 ?_ | refine Za1 ?_ | refine Za3 ?_ | (apply Za8; (first | exact Za2 rfl | exact Za5 rfl | exact Zb8 (b := true) rfl (fun _ => rfl) (fun e => by cases e) | exact Zb8 (b := false) rfl (fun e => by cases e) (fun _ => rfl) | (apply Za9; first | exact Zah (k := 0) rfl rfl rfl rfl | exact Zah (k := 1) rfl rfl rfl rfl) | (apply Zam; exact Zad rfl rfl rfl) | (apply Zai; exact Zca rfl rfl)); exact rfl) | (refine Zco rfl rfl rfl rfl rfl ?_) | (apply Zcn; exact rfl; exact rfl; exact rfl; (first | (apply Za9; first | exact Zah (k := 0) rfl rfl rfl rfl | exact Zah (k := 1) rfl rfl rfl rfl) | (apply Zam; exact Zad rfl rfl rfl) | (apply Zai; first | exact WT_tne rfl rfl | exact Zca rfl rfl) | (apply Zba; exact Zbq rfl rfl)); exact rfl) | refine Zak ?_ | refine Zan ?_ | refine Zb2 ?_ | refine Zaw rfl ?_ | (apply Zac; exact rfl; (apply Zdv; refine Zdn rfl ?_; intro _)) | (refine Zby rfl rfl (fun hb => ?_) (fun hb => ?_) <;> (repeat (first | replace hb := Zas hb | replace hb := Zat hb | replace hb := Zcc hb | replace hb := Zcb hb)) <;> (try (exfalso; fail))) | (refine Zag rfl (fun hb => ?_) (fun hb => ?_) <;> (repeat (first | replace hb := Zas hb | replace hb := Zat hb | replace hb := Zcc hb | replace hb := Zcb hb)) <;> (try (exfalso; fail)))))
       all_goals first | exact ⟨.inr rfl, ret1 rfl (.tmp rfl) (List.nil_sublist _) ⟨rfl, rfl⟩⟩ | (exfalso; refine h0 ⟨?_, ?_, ?_, ?_, ?_⟩ <;> first | assumption | omega)
set_option maxRecDepth 100000 in
theorem r13sameItems_any (a b : List ItemD) : FnC Tryz.prog 31 [isl eItem a, isl eItem b] [] (fun p loc => p = exB (decide (a = b)) ∧ loc = []) := by
 refine Zc1 (i := 0) rfl Zc9 fun ha => ?_
 refine Zc1 (i := 1) rfl Zc9 fun hb => ?_
 obtain ⟨ha, -⟩ := ha
 obtain ⟨hb, -⟩ := hb
 simp only [maxLen] at ha hb
 refine Zbr Tryz.func31 rfl Tryz.ntmps31 rfl fun w0 F0 out => ?_
 by_cases hl : a.length = b.length
 · (repeat' (first | refine Za7 ?_ | refine Za1 ?_ | refine Za3 ?_ | (apply Za8; (first | exact Za2 rfl | exact Za5 rfl | (apply Zai; exact Zca rfl rfl) | (apply Zba; exact Zbq rfl rfl)); exact rfl) | refine Zak ?_ | refine Zan ?_ | (refine Zag rfl (fun hb => ?_) (fun hb => ?_) <;> (repeat (first | replace hb := Zas hb | replace hb := Zat hb | replace hb := Zcc hb | replace hb := Zcb hb)) <;> (try (exfalso; omega)))))
   all_goals (try (exfalso; omega))
   refine Zck (fun k : Nat => ([(0, isl eItem a), (1, isl eItem b), (5, exI .i64 k)], [])) (fun k => k ≤ a.length ∧ a.take k = b.take k) (fun k => a.length - k) 0 ?_ ⟨Nat.zero_le _, rfl⟩ fun k hk => ?_
   · exact Zaa (by repeat (first | exact Zaj | refine Zae rfl ?_)) (List.Sublist.refl _)
   obtain ⟨hk, ht⟩ := hk
   by_cases hlt : k < a.length
   · by_cases he : a[k] = b[k]'(by omega)
     · (repeat' (first | refine Za7 ?_ | refine Za1 ?_ | refine Za3 ?_ | (apply Za8; (first | exact Za2 rfl | (apply Zai; exact Zbg rfl rfl) | (apply Zba; exact Zbq rfl rfl)); exact rfl) | refine Zak ?_ | refine Zan ?_ | (refine Zag rfl (fun hb => ?_) (fun hb => ?_) <;> (repeat (first | replace hb := Zas hb | replace hb := Zat hb)) <;> (try (exfalso; omega)))))
       (refine Zcw 9 rfl ?_)
       all_goals ((apply Za4 0 rfl (by decide +kernel) rfl (by repeat (first | exact Za6)) Za0; (first | exact Za2 rfl); exact rfl))
       all_goals ((apply Za4 1 rfl (by decide +kernel) rfl (by repeat (first | exact Za6)) Za0; (first | exact Za2 rfl); exact rfl))
       all_goals ((apply Za4 2 rfl (by decide +kernel) rfl (by repeat (first | exact Za6)) Za0; (first | (apply Zb3; first | exact Zb1 rfl rfl rfl)); exact rfl))
       all_goals ((apply Zay 3 rfl (by decide +kernel) rfl (by decide +kernel) (by repeat (exact Za6)) Za0; ((apply Za9; exact Zb4 rfl rfl)); exact rfl))
       all_goals ((apply Za4 4 rfl (by decide +kernel) rfl (by repeat (first | exact Za6)) Za0; (first | exact Za2 rfl); exact rfl))
       all_goals ((apply Za4 5 rfl (by decide +kernel) rfl (by repeat (first | exact Za6)) Za0; (first | exact Za2 rfl); exact rfl))
       all_goals ((apply Za4 6 rfl (by decide +kernel) rfl (by repeat (first | exact Za6)) Za0; (first | (apply Zb3; first | exact Zb1 rfl rfl rfl)); exact rfl))
       all_goals ((apply Zay 7 rfl (by decide +kernel) rfl (by decide +kernel) (by repeat (exact Za6)) Za0; ((apply Za9; exact Zb4 rfl rfl)); exact rfl))
       all_goals ((apply Za4 8 rfl (by decide +kernel) rfl (by repeat (first | exact Za6)) Za0; (first | (apply Zai; first | exact WT_aneD inferInstance rfl rfl)); exact rfl))
       all_goals (refine Zbu (by decide +kernel) ?_)
       all_goals ((repeat' (first | refine Za7 ?_ | refine Za1 ?_ | refine Za3 ?_ | (apply Za8; (first | exact Za2 rfl | exact Za5 rfl | (apply Zai; exact Zbz rfl rfl)); exact rfl) | refine Zan ?_ | refine Zb2 ?_ | (refine Zag rfl (fun hb => ?_) (fun hb => ?_) <;> (repeat (first | replace hb := Zas hb | replace hb := Zat hb | replace hb := Zcc hb | replace hb := Zcb hb)) <;> (try (exfalso; fail))))))
       all_goals (try (exfalso; simp_all; done))
       exact ⟨k + 1, ⟨by omega, by rw [List.take_succ_eq_append_getElem hlt, List.take_succ_eq_append_getElem (by omega), ht, he]⟩, by omega, Zaa (by repeat (first | exact Zaj | refine Zae rfl ?_)) (List.Sublist.refl _)⟩
     · (repeat' (first | refine Za7 ?_ | refine Za1 ?_ | refine Za3 ?_ | (apply Za8; (first | exact Za2 rfl | (apply Zai; exact Zbg rfl rfl) | (apply Zba; exact Zbq rfl rfl)); exact rfl) | refine Zak ?_ | refine Zan ?_ | (refine Zag rfl (fun hb => ?_) (fun hb => ?_) <;> (repeat (first | replace hb := Zas hb | replace hb := Zat hb)) <;> (try (exfalso; omega)))))
       (refine Zcw 9 rfl ?_)
       all_goals ((apply Za4 0 rfl (by decide +kernel) rfl (by repeat (first | exact Za6)) Za0; (first | exact Za2 rfl); exact rfl))
       all_goals ((apply Za4 1 rfl (by decide +kernel) rfl (by repeat (first | exact Za6)) Za0; (first | exact Za2 rfl); exact rfl))
       all_goals ((apply Za4 2 rfl (by decide +kernel) rfl (by repeat (first | exact Za6)) Za0; (first | (apply Zb3; first | exact Zb1 rfl rfl rfl)); exact rfl))
       all_goals ((apply Zay 3 rfl (by decide +kernel) rfl (by decide +kernel) (by repeat (exact Za6)) Za0; ((apply Za9; exact Zb4 rfl rfl)); exact rfl))
       all_goals ((apply Za4 4 rfl (by decide +kernel) rfl (by repeat (first | exact Za6)) Za0; (first | exact Za2 rfl); exact rfl))
       all_goals ((apply Za4 5 rfl (by decide +kernel) rfl (by repeat (first | exact Za6)) Za0; (first | exact Za2 rfl); exact rfl))
       all_goals ((apply Za4 6 rfl (by decide +kernel) rfl (by repeat (first | exact Za6)) Za0; (first | (apply Zb3; first | exact Zb1 rfl rfl rfl)); exact rfl))
       all_goals ((apply Zay 7 rfl (by decide +kernel) rfl (by decide +kernel) (by repeat (exact Za6)) Za0; ((apply Za9; exact Zb4 rfl rfl)); exact rfl))
       all_goals ((apply Za4 8 rfl (by decide +kernel) rfl (by repeat (first | exact Za6)) Za0; (first | (apply Zai; first | exact WT_aneD inferInstance rfl rfl)); exact rfl))
       all_goals (refine Zbu (by decide +kernel) ?_)
       all_goals ((repeat' (first | refine Za7 ?_ | refine Za1 ?_ | refine Za3 ?_ | (apply Za8; (first | exact Za2 rfl | exact Za5 rfl | (apply Zai; exact Zbz rfl rfl)); exact rfl) | refine Zan ?_ | refine Zb2 ?_ | (refine Zag rfl (fun hb => ?_) (fun hb => ?_) <;> (repeat (first | replace hb := Zas hb | replace hb := Zat hb | replace hb := Zcc hb | replace hb := Zcb hb)) <;> (try (exfalso; fail))))))
       all_goals (try (exfalso; simp_all; done))
       refine ⟨.inr rfl, ret1 rfl (.tmp rfl) (List.nil_sublist _) ⟨congrArg exB ?_, rfl⟩⟩
       exact (decide_eq_false fun e => he (by subst e; rfl)).symm
   · have hk9 : k = a.length := by omega
     subst hk9
     rw [List.take_length, hl, List.take_length] at ht
     (repeat' (first | refine Za7 ?_ | refine Za1 ?_ | refine Za3 ?_ | (apply Za8; (first | exact Za2 rfl | exact Za5 rfl | (apply Zai; exact Zbg rfl rfl) | (apply Zba; exact Zbq rfl rfl)); exact rfl) | refine Zb2 ?_ | refine Zcf ?_ | (refine Zag rfl (fun hb => ?_) (fun hb => ?_) <;> (repeat (first | replace hb := Zas hb | replace hb := Zat hb)) <;> (try (exfalso; omega)))))
     refine ⟨.inr rfl, ret1 rfl (.tmp rfl) (List.nil_sublist _) ⟨congrArg exB ?_, rfl⟩⟩
     exact (decide_eq_true ht).symm
 · (repeat' (first | refine Za7 ?_ | refine Za1 ?_ | refine Za3 ?_ | (apply Za8; (first | exact Za2 rfl | exact Za5 rfl | (apply Zai; exact Zca rfl rfl) | (apply Zba; exact Zbq rfl rfl)); exact rfl) | refine Zb2 ?_ | (refine Zag rfl (fun hb => ?_) (fun hb => ?_) <;> (repeat (first | replace hb := Zas hb | replace hb := Zat hb | replace hb := Zcc hb | replace hb := Zcb hb)) <;> (try (exfalso; omega)))))
   all_goals (try (exfalso; omega))
   refine ⟨.inr rfl, ret1 rfl (.tmp rfl) (List.nil_sublist _) ⟨congrArg exB ?_, rfl⟩⟩
   exact (decide_eq_false fun e => hl (by rw [e])).symm
set_option maxRecDepth 100000 in
theorem r13sameInts_any (a b : List Int) : FnC Tryz.prog 34 [isl eI a, isl eI b] [] (fun p loc => p = exB (decide (a = b)) ∧ loc = []) := by
 refine Zc1 (i := 0) rfl Zc9 fun ha => ?_
 refine Zc1 (i := 1) rfl Zc9 fun hb => ?_
 replace ha := ha.1
 replace hb := hb.1
 simp only [maxLen] at ha hb
 refine Zbr Tryz.func34 rfl Tryz.ntmps34 rfl fun w0 F0 out => ?_
 by_cases hl : a.length = b.length
 · (repeat' (first | refine Za7 ?_ | refine Za1 ?_ | refine Za3 ?_ | (apply Za8; (first | exact Za2 rfl | exact Za5 rfl | (apply Zai; exact Zca rfl rfl) | (apply Zba; exact Zbq rfl rfl)); exact rfl) | refine Zak ?_ | refine Zan ?_ | (refine Zag rfl (fun hb => ?_) (fun hb => ?_) <;> (repeat (first | replace hb := Zas hb | replace hb := Zat hb | replace hb := Zcc hb | replace hb := Zcb hb)) <;> (try (exfalso; omega)))))
   all_goals (try (exfalso; omega))
   refine Zck (fun k : Nat => ([(0, isl eI a), (1, isl eI b), (5, exI .i64 k)], [])) (fun k => k ≤ a.length ∧ a.take k = b.take k) (fun k => a.length - k) 0 ?_ ⟨Nat.zero_le _, rfl⟩ fun k hk => ?_
   · exact Zaa (by repeat (first | exact Zaj | refine Zae rfl ?_)) (List.Sublist.refl _)
   obtain ⟨hk, ht⟩ := hk
   by_cases hlt : k < a.length
   · by_cases he : a[k] = b[k]'(by omega)
     · (repeat' (first | refine Za7 ?_ | refine Za1 ?_ | refine Za3 ?_ | (apply Za8; (first | exact Za2 rfl | (apply Zai; exact Zbg rfl rfl) | (apply Zba; exact Zbq rfl rfl)); exact rfl) | refine Zak ?_ | refine Zan ?_ | (refine Zag rfl (fun hb => ?_) (fun hb => ?_) <;> (repeat (first | replace hb := Zas hb | replace hb := Zat hb)) <;> (try (exfalso; omega)))))
       (refine Zcw 9 rfl ?_)
       all_goals ((apply Za4 0 rfl (by decide +kernel) rfl (by repeat (first | exact Za6)) Za0; (first | exact Za2 rfl); exact rfl))
       all_goals ((apply Za4 1 rfl (by decide +kernel) rfl (by repeat (first | exact Za6)) Za0; (first | exact Za2 rfl); exact rfl))
       all_goals ((apply Za4 2 rfl (by decide +kernel) rfl (by repeat (first | exact Za6)) Za0; (first | (apply Zb3; first | exact Zb1 rfl rfl rfl)); exact rfl))
       all_goals ((apply Zay 3 rfl (by decide +kernel) rfl (by decide +kernel) (by repeat (exact Za6)) Za0; ((apply Za9; exact Zau rfl rfl)); exact rfl))
       all_goals ((apply Za4 4 rfl (by decide +kernel) rfl (by repeat (first | exact Za6)) Za0; (first | exact Za2 rfl); exact rfl))
       all_goals ((apply Za4 5 rfl (by decide +kernel) rfl (by repeat (first | exact Za6)) Za0; (first | exact Za2 rfl); exact rfl))
       all_goals ((apply Za4 6 rfl (by decide +kernel) rfl (by repeat (first | exact Za6)) Za0; (first | (apply Zb3; first | exact Zb1 rfl rfl rfl)); exact rfl))
       all_goals ((apply Zay 7 rfl (by decide +kernel) rfl (by decide +kernel) (by repeat (exact Za6)) Za0; ((apply Za9; exact Zau rfl rfl)); exact rfl))
       all_goals ((apply Za4 8 rfl (by decide +kernel) rfl (by repeat (first | exact Za6)) Za0; (first | (apply Zai; first | exact Zca rfl rfl)); exact rfl))
       all_goals (refine Zbu (by decide +kernel) ?_)
       all_goals ((repeat' (first | refine Za1 ?_ | refine Za3 ?_ | (apply Za8; (first | exact Za2 rfl | exact Za5 rfl | (apply Zai; exact Zbz rfl rfl)); exact rfl) | refine Zan ?_ | (refine Zag rfl (fun hb => ?_) (fun hb => ?_) <;> (repeat (first | replace hb := Zas hb | replace hb := Zat hb | replace hb := Zcc hb | replace hb := Zcb hb)) <;> (try (exfalso; omega))))))
       all_goals (try (exfalso; simp_all; done))
       exact ⟨k + 1, ⟨by omega, by rw [List.take_succ_eq_append_getElem hlt, List.take_succ_eq_append_getElem (by omega), ht, he]⟩, by omega, Zaa (by repeat (first | exact Zaj | refine Zae rfl ?_)) (List.Sublist.refl _)⟩
     · (repeat' (first | refine Za7 ?_ | refine Za1 ?_ | refine Za3 ?_ | (apply Za8; (first | exact Za2 rfl | (apply Zai; exact Zbg rfl rfl) | (apply Zba; exact Zbq rfl rfl)); exact rfl) | refine Zak ?_ | refine Zan ?_ | (refine Zag rfl (fun hb => ?_) (fun hb => ?_) <;> (repeat (first | replace hb := Zas hb | replace hb := Zat hb)) <;> (try (exfalso; omega)))))
       (refine Zcw 9 rfl ?_)
       all_goals ((apply Za4 0 rfl (by decide +kernel) rfl (by repeat (first | exact Za6)) Za0; (first | exact Za2 rfl); exact rfl))
       all_goals ((apply Za4 1 rfl (by decide +kernel) rfl (by repeat (first | exact Za6)) Za0; (first | exact Za2 rfl); exact rfl))
       all_goals ((apply Za4 2 rfl (by decide +kernel) rfl (by repeat (first | exact Za6)) Za0; (first | (apply Zb3; first | exact Zb1 rfl rfl rfl)); exact rfl))
       all_goals ((apply Zay 3 rfl (by decide +kernel) rfl (by decide +kernel) (by repeat (exact Za6)) Za0; ((apply Za9; exact Zau rfl rfl)); exact rfl))
       all_goals ((apply Za4 4 rfl (by decide +kernel) rfl (by repeat (first | exact Za6)) Za0; (first | exact Za2 rfl); exact rfl))
       all_goals ((apply Za4 5 rfl (by decide +kernel) rfl (by repeat (first | exact Za6)) Za0; (first | exact Za2 rfl); exact rfl))
       all_goals ((apply Za4 6 rfl (by decide +kernel) rfl (by repeat (first | exact Za6)) Za0; (first | (apply Zb3; first | exact Zb1 rfl rfl rfl)); exact rfl))
       all_goals ((apply Zay 7 rfl (by decide +kernel) rfl (by decide +kernel) (by repeat (exact Za6)) Za0; ((apply Za9; exact Zau rfl rfl)); exact rfl))
       all_goals ((apply Za4 8 rfl (by decide +kernel) rfl (by repeat (first | exact Za6)) Za0; (first | (apply Zai; first | exact Zca rfl rfl)); exact rfl))
       all_goals (refine Zbu (by decide +kernel) ?_)
       all_goals ((repeat' (first | refine Za7 ?_ | refine Za1 ?_ | refine Za3 ?_ | (apply Za8; (exact Za5 rfl); exact rfl) | refine Zb2 ?_ | (refine Zag rfl (fun hb => ?_) (fun hb => ?_) <;> (repeat (first | replace hb := Zas hb | replace hb := Zat hb | replace hb := Zcc hb | replace hb := Zcb hb)) <;> (try (exfalso; omega))))))
       all_goals (try (exfalso; simp_all; done))
       refine ⟨.inr rfl, ret1 rfl (.tmp rfl) (List.nil_sublist _) ⟨congrArg exB ?_, rfl⟩⟩
       exact (decide_eq_false fun e => he (by subst e; rfl)).symm
   · have hk9 : k = a.length := by omega
     subst hk9
     rw [List.take_length, hl, List.take_length] at ht
     (repeat' (first | refine Za7 ?_ | refine Za1 ?_ | refine Za3 ?_ | (apply Za8; (first | exact Za2 rfl | exact Za5 rfl | (apply Zai; exact Zbg rfl rfl) | (apply Zba; exact Zbq rfl rfl)); exact rfl) | refine Zb2 ?_ | refine Zcf ?_ | (refine Zag rfl (fun hb => ?_) (fun hb => ?_) <;> (repeat (first | replace hb := Zas hb | replace hb := Zat hb)) <;> (try (exfalso; omega)))))
     refine ⟨.inr rfl, ret1 rfl (.tmp rfl) (List.nil_sublist _) ⟨congrArg exB ?_, rfl⟩⟩
     exact (decide_eq_true ht).symm
 · (repeat' (first | refine Za7 ?_ | refine Za1 ?_ | refine Za3 ?_ | (apply Za8; (first | exact Za2 rfl | exact Za5 rfl | (apply Zai; exact Zca rfl rfl) | (apply Zba; exact Zbq rfl rfl)); exact rfl) | refine Zb2 ?_ | (refine Zag rfl (fun hb => ?_) (fun hb => ?_) <;> (repeat (first | replace hb := Zas hb | replace hb := Zat hb | replace hb := Zcc hb | replace hb := Zcb hb)) <;> (try (exfalso; omega)))))
   all_goals (try (exfalso; omega))
   refine ⟨.inr rfl, ret1 rfl (.tmp rfl) (List.nil_sublist _) ⟨congrArg exB ?_, rfl⟩⟩
   exact (decide_eq_false fun e => hl (by rw [e])).symm
set_option maxHeartbeats 1000000 in
set_option maxRecDepth 100000 in
theorem r13sameTie_any (a b : TieD) : FnC Tryz.prog 32 [agg (tieV a), agg (tieV b)] [] (fun p loc => p = exB (decide (a = b)) ∧ loc = []) := by
 refine Zc1 (i := 0) rfl (Zda (i := 1) rfl Zc9) fun hk1 => ?_
 refine Zc1 (i := 1) rfl (Zda (i := 1) rfl Zc9) fun hk2 => ?_
 replace hk1 := hk1.1; replace hk2 := hk2.1
 simp only [maxLen] at hk1 hk2
 refine Zbr Tryz.func32 rfl Tryz.ntmps32 rfl fun w0 F0 out => ?_
 by_cases h0 : a.name = b.name ∧ a.keys.length = b.keys.length
 · obtain ⟨h1, h2⟩ := h0
   (repeat' (first | refine Za7 ?_ | refine Za1 ?_ | refine Za3 ?_ | (apply Za8; (first | exact Za2 rfl | exact Za5 rfl | exact Zb8 (b := true) rfl (fun _ => rfl) (fun e => by cases e) | exact Zb8 (b := false) rfl (fun e => by cases e) (fun _ => rfl) | (apply Za9; first | exact Zah (k := 0) rfl rfl rfl rfl | exact Zah (k := 1) rfl rfl rfl rfl) | (apply Zam; exact Zad rfl rfl rfl) | (apply Zai; exact WT_tne rfl rfl)); exact rfl) | (refine Zco rfl rfl rfl rfl rfl ?_) | (apply Zcn; exact rfl; exact rfl; exact rfl; (first | (apply Za9; first | exact Zah (k := 0) rfl rfl rfl rfl | exact Zah (k := 1) rfl rfl rfl rfl) | (apply Zam; exact Zad rfl rfl rfl) | (apply Zai; exact Zca rfl rfl) | (apply Zba; exact Zbq rfl rfl)); exact rfl) | refine Zak ?_ | refine Zan ?_ | refine Zb2 ?_ | refine Zaw rfl ?_ | (apply Zac; exact rfl; (apply Zdv; refine Zdn rfl ?_; intro _)) | (refine Zby rfl rfl (fun hb => ?_) (fun hb => ?_) <;> (repeat (first | replace hb := Zas hb | replace hb := Zat hb | replace hb := Zcc hb | replace hb := Zcb hb)) <;> (try (exfalso; fail))) | (refine Zag rfl (fun hb => ?_) (fun hb => ?_) <;> (repeat (first | replace hb := Zas hb | replace hb := Zat hb | replace hb := Zcc hb | replace hb := Zcb hb)) <;> (try (exfalso; omega)))))
   all_goals (try (exfalso; first | contradiction | omega))
   rename_i b1 b2 _
   refine Zck (fun q : Nat => ([(2, ex (.pointer (some ⟨b1, 0, none⟩))), (3, ex (.pointer (some ⟨b2, 0, none⟩))), (5, exI .i64 (q : Int))], [row b2 74 2 (tieV b), row b1 74 2 (tieV a)])) (fun q => q ≤ a.keys.length ∧ a.keys.take q = b.keys.take q) (fun q => a.keys.length - q) 0 ?_ ⟨Nat.zero_le _, rfl⟩ fun q hq => ?_
   · exact Zaa (by repeat (first | exact Zaj | refine Zae rfl ?_)) (List.Sublist.refl _)
   obtain ⟨hq, htq⟩ := hq
   by_cases hltq : q < a.keys.length
   · by_cases hek : a.keys[q] = b.keys[q]'(by omega)
     · (repeat' (first | refine Za7 ?_ | refine Za1 ?_ | refine Za3 ?_ | (apply Za8; (first | exact Za2 rfl | (apply Za9; exact Zah (k := 1) rfl rfl rfl rfl) | (apply Zam; exact Zad rfl rfl rfl) | (apply Zai; exact Zbg rfl rfl) | (apply Zba; exact Zbq rfl rfl)); exact rfl) | refine Zak ?_ | refine Zan ?_ | (refine Zag rfl (fun hb => ?_) (fun hb => ?_) <;> (repeat (first | replace hb := Zas hb | replace hb := Zat hb)) <;> (try (exfalso; omega)))))
       (refine Zcw 11 rfl ?_)
       all_goals ((apply Za4 0 rfl (by decide +kernel) rfl (by repeat (first | exact Za6)) Za0; (first | (apply Zam; first | exact Zad rfl rfl rfl)); exact rfl))
       all_goals ((apply Zay 1 rfl (by decide +kernel) rfl (by decide +kernel) (by repeat (exact Za6)) Za0; ((apply Za9; exact Zah (k := 1) rfl rfl rfl rfl)); exact rfl))
       all_goals ((apply Za4 2 rfl (by decide +kernel) rfl (by repeat (first | exact Za6)) Za0; (first | exact Za2 rfl); exact rfl))
       all_goals ((apply Za4 3 rfl (by decide +kernel) rfl (by repeat (first | exact Za6)) Za0; (first | (apply Zb3; first | exact Zb1 rfl rfl rfl)); exact rfl))
       all_goals ((apply Zay 4 rfl (by decide +kernel) rfl (by decide +kernel) (by repeat (exact Za6)) Za0; ((apply Za9; exact Zb4 rfl rfl)); exact rfl))
       all_goals ((apply Za4 5 rfl (by decide +kernel) rfl (by repeat (first | exact Za6)) Za0; (first | (apply Zam; first | exact Zad rfl rfl rfl)); exact rfl))
       all_goals ((apply Zay 6 rfl (by decide +kernel) rfl (by decide +kernel) (by repeat (exact Za6)) Za0; ((apply Za9; exact Zah (k := 0) rfl rfl rfl rfl)); exact rfl))
       all_goals ((apply Za4 7 rfl (by decide +kernel) rfl (by repeat (first | exact Za6)) Za0; (first | exact Za2 rfl); exact rfl))
       all_goals ((apply Za4 8 rfl (by decide +kernel) rfl (by repeat (first | exact Za6)) Za0; (first | (apply Zb3; first | exact Zb1 rfl rfl rfl)); exact rfl))
       all_goals ((apply Zay 9 rfl (by decide +kernel) rfl (by decide +kernel) (by repeat (exact Za6)) Za0; ((apply Za9; exact Zb4 rfl rfl)); exact rfl))
       all_goals ((apply Za4 10 rfl (by decide +kernel) rfl (by repeat (first | exact Za6)) Za0; (first | (apply Zai; first | exact WT_aneD inferInstance rfl rfl)); exact rfl))
       all_goals (refine Zbu (by decide +kernel) ?_)
       all_goals ((repeat' (first | refine Za7 ?_ | refine Za1 ?_ | refine Za3 ?_ | (apply Za8; (first | exact Za2 rfl | exact Za5 rfl | (apply Zai; exact Zbz rfl rfl)); exact rfl) | refine Zan ?_ | refine Zb2 ?_ | (refine Zag rfl (fun hb => ?_) (fun hb => ?_) <;> (repeat (first | replace hb := Zas hb | replace hb := Zat hb | replace hb := Zcc hb | replace hb := Zcb hb)) <;> (try (exfalso; fail))))))
       all_goals (try (exfalso; simp_all; done))
       exact ⟨q + 1, ⟨by omega, by rw [List.take_succ_eq_append_getElem hltq, List.take_succ_eq_append_getElem (by omega), htq, hek]⟩, by omega, Zaa (by repeat (first | exact Zaj | refine Zae rfl ?_)) (List.Sublist.refl _)⟩
     · (repeat' (first | refine Za7 ?_ | refine Za1 ?_ | refine Za3 ?_ | (apply Za8; (first | exact Za2 rfl | (apply Za9; exact Zah (k := 1) rfl rfl rfl rfl) | (apply Zam; exact Zad rfl rfl rfl) | (apply Zai; exact Zbg rfl rfl) | (apply Zba; exact Zbq rfl rfl)); exact rfl) | refine Zak ?_ | refine Zan ?_ | (refine Zag rfl (fun hb => ?_) (fun hb => ?_) <;> (repeat (first | replace hb := Zas hb | replace hb := Zat hb)) <;> (try (exfalso; omega)))))
       (refine Zcw 11 rfl ?_)
       all_goals ((apply Za4 0 rfl (by decide +kernel) rfl (by repeat (first | exact Za6)) Za0; (first | (apply Zam; first | exact Zad rfl rfl rfl)); exact rfl))
       all_goals ((apply Zay 1 rfl (by decide +kernel) rfl (by decide +kernel) (by repeat (exact Za6)) Za0; ((apply Za9; exact Zah (k := 1) rfl rfl rfl rfl)); exact rfl))
       all_goals ((apply Za4 2 rfl (by decide +kernel) rfl (by repeat (first | exact Za6)) Za0; (first | exact Za2 rfl); exact rfl))
       all_goals ((apply Za4 3 rfl (by decide +kernel) rfl (by repeat (first | exact Za6)) Za0; (first | (apply Zb3; first | exact Zb1 rfl rfl rfl)); exact rfl))
       all_goals ((apply Zay 4 rfl (by decide +kernel) rfl (by decide +kernel) (by repeat (exact Za6)) Za0; ((apply Za9; exact Zb4 rfl rfl)); exact rfl))
       all_goals ((apply Za4 5 rfl (by decide +kernel) rfl (by repeat (first | exact Za6)) Za0; (first | (apply Zam; first | exact Zad rfl rfl rfl)); exact rfl))
       all_goals ((apply Zay 6 rfl (by decide +kernel) rfl (by decide +kernel) (by repeat (exact Za6)) Za0; ((apply Za9; exact Zah (k := 0) rfl rfl rfl rfl)); exact rfl))
       all_goals ((apply Za4 7 rfl (by decide +kernel) rfl (by repeat (first | exact Za6)) Za0; (first | exact Za2 rfl); exact rfl))
       all_goals ((apply Za4 8 rfl (by decide +kernel) rfl (by repeat (first | exact Za6)) Za0; (first | (apply Zb3; first | exact Zb1 rfl rfl rfl)); exact rfl))
       all_goals ((apply Zay 9 rfl (by decide +kernel) rfl (by decide +kernel) (by repeat (exact Za6)) Za0; ((apply Za9; exact Zb4 rfl rfl)); exact rfl))
       all_goals ((apply Za4 10 rfl (by decide +kernel) rfl (by repeat (first | exact Za6)) Za0; (first | (apply Zai; first | exact WT_aneD inferInstance rfl rfl)); exact rfl))
       all_goals (refine Zbu (by decide +kernel) ?_)
       all_goals ((repeat' (first | refine Za7 ?_ | refine Za1 ?_ | refine Za3 ?_ | (apply Za8; (first | exact Za2 rfl | exact Za5 rfl | (apply Zai; exact Zbz rfl rfl)); exact rfl) | refine Zan ?_ | refine Zb2 ?_ | (refine Zag rfl (fun hb => ?_) (fun hb => ?_) <;> (repeat (first | replace hb := Zas hb | replace hb := Zat hb | replace hb := Zcc hb | replace hb := Zcb hb)) <;> (try (exfalso; fail))))))
       all_goals (try (exfalso; simp_all; done))
       refine ⟨.inr rfl, ret1 rfl (.tmp rfl) (List.nil_sublist _) ⟨congrArg exB ?_, rfl⟩⟩
       exact (decide_eq_false fun e => hek (by subst e; rfl)).symm
   · have hk9 : q = a.keys.length := by omega
     subst hk9
     rw [List.take_length, h2, List.take_length] at htq
     (repeat' (first | refine Za7 ?_ | refine Za1 ?_ | refine Za3 ?_ | (apply Za8; (first | exact Za2 rfl | exact Za5 rfl | (apply Za9; exact Zah (k := 1) rfl rfl rfl rfl) | (apply Zam; exact Zad rfl rfl rfl) | (apply Zai; exact Zbg rfl rfl) | (apply Zba; exact Zbq rfl rfl)); exact rfl) | refine Zb2 ?_ | refine Zcf ?_ | (refine Zag rfl (fun hb => ?_) (fun hb => ?_) <;> (repeat (first | replace hb := Zas hb | replace hb := Zat hb)) <;> (try (exfalso; omega)))))
     all_goals (try (exfalso; omega))
     refine ⟨.inr rfl, ret1 rfl (.tmp rfl) (List.nil_sublist _) ⟨congrArg exB ?_, rfl⟩⟩
     refine (decide_eq_true ?_).symm
     cases a; cases b
     simp only at h1 htq
     rw [h1, htq]
 · have hne : a ≠ b := fun e => h0 (by subst e; exact ⟨rfl, rfl⟩)
   rw [decide_eq_false hne]
   (repeat' (first | refine Za7 ?_ | refine Za1 ?_ | refine Za3 ?_ | (apply Za8; (first | exact Za2 rfl | exact Za5 rfl | exact Zb8 (b := true) rfl (fun _ => rfl) (fun e => by cases e) | exact Zb8 (b := false) rfl (fun e => by cases e) (fun _ => rfl) | (apply Za9; first | exact Zah (k := 0) rfl rfl rfl rfl | exact Zah (k := 1) rfl rfl rfl rfl) | (apply Zam; exact Zad rfl rfl rfl) | (apply Zai; exact WT_tne rfl rfl)); exact rfl) | (refine Zco rfl rfl rfl rfl rfl ?_) | (apply Zcn; exact rfl; exact rfl; exact rfl; (first | (apply Za9; first | exact Zah (k := 0) rfl rfl rfl rfl | exact Zah (k := 1) rfl rfl rfl rfl) | (apply Zam; exact Zad rfl rfl rfl) | (apply Zai; exact Zca rfl rfl) | (apply Zba; exact Zbq rfl rfl)); exact rfl) | refine Zak ?_ | refine Zan ?_ | refine Zb2 ?_ | refine Zaw rfl ?_ | (apply Zac; exact rfl; (apply Zdv; refine Zdn rfl ?_; intro _)) | (refine Zby rfl rfl (fun hb => ?_) (fun hb => ?_) <;> (repeat (first | replace hb := Zas hb | replace hb := Zat hb | replace hb := Zcc hb | replace hb := Zcb hb)) <;> (try (exfalso; fail))) | (refine Zag rfl (fun hb => ?_) (fun hb => ?_) <;> (repeat (first | replace hb := Zas hb | replace hb := Zat hb | replace hb := Zcc hb | replace hb := Zcb hb)) <;> (try (exfalso; fail)))))
   all_goals first | exact ⟨.inr rfl, ret1 rfl (.tmp rfl) (List.nil_sublist _) ⟨rfl, rfl⟩⟩ | (exfalso; refine h0 ⟨?_, ?_⟩ <;> first | assumption | omega)
set_option maxHeartbeats 2000000 in
set_option maxRecDepth 100000 in
theorem r13sameRound_any (k j : Nat) (x y : RoundD) : FnC Tryz.prog 33 [agg (roundV k x), agg (roundV j y)] [] (fun p loc => p = exB (decide (x = y)) ∧ loc = []) := by
 refine Zbr Tryz.func33 rfl Tryz.ntmps33 rfl fun w0 F0 out => ?_
 (repeat' (first | refine Za7 ?_ | refine Za1 ?_ | refine Za3 ?_ | (apply Za8; (first | exact Za2 rfl | exact Za5 rfl | exact Zb8 (b := true) rfl (fun _ => rfl) (fun e => by cases e) | exact Zb8 (b := false) rfl (fun e => by cases e) (fun _ => rfl) | (apply Za9; first | exact Zah (k := 0) rfl rfl rfl rfl | exact Zah (k := 1) rfl rfl rfl rfl | exact Zbm (k := 0) rfl rfl rfl | exact Zbm (k := 1) rfl rfl rfl) | (apply Zam; exact Zad rfl rfl rfl) | (apply Zai; exact WT_tne rfl rfl)); exact rfl) | (refine Zco rfl rfl rfl rfl rfl ?_) | (apply Zcn; exact rfl; exact rfl; exact rfl; (first | (apply Za9; first | exact Zah (k := 0) rfl rfl rfl rfl | exact Zah (k := 1) rfl rfl rfl rfl) | (apply Zam; exact Zad rfl rfl rfl) | (apply Zai; first | exact Zdr rfl rfl | exact Zc4 rfl rfl | exact Zca rfl rfl | exact WT_bne rfl rfl rfl)); exact rfl) | refine Zan ?_ | refine Zb2 ?_ | refine Zaw rfl ?_ | (apply Zac; exact rfl; first | (apply Zaf; (refine Zbl Tryz.func27 rfl (r13sameExpr_any _ _ _ _) rfl ?_; rintro _ _ ⟨rfl, rfl⟩)) | (apply Zdv; refine Zdn rfl ?_; intro _)) | (refine Zby rfl rfl (fun hb => ?_) (fun hb => ?_) <;> (repeat (first | replace hb := Zas hb | replace hb := Zat hb | replace hb := Zcc hb | replace hb := Zcb hb)) <;> (try (exfalso; fail))) | (refine Zag rfl (fun hb => ?_) (fun hb => ?_) <;> (repeat (first | replace hb := Zas hb | replace hb := Zat hb | replace hb := Zcc hb | replace hb := Zcb hb)) <;> (try (exfalso; fail)))))
 all_goals (refine ⟨.inr rfl, ret1 rfl (.tmp rfl) (List.nil_sublist _) ⟨congrArg exB ?_, rfl⟩⟩)
 all_goals (rw [Bool.eq_iff_iff]; simp only [decide_eq_true_eq, round_iff, Bool.false_eq_true, false_iff, *])
 all_goals simp
set_option maxHeartbeats 4000000 in
set_option maxRecDepth 100000 in
theorem rsame13_any (k j : Nat) (x y : RulesD) : FnC Tryz.prog 13 [rul k x, rul j y] [] (fun p loc => p = exB (decide (x = y)) ∧ loc = []) := by
 refine Zc1 (i := 0) rfl (Zda (i := 1) rfl Zc9) fun hc1 => ?_
 refine Zc1 (i := 1) rfl (Zda (i := 1) rfl Zc9) fun hc2 => ?_
 refine Zc1 (i := 0) rfl (Zda (i := 5) rfl Zc9) fun hr1 => ?_
 refine Zc1 (i := 1) rfl (Zda (i := 5) rfl Zc9) fun hr2 => ?_
 refine Zc1 (i := 0) rfl (Zda (i := 4) rfl Zc9) fun ht1 => ?_
 refine Zc1 (i := 1) rfl (Zda (i := 4) rfl Zc9) fun ht2 => ?_
 replace ht1 := ht1.1; replace ht2 := ht2.1
 refine Zc1 (i := 0) rfl (Zda (i := 6) rfl Zc9) fun hp1 => ?_
 refine Zc1 (i := 1) rfl (Zda (i := 6) rfl Zc9) fun hp2 => ?_
 refine Zc1 (i := 0) rfl (Zda (i := 7) rfl Zc9) fun hq1 => ?_
 refine Zc1 (i := 1) rfl (Zda (i := 7) rfl Zc9) fun hq2 => ?_
 replace hc1 := hc1.1; replace hc2 := hc2.1; replace hr1 := hr1.1; replace hr2 := hr2.1
 replace hp1 := hp1.2; replace hp2 := hp2.2; replace hq1 := hq1.2; replace hq2 := hq2.2
 simp only [eI] at hp1 hp2 hq1 hq2
 simp only [maxLen] at hc1 hc2 hr1 hr2 ht1 ht2
 refine Zbr Tryz.func13 rfl Tryz.ntmps13 rfl fun w0 F0 out => ?_
 by_cases h0 : x.name = y.name ∧ x.crits.length = y.crits.length ∧ x.rounds.length = y.rounds.length ∧ x.bonus = y.bonus ∧ x.malus = y.malus ∧ x.ties.length = y.ties.length
 · obtain ⟨h1, h3, h4, h5, h6, h7⟩ := h0
   (repeat' (first | refine Za7 ?_ | refine Za1 ?_ | refine Za3 ?_ | (apply Za8; (first | exact Za2 rfl | exact Za5 rfl | exact Zb8 (b := true) rfl (fun _ => rfl) (fun e => by cases e) | exact Zb8 (b := false) rfl (fun e => by cases e) (fun _ => rfl) | (apply Za9; first | exact Zah (k := 0) rfl rfl rfl rfl | exact Zah (k := 1) rfl rfl rfl rfl) | (apply Zam; exact Zad rfl rfl rfl) | (apply Zai; exact WT_tne rfl rfl)); exact rfl) | (refine Zco rfl rfl rfl rfl rfl ?_) | (apply Zcn; exact rfl; exact rfl; exact rfl; (first | (apply Za9; first | exact Zah (k := 0) rfl rfl rfl rfl | exact Zah (k := 1) rfl rfl rfl rfl) | (apply Zam; exact Zad rfl rfl rfl) | (apply Zai; exact Zca rfl rfl) | (apply Zba; exact Zbq rfl rfl) | (apply g_un; exact Zcy rfl)); exact rfl) | refine Zak ?_ | refine Zan ?_ | refine Zb2 ?_ | refine Zaw rfl ?_ | (apply Zac; exact rfl; (apply Zdv; refine Zdn rfl ?_; intro _)) | (apply Zdh; exact rfl; exact rfl; exact rfl; exact rfl; (apply Zaf; (refine Zbl Tryz.func31 rfl (r13sameItems_any _ _) rfl ?_; rintro _ _ ⟨rfl, rfl⟩))) | (refine Zby rfl rfl (fun hb => ?_) (fun hb => ?_) <;> (repeat (first | replace hb := Zas hb | replace hb := Zat hb | replace hb := Zcc hb | replace hb := Zcb hb)) <;> (try (exfalso; omega))) | (refine Zag rfl (fun hb => ?_) (fun hb => ?_) <;> (repeat (first | replace hb := Zas hb | replace hb := Zat hb | replace hb := Zcc hb | replace hb := Zcb hb)) <;> (try (exfalso; omega)))))
   all_goals (try (exfalso; first | contradiction | omega))
   rename_i b1 b2 _ _ _ _ _
   refine Zck (fun i : Nat => ([(2, ex (.pointer (some ⟨b1, 0, none⟩))), (3, ex (.pointer (some ⟨b2, 0, none⟩))), (5, exI .i64 (i : Int))], [row b2 29 9 (rulesV j y), row b1 29 9 (rulesV k x)])) (fun i => i ≤ x.crits.length ∧ x.crits.take i = y.crits.take i) (fun i => x.crits.length - i) 0 ?_ ⟨Nat.zero_le _, rfl⟩ fun i hi => ?_
   · exact Zaa (by repeat (first | exact Zaj | refine Zae rfl ?_)) (List.Sublist.refl _)
   obtain ⟨hi, ht⟩ := hi
   by_cases hlt : i < x.crits.length
   · by_cases he : x.crits[i] = y.crits[i]'(by omega)
     · (repeat' (first | refine Za7 ?_ | refine Za1 ?_ | refine Za3 ?_ | (apply Za8; (first | exact Za2 rfl | (apply Za9; exact Zah (k := 1) rfl rfl rfl rfl) | (apply Zam; exact Zad rfl rfl rfl) | (apply Zai; exact Zbg rfl rfl) | (apply Zba; exact Zbq rfl rfl)); exact rfl) | refine Zak ?_ | refine Zan ?_ | (refine Zag rfl (fun hb => ?_) (fun hb => ?_) <;> (repeat (first | replace hb := Zas hb | replace hb := Zat hb)) <;> (try (exfalso; omega)))))
       (refine Zcw 11 rfl ?_)
       all_goals ((apply Za4 0 rfl (by decide +kernel) rfl (by repeat (first | exact Za6)) Za0; (first | (apply Zam; first | exact Zad rfl rfl rfl)); exact rfl))
       all_goals ((apply Zay 1 rfl (by decide +kernel) rfl (by decide +kernel) (by repeat (exact Za6)) Za0; ((apply Za9; exact Zah (k := 1) rfl rfl rfl rfl)); exact rfl))
       all_goals ((apply Za4 2 rfl (by decide +kernel) rfl (by repeat (first | exact Za6)) Za0; (first | exact Za2 rfl); exact rfl))
       all_goals ((apply Za4 3 rfl (by decide +kernel) rfl (by repeat (first | exact Za6)) Za0; (first | (apply Zb3; first | exact Zb1 rfl rfl rfl)); exact rfl))
       all_goals ((apply Zay 4 rfl (by decide +kernel) rfl (by decide +kernel) (by repeat (exact Za6)) Za0; ((apply Za9; exact Zb4 rfl rfl)); exact rfl))
       all_goals ((apply Za4 5 rfl (by decide +kernel) rfl (by repeat (first | exact Za6)) Za0; (first | (apply Zam; first | exact Zad rfl rfl rfl)); exact rfl))
       all_goals ((apply Zay 6 rfl (by decide +kernel) rfl (by decide +kernel) (by repeat (exact Za6)) Za0; ((apply Za9; exact Zah (k := 0) rfl rfl rfl rfl)); exact rfl))
       all_goals ((apply Za4 7 rfl (by decide +kernel) rfl (by repeat (first | exact Za6)) Za0; (first | exact Za2 rfl); exact rfl))
       all_goals ((apply Za4 8 rfl (by decide +kernel) rfl (by repeat (first | exact Za6)) Za0; (first | (apply Zb3; first | exact Zb1 rfl rfl rfl)); exact rfl))
       all_goals ((apply Zay 9 rfl (by decide +kernel) rfl (by decide +kernel) (by repeat (exact Za6)) Za0; ((apply Za9; exact Zb4 rfl rfl)); exact rfl))
       all_goals ((apply Za4 10 rfl (by decide +kernel) rfl (by repeat (first | exact Za6)) Za0; (first | (apply Zai; first | exact WT_aneD inferInstance rfl rfl)); exact rfl))
       all_goals (refine Zbu (by decide +kernel) ?_)
       all_goals ((repeat' (first | refine Za7 ?_ | refine Za1 ?_ | refine Za3 ?_ | (apply Za8; (first | exact Za2 rfl | exact Za5 rfl | (apply Zai; exact Zbz rfl rfl)); exact rfl) | refine Zan ?_ | refine Zb2 ?_ | (refine Zag rfl (fun hb => ?_) (fun hb => ?_) <;> (repeat (first | replace hb := Zas hb | replace hb := Zat hb | replace hb := Zcc hb | replace hb := Zcb hb)) <;> (try (exfalso; fail))))))
       all_goals (try (exfalso; simp_all; done))
       exact ⟨i + 1, ⟨by omega, by rw [List.take_succ_eq_append_getElem hlt, List.take_succ_eq_append_getElem (by omega), ht, he]⟩, by omega, Zaa (by repeat (first | exact Zaj | refine Zae rfl ?_)) (List.Sublist.refl _)⟩
     · (repeat' (first | refine Za7 ?_ | refine Za1 ?_ | refine Za3 ?_ | (apply Za8; (first | exact Za2 rfl | (apply Za9; exact Zah (k := 1) rfl rfl rfl rfl) | (apply Zam; exact Zad rfl rfl rfl) | (apply Zai; exact Zbg rfl rfl) | (apply Zba; exact Zbq rfl rfl)); exact rfl) | refine Zak ?_ | refine Zan ?_ | (refine Zag rfl (fun hb => ?_) (fun hb => ?_) <;> (repeat (first | replace hb := Zas hb | replace hb := Zat hb)) <;> (try (exfalso; omega)))))
       (refine Zcw 11 rfl ?_)
       all_goals ((apply Za4 0 rfl (by decide +kernel) rfl (by repeat (first | exact Za6)) Za0; (first | (apply Zam; first | exact Zad rfl rfl rfl)); exact rfl))
       all_goals ((apply Zay 1 rfl (by decide +kernel) rfl (by decide +kernel) (by repeat (exact Za6)) Za0; ((apply Za9; exact Zah (k := 1) rfl rfl rfl rfl)); exact rfl))
       all_goals ((apply Za4 2 rfl (by decide +kernel) rfl (by repeat (first | exact Za6)) Za0; (first | exact Za2 rfl); exact rfl))
       all_goals ((apply Za4 3 rfl (by decide +kernel) rfl (by repeat (first | exact Za6)) Za0; (first | (apply Zb3; first | exact Zb1 rfl rfl rfl)); exact rfl))
       all_goals ((apply Zay 4 rfl (by decide +kernel) rfl (by decide +kernel) (by repeat (exact Za6)) Za0; ((apply Za9; exact Zb4 rfl rfl)); exact rfl))
       all_goals ((apply Za4 5 rfl (by decide +kernel) rfl (by repeat (first | exact Za6)) Za0; (first | (apply Zam; first | exact Zad rfl rfl rfl)); exact rfl))
       all_goals ((apply Zay 6 rfl (by decide +kernel) rfl (by decide +kernel) (by repeat (exact Za6)) Za0; ((apply Za9; exact Zah (k := 0) rfl rfl rfl rfl)); exact rfl))
       all_goals ((apply Za4 7 rfl (by decide +kernel) rfl (by repeat (first | exact Za6)) Za0; (first | exact Za2 rfl); exact rfl))
       all_goals ((apply Za4 8 rfl (by decide +kernel) rfl (by repeat (first | exact Za6)) Za0; (first | (apply Zb3; first | exact Zb1 rfl rfl rfl)); exact rfl))
       all_goals ((apply Zay 9 rfl (by decide +kernel) rfl (by decide +kernel) (by repeat (exact Za6)) Za0; ((apply Za9; exact Zb4 rfl rfl)); exact rfl))
       all_goals ((apply Za4 10 rfl (by decide +kernel) rfl (by repeat (first | exact Za6)) Za0; (first | (apply Zai; first | exact WT_aneD inferInstance rfl rfl)); exact rfl))
       all_goals (refine Zbu (by decide +kernel) ?_)
       all_goals ((repeat' (first | refine Za7 ?_ | refine Za1 ?_ | refine Za3 ?_ | (apply Za8; (first | exact Za2 rfl | exact Za5 rfl | (apply Zai; exact Zbz rfl rfl)); exact rfl) | refine Zan ?_ | refine Zb2 ?_ | (refine Zag rfl (fun hb => ?_) (fun hb => ?_) <;> (repeat (first | replace hb := Zas hb | replace hb := Zat hb | replace hb := Zcc hb | replace hb := Zcb hb)) <;> (try (exfalso; fail))))))
       all_goals (try (exfalso; simp_all; done))
       refine ⟨.inr rfl, ret1 rfl (.tmp rfl) (List.nil_sublist _) ⟨congrArg exB ?_, rfl⟩⟩
       exact (decide_eq_false fun e => he (by subst e; rfl)).symm
   · have hk9 : i = x.crits.length := by omega
     subst hk9
     rw [List.take_length, h3, List.take_length] at ht
     (repeat' (first | refine Za7 ?_ | refine Za1 ?_ | refine Za3 ?_ | (apply Za8; (first | exact Za2 rfl | exact Za5 rfl | (apply Za9; exact Zah (k := 1) rfl rfl rfl rfl) | (apply Zam; exact Zad rfl rfl rfl) | (apply Zai; exact Zbg rfl rfl) | (apply Zba; exact Zbq rfl rfl)); exact rfl) | refine Zak ?_ | refine Zcf ?_ | (refine Zag rfl (fun hb => ?_) (fun hb => ?_) <;> (repeat (first | replace hb := Zas hb | replace hb := Zat hb)) <;> (try (exfalso; omega)))))
     all_goals (try (exfalso; omega))
     refine Zck (fun i : Nat => ([(2, ex (.pointer (some ⟨b1, 0, none⟩))), (3, ex (.pointer (some ⟨b2, 0, none⟩))), (6, exI .i64 (i : Int))], [row b2 29 9 (rulesV j y), row b1 29 9 (rulesV k x)])) (fun i => i ≤ x.ties.length ∧ x.ties.take i = y.ties.take i) (fun i => x.ties.length - i) 0 ?_ ⟨Nat.zero_le _, rfl⟩ fun i hi => ?_
     · exact Zaa (by repeat (first | exact Zaj | refine Zae rfl ?_)) (List.Sublist.refl _)
     obtain ⟨hi, htt⟩ := hi
     by_cases hlt : i < x.ties.length
     · by_cases he : x.ties[i] = y.ties[i]'(by omega)
       · (repeat' (first | refine Za7 ?_ | refine Za1 ?_ | refine Za3 ?_ | (apply Za8; (first | exact Za2 rfl | (apply Za9; exact Zah (k := 1) rfl rfl rfl rfl) | (apply Zam; exact Zad rfl rfl rfl) | (apply Zai; exact Zbg rfl rfl) | (apply Zba; exact Zbq rfl rfl)); exact rfl) | refine Zak ?_ | refine Zan ?_ | (refine Zag rfl (fun hb => ?_) (fun hb => ?_) <;> (repeat (first | replace hb := Zas hb | replace hb := Zat hb)) <;> (try (exfalso; omega)))))
         (refine Zcw 12 rfl ?_)
         all_goals ((apply Za4 0 rfl (by decide +kernel) rfl (by repeat (first | exact Za6)) Za0; (first | (apply Zam; first | exact Zad rfl rfl rfl)); exact rfl))
         all_goals ((apply Zay 1 rfl (by decide +kernel) rfl (by decide +kernel) (by repeat (exact Za6)) Za0; ((apply Za9; exact Zah (k := 1) rfl rfl rfl rfl)); exact rfl))
         all_goals ((apply Za4 2 rfl (by decide +kernel) rfl (by repeat (first | exact Za6)) Za0; (first | exact Za2 rfl); exact rfl))
         all_goals ((apply Za4 3 rfl (by decide +kernel) rfl (by repeat (first | exact Za6)) Za0; (first | (apply Zb3; first | exact Zb1 rfl rfl rfl)); exact rfl))
         all_goals ((apply Zay 4 rfl (by decide +kernel) rfl (by decide +kernel) (by repeat (exact Za6)) Za0; ((apply Za9; exact Zb4 rfl rfl)); exact rfl))
         all_goals ((apply Za4 5 rfl (by decide +kernel) rfl (by repeat (first | exact Za6)) Za0; (first | (apply Zam; first | exact Zad rfl rfl rfl)); exact rfl))
         all_goals ((apply Zay 6 rfl (by decide +kernel) rfl (by decide +kernel) (by repeat (exact Za6)) Za0; ((apply Za9; exact Zah (k := 0) rfl rfl rfl rfl)); exact rfl))
         all_goals ((apply Za4 7 rfl (by decide +kernel) rfl (by repeat (first | exact Za6)) Za0; (first | exact Za2 rfl); exact rfl))
         all_goals ((apply Za4 8 rfl (by decide +kernel) rfl (by repeat (first | exact Za6)) Za0; (first | (apply Zb3; first | exact Zb1 rfl rfl rfl)); exact rfl))
         all_goals ((apply Zay 9 rfl (by decide +kernel) rfl (by decide +kernel) (by repeat (exact Za6)) Za0; ((apply Za9; exact Zb4 rfl rfl)); exact rfl))
         all_goals ((apply Zbe 10; exact (by decide +kernel); exact rfl; exact Za0; exact (fun _ _ h => h); (apply Zaf; (refine Zbl Tryz.func32 rfl (r13sameTie_any _ _) rfl ?_; rintro _ _ ⟨rfl, rfl⟩))))
         all_goals ((apply Za4 11 rfl (by decide +kernel) rfl (by repeat (first | exact Za6)) Za0; (first | (apply g_un; first | exact Zcy rfl)); exact rfl))
         all_goals (refine Zbu (by decide +kernel) ?_)
         all_goals ((repeat' (first | refine Za7 ?_ | refine Za1 ?_ | refine Za3 ?_ | (apply Za8; (first | exact Za2 rfl | exact Za5 rfl | (apply Zai; exact Zbz rfl rfl)); exact rfl) | refine Zan ?_ | refine Zb2 ?_ | (refine Zag rfl (fun hb => ?_) (fun hb => ?_) <;> (repeat (first | replace hb := Zas hb | replace hb := Zat hb | replace hb := Zcc hb | replace hb := Zcb hb)) <;> (try (exfalso; fail))))))
         all_goals (try (exfalso; simp_all; done))
         exact ⟨i + 1, ⟨by omega, by rw [List.take_succ_eq_append_getElem hlt, List.take_succ_eq_append_getElem (by omega), htt, he]⟩, by omega, Zaa (by repeat (first | exact Zaj | refine Zae rfl ?_)) (List.Sublist.refl _)⟩
       · (repeat' (first | refine Za7 ?_ | refine Za1 ?_ | refine Za3 ?_ | (apply Za8; (first | exact Za2 rfl | (apply Za9; exact Zah (k := 1) rfl rfl rfl rfl) | (apply Zam; exact Zad rfl rfl rfl) | (apply Zai; exact Zbg rfl rfl) | (apply Zba; exact Zbq rfl rfl)); exact rfl) | refine Zak ?_ | refine Zan ?_ | (refine Zag rfl (fun hb => ?_) (fun hb => ?_) <;> (repeat (first | replace hb := Zas hb | replace hb := Zat hb)) <;> (try (exfalso; omega)))))
         (refine Zcw 12 rfl ?_)
         all_goals ((apply Za4 0 rfl (by decide +kernel) rfl (by repeat (first | exact Za6)) Za0; (first | (apply Zam; first | exact Zad rfl rfl rfl)); exact rfl))
         all_goals ((apply Zay 1 rfl (by decide +kernel) rfl (by decide +kernel) (by repeat (exact Za6)) Za0; ((apply Za9; exact Zah (k := 1) rfl rfl rfl rfl)); exact rfl))
         all_goals ((apply Za4 2 rfl (by decide +kernel) rfl (by repeat (first | exact Za6)) Za0; (first | exact Za2 rfl); exact rfl))
         all_goals ((apply Za4 3 rfl (by decide +kernel) rfl (by repeat (first | exact Za6)) Za0; (first | (apply Zb3; first | exact Zb1 rfl rfl rfl)); exact rfl))
         all_goals ((apply Zay 4 rfl (by decide +kernel) rfl (by decide +kernel) (by repeat (exact Za6)) Za0; ((apply Za9; exact Zb4 rfl rfl)); exact rfl))
         all_goals ((apply Za4 5 rfl (by decide +kernel) rfl (by repeat (first | exact Za6)) Za0; (first | (apply Zam; first | exact Zad rfl rfl rfl)); exact rfl))
         all_goals ((apply Zay 6 rfl (by decide +kernel) rfl (by decide +kernel) (by repeat (exact Za6)) Za0; ((apply Za9; exact Zah (k := 0) rfl rfl rfl rfl)); exact rfl))
         all_goals ((apply Za4 7 rfl (by decide +kernel) rfl (by repeat (first | exact Za6)) Za0; (first | exact Za2 rfl); exact rfl))
         all_goals ((apply Za4 8 rfl (by decide +kernel) rfl (by repeat (first | exact Za6)) Za0; (first | (apply Zb3; first | exact Zb1 rfl rfl rfl)); exact rfl))
         all_goals ((apply Zay 9 rfl (by decide +kernel) rfl (by decide +kernel) (by repeat (exact Za6)) Za0; ((apply Za9; exact Zb4 rfl rfl)); exact rfl))
         all_goals ((apply Zbe 10; exact (by decide +kernel); exact rfl; exact Za0; exact (fun _ _ h => h); (apply Zaf; (refine Zbl Tryz.func32 rfl (r13sameTie_any _ _) rfl ?_; rintro _ _ ⟨rfl, rfl⟩))))
         all_goals ((apply Za4 11 rfl (by decide +kernel) rfl (by repeat (first | exact Za6)) Za0; (first | (apply g_un; first | exact Zcy rfl)); exact rfl))
         all_goals (refine Zbu (by decide +kernel) ?_)
         all_goals ((repeat' (first | refine Za7 ?_ | refine Za1 ?_ | refine Za3 ?_ | (apply Za8; (first | exact Za2 rfl | exact Za5 rfl | (apply Zai; exact Zbz rfl rfl)); exact rfl) | refine Zan ?_ | refine Zb2 ?_ | (refine Zag rfl (fun hb => ?_) (fun hb => ?_) <;> (repeat (first | replace hb := Zas hb | replace hb := Zat hb | replace hb := Zcc hb | replace hb := Zcb hb)) <;> (try (exfalso; fail))))))
         all_goals (try (exfalso; simp_all; done))
         refine ⟨.inr rfl, ret1 rfl (.tmp rfl) (List.nil_sublist _) ⟨congrArg exB ?_, rfl⟩⟩
         exact (decide_eq_false fun e => he (by subst e; rfl)).symm
     · have hk9 : i = x.ties.length := by omega
       subst hk9
       rw [List.take_length, h7, List.take_length] at htt
       (repeat' (first | refine Za7 ?_ | refine Za1 ?_ | refine Za3 ?_ | (apply Za8; (first | exact Za2 rfl | exact Za5 rfl | (apply Za9; exact Zah (k := 1) rfl rfl rfl rfl) | (apply Zam; exact Zad rfl rfl rfl) | (apply Zai; exact Zbg rfl rfl) | (apply Zba; exact Zbq rfl rfl)); exact rfl) | refine Zak ?_ | refine Zcf ?_ | (refine Zag rfl (fun hb => ?_) (fun hb => ?_) <;> (repeat (first | replace hb := Zas hb | replace hb := Zat hb)) <;> (try (exfalso; omega)))))
       all_goals (try (exfalso; omega))
       refine Zck (fun i : Nat => ([(2, ex (.pointer (some ⟨b1, 0, none⟩))), (3, ex (.pointer (some ⟨b2, 0, none⟩))), (7, exI .i64 (i : Int))], [row b2 29 9 (rulesV j y), row b1 29 9 (rulesV k x)])) (fun i => i ≤ x.rounds.length ∧ x.rounds.take i = y.rounds.take i) (fun i => x.rounds.length - i) 0 ?_ ⟨Nat.zero_le _, rfl⟩ fun i hi => ?_
       · exact Zaa (by repeat (first | exact Zaj | refine Zae rfl ?_)) (List.Sublist.refl _)
       obtain ⟨hi, htr⟩ := hi
       by_cases hlt : i < x.rounds.length
       · by_cases he : x.rounds[i] = y.rounds[i]'(by omega)
         · (repeat' (first | refine Za7 ?_ | refine Za1 ?_ | refine Za3 ?_ | (apply Za8; (first | exact Za2 rfl | (apply Za9; exact Zah (k := 1) rfl rfl rfl rfl) | (apply Zam; exact Zad rfl rfl rfl) | (apply Zai; exact Zbg rfl rfl) | (apply Zba; exact Zbq rfl rfl)); exact rfl) | refine Zak ?_ | refine Zan ?_ | (refine Zag rfl (fun hb => ?_) (fun hb => ?_) <;> (repeat (first | replace hb := Zas hb | replace hb := Zat hb)) <;> (try (exfalso; omega)))))
           (refine Zcw 12 rfl ?_)
           all_goals ((apply Za4 0 rfl (by decide +kernel) rfl (by repeat (first | exact Za6)) Za0; (first | (apply Zam; first | exact Zad rfl rfl rfl)); exact rfl))
           all_goals ((apply Zay 1 rfl (by decide +kernel) rfl (by decide +kernel) (by repeat (exact Za6)) Za0; ((apply Za9; exact Zah (k := 1) rfl rfl rfl rfl)); exact rfl))
           all_goals ((apply Za4 2 rfl (by decide +kernel) rfl (by repeat (first | exact Za6)) Za0; (first | exact Za2 rfl); exact rfl))
           all_goals ((apply Za4 3 rfl (by decide +kernel) rfl (by repeat (first | exact Za6)) Za0; (first | (apply Zb3; first | exact Zb1 rfl rfl rfl)); exact rfl))
           all_goals ((apply Zay 4 rfl (by decide +kernel) rfl (by decide +kernel) (by repeat (exact Za6)) Za0; ((apply Za9; exact Zb4 rfl rfl)); exact rfl))
           all_goals ((apply Za4 5 rfl (by decide +kernel) rfl (by repeat (first | exact Za6)) Za0; (first | (apply Zam; first | exact Zad rfl rfl rfl)); exact rfl))
           all_goals ((apply Zay 6 rfl (by decide +kernel) rfl (by decide +kernel) (by repeat (exact Za6)) Za0; ((apply Za9; exact Zah (k := 0) rfl rfl rfl rfl)); exact rfl))
           all_goals ((apply Za4 7 rfl (by decide +kernel) rfl (by repeat (first | exact Za6)) Za0; (first | exact Za2 rfl); exact rfl))
           all_goals ((apply Za4 8 rfl (by decide +kernel) rfl (by repeat (first | exact Za6)) Za0; (first | (apply Zb3; first | exact Zb1 rfl rfl rfl)); exact rfl))
           all_goals ((apply Zay 9 rfl (by decide +kernel) rfl (by decide +kernel) (by repeat (exact Za6)) Za0; ((apply Za9; exact Zb4 rfl rfl)); exact rfl))
           all_goals ((apply Zbe 10; exact (by decide +kernel); exact rfl; exact Za0; exact (fun _ _ h => h); (apply Zaf; (refine Zbl Tryz.func33 rfl (r13sameRound_any _ _ _ _) rfl ?_; rintro _ _ ⟨rfl, rfl⟩))))
           all_goals ((apply Za4 11 rfl (by decide +kernel) rfl (by repeat (first | exact Za6)) Za0; (first | (apply g_un; first | exact Zcy rfl)); exact rfl))
           all_goals (refine Zbu (by decide +kernel) ?_)
           all_goals ((repeat' (first | refine Za7 ?_ | refine Za1 ?_ | refine Za3 ?_ | (apply Za8; (first | exact Za2 rfl | exact Za5 rfl | (apply Zai; exact Zbz rfl rfl)); exact rfl) | refine Zan ?_ | refine Zb2 ?_ | (refine Zag rfl (fun hb => ?_) (fun hb => ?_) <;> (repeat (first | replace hb := Zas hb | replace hb := Zat hb | replace hb := Zcc hb | replace hb := Zcb hb)) <;> (try (exfalso; fail))))))
           all_goals (try (exfalso; simp_all; done))
           exact ⟨i + 1, ⟨by omega, by rw [List.take_succ_eq_append_getElem hlt, List.take_succ_eq_append_getElem (by omega), htr, he]⟩, by omega, Zaa (by repeat (first | exact Zaj | refine Zae rfl ?_)) (List.Sublist.refl _)⟩
         · (repeat' (first | refine Za7 ?_ | refine Za1 ?_ | refine Za3 ?_ | (apply Za8; (first | exact Za2 rfl | (apply Za9; exact Zah (k := 1) rfl rfl rfl rfl) | (apply Zam; exact Zad rfl rfl rfl) | (apply Zai; exact Zbg rfl rfl) | (apply Zba; exact Zbq rfl rfl)); exact rfl) | refine Zak ?_ | refine Zan ?_ | (refine Zag rfl (fun hb => ?_) (fun hb => ?_) <;> (repeat (first | replace hb := Zas hb | replace hb := Zat hb)) <;> (try (exfalso; omega)))))
           (refine Zcw 12 rfl ?_)
           all_goals ((apply Za4 0 rfl (by decide +kernel) rfl (by repeat (first | exact Za6)) Za0; (first | (apply Zam; first | exact Zad rfl rfl rfl)); exact rfl))
           all_goals ((apply Zay 1 rfl (by decide +kernel) rfl (by decide +kernel) (by repeat (exact Za6)) Za0; ((apply Za9; exact Zah (k := 1) rfl rfl rfl rfl)); exact rfl))
           all_goals ((apply Za4 2 rfl (by decide +kernel) rfl (by repeat (first | exact Za6)) Za0; (first | exact Za2 rfl); exact rfl))
           all_goals ((apply Za4 3 rfl (by decide +kernel) rfl (by repeat (first | exact Za6)) Za0; (first | (apply Zb3; first | exact Zb1 rfl rfl rfl)); exact rfl))
           all_goals ((apply Zay 4 rfl (by decide +kernel) rfl (by decide +kernel) (by repeat (exact Za6)) Za0; ((apply Za9; exact Zb4 rfl rfl)); exact rfl))
           all_goals ((apply Za4 5 rfl (by decide +kernel) rfl (by repeat (first | exact Za6)) Za0; (first | (apply Zam; first | exact Zad rfl rfl rfl)); exact rfl))
           all_goals ((apply Zay 6 rfl (by decide +kernel) rfl (by decide +kernel) (by repeat (exact Za6)) Za0; ((apply Za9; exact Zah (k := 0) rfl rfl rfl rfl)); exact rfl))
           all_goals ((apply Za4 7 rfl (by decide +kernel) rfl (by repeat (first | exact Za6)) Za0; (first | exact Za2 rfl); exact rfl))
           all_goals ((apply Za4 8 rfl (by decide +kernel) rfl (by repeat (first | exact Za6)) Za0; (first | (apply Zb3; first | exact Zb1 rfl rfl rfl)); exact rfl))
           all_goals ((apply Zay 9 rfl (by decide +kernel) rfl (by decide +kernel) (by repeat (exact Za6)) Za0; ((apply Za9; exact Zb4 rfl rfl)); exact rfl))
           all_goals ((apply Zbe 10; exact (by decide +kernel); exact rfl; exact Za0; exact (fun _ _ h => h); (apply Zaf; (refine Zbl Tryz.func33 rfl (r13sameRound_any _ _ _ _) rfl ?_; rintro _ _ ⟨rfl, rfl⟩))))
           all_goals ((apply Za4 11 rfl (by decide +kernel) rfl (by repeat (first | exact Za6)) Za0; (first | (apply g_un; first | exact Zcy rfl)); exact rfl))
           all_goals (refine Zbu (by decide +kernel) ?_)
           all_goals ((repeat' (first | refine Za7 ?_ | refine Za1 ?_ | refine Za3 ?_ | (apply Za8; (first | exact Za2 rfl | exact Za5 rfl | (apply Zai; exact Zbz rfl rfl)); exact rfl) | refine Zan ?_ | refine Zb2 ?_ | (refine Zag rfl (fun hb => ?_) (fun hb => ?_) <;> (repeat (first | replace hb := Zas hb | replace hb := Zat hb | replace hb := Zcc hb | replace hb := Zcb hb)) <;> (try (exfalso; fail))))))
           all_goals (try (exfalso; simp_all; done))
           refine ⟨.inr rfl, ret1 rfl (.tmp rfl) (List.nil_sublist _) ⟨congrArg exB ?_, rfl⟩⟩
           exact (decide_eq_false fun e => he (by subst e; rfl)).symm
       · have hk9 : i = x.rounds.length := by omega
         subst hk9
         rw [List.take_length, h4, List.take_length] at htr
         (repeat' (first | refine Za7 ?_ | refine Za1 ?_ | refine Za3 ?_ | (apply Za8; (first | exact Za2 rfl | exact Za5 rfl | exact Zb8 (b := true) rfl (fun _ => rfl) (fun e => by cases e) | exact Zb8 (b := false) rfl (fun e => by cases e) (fun _ => rfl) | (apply Za9; first | exact Zah (k := 0) rfl rfl rfl rfl | exact Zah (k := 1) rfl rfl rfl rfl) | (apply Zam; exact Zad rfl rfl rfl) | (apply Zai; exact Zbg rfl rfl) | (apply Zba; exact Zbq rfl rfl)); exact rfl) | (refine Zco rfl rfl rfl rfl rfl ?_) | (apply Zcn; exact rfl; exact rfl; exact rfl; (first | (apply Za9; first | exact Zah (k := 0) rfl rfl rfl rfl | exact Zah (k := 1) rfl rfl rfl rfl) | (apply Zam; exact Zad rfl rfl rfl) | (apply Zai; exact Zc4 rfl rfl)); exact rfl) | refine Zb2 ?_ | refine Zcf ?_ | (apply Zac; exact rfl; (apply Zaf; (refine Zbl Tryz.func34 rfl (r13sameInts_any _ _) rfl ?_; rintro _ _ ⟨rfl, rfl⟩))) | (apply Zdh; exact rfl; exact rfl; exact rfl; exact rfl; (apply Zaf; (refine Zbl Tryz.func34 rfl (r13sameInts_any _ _) rfl ?_; rintro _ _ ⟨rfl, rfl⟩))) | (refine Zby rfl rfl (fun hb => ?_) (fun hb => ?_) <;> (repeat (first | replace hb := Zas hb | replace hb := Zat hb)) <;> (try (exfalso; fail))) | (refine Zag rfl (fun hb => ?_) (fun hb => ?_) <;> (repeat (first | replace hb := Zas hb | replace hb := Zat hb)) <;> (try (exfalso; omega)))))
         all_goals (refine ⟨.inr rfl, ret1 rfl (.tmp rfl) (List.nil_sublist _) ⟨congrArg exB ?_, rfl⟩⟩)
         all_goals (rw [Bool.eq_iff_iff]; simp only [decide_eq_true_eq, rules_iff, Bool.false_eq_true, false_iff, *])
         all_goals simp
 · have hn : x ≠ y := fun e => h0 (by subst e; exact ⟨rfl, rfl, rfl, rfl, rfl, rfl⟩)
   rw [decide_eq_false hn]
   (repeat' (first | refine Za7 ?_ | refine Za1 ?_ | refine Za3 ?_ | (apply Za8; (first | exact Za2 rfl | exact Za5 rfl | exact Zb8 (b := true) rfl (fun _ => rfl) (fun e => by cases e) | exact Zb8 (b := false) rfl (fun e => by cases e) (fun _ => rfl) | (apply Za9; first | exact Zah (k := 0) rfl rfl rfl rfl | exact Zah (k := 1) rfl rfl rfl rfl) | (apply Zam; exact Zad rfl rfl rfl) | (apply Zai; exact WT_tne rfl rfl)); exact rfl) | (refine Zco rfl rfl rfl rfl rfl ?_) | (apply Zcn; exact rfl; exact rfl; exact rfl; (first | (apply Za9; first | exact Zah (k := 0) rfl rfl rfl rfl | exact Zah (k := 1) rfl rfl rfl rfl) | (apply Zam; exact Zad rfl rfl rfl) | (apply Zai; exact Zca rfl rfl) | (apply Zba; exact Zbq rfl rfl) | (apply g_un; exact Zcy rfl)); exact rfl) | refine Zak ?_ | refine Zan ?_ | refine Zb2 ?_ | refine Zaw rfl ?_ | (apply Zac; exact rfl; (apply Zdv; refine Zdn rfl ?_; intro _)) | (apply Zdh; exact rfl; exact rfl; exact rfl; exact rfl; (apply Zaf; (refine Zbl Tryz.func31 rfl (r13sameItems_any _ _) rfl ?_; rintro _ _ ⟨rfl, rfl⟩))) | (refine Zby rfl rfl (fun hb => ?_) (fun hb => ?_) <;> (repeat (first | replace hb := Zas hb | replace hb := Zat hb | replace hb := Zcc hb | replace hb := Zcb hb)) <;> (try (exfalso; fail))) | (refine Zag rfl (fun hb => ?_) (fun hb => ?_) <;> (repeat (first | replace hb := Zas hb | replace hb := Zat hb | replace hb := Zcc hb | replace hb := Zcb hb)) <;> (try (exfalso; fail)))))
   all_goals first | exact ⟨.inr rfl, ret1 rfl (.tmp rfl) (List.nil_sublist _) ⟨rfl, rfl⟩⟩ | (exfalso; refine h0 ⟨?_, ?_, ?_, ?_, ?_, ?_⟩ <;> first | assumption | omega)
end Go.Proofs.YthdldeenpgeemaaGreatDoor
namespace Go.Sx
open Go.Lx Go.Fr
abbrev sWhole : List UInt8 := [99, 111, 109, 112, 101, 116, 105, 116, 105, 111, 110, 32, 99, 117, 112, 32, 59, 32, 99, 114, 105, 116, 101, 114, 105, 111, 110, 32, 99, 32, 102, 114, 111, 109, 32, 48, 32, 116, 111, 32, 49, 48, 32, 115, 116, 101, 112, 32, 50, 32, 109, 101, 97, 110, 32, 116, 114, 105, 109, 32, 49, 32, 114, 101, 118, 101, 114, 115, 101, 32, 59, 32, 98, 111, 110, 117, 115, 32, 98, 32, 118, 97, 108, 117, 101, 32, 51, 32, 109, 111, 115, 116, 32, 50, 32, 59, 32, 109, 97, 108, 117, 115, 32, 109, 32, 118, 97, 108, 117, 101, 32, 52, 32, 109, 111, 115, 116, 32, 49, 32, 59, 32, 116, 105, 101, 32, 116, 32, 116, 111, 116, 97, 108, 32, 99, 32, 44, 32, 104, 105, 103, 104, 101, 115, 116, 32, 44, 32, 108, 111, 116, 32, 59, 32, 114, 111, 117, 110, 100, 32, 111, 110, 101, 32, 112, 97, 110, 101, 108, 32, 51, 32, 113, 117, 111, 116, 97, 32, 52, 32, 117, 110, 100, 101, 114, 32, 102, 114, 101, 101, 32, 115, 99, 111, 114, 101, 32, 99, 32, 45, 32, 40, 32, 98, 111, 110, 117, 115, 32, 43, 32, 49, 32, 47, 32, 50, 32, 42, 32, 109, 97, 108, 117, 115, 32, 41, 32, 116, 105, 101, 32, 116, 32, 59, 32, 114, 111, 117, 110, 100, 32, 116, 119, 111, 32, 112, 97, 110, 101, 108, 32, 51, 32, 113, 117, 111, 116, 97, 32, 49, 32, 108, 111, 116, 115, 32, 112, 108, 97, 99, 101, 115, 32, 59, 32, 112, 114, 105, 122, 101, 115, 32, 53, 48, 32, 44, 32, 50, 48, 32, 59, 32, 112, 111, 105, 110, 116, 115, 32, 53, 32, 44, 32, 51, 32, 98, 101, 115, 116, 32, 50, 32, 59]
abbrev sBegin : List UInt8 := [99, 111, 109, 112, 101, 116, 105, 116, 105, 111, 110, 32, 97, 59, 114, 111, 117, 110, 100, 32, 98, 32, 112, 97, 110, 101, 108, 32, 49, 32, 113, 117, 111, 116, 97, 32, 49, 32, 111, 118, 101, 114, 32, 115, 99, 111, 114, 101, 32]
abbrev sSrc2 : List UInt8 := [99, 111, 109, 112, 101, 116, 105, 116, 105, 111, 110, 32, 97, 59, 114, 111, 117, 110, 100, 32, 98, 32, 112, 97, 110, 101, 108, 32, 49, 32, 113, 117, 111, 116, 97, 32, 49, 32, 111, 118, 101, 114, 32, 115, 99, 111, 114, 101, 40, 99, 43, 40, 50, 47, 49, 42, 40, 100, 41, 41, 41, 116, 105, 101, 32, 116, 59]
abbrev sShort : List UInt8 := [99, 111, 109, 112, 101, 116, 105, 116, 105, 111, 110, 32, 97, 32, 59, 32, 114, 111, 117, 110, 100, 32, 98, 32, 112, 97, 110, 101, 108, 32, 49, 32, 113, 117, 111, 116, 97, 32, 49, 32, 111, 118, 101, 114, 32, 115, 99, 111, 114, 101, 32, 99, 32, 43, 32, 50, 32, 42, 32, 100, 32, 116, 105, 101, 32, 116, 32, 59]
abbrev sOne : List UInt8 := [99, 111, 109, 112, 101, 116, 105, 116, 105, 111, 110, 32, 97, 59]
abbrev casesS : List (List UInt8 × Int) := [([], 0), ([99, 111, 109, 112, 101, 116, 105, 116, 105, 111, 110, 32, 97, 59, 112, 114, 105, 122, 101, 115, 32, 49, 59, 114, 111, 117, 110, 100], 23), ([99, 111, 109, 112, 101, 116, 105, 116, 105, 111, 110, 32, 115, 117, 109, 59], 12), ([99, 111, 109, 112, 101, 116, 105, 116, 105, 111, 110, 32, 97, 59, 114, 111, 117, 110, 100, 32, 98, 32, 112, 97, 110, 101, 108, 32, 49, 32, 113, 117, 111, 116, 97, 32, 49, 32, 111, 118, 101, 114, 32, 115, 99, 111, 114, 101, 32, 49, 47, 48, 59], 51)]
abbrev sDeep : List UInt8 := sBegin ++ List.replicate 16 40 ++ [49] ++ List.replicate 16 41 ++ [59]
abbrev sDeep2 : List UInt8 := sBegin ++ List.replicate 17 40
def rOne : RulesD := { zeroR with name := [97] }
def rSrc2 : RulesD := { zeroR with name := [97], rounds := [⟨[98], 1, 1, 1, false, false, .mk 6 [] 0 0 [.mk 2 [99] 0 0 [], .mk 8 [] 2 1 [.mk 2 [100] 0 0 []]], [116], 0⟩] }
def rDeep : RulesD := { zeroR with name := [97], rounds := [⟨[98], 1, 1, 1, false, false, .mk 1 [] 1 1 [], [], -1⟩] }
set_option maxRecDepth 100000 in
theorem sane_cases : ∀ q ∈ casesS, (parseA q.1).2.1 = q.2 ∧ (parseA q.1).2.2 = 130 := by decide +kernel
set_option maxRecDepth 100000 in
theorem sane_deep : parseA sDeep = (rDeep, 0, 0) := by decide +kernel
set_option maxRecDepth 100000 in
theorem sane_deep2 : (parseA sDeep2).2 = (65, 130) := by decide +kernel
set_option maxRecDepth 100000 in
theorem sane_whole : parseA sWhole = (declR, 0, 0) := by decide +kernel
set_option maxRecDepth 100000 in
theorem sane_print : printA declR = (sWhole, 0) := by decide +kernel
set_option maxRecDepth 100000 in
theorem sane_one : parseA sOne = (rOne, 0, 0) := by decide +kernel
set_option maxRecDepth 100000 in
theorem sane_src2 : parseA sSrc2 = (rSrc2, 0, 0) := by decide +kernel
set_option maxRecDepth 100000 in
theorem sane_short : printA rSrc2 = (sShort, 0) := by decide +kernel
set_option maxRecDepth 100000 in
theorem sane_zero : printA zeroR = ([], 130) := by decide +kernel
end Go.Sx
namespace Go.Proofs
open Go.Shelf
def Tryz.lays105_ren : Go.Shelf.Ren := ⟨fun | 105 => 25 | 212 => 77 | 99 => 20 | 165 => 78 | 166 => 79 | 170 => 80 | 169 => 81 | 263 => 141 | 264 => 142 | 206 => 52 | 240 => 143 | 241 => 144 | 276 => 181 | 277 => 182 | n => n, fun | 9 => 9 | 3 => 3 | 4 => 4 | 20 => 20 | 0 => 0 | 46 => 45 | 109 => 125 | 5 => 5 | 72 => 130 | 76 => 134 | 51 => 193 | 146 => 194 | 53 => 196 | 148 => 197 | 70 => 127 | 37 => 128 | 75 => 133 | 127 => 199 | 164 => 236 | 80 => 137 | n => n, fun | n => n⟩
theorem Tryz.lays105 : Go.Proofs.Lays.n105 Tryz.prog Tryz.lays105_ren := {
 mixed := by kernel_rfl
 f99 := Tryz.func20.trans (congrArg some (by kernel_rfl))
 f105 := Tryz.func25.trans (congrArg some (by kernel_rfl))
 f165 := Tryz.func78.trans (congrArg some (by kernel_rfl))
 f166 := Tryz.func79.trans (congrArg some (by kernel_rfl))
 f169 := Tryz.func81.trans (congrArg some (by kernel_rfl))
 f170 := Tryz.func80.trans (congrArg some (by kernel_rfl))
 f206 := Tryz.func52.trans (congrArg some (by kernel_rfl))
 f212 := Tryz.func77.trans (congrArg some (by kernel_rfl))
 f240 := Tryz.func143.trans (congrArg some (by kernel_rfl))
 f241 := Tryz.func144.trans (congrArg some (by kernel_rfl))
 f263 := Tryz.func141.trans (congrArg some (by kernel_rfl))
 f264 := Tryz.func142.trans (congrArg some (by kernel_rfl))
 f276 := Tryz.func181.trans (congrArg some (by kernel_rfl))
 f277 := Tryz.func182.trans (congrArg some (by kernel_rfl))
 t0 := Tryz.underlying0
 a0 := Tryz.isAgg0
 z0 := Tryz.sizeOf0
 v0 := Tryz.zeroValue0
 t3 := Tryz.underlying3
 a3 := Tryz.isAgg3
 z3 := Tryz.sizeOf3
 v3 := Tryz.zeroValue3
 t4 := Tryz.underlying4
 a4 := Tryz.isAgg4
 z4 := Tryz.sizeOf4
 v4 := Tryz.zeroValue4
 t5 := Tryz.underlying5
 a5 := Tryz.isAgg5
 z5 := Tryz.sizeOf5
 v5 := Tryz.zeroValue5
 t9 := Tryz.underlying9
 a9 := Tryz.isAgg9
 z9 := Tryz.sizeOf9
 v9 := Tryz.zeroValue9
 t20 := Tryz.underlying20
 a20 := Tryz.isAgg20
 z20 := Tryz.sizeOf20
 v20 := Tryz.zeroValue20
 t37 := Tryz.underlying128
 a37 := Tryz.isAgg128
 z37 := Tryz.sizeOf128
 v37 := Tryz.zeroValue128
 t46 := Tryz.underlying45
 a46 := Tryz.isAgg45
 z46 := Tryz.sizeOf45
 v46 := Tryz.zeroValue45
 t51 := Tryz.underlying193
 a51 := Tryz.isAgg193
 z51 := Tryz.sizeOf193
 v51 := Tryz.zeroValue193
 t53 := Tryz.underlying196
 a53 := Tryz.isAgg196
 z53 := Tryz.sizeOf196
 v53 := Tryz.zeroValue196
 t70 := Tryz.underlying127
 a70 := Tryz.isAgg127
 z70 := Tryz.sizeOf127
 v70 := Tryz.zeroValue127
 t72 := Tryz.underlying130
 a72 := Tryz.isAgg130
 z72 := Tryz.sizeOf130
 v72 := Tryz.zeroValue130
 t75 := Tryz.underlying133
 a75 := Tryz.isAgg133
 z75 := Tryz.sizeOf133
 v75 := Tryz.zeroValue133
 t76 := Tryz.underlying134
 a76 := Tryz.isAgg134
 z76 := Tryz.sizeOf134
 v76 := Tryz.zeroValue134
 t109 := Tryz.underlying125
 a109 := Tryz.isAgg125
 z109 := Tryz.sizeOf125
 v109 := Tryz.zeroValue125
 t127 := Tryz.underlying199
 a127 := Tryz.isAgg199
 z127 := Tryz.sizeOf199
 v127 := Tryz.zeroValue199
 t146 := Tryz.underlying194
 a146 := Tryz.isAgg194
 z146 := Tryz.sizeOf194
 v146 := Tryz.zeroValue194
 t148 := Tryz.underlying197
 a148 := Tryz.isAgg197
 z148 := Tryz.sizeOf197
 v148 := Tryz.zeroValue197
 t164 := Tryz.underlying236
 a164 := Tryz.isAgg236
 z164 := Tryz.sizeOf236
 v164 := Tryz.zeroValue236 }
theorem Tryz.Builder_Extra_105 : Builder.Extra Tryz.prog Tryz.lays105_ren := {
 sizeBuilder := by kernel_rfl
 liesBuilder := by kernel_rfl
 t5 := Tryz.underlying5
 a5 := Tryz.isAgg5
 z5 := Tryz.sizeOf5
 v5 := Tryz.zeroValue5
 infoByte := by kernel_rfl
 cellsByte := by kernel_rfl
 sizeByte := by kernel_rfl
 neB5 := by decide }
open Go.RowKit Go.Lib in
theorem Tryz.strings_Repeat (s : ByteArray) (c : Nat) (w : World) (hc : c ≤ 9223372036854775807) (hlen : s.size * c ≤ 140737488355328) :
   Calls Tryz.prog 25 #[.string s, .int .i64 c] w fun e w' => e = .returned (.string ⟨(Lib.repeatL s.data.toList c).toArray⟩) ∧ Below w.heap.size w w' := Any.strings_Repeat Tryz.lays105 Tryz.Builder_Extra_105 s c w hc hlen
end Go.Proofs
namespace Go.Proofs.YthdldeenpgeemaaGreatDoor
open Go Go.RowKit Go.Kx Go.Fr Go.Lx Go.Sx
set_option maxHeartbeats 4000000 in
set_option maxRecDepth 100000 in
theorem declared13_any : FnC Tryz.prog 26 [] [] (fun p loc => p = agg (rulesV 4 declR) ∧ loc = []) := by
 refine Zbr Tryz.func26 rfl Tryz.ntmps26 rfl fun w0 F0 out => ?_
 (repeat' (first | (apply Zaq 5; refine WPL_frowi (k := 0) (E := eEx 1) (t := 4) [.mk 4 [] 0 0 []] rfl rfl (by repeat (first | exact Ims.nil | refine Ims.cons Im.nil ?_ | refine Ims.cons (Im.refl _) ?_)) rfl ?_ (hc := by decide) (hby := by decide)) | (apply Zaq 7; refine WPL_frowi (k := 0) (E := eEx 2) (t := 6) [.mk 3 [] 0 0 [], .mk 8 [] 1 2 [.mk 4 [] 0 0 []]] rfl rfl (by repeat (first | exact Ims.nil | refine Ims.cons Im.nil ?_ | refine Ims.cons (Im.refl _) ?_)) rfl ?_ (hc := by decide) (hby := by decide)) | (apply Zaq 10; refine WPL_frowi (k := 0) (E := eCrit) (t := 9) declR.crits rfl rfl (by repeat (first | exact Ims.nil | refine Ims.cons (Im.refl _) ?_)) rfl ?_ (hc := by decide) (hby := by decide)) | (apply Zaq 12; refine WPL_frowi (k := 0) (E := eItem) (t := 11) declR.bonus rfl rfl (by repeat (first | exact Ims.nil | refine Ims.cons (Im.refl _) ?_)) rfl ?_ (hc := by decide) (hby := by decide)) | (apply Zaq 14; refine WPL_frowi (k := 0) (E := eItem) (t := 13) declR.malus rfl rfl (by repeat (first | exact Ims.nil | refine Ims.cons (Im.refl _) ?_)) rfl ?_ (hc := by decide) (hby := by decide)) | (apply Zaq 18; refine WPL_frowi (k := 0) (E := eKey) (t := 17) [⟨1, [99], 0⟩, ⟨3, [], 0⟩, ⟨6, [], 0⟩] rfl rfl (by repeat (first | exact Ims.nil | refine Ims.cons (Im.refl _) ?_)) rfl ?_ (hc := by decide) (hby := by decide)) | (apply Zaq 20; refine WPL_frowi (k := 0) (E := eTie) (t := 19) declR.ties rfl rfl (by repeat (first | exact Ims.nil | refine Ims.cons (Im.refl _) ?_)) rfl ?_ (hc := by decide) (hby := by decide)) | (apply Zaq 23; refine WPL_frowi (k := 0) (E := eEx 3) (t := 22) [.mk 2 [99] 0 0 [], .mk 6 [] 0 0 [.mk 3 [] 0 0 [], .mk 8 [] 1 2 [.mk 4 [] 0 0 []]]] rfl rfl (by repeat (first | exact Ims.nil | refine Ims.cons Im.nil ?_ | refine Ims.cons (Im.refl _) ?_)) rfl ?_ (hc := by decide) (hby := by decide)) | (apply Zaq 27; refine WPL_frowi (k := 0) (E := eRound 4) (t := 26) declR.rounds rfl rfl (by repeat (first | exact Ims.nil | refine Ims.cons Im.nil ?_ | refine Ims.cons (Im.refl _) ?_)) rfl ?_ (hc := by decide) (hby := by decide)) | (apply Zaq 28; refine WPL_frowi (k := 0) (E := eI) (t := 27) declR.prizes rfl rfl (by repeat (first | exact Ims.nil | refine Ims.cons (Im.refl _) ?_)) rfl ?_ (hc := by decide) (hby := by decide)) | (apply Zaq 29; refine WPL_frowi (k := 0) (E := eI) (t := 28) declR.points rfl rfl (by repeat (first | exact Ims.nil | refine Ims.cons (Im.refl _) ?_)) rfl ?_ (hc := by decide) (hby := by decide)) | refine Za7 ?_ | refine Za1 ?_ | refine Za3 ?_ | (apply Za8; (first | (apply Za9; exact Zbm (k := 0) rfl rfl rfl) | (apply Zcz; exact Zcg rfl rfl (by repeat (first | exact PartsO.nil | (apply PartsO.cons; exact rfl; exact inferInstance; exact rfl; exact rfl))))); exact rfl) | refine Zb2 ?_ | (apply Zac; exact rfl; first | (apply Zbs; refine Zbh ?_; intro _) | (apply Zaz; first | refine Zao (k := 0) (l0 := []) rfl rfl rfl ?_ | refine Zao (k := 1) (l0 := []) rfl rfl rfl ?_) | (apply Zb6; (first | refine Zbf rfl rfl ?_ | refine Zbx rfl (by repeat (first | exact PartsO.nil | (apply PartsO.cons; exact rfl; exact inferInstance; exact rfl; exact rfl))) ?_); intro _))))
 refine ⟨.inr rfl, retw (loc' := []) (ret1 rfl (by first | exact .cella (k := 0) rfl rfl rfl rfl inferInstance rfl | exact .cella (k := 1) rfl rfl rfl rfl inferInstance rfl) (List.nil_sublist _) ⟨rfl, rfl⟩) ?_ ⟨rfl, rfl⟩⟩
 exact Ims.agg (by repeat (first | exact Ims.nil | refine Ims.cons Im.nil ?_ | refine Ims.cons (Im.refl _) ?_))
theorem repeat_any (s : List UInt8) (c : Nat) (hc : c ≤ 1000000) (hs : s.length ≤ 1000) : FnC Tryz.prog 25 [exT s, exI .i64 (c : Int)] [] (fun p loc => p = exT (Lib.repeatL s c) ∧ loc = []) := by
 refine FnC_of fun F w vals h => ?_
 obtain ⟨v, u, rfl, rfl, rfl⟩ := h.two
 have hm : s.length * c ≤ 1000 * 1000000 := Nat.mul_le_mul hs hc
 refine (Tryz.strings_Repeat ⟨s.toArray⟩ c w (by omega) (by show s.toArray.size * c ≤ _; rw [List.size_toArray]; omega)).mono ?_
 rintro e w' ⟨rfl, hb⟩
 exact ⟨_, _, rfl, ⟨rfl, rfl⟩, rfl, hb⟩
end Go.Proofs.YthdldeenpgeemaaGreatDoor
namespace Go.Fr
open Go.RowKit Go.Kx
def caseV (q : List UInt8 × Int) : List SP := [exT q.1, exI .i64 q.2]
instance {q : List UInt8 × Int} : Scs (caseV q) := by unfold caseV; infer_instance
instance : LenS caseV 2 := ⟨fun _ => rfl⟩
abbrev eCase : Enc (List UInt8 × Int) := encS caseV 2 24
end Go.Fr
namespace Go.Proofs.YthdldeenpgeemaaGreatDoor
open Go Go.RowKit Go.Kx Go.Fr Go.Lx Go.Sx
set_option maxHeartbeats 4000000 in
set_option maxRecDepth 100000 in
theorem sane13_any : FnC Tryz.prog 10 [] [Lab] (fun p loc => p = exB true ∧ loc = []) := by
 refine Zbr Tryz.func10 rfl Tryz.ntmps10 rfl fun w0 F0 out => ?_
 (repeat' (first | (apply Zaq 33; refine Zbp (k := 0) (E := eCase) (t := 32) casesS rfl rfl rfl rfl ?_ (hc := by decide) (hby := by decide)) | refine Za7 ?_ | refine Za1 ?_ | refine Za3 ?_ | (apply Za8; (first | exact Za2 rfl | exact Za5 rfl | (apply Zba; exact Zbq rfl rfl) | (apply Zcz; exact Zcg rfl rfl (by repeat (first | exact PartsO.nil | (apply PartsO.cons; exact rfl; exact inferInstance; exact rfl; exact rfl))))); exact rfl) | refine Zak ?_ | (apply Zac; exact rfl; (apply Zb6; (refine Zbx rfl (by repeat (first | exact PartsO.nil | (apply PartsO.cons; exact rfl; exact inferInstance; exact rfl; exact rfl))) ?_); intro _))))
 refine Zck (fun i : Nat => ([(32, isl eCase casesS), (33, exI .i64 4), (34, exI .i64 (i : Int))], [Lab])) (fun i => i ≤ 4) (fun i => 4 - i) 0 ?_ (Nat.zero_le _) fun i hi => ?_
 · exact Zaa (by repeat (first | exact Zaj | refine Zae rfl ?_)) (List.Sublist.refl _)
 have hcl : casesS.length = 4 := rfl
 by_cases hlt : i < 4
 · have hq := sane_cases (casesS[i]) (List.getElem_mem _)
   have hc := parse13_any (casesS[i]).1
   generalize parseA (casesS[i]).1 = z at hc hq
   obtain ⟨h1, h2⟩ := hq
   (repeat' (first | refine Za7 ?_ | refine Za1 ?_ | refine Za3 ?_ | (apply Za8; (first | exact Za2 rfl | exact Za5 rfl | exact Zb8 (b := false) rfl (fun e => by cases e) (fun _ => rfl) | exact Zbw rfl rfl | (apply Za9; first | exact Zah (k := 0) rfl rfl rfl rfl | exact Zb4 rfl rfl) | (apply Zam; exact Zad rfl rfl rfl) | (apply Zai; first | exact Zbg rfl rfl | exact Zca rfl rfl | exact Zbz rfl rfl) | (apply Zb3; exact Zb1 rfl rfl rfl)); exact rfl) | (apply Zcn; exact rfl; exact rfl; exact rfl; (first | exact Za2 rfl | (apply Za9; exact Zah (k := 1) rfl rfl rfl rfl) | (apply Zam; exact Zad rfl rfl rfl) | (apply Zai; exact Zca rfl rfl)); exact rfl) | refine Zak ?_ | refine Zan ?_ | (apply Zac; exact rfl; first | (apply Zaf; (refine Zab (.dup 1 rfl rfl .nil) Tryz.func11 rfl hc rfl ?_; rintro _ _ ⟨⟨kz, rfl⟩, rfl⟩)) | (apply Zbs; refine Zbh ?_; intro _) | (apply Zaz; refine Zao (k := 0) (l0 := []) rfl rfl rfl ?_)) | (refine Zby rfl rfl (fun hb => ?_) (fun hb => ?_) <;> (repeat (first | replace hb := Zas hb | replace hb := Zat hb | replace hb := Zcc hb | replace hb := Zcb hb)) <;> (try (exfalso; contradiction))) | (refine Zag rfl (fun hb => ?_) (fun hb => ?_) <;> (repeat (first | replace hb := Zas hb | replace hb := Zat hb | replace hb := Zcc hb | replace hb := Zcb hb)) <;> (try (exfalso; first | contradiction | omega)))))
   all_goals (try (exfalso; first | contradiction | omega))
   exact ⟨i + 1, by show i + 1 ≤ 4; omega, by show 4 - (i + 1) < 4 - i; omega, Zaa (by repeat (first | exact Zaj | refine Zae rfl ?_)) (by first | exact .cons _ (.cons _ (.refl _)) | exact .cons _ (.refl _))⟩
 have hd := parse13_any sDeep
 rw [sane_deep] at hd
 have hd2 := parse13_any sDeep2
 have hz2 := sane_deep2
 generalize parseA sDeep2 = z2 at hd2 hz2
 obtain ⟨z2r, z2a, z2e⟩ := z2
 injection hz2 with hz2a hz2e
 subst hz2a hz2e
 have hw := parse13_any sWhole
 rw [sane_whole] at hw
 have ho := parse13_any sOne
 rw [sane_one] at ho
 have hs := parse13_any sSrc2
 rw [sane_src2] at hs
 have hP1 := print13_any 4 declR (by decide +kernel)
 rw [sane_print] at hP1
 have hP2 := fun k => print13_any k rSrc2 (by decide +kernel)
 rw [sane_short] at hP2
 have hP3 : FnC Tryz.prog 15 [agg [ex (.string ⟨#[]⟩), ex (.slice none 0 0), ex (.slice none 0 0), ex (.slice none 0 0), ex (.slice none 0 0), ex (.slice none 0 0), ex (.slice none 0 0), ex (.slice none 0 0), exI .i64 0]] [Lab] (fun p loc => p = textV ([], 130) ∧ loc = []) := by
   have h := print13_any 1 zeroR (by decide +kernel)
   rw [sane_zero] at h
   exact FnC_args h (.cons (Ims.agg zero_im) .nil)
 have hr1 := repeat_any [40] 16 (by decide) (by decide)
 have hr2 := repeat_any [41] 16 (by decide) (by decide)
 have hr3 := repeat_any [40] 17 (by decide) (by decide)
 rw [show Lib.repeatL [40] 16 = List.replicate 16 40 from rfl] at hr1
 rw [show Lib.repeatL [41] 16 = List.replicate 16 41 from rfl] at hr2
 rw [show Lib.repeatL [40] 17 = List.replicate 17 40 from rfl] at hr3
 (repeat' (first | (apply Zci 9; refine StopW.out ?_) | refine Za7 ?_ | refine Za1 ?_ | refine Za3 ?_ | (apply Za8; (first | exact Za5 rfl | (apply Zai; exact Zbg rfl rfl)); exact rfl) | refine Zcf ?_ | (refine Zag rfl (fun hb => ?_) (fun hb => ?_) <;> (repeat (first | replace hb := Zas hb | replace hb := Zat hb)) <;> (try (exfalso; omega)))))
 refine ⟨?_⟩
 refine Zbc (env' := [(6, exT sBegin)]) (loc' := [Lab]) (Zaa (by repeat (first | exact Zaj | refine Zae rfl ?_)) (List.Sublist.refl _)) ?_
 (repeat' (first | (apply Zci 10; refine StopW.out ?_) | (apply Za8; (apply Zai; exact WT_catT rfl rfl (by (simp; done))); exact rfl) | refine Za7 ?_ | refine Za1 ?_ | refine Za3 ?_ | (apply Za8; (first | exact Za2 rfl | exact Za5 rfl | exact Zbw rfl rfl); exact rfl) | (apply Zac; exact rfl; first | (apply Zaf; first | (refine Zbl Tryz.func25 rfl hr1 rfl ?_; rintro _ _ ⟨rfl, rfl⟩) | (refine Zbl Tryz.func25 rfl hr2 rfl ?_; rintro _ _ ⟨rfl, rfl⟩) | (refine Zab (.dup 0 rfl rfl .nil) Tryz.func11 rfl hd rfl ?_; rintro _ _ ⟨⟨k1, rfl⟩, rfl⟩)) | (apply Zbs; refine Zbh ?_; intro _) | (apply Zaz; refine Zao (k := 0) (l0 := []) rfl rfl rfl ?_))))
 refine ⟨?_⟩
 refine Zbc (Leads_fp (k := 0) (t := 7) rfl rfl) ?_
 refine Zbc (env' := [(6, exT sBegin), (7, fp (rulesV k1 rDeep)), (8, exI .i64 0), (9, exI .i64 0)]) (loc' := [Lab]) (Zaa (by repeat (first | exact Zaj | refine Zae rfl ?_)) (by first | exact List.Sublist.refl _ | exact .cons _ (.refl _))) ?_
 (repeat' (first | (apply Zci 11; refine StopW.out ?_) | (apply Za8; (apply Zai; exact WT_catT rfl rfl (by (simp; done))); exact rfl) | refine Za7 ?_ | refine Za1 ?_ | refine Za3 ?_ | (apply Za8; (first | exact Za2 rfl | exact Za5 rfl | exact Zbw rfl rfl); exact rfl) | (apply Zac; exact rfl; first | (apply Zaf; first | (refine Zbl Tryz.func25 rfl hr3 rfl ?_; rintro _ _ ⟨rfl, rfl⟩) | (refine Zab (.dup 0 rfl rfl .nil) Tryz.func11 rfl hd2 rfl ?_; rintro _ _ ⟨⟨k2, rfl⟩, rfl⟩)) | (apply Zbs; refine Zbh ?_; intro _) | (apply Zaz; refine Zao (k := 0) (l0 := []) rfl rfl rfl ?_))))
 refine ⟨?_⟩
 refine Zbc (env' := [(6, exT sBegin), (7, fp (rulesV k1 rDeep)), (8, exI .i64 0), (9, exI .i64 0), (11, exI .i64 65), (12, exI .i64 130)]) (loc' := [Lab]) (Zaa (by repeat (first | exact Zaj | refine Zae rfl ?_)) (by first | exact List.Sublist.refl _ | exact .cons _ (.refl _))) ?_
 have hsl : sBegin.length = 49 := rfl
 generalize sBegin = sb at hsl ⊢
 (repeat' (first | (apply Zci 12; refine StopW.out ?_) | refine Za7 ?_ | refine Za1 ?_ | refine Za3 ?_ | (apply Za8; (first | exact Za2 rfl | exact Za5 rfl | exact Zbw rfl rfl); exact rfl) | (apply Zac; exact rfl; first | (apply Zaf; (refine Zab (.dup 0 rfl rfl .nil) Tryz.func11 rfl hw rfl ?_; rintro _ _ ⟨⟨k3, rfl⟩, rfl⟩)) | (apply Zbs; refine Zbh ?_; intro _) | (apply Zaz; refine Zao (k := 0) (l0 := []) rfl rfl rfl ?_))))
 refine ⟨?_⟩
 refine Zbc (Leads_fp (k := 0) (t := 13) rfl rfl) ?_
 refine Zbc (env' := [(6, exT sb), (7, fp (rulesV k1 rDeep)), (8, exI .i64 0), (9, exI .i64 0), (11, exI .i64 65), (12, exI .i64 130), (13, fp (rulesV k3 declR)), (15, exI .i64 0)]) (loc' := [Lab]) (Zaa (by repeat (first | exact Zaj | refine Zae rfl ?_)) (by first | exact List.Sublist.refl _ | exact .cons _ (.refl _))) ?_
 (repeat' (first | (apply Zci 13; refine StopW.out ?_) | refine Za7 ?_ | refine Za1 ?_ | refine Za3 ?_ | (apply Za8; (first | exact Za2 rfl | exact Za5 rfl | exact Zbw rfl rfl); exact rfl) | (apply Zac; exact rfl; (apply Zaf; first | (refine Zbl Tryz.func26 rfl declared13_any rfl ?_; rintro _ _ ⟨rfl, rfl⟩) | (refine Zab (.dup 0 rfl rfl .nil) Tryz.func15 rfl hP1 rfl ?_; rintro _ _ ⟨rfl, rfl⟩)))))
 refine ⟨?_⟩
 refine Zbc (env' := [(6, exT sb), (7, fp (rulesV k1 rDeep)), (8, exI .i64 0), (9, exI .i64 0), (11, exI .i64 65), (12, exI .i64 130), (13, fp (rulesV k3 declR)), (15, exI .i64 0), (16, exT sWhole), (17, exI .i64 0)]) (loc' := [Lab]) (Zaa (by repeat (first | exact Zaj | refine Zae rfl ?_)) (by first | exact List.Sublist.refl _ | exact .cons _ (.refl _))) ?_
 (repeat' (first | (apply Zci 14; refine StopW.out ?_) | refine Za7 ?_ | refine Za1 ?_ | refine Za3 ?_ | (apply Za8; (first | exact Za2 rfl | exact Za5 rfl | exact Zbw rfl rfl); exact rfl) | (apply Zac; exact rfl; first | (apply Zaf; (refine Zab (.dup 0 rfl rfl .nil) Tryz.func11 rfl ho rfl ?_; rintro _ _ ⟨⟨k4, rfl⟩, rfl⟩)) | (apply Zbs; refine Zbh ?_; intro _) | (apply Zaz; refine Zao (k := 0) (l0 := []) rfl rfl rfl ?_))))
 refine ⟨?_⟩
 refine Zbc (Leads_fp (k := 0) (t := 18) rfl rfl) ?_
 refine Zbc (env' := [(6, exT sb), (7, fp (rulesV k1 rDeep)), (8, exI .i64 0), (9, exI .i64 0), (11, exI .i64 65), (12, exI .i64 130), (13, fp (rulesV k3 declR)), (15, exI .i64 0), (16, exT sWhole), (17, exI .i64 0), (18, fp (rulesV k4 rOne)), (20, exI .i64 0)]) (loc' := [Lab]) (Zaa (by repeat (first | exact Zaj | refine Zae rfl ?_)) (by first | exact List.Sublist.refl _ | exact .cons _ (.refl _))) ?_
 (repeat' (first | (apply Zci 15; refine StopW.out ?_) | refine Za7 ?_ | refine Za1 ?_ | refine Za3 ?_ | (apply Za8; (first | exact Za2 rfl | exact Za5 rfl | exact Zbw rfl rfl); exact rfl) | (apply Zac; exact rfl; first | (apply Zaf; (refine Zab (.dup 0 rfl rfl .nil) Tryz.func11 rfl hs rfl ?_; rintro _ _ ⟨⟨k5, rfl⟩, rfl⟩)) | (apply Zbs; refine Zbh ?_; intro _) | (apply Zaz; refine Zao (k := 0) (l0 := []) rfl rfl rfl ?_))))
 refine ⟨?_⟩
 refine Zbc (Leads_fp (k := 0) (t := 21) rfl rfl) ?_
 refine Zbc (env' := [(6, exT sb), (7, fp (rulesV k1 rDeep)), (8, exI .i64 0), (9, exI .i64 0), (11, exI .i64 65), (12, exI .i64 130), (13, fp (rulesV k3 declR)), (15, exI .i64 0), (16, exT sWhole), (17, exI .i64 0), (18, fp (rulesV k4 rOne)), (20, exI .i64 0), (21, fp (rulesV k5 rSrc2)), (23, exI .i64 0)]) (loc' := [Lab]) (Zaa (by repeat (first | exact Zaj | refine Zae rfl ?_)) (by first | exact List.Sublist.refl _ | exact .cons _ (.refl _))) ?_
 (repeat' (first | (apply Zci 16; refine StopW.out ?_) | refine Za7 ?_ | refine Za1 ?_ | refine Za3 ?_ | (apply Za8; (first | exact Za2 rfl | exact Za5 rfl | exact Zbw rfl rfl | (apply Za9; exact Zb4 rfl rfl)); exact rfl) | (apply Zac; exact rfl; (apply Zaf; (refine Zab (.dup 0 rfl rfl .nil) Tryz.func15 rfl (hP2 k5) rfl ?_; rintro _ _ ⟨rfl, rfl⟩)))))
 refine ⟨?_⟩
 refine Zbc (env' := [(6, exT sb), (7, fp (rulesV k1 rDeep)), (8, exI .i64 0), (9, exI .i64 0), (11, exI .i64 65), (12, exI .i64 130), (13, fp (rulesV k3 declR)), (15, exI .i64 0), (16, exT sWhole), (17, exI .i64 0), (18, fp (rulesV k4 rOne)), (20, exI .i64 0), (21, fp (rulesV k5 rSrc2)), (23, exI .i64 0), (24, exT sShort), (25, exI .i64 0)]) (loc' := [Lab]) (Zaa (by repeat (first | exact Zaj | refine Zae rfl ?_)) (by first | exact List.Sublist.refl _ | exact .cons _ (.refl _))) ?_
 (repeat' (first | (apply Zci 17; refine StopW.out ?_) | refine Za7 ?_ | refine Za1 ?_ | refine Za3 ?_ | (apply Za8; (first | exact Za2 rfl | exact Za5 rfl | exact Zbw rfl rfl | (apply Zcz; exact Zcg rfl rfl (by repeat (exact PartsO.nil)))); exact rfl) | (apply Zac; exact rfl; (apply Zaf; (refine Zab (.dup 0 rfl rfl .nil) Tryz.func15 rfl hP3 rfl ?_; rintro _ _ ⟨rfl, rfl⟩)))))
 refine ⟨?_⟩
 refine Zbc (env' := [(6, exT sb), (7, fp (rulesV k1 rDeep)), (8, exI .i64 0), (9, exI .i64 0), (11, exI .i64 65), (12, exI .i64 130), (13, fp (rulesV k3 declR)), (15, exI .i64 0), (16, exT sWhole), (17, exI .i64 0), (18, fp (rulesV k4 rOne)), (20, exI .i64 0), (21, fp (rulesV k5 rSrc2)), (23, exI .i64 0), (24, exT sShort), (25, exI .i64 0), (27, exI .i64 130)]) (loc' := [Lab]) (Zaa (by repeat (first | exact Zaj | refine Zae rfl ?_)) (by first | exact List.Sublist.refl _ | exact .cons _ (.refl _))) ?_
 have hdl : rDeep.rounds.length = 1 := rfl
 have hX : FnC Tryz.prog 27 [agg (exV k1 rDeep.rounds[0].score), agg [exI .i64 1, ex (.string ⟨#[]⟩), exI .i64 1, exI .i64 1, ex (.slice none 0 0)]] [] (fun p loc => p = exB true ∧ loc = []) := by
   have h := r13sameExpr_any k1 1 rDeep.rounds[0].score (.mk 1 [] 1 1 [])
   rw [show decide (rDeep.rounds[0].score = Ex.mk 1 [] 1 1 []) = true from decide_eq_true rfl] at h
   exact FnC_args h (.cons (Im.refl _) (.cons (Ims.agg (by repeat (first | exact Ims.nil | refine Ims.cons Im.nil ?_ | refine Ims.cons (Im.refl _) ?_))) .nil))
 have hO : FnC Tryz.prog 13 [rul k4 rOne, agg [ex (.string ⟨#[97]⟩), ex (.slice none 0 0), ex (.slice none 0 0), ex (.slice none 0 0), ex (.slice none 0 0), ex (.slice none 0 0), ex (.slice none 0 0), ex (.slice none 0 0), exI .i64 0]] [] (fun p loc => p = exB true ∧ loc = []) := by
   have h := rsame13_any k4 1 rOne rOne
   rw [decide_eq_true rfl] at h
   exact FnC_args h (.cons (Im.refl _) (.cons (Ims.agg (by repeat (first | exact Ims.nil | refine Ims.cons Im.nil ?_ | refine Ims.cons (Im.refl _) ?_))) .nil))
 have hD := rsame13_any k3 4 declR declR
 rw [decide_eq_true rfl] at hD
 (repeat' (first | (apply Zci 21; refine StopW.out ?_) | refine Za7 ?_ | refine Za1 ?_ | refine Za3 ?_ | (apply Za8; (first | exact Za2 rfl | exact Zb8 (b := false) rfl (fun e => by cases e) (fun _ => rfl) | (apply Za9; exact Zau rfl rfl) | (apply Zam; exact Zax rfl rfl rfl) | (apply Zai; exact Zca rfl rfl) | (apply Zba; exact Zbq rfl rfl)); exact rfl) | (apply Zcn; exact rfl; exact rfl; exact rfl; (first | exact Za2 rfl | (apply Za9; first | exact Zau rfl rfl | exact Zb4 rfl rfl) | (apply Zam; exact Zax rfl rfl rfl) | (apply Zai; first | exact Zca rfl rfl | exact Zbz rfl rfl) | (apply Zb3; exact Zb1 rfl rfl rfl) | (apply Zba; exact Zcr rfl rfl) | (apply g_un; exact Zcy rfl) | (apply Zcz; exact Zcg rfl rfl (by repeat (first | exact PartsO.nil | (apply PartsO.cons; exact rfl; exact inferInstance; exact rfl; exact rfl))))); exact rfl) | refine Zan ?_ | refine Zb0 rfl ?_ | (apply Zdh; exact rfl; exact rfl; exact rfl; exact rfl; (apply Zaf; first | (refine Zbl Tryz.func27 rfl hX rfl ?_; rintro _ _ ⟨rfl, rfl⟩) | (refine Zbl Tryz.func13 rfl hO rfl ?_; rintro _ _ ⟨rfl, rfl⟩))) | (refine Zby rfl rfl (fun hb => ?_) (fun hb => ?_) <;> (repeat (first | replace hb := Zas hb | replace hb := Zat hb | replace hb := Zcc hb | replace hb := Zcb hb)) <;> (try (exfalso; omega)))))
 all_goals (try (exfalso; first | contradiction | omega))
 refine ⟨?_⟩
 refine Zbc (env' := [(13, fp (rulesV k3 declR)), (16, exT sWhole), (24, exT sShort)]) (loc' := []) (Zaa (by repeat (first | exact Zaj | refine Zae rfl ?_)) (List.nil_sublist _)) ?_
 have e1 : decide (sWhole = sWhole) = true := decide_eq_true rfl
 have e2 : decide (sShort = sShort) = true := decide_eq_true rfl
 refine Za7 ?_
 (refine Zdb ([]) 12 rfl ?_)
 all_goals ((apply Zay 0 rfl (by decide +kernel) rfl (by decide +kernel) (by repeat (first | exact Za6)) Za0; (first | (apply Za9; first | exact Zb4 rfl rfl)); exact rfl))
 all_goals ((apply Zbe 1; exact (by decide +kernel); exact rfl; exact Za0; exact (fun _ _ h => h); (apply Zaf; (refine Zbl Tryz.func26 rfl declared13_any rfl ?_; rintro _ _ ⟨rfl, rfl⟩))))
 all_goals ((apply Zbe 2; exact (by decide +kernel); exact rfl; exact Za0; exact (fun _ _ h => h); (apply Zaf; (refine Zbl Tryz.func13 rfl hD rfl ?_; rintro _ _ ⟨rfl, rfl⟩))))
 all_goals ((apply Za4 3 rfl (by decide +kernel) rfl (by repeat (first | exact Za6)) Za0; (first | exact Za2 rfl); exact rfl))
 all_goals (first | (refine WPY_case 168 rfl (fun hb => ?_) (fun hb => ?_) <;> (repeat (first | replace hb := Zas hb | replace hb := Zat hb | replace hb := Zcc hb | replace hb := Zcb hb)) <;> (try (exfalso; first | (cases hb; done) | contradiction | omega))) | skip)
 all_goals (first | (apply Za4 4 rfl (by decide +kernel) rfl (by repeat (first | exact Za6)) (Zcd rfl rfl rfl); (first | exact Za2 rfl); exact rfl))
 all_goals (first | (apply Za4 5 rfl (by decide +kernel) rfl (by repeat (first | exact Za6)) (Zcd rfl rfl rfl); (first | (apply Zai; first | exact Zdr rfl rfl)); exact rfl))
 all_goals ((apply Za4 6 rfl (by decide +kernel) rfl (by repeat (first | exact Za6)) Za0; (first | exact Zb8 (b := true) rfl (fun _ => rfl) (fun e => by cases e)); exact rfl))
 all_goals ((apply Za4 7 rfl (by decide +kernel) rfl (by repeat (first | exact Za6)) Za0; (first | exact Za2 rfl); exact rfl))
 all_goals (first | (refine WPY_case 172 rfl (fun hb => ?_) (fun hb => ?_) <;> (repeat (first | replace hb := Zas hb | replace hb := Zat hb | replace hb := Zcc hb | replace hb := Zcb hb)) <;> (try (exfalso; first | (cases hb; done) | contradiction | omega))) | skip)
 all_goals (first | (apply Za4 8 rfl (by decide +kernel) rfl (by repeat (first | exact Za6)) (Zcd rfl rfl rfl); (first | exact Za2 rfl); exact rfl))
 all_goals (first | (apply Za4 9 rfl (by decide +kernel) rfl (by repeat (first | exact Za6)) (Zcd rfl rfl rfl); (first | (apply Zai; first | exact Zdr rfl rfl)); exact rfl))
 all_goals ((apply Za4 10 rfl (by decide +kernel) rfl (by repeat (first | exact Za6)) Za0; (first | exact Zb8 (b := true) rfl (fun _ => rfl) (fun e => by cases e)); exact rfl))
 all_goals ((apply Za4 11 rfl (by decide +kernel) rfl (by repeat (first | exact Za6)) Za0; (first | exact Za5 rfl); exact rfl))
 all_goals (refine Zbu (by decide +kernel) ?_)
 all_goals ((repeat' (first | refine Zb2 ?_)))
 all_goals (refine ⟨.inr rfl, ret1 rfl (.tmp rfl) (List.nil_sublist _) ⟨by first | rfl | (exact congrArg exB (by simp)), rfl⟩⟩)
end Go.Proofs.YthdldeenpgeemaaGreatDoor
