/- append of so many zero bytes, to a row of one's own. No program in sight. -/
import Derived.Test.YtckcdokfhdckhaaFt
import Derived.Lib.AppendZerosOnto
namespace Go.Fr
open Go.RowKit Go.Kx Go.Lib
section
variable {P : Program}

instance Scs_ubs {l : List UInt8} : Scs (l.map ub) := ⟨fun q hq => by obtain ⟨c, _, rfl⟩ := List.mem_map.1 hq; exact Sc_ex rfl⟩

theorem zeroCells_one (x : Value) (m : Nat) : (Builtin.zeroCells #[x] m).toList = List.replicate m x := by
  apply List.ext_getElem
  · simp [Builtin.zeroCells]
  · intro i h1 h2
    simp [Builtin.zeroCells, Nat.mod_one]

theorem run_append_room_zeros (w : World) (t tn ty e : TypeId) (i : TypeInfo) (kq kn : IntKind) (ht : P.underlying t = some (.slice e)) (htn : P.underlying tn = some (.int kn)) (hi : P.info? e = some i) (hz : i.zero = some (.int .u8 0)) (hsz : i.size = 1) (hby : i.bytes = 1)
    (g sLen sCap : Nat) (cur : Array Value) (hg : w.heap[g]? = some (.cells cur e (0, 0))) (m : Nat) (h63 : m ≤ 140737488355328)
    (hroom : sLen + m ≤ sCap) (hfit : sLen + m ≤ cur.size) :
    (Builtin.append_ #[t, tn] ty #[.slice (some ⟨g, 0, none⟩) sLen sCap, .int kq m]).run P w =
      .ok (.slice (some ⟨g, 0, none⟩) (sLen + m) sCap) (w.setRow g (cur.toList.take sLen ++ List.replicate m (Value.int .u8 0) ++ cur.toList.drop (sLen + m)).toArray) := by
  have hst := run_storeCells_at P g sLen e (List.replicate m (.int .u8 0)) 0 cur w hg (by simpa using hfit) (fun u hu => by obtain ⟨_, rfl⟩ := List.mem_replicate.1 hu; rfl)
  simp only [Nat.add_zero, List.length_replicate] at hst
  have hw : IntKind.i64.wrap (m : Int) = m := by rw [IntKind.wrap_i64]; omega
  have hneg : ¬ ((m : Int) < 0) := by omega
  have h48i : ¬ (281474976710656 < (m : Int)) := by omega
  have hzc : (Builtin.zeroCells #[Value.int .u8 0] m).toList = List.replicate m (.int .u8 0) := zeroCells_one _ m
  by_cases h0 : m = 0
  · subst h0
    have hw0 : IntKind.i64.wrap 0 = 0 := by rw [IntKind.wrap_i64]; omega
    have hroom' : sLen ≤ sCap := by omega
    simp at hst
    simp [Builtin.append_, hw0, run_underlying ht, run_underlying htn, sizeOf, typeInfo, zeroValue, hi, hz, asInt, asIntOf, hsz, hby, hroom', Addr.add_lit, hst]
  · simp [Builtin.append_, run_underlying ht, run_underlying htn, sizeOf, typeInfo, zeroValue, hi, hz, asInt, asIntOf, hw, hneg, h48i, hsz, hby, h0, hroom, Addr.add_lit, hzc, Value.cells, hst]

theorem run_append_own_zeros (w : World) (t tn ty e : TypeId) (i : TypeInfo) (kq kn : IntKind) (ht : P.underlying t = some (.slice e)) (htn : P.underlying tn = some (.int kn)) (hi : P.info? e = some i) (hz : i.zero = some (.int .u8 0)) (hsz : i.size = 1) (hby : i.bytes = 1)
    (v : Value) (n : Nat) (xs : List Value) (hown : w.ownsRow 0 e 1 v n xs) (hn : 0 < n) (m : Nat) (hm : n + m ≤ 140737488355328) :
    ∃ v' w', (Builtin.append_ #[t, tn] ty #[v, .int kq m]).run P w = .ok v' w' ∧ w'.ownsRow 0 e 1 v' (n + m) (xs ++ List.replicate m (.int .u8 0)) ∧ w.grownBy w' v.ownBlock ∧ (v'.ownBlock = v.ownBlock ∨ v'.ownBlock = some w.heap.size) := by
  have hl : xs.length = n := by have := hown.1; omega
  have hlen : (xs ++ List.replicate m (Value.int .u8 0)).length = (n + m) * 1 := by simp [hl]
  rcases hown.2 with ⟨rfl, rfl⟩ | ⟨g, cap, cur, rfl, hbg, hg, hnc, hcm, hcs, htake⟩
  · omega
  · have htake' : cur.toList.take n = xs := by rw [Nat.mul_one] at htake; exact htake
    by_cases hroom : n + m ≤ cap
    · have hr := run_append_room_zeros (P := P) w t tn ty e i kq kn ht htn hi hz hsz hby g n cap cur hg m (by omega) hroom (by omega)
      refine ⟨_, _, hr, ⟨hlen, .inr ⟨g, cap, _, rfl, hbg, setRow_heap w g cur _ e _ hg, hroom, hcm, ?_, ?_⟩⟩, ⟨rfl, rfl, rfl, by simp, fun k _ hk => setRow_other w g k _ (fun e => hk (by simp [Value.ownBlock, e]))⟩, Or.inl rfl⟩
      · simp only [List.size_toArray, List.length_append, List.length_take, List.length_drop, Array.length_toList, List.length_replicate]
        omega
      · show List.take ((n + m) * 1) (cur.toList.take n ++ _ ++ _) = _
        rw [htake', ← hlen]
        exact List.take_left
    · have hm0 : 0 < m := by omega
      have hf : (Builtin.firstCells i.size n (.slice (some ⟨g, 0, none⟩) n cap)).run P w.drew = .ok xs.toArray w.drew := by
        have holds : ∀ j u, xs[j]? = some u → w.drew.cell? ((⟨g, 0, none⟩ : Addr).add j) = some u := hown.cells (g := g) rfl
        exact run_firstCells_some (P := P) w.drew i.size n ⟨g, 0, none⟩ n cap xs (by rw [hsz]; omega) holds
      have hfit := growslice_fits (need := n + m) (old := cap) (bytes := i.bytes) (by omega) (by rw [hby]; omega)
      have hr := run_append_grow_zeros (P := P) w t tn ty e i (.int .u8 0) kq kn ht htn hi hz (some ⟨g, 0, none⟩) n cap xs hf m hm0 (by omega) (by omega) (by omega) (by rw [hby]; omega) hfit
      have hge := grownCap_ge w (n + m) cap e
      have hcm : grownCap w (n + m) cap e ≤ maxLen := grownCap_le_maxLen w (n + m) cap e (by simp only [maxLen]; omega)
      refine ⟨_, _, hr, ⟨hlen, .inr ⟨w.heap.size, _, _, rfl, Nat.zero_le _, heap_alloc_new w.drew _, hge, hcm, ?_, ?_⟩⟩, ⟨rfl, rfl, rfl, by simp, fun k hk _ => heap_alloc_old w.drew _ hk⟩, Or.inr rfl⟩
      · simp only [Array.size_append, List.size_toArray, size_zeroCells, hl]
        simp [Value.cells]; omega
      · show List.take ((n + m) * 1) (xs.toArray ++ Builtin.zeroCells #[Value.int .u8 0] m ++ _).toList = _
        simp only [Array.toList_append, zeroCells_one]
        rw [← hlen]
        exact List.take_left
end

/-- Two cells of a row as a source. -/
theorem Src_row2 {C : Cx} {env : Env} {loc : List Ent} {x : Operand} {k b T tot c : Nat} {ps : List SP} {p q : SP} (hx : ev env x = some (ex (.slice (some ⟨b, 0, none⟩) 2 c))) (he : loc[k]? = some (row b T tot ps)) (hq : ps = [p, q]) [Sc p] [Sc q] : Src C env loc x 1 2 [p, q] := by
  subst hq
  exact Src_rowW (k := k) hx he (hs := Scs_cons (k := Scs_cons (k := Scs_nil))) rfl
theorem replicate_zero_rel {F : Nat → Prop} {w : World} (m : Nat) : CellsR F w ((List.replicate m (0 : UInt8)).map ub) (List.replicate m (.int .u8 0)) := by
  induction m with
  | zero => exact .nil
  | succ m ih => exact .cons rfl ih

section
variable {C : Cx} {H : Nat → Prop} {K : Env → List Ent → Prop} {env : Env} {loc : List Ent} {d : Tmp} {ty : TypeId} {pos : String} {af : Array Edge} {g : Option (Nat × Bool)} {l0 : List Ent}
/-- append of m zero bytes. -/
theorem WO_append_zeros {s x : Operand} {t tn e k n m : Nat} {kq kn : IntKind} {mi : Int} {v : Value} {ps : List SP} (hs : ev env s = some (ex v)) (he : loc[k]? = some (vec v e 1 n ps)) (hx : ev env x = some (exI kq mi)) (ht : C.P.underlying t = some (.slice e)) (htn : C.P.underlying tn = some (.int kn)) [hT : TI C.P e 1 1 (.int .u8 0)] [hmi : Nt mi m] (hk : ∀ v', K ((d, ex v') :: env) (loc.set k (vec v' e 1 (n + m) (ps ++ (List.replicate m 0).map ub)))) (h0 : 0 < n := by first | omega | (simp; omega)) (hl : n + m ≤ 140737488355328 := by first | omega | (simp; omega)) (hd : Nat.blt d C.N = true := by rfl) (hH : l0.Sublist (loc.eraseIdx k) := by exact List.nil_sublist _) : WO C (feet l0) ⟨some d, .call ⟨.builtin .append, #[s, x], #[t, tn]⟩, ty, pos, af, g⟩ K env loc := by
  constructor
  intro F a w hR
  obtain ⟨ti, hi, hsz, hby, hz⟩ := hT.out
  obtain ⟨rfl⟩ := hmi
  obtain ⟨xs, hown, hrel⟩ := hR.good.rel _ (List.mem_append_left _ (List.mem_of_getElem? he))
  have hsv : a.eval s = v := ev_eval hR hs
  have hxv : a.eval x = .int kq m := ev_eval hR hx
  obtain ⟨v', w', h1, h2, h3, h4⟩ := run_append_own_zeros (P := C.P) w t tn ty e ti kq kn ht htn hi hz hsz hby v n xs hown h0 m hl
  have hex : (execOp a.eval ⟨some d, .call ⟨.builtin .append, #[s, x], #[t, tn]⟩, ty, pos, af, g⟩).run C.P w = .ok (.value v') w' := by
    generalize a.eval = ρ at hsv hxv ⊢
    simp only [execOp, resolve, invoke, builtin, Sem.run_bind, Sem.run_pure, Result.andThen_ok, List.map_toArray, List.map_cons, List.map_nil, hsv, hxv, h1]
  unfold Oper.wp
  rw [hex]
  have hmem := List.mem_append_left C.out (List.mem_of_getElem? he)
  refine ⟨_, _, _, hR.vec_write he h2 (hrel.app (replicate_zero_rel m)) h3 (fun b hb => ?_) hd, h3.size, fun b hb hlt => ⟨hb, hlt⟩, fun b hb hF => h3.block b hb fun e => ?_, hk _⟩
  case refine_2 =>
    rcases hF with h | h
    · exact (hR.good.lt _ hmem b (vec_foot.2 e.symm)).2 h
    · exact hR.good.apart he (vec_foot.2 e.symm) hH h
  have hlt : b < w'.heap.size := by
    rcases h2.2 with ⟨rfl, _⟩ | ⟨b', _, _, rfl, _, h5, _⟩
    · cases hb
    · cases hb; exact (Array.getElem?_eq_some_iff.1 h5).1
  rcases h4 with h | h
  · exact ⟨hlt, .inl (h ▸ hb)⟩
  · rw [h] at hb; cases hb; exact ⟨hlt, .inr (Nat.le_refl _)⟩
end
end Go.Fr
