/- The second form: arguments of bounded bulk, and a law's row. -/
import Derived.Test.YtmghnjahjeinnaaRows
import Derived.Test.YtmghnjahjeinnaaFrame1
import Derived.Test.YtmghnjahjeinnaaJour6
import Derived.Deep.CondSized
import Derived.ProofKit
namespace Go.Proofs.Ytmghnjahjeinnaa
open Go Go.RowKit Go.Kx Go.ChangeShapes Go.WideShapes Go.ChangeAt

theorem bulkAll_sum {H : Type} : ∀ l : List (DataW H), Rows.uptoBulkAll l = (l.map Rows.uptoBulk).sum
  | [] => rfl
  | d :: r => by simp only [Rows.uptoBulkAll, List.map_cons, List.sum_cons, bulkAll_sum r]
theorem bulk_part {H : Type} {d : DataW H} {l : List (DataW H)} (h : d ∈ l) : Rows.uptoBulk d ≤ Rows.uptoBulkAll l := by
  induction l with
  | nil => cases h
  | cons x r ih =>
    simp only [Rows.uptoBulkAll]
    rcases List.mem_cons.1 h with rfl | h
    · omega
    · have := ih h; omega
theorem sum_le_of : ∀ {l m : List Nat} (hl : l.length = m.length), (∀ i (hi : i < l.length), l[i] ≤ m[i]) → l.sum ≤ m.sum
  | [], [], _, _ => Nat.le_refl _
  | a :: l, b :: m, hl, h => by
    have h0 := h 0 (by simp)
    have h1 := sum_le_of (l := l) (m := m) (by simpa using hl) fun i hi => by have := h (i + 1) (by simpa using hi); simpa using this
    simp at h0
    simp only [List.sum_cons]; omega
  | [], _ :: _, hl, _ => by simp at hl
  | _ :: _, [], hl, _ => by simp at hl

/-- Data of type t reads by E, and weighs no more than its bulk. -/
def ReadsW (P : Program) {α : Type} (t : TypeId) (E : Enc α) (wt : α → Nat) : Prop :=
  ∀ (H : Type) (enc : TypeId × Value → H) (w : World) (fuel : Nat) (cs : List Value) (x : DataW H × List MemPlace),
    DataW.trod enc P w 0 (fun _ => true) true fuel t cs = some x → (∀ n ∈ x.1.weights P t, n ≤ reachBytes) → ∃ a, E.rel (fun _ => True) w cs a ∧ wt a ≤ Rows.uptoBulk x.1
theorem readsW_of {P : Program} {α : Type} {t : TypeId} {E : Enc α} (h : Reads P t E) : ReadsW P t E (fun _ => 0) := fun H enc w fuel cs x hx hw => let ⟨a, ha⟩ := h H enc w fuel cs x hx hw; ⟨a, ha, Nat.zero_le _⟩
theorem readsW_one {P : Program} {α : Type} {t : TypeId} {E : Enc α} (h : Reads P t E) (hb : ∀ {H : Type} (d : DataW H), 1 ≤ Rows.uptoBulk d) : ReadsW P t E (fun _ => 1) := fun H enc w fuel cs x hx hw => let ⟨a, ha⟩ := h H enc w fuel cs x hx hw; ⟨a, ha, hb _⟩
theorem bulk_one {H : Type} (d : DataW H) : 1 ≤ Rows.uptoBulk d := by
  cases d with
  | lit l => cases l <;> simp [Rows.uptoBulk]
  | _ => simp [Rows.uptoBulk]

/-- A slice reads, where its elements do. -/
theorem readsW_slice {P : Program} {α : Type} {t e : TypeId} {E : Enc α} {wt : α → Nat} (ht : P.underlying t = some (.slice e)) (hsz : P.cellsOf e = E.size) (h0 : 0 < E.size) (hby : P.bytesOf e = E.bytes) (hE : ReadsW P e E wt) : ReadsW P t (eSl E) (fun l => (l.map wt).sum + 1) := by
  intro H enc w fuel cs x h hw
  rcases DataW.trod_slice ht h with ⟨rfl, rfl⟩ | ⟨a, len, cap, elems, rest, n, _, rfl, rfl, _, hl, hm, hlen, hel, hsp, _⟩
  · exact ⟨[], ⟨none, 0, 0, rfl, Sl.zero _ _ _⟩, by simp [Rows.uptoBulk]⟩
  · have hwt : ∀ k, k ∈ ((elems.map (·.1)).length + (rest.map (·.1)).length) * P.bytesOf e :: (DataW.weightsAll P e (elems.map (·.1)) ++ DataW.weightsAll P e (rest.map (·.1))) → k ≤ reachBytes := by
      intro k hk
      apply hw
      simpa [DataW.weights, ht] using hk
    have hall : ∀ i, i < len → ∃ y, wt y ≤ ((elems.map fun d => Rows.uptoBulk d.1)[i]?).getD 0 ∧ ∃ b off cs', some a = some (⟨b, off, none⟩ : Addr) ∧ b < w.heap.size ∧ cs'.length = E.size ∧ (∀ j, j < E.size → w.cell? ⟨b, off + i * E.size + j, none⟩ = cs'[j]?) ∧ E.rel (fun _ => True) w cs' y := by
      intro i hi
      have hk := hel i hi
      rw [List.getElem?_eq_getElem (by omega)] at hk
      obtain ⟨cs', h1, h2⟩ := Option.bind_eq_some_iff.1 hk
      obtain ⟨y, hy, hwy⟩ := hE H enc w n cs' _ h2 (fun k hkk => hwt k (List.mem_cons_of_mem _ (List.mem_append.2 (Or.inl (weightsAll_of_mem (List.mem_map_of_mem (List.getElem_mem (l := elems) (n := i) (by omega))) k hkk)))))
      obtain ⟨_, hlen', hcells⟩ := World.cells?_some h1
      rw [hsz] at hcells hlen'
      have hc0 := hcells 0 h0
      obtain ⟨v, hv⟩ : ∃ v, cs'[0]? = some v := ⟨_, List.getElem?_eq_getElem (by omega)⟩
      rw [hv] at hc0
      obtain ⟨hb, hs⟩ := cell_lt hc0
      have hspot : a.spot = none ∨ i ≠ 0 := by
        by_cases hi0 : i = 0
        · subst hi0; left; simpa [Addr.add] using hs
        · exact Or.inr hi0
      have hblk : a.block < w.heap.size := by
        have e : ((a.add (i * E.size)).add 0).block = a.block := by unfold Addr.add; split <;> split <;> rfl
        rwa [e] at hb
      have hns : a.spot = none := by
        rcases hspot with h | h
        · exact h
        · have hk0 := hel 0 (by omega)
          rw [List.getElem?_eq_getElem (by omega)] at hk0
          obtain ⟨cs0, h10, _⟩ := Option.bind_eq_some_iff.1 hk0
          obtain ⟨_, hlen0, hcells0⟩ := World.cells?_some h10
          rw [hsz] at hcells0 hlen0
          have hc00 := hcells0 0 h0
          rw [List.getElem?_eq_getElem (by omega)] at hc00
          simpa [Addr.add] using (cell_lt hc00).2
      obtain ⟨ab, ao, asp⟩ := a
      simp only at hns hblk
      subst hns
      refine ⟨y, by rw [List.getElem?_map, List.getElem?_eq_getElem (by omega)]; exact hwy, ab, ao, cs', rfl, hblk, hlen', fun j hj => ?_, hy⟩
      rw [← hcells j hj]
      congr 1
      unfold Addr.add
      by_cases h1 : i * E.size = 0 <;> by_cases h2 : j = 0 <;> simp [h1, h2]
    obtain ⟨l, hll, hl2⟩ := list_of_all hall
    refine ⟨l, ⟨some a, len, cap, rfl, Sl.mk hll hl hm ?_ (fun h => absurd h (by simp)) fun i hi => ?_⟩, ?_⟩
    · have := hwt _ List.mem_cons_self
      rw [hby] at this
      simp only [List.length_map, hlen, reachBytes] at this
      have h2 : len * E.bytes ≤ (len + rest.length) * E.bytes := Nat.mul_le_mul_right _ (by omega)
      omega
    · obtain ⟨_, b, off, cs', h1, h2, h3, h4, h5⟩ := hl2 i hi
      exact ⟨b, off, cs', h1, trivial, h2, h3, h4, h5⟩
    · have hsum : (l.map wt).sum ≤ (elems.map fun d => Rows.uptoBulk d.1).sum := sum_le_of (by rw [List.length_map, List.length_map]; omega) fun i hi => by
        have hi' : i < l.length := by simpa using hi
        have := (hl2 i hi').1
        rw [List.getElem?_map, List.getElem?_eq_getElem (by omega)] at this
        rw [List.getElem_map, List.getElem_map]
        exact this
      have hall2 : (elems.map fun d => Rows.uptoBulk d.1).sum = Rows.uptoBulkAll (elems.map (·.1)) := by rw [bulkAll_sum, List.map_map]; rfl
      simp only [Rows.uptoBulk]
      omega

/-- One field of a struct. -/
theorem readsW_field {P : Program} {t : TypeId} {fs : Array Field} (ht : P.underlying t = some (.struct fs)) {H : Type} {enc : TypeId × Value → H} {w : World} {fuel : Nat} {cs : List Value} {x : DataW H × List MemPlace}
    (h : DataW.trod enc P w 0 (fun _ => true) true fuel t cs = some x) (hw : ∀ n ∈ x.1.weights P t, n ≤ reachBytes) (i : Nat) (f : Field) (hf : fs[i]? = some f) {α : Type} {E : Enc α} {wt : α → Nat} (hE : ReadsW P f.type E wt) :
    cs.length = P.cellsOf t ∧ ∃ a, E.rel (fun _ => True) w ((cs.drop f.offset).take (P.cellsOf f.type)) a ∧ wt a ≤ Rows.uptoBulk x.1 := by
  obtain ⟨xs, n, _, rfl, hl, hlen, hfs⟩ := DataW.trod_struct ht h
  have hi : i < fs.size := by
    rcases Nat.lt_or_ge i fs.size with h | h
    · exact h
    · rw [Array.getElem?_eq_none h] at hf; cases hf
  have hk := hfs i f hf
  rw [List.getElem?_eq_getElem (by omega)] at hk
  obtain ⟨y, hy, hwy⟩ := hE H enc w n _ _ hk fun k hkk => hw k (by
    simp only [DataW.weights, ht]
    exact DataW.weights_mem_each (j := i) (t := f.type) (d := xs[i].1) (by rw [List.getElem?_map, Array.getElem?_toList, hf]; rfl) (by rw [List.getElem?_map, List.getElem?_eq_getElem (by omega)]; rfl) k hkk)
  refine ⟨hl, y, hy, Nat.le_trans hwy ?_⟩
  simp only [Rows.uptoBulk]
  exact Nat.le_succ_of_le (bulk_part (List.mem_map_of_mem (List.getElem_mem (l := xs) (n := i) (by omega))))

/-- The arguments, as a statement of the second form reads them. -/
def ArgsU (P : Program) (W : World) (ts : List TypeId) (vs : List Value) : Prop :=
  ∃ (base : Nat) (H : Type) (enc : TypeId × Value → H) (ds : List (DataW H)) (p : List MemPlace), (∀ (j : Nat) t v, ts[j]? = some t → vs[j]? = some v → Value.okWide P W .any base t v) ∧
    DataW.TrodAll enc P W 0 (fun _ => true) true ts vs ds p ∧ (∀ n ∈ DataW.weightsEach P ts ds, n ≤ reachBytes) ∧ Rows.uptoBulkAll ds ≤ 1048576
def ArgU (P : Program) (W : World) (t : TypeId) (v : Value) : Prop :=
  ∃ (base : Nat) (H : Type) (enc : TypeId × Value → H) (d : DataW H) (p : List MemPlace), Value.okWide P W .any base t v ∧ DataW.Trod enc P W 0 (fun _ => true) true t v d p ∧ (∀ n ∈ d.weights P t, n ≤ reachBytes) ∧ Rows.uptoBulk d ≤ 1048576
theorem ArgsU.cons {P : Program} {W : World} {t : TypeId} {ts : List TypeId} {vs : List Value} (h : ArgsU P W (t :: ts) vs) : ∃ v vs', vs = v :: vs' ∧ ArgU P W t v ∧ ArgsU P W ts vs' := by
  obtain ⟨base, H, enc, ds, p, hok, hA, hw, hb⟩ := h
  match vs, ds, hA with
  | v :: vs', d :: ds', ⟨q, q', h1, h2, _⟩ =>
    simp only [Rows.uptoBulkAll] at hb
    refine ⟨v, vs', rfl, ⟨base, H, enc, d, q, hok 0 t v rfl rfl, h1, fun n hn => hw n ?_, by omega⟩, ⟨base, H, enc, ds', q', fun j t' v' h3 h4 => hok (j + 1) t' v' h3 h4, h2, fun n hn => hw n ?_, by omega⟩⟩
    · simp only [DataW.weightsEach, List.mem_append]; exact Or.inl hn
    · simp only [DataW.weightsEach, List.mem_append]; exact Or.inr hn
theorem ArgsU.nil {P : Program} {W : World} {vs : List Value} (h : ArgsU P W [] vs) : vs = [] := by
  obtain ⟨base, H, enc, ds, p, hok, hA, _⟩ := h
  match vs, ds, hA with
  | [], [], _ => rfl
theorem ArgU.plain {P : Program} {W : World} {t : TypeId} {v : Value} (h : ArgU P W t v) : ArgIn P W t v := by
  obtain ⟨base, H, enc, d, p, h1, h2, h3, _⟩ := h
  exact ⟨base, H, enc, d, p, h1, h2, h3⟩
theorem ArgU.slice {P : Program} {W : World} {t e : TypeId} {v : Value} {α : Type} {E : Enc α} {wt : List α → Nat} (h : ArgU P W t v) (ht : P.underlying t = some (.slice e)) (hE : ReadsW P t (eSl E) wt) : ∃ a n c l, v = .slice a n c ∧ Sl E (fun _ => True) W a n c l ∧ wt l ≤ 1048576 := by
  obtain ⟨base, H, enc, d, p, hok, ⟨fuel, hf⟩, hw, hb⟩ := h
  obtain ⟨a, n, c, rfl⟩ := okWide_slice ht hok
  obtain ⟨l, ⟨a', n', c', hc, hs⟩, hwl⟩ := hE H enc W fuel _ _ hf hw
  simp only [Value.cells, List.cons.injEq, Value.slice.injEq, and_true] at hc
  obtain ⟨rfl, rfl, rfl⟩ := hc
  exact ⟨_, _, _, l, rfl, hs, Nat.le_trans hwl hb⟩

/-- A LAW of the second form. -/
theorem law_lifted_upto {F : Stop.Interp} {C : Checked} {os : Os} {f : FuncId} {fn : Func} {s : ChangeSpec} {tb : TypeId} {H : Type} {enc : TypeId × Value → H}
    (own : ownKnob C.prog.godebug = none) (hl : laidOutB C.prog = true) (started : os.Started) (noInit : C.prog.inits.idxOf? f = none) (hfn : C.prog.funcs[f]? = some fn)
    (hres : fn.resultTypes = #[tb]) (htb : C.prog.underlying tb = some .bool) (hvars : s.vars = [])
    (hread : fn.params.toList.all (fun t => C.prog.readableRec t && decide (t < C.prog.types.size)) = true)
    (hs : ∀ ds : List (DataW H), ds.length = fn.params.size → s.fn H (ds ++ []) = { results := [.lit (.bool true)], args := ds })
    (witness : ∃ (w : World) (tape : Tape) (i : Input), w.os = os ∧ (w.forCall tape i).Shaped C.prog ∧ i.vars = [] ∧ Input.okWide C.prog (w.forCall tape i) .any w.heap.size f i ∧
      (Rows.OpenSpec.upto s).pre6 enc C.prog fn [] false (w.forCall tape i).memory i.args ∧ ({} : Assume).holds C.prog (lone (Frame.enter C.prog f i.args .normal) [] (w.forCall tape i)))
    (walk : ∀ (W : World) (args : Array Value), ArgsU C.prog W fn.params.toList args.toList → Calls C.prog f args W fun e W' => e = .returned (.bool true) ∧ Below W.heap.size W W') :
    ReturnsInHanded {} C os f .any ((Rows.OpenSpec.upto s).pre6 enc C.prog fn [] false) (((Rows.OpenSpec.upto s).at F).post enc C.prog fn false true false false) := by
  refine returnsInHanded_of_cond_sized (k := Rows.uptoSmall) rfl own started noInit hfn witness ?_
  intro W base args ds gs before hval hW _ hku hsz _
  have hlt := hW.lt
  have hW' := hW
  obtain ⟨p, q, hA, hV, rfl, _, _⟩ := hW
  have hvars' : (Rows.OpenSpec.upto s).vars = [] := hvars
  rw [hvars'] at hV
  obtain ⟨rfl, rfl⟩ := trodVars_none hV
  have hvt : (Rows.OpenSpec.upto s).bare.plain.varTypes C.prog = [] := by simp [DataSpec.varTypes, ChangeSpec.plain, Rows.OpenSpec.upto, OpenSpec.ofChange, OpenSpec.bare, hvars]
  rw [hvt, List.append_nil, List.append_nil] at hsz
  have hlen : ∀ {ts : List TypeId} {vs : List Value} {es : List (DataW H)} {ps : List MemPlace}, DataW.TrodAll enc C.prog W 0 (fun _ => true) true ts vs es ps → es.length = ts.length := by
    intro ts
    induction ts with
    | nil => intro vs es ps h; match vs, es, h with | [], [], _ => rfl
    | cons t ts ih => intro vs es ps h; match vs, es, h with | v :: vs, d :: es, ⟨_, _, _, h2, _⟩ => simp [ih h2]
  have hd0 := hs ds ((hlen hA).trans (by simp))
  have hd : ((Rows.OpenSpec.upto s).at F).fn H (ds ++ []) = { results := [.lit (.bool true)], args := ds } := hd0
  refine (walk W args ⟨base, H, enc, ds, p, fun j t v h1 h2 => hval j t v (by simpa using h1) (by simpa using h2), hA, fun n hn => by simpa using List.all_eq_true.1 hsz n hn, by simpa [Rows.uptoSmall] using hku⟩).mono ?_
  rintro e W' ⟨rfl, hb⟩
  refine ⟨_, rfl, ds, [], p ++ [], [], p, [], hW', ?_, ?_, ?_, hb.frame _, fun h => by cases h⟩
  · rw [hd, hres]
    exact trodAll_mk1 (shut_bool htb true)
  · rw [hd]
    exact trodAll_below hl hb (fun t ht => by simpa using List.all_eq_true.1 hread t ht) hA fun x hx => hlt x (List.mem_append.2 (Or.inl hx))
  · rw [hd, show ((Rows.OpenSpec.upto s).at F).vars = [] from hvars]; rfl

end Go.Proofs.Ytmghnjahjeinnaa

/- Disks and writes as arguments: from a statement's reading to Lean data. -/
namespace Go.Proofs.Ytmghnjahjeinnaa
open Go.RowKit Go.Kx Go.ChangeShapes Go.WideShapes

theorem Try.own : ownKnob Try.prog.godebug = none := by kernel_rfl
theorem Try.laidOut : laidOutB Try.prog = true := by kernel_rfl

theorem rdBytes : Reads Try.prog 35 (eSl eByte) := reads_slice Try.underlying35 (by kernel_rfl) (by decide) (by kernel_rfl) (reads_byte Try.underlying5)

theorem rdRows : Reads Try.prog 22 (eSl (eSl eByte)) := reads_slice Try.underlying22 (by kernel_rfl) (by decide) (by kernel_rfl) rdBytes

set_option maxRecDepth 100000 in
theorem rdWrite : Reads Try.prog 76 eWr := by
  intro H enc w fuel cs x h hw
  have hl : cs.length = 2 := (reads_field Try.underlying76 h hw 0 _ rfl (reads_int Try.underlying3)).1
  obtain ⟨a, h1, h2⟩ := (reads_field Try.underlying76 h hw 0 _ rfl (reads_int Try.underlying3)).2
  obtain ⟨l, oa, n, c, h3, h4⟩ := (reads_field Try.underlying76 h hw 1 _ rfl rdBytes).2
  match cs, hl with
  | [u, v], _ =>
    have e1 : [u] = [.int .i64 a] := h1
    have e2 : [v] = [.slice oa n c] := h3
    simp only [List.cons.injEq, and_true] at e1 e2
    subst e1 e2
    exact ⟨⟨a, l⟩, oa, n, c, rfl, h2, h4⟩

theorem rdWrites : Reads Try.prog 23 (eSl eWr) := reads_slice Try.underlying23 (by kernel_rfl) (by decide) (by kernel_rfl) rdWrite

set_option maxRecDepth 100000 in
theorem arg_disk {W : World} {v : Value} (h : ArgIn Try.prog W 25 v) :
    ∃ sa sn sc pa pn pc D, v = .agg #[.slice sa sn sc, .slice pa pn pc, .int .i64 D.left, .bool D.stopped] ∧ DiskAt (fun _ => True) W sa sn sc pa pn pc D := by
  obtain ⟨base, H, enc, d, p, hok, ⟨fuel, hf⟩, hw⟩ := h
  obtain ⟨cs, rfl, hsz⟩ := okWide_struct Try.underlying25 hok
  have hf' : DataW.trod enc Try.prog W 0 (fun _ => true) true fuel 25 cs.toList = some (d, p) := hf
  have hl : cs.toList.length = 4 := (reads_field Try.underlying25 hf' hw 2 _ rfl (reads_int Try.underlying3)).1
  obtain ⟨ls, sa, sn, sc, h1, h1'⟩ := (reads_field Try.underlying25 hf' hw 0 _ rfl rdRows).2
  obtain ⟨lp, pa, pn, pc, h2, h2'⟩ := (reads_field Try.underlying25 hf' hw 1 _ rfl rdWrites).2
  obtain ⟨left, h3, h3'⟩ := (reads_field Try.underlying25 hf' hw 2 _ rfl (reads_int Try.underlying3)).2
  obtain ⟨st, h4⟩ := (reads_field Try.underlying25 hf' hw 3 _ rfl (reads_bool Try.underlying4)).2
  obtain ⟨cs⟩ := cs
  match cs, hl with
  | [u0, u1, u2, u3], _ =>
    have e0 : [u0] = [.slice sa sn sc] := h1
    have e1 : [u1] = [.slice pa pn pc] := h2
    have e2 : [u2] = [.int .i64 left] := h3
    have e3 : [u3] = [.bool st] := h4
    simp only [List.cons.injEq, and_true] at e0 e1 e2 e3
    subst e0 e1 e2 e3
    exact ⟨sa, sn, sc, pa, pn, pc, ⟨ls, lp, left, st⟩, rfl, h1', h2', h3'.1, h3'.2⟩

theorem arg_bytes {W : World} {v : Value} (h : ArgIn Try.prog W 35 v) : ∃ a n c l, v = .slice a n c ∧ Sl eByte (fun _ => True) W a n c l := h.slice Try.underlying35 rdBytes

theorem arg_int {W : World} {v : Value} (h : ArgIn Try.prog W 3 v) : ∃ n : Int, v = .int .i64 n ∧ -9223372036854775808 ≤ n ∧ n ≤ 9223372036854775807 := h.int Try.underlying3

end Go.Proofs.Ytmghnjahjeinnaa

/- JournalAppendSpec. -/
namespace Go.Proofs.Ytmghnjahjeinnaa
open Go Go.RowKit Go.Kx Go.Fr

theorem appF_len (o : List (List UInt8)) (m s : Int) (b : List UInt8) : (appF o m s b).1.1.length ≤ o.length + 1 := by
  unfold appF
  split
  · split <;> simp
  · simp

/-- Records of bounded size. -/
structure SmallR (o : List (List UInt8)) : Prop where
  many : manyF o < 2 ^ 20
theorem manyF_mem {o : List (List UInt8)} {b : List UInt8} (h : b ∈ o) : 1 + b.length ≤ manyF o := by
  induction o with
  | nil => cases h
  | cons x r ih =>
    simp only [manyF, List.map_cons, List.sum_cons]
    rcases List.mem_cons.1 h with rfl | h
    · omega
    · have := ih h; unfold manyF at this; omega
theorem manyF_length (o : List (List UInt8)) : o.length ≤ manyF o := by
  induction o with
  | nil => simp
  | cons x r ih => simp only [manyF, List.map_cons, List.sum_cons, List.length_cons] at ih ⊢; omega
theorem SmallR.len {o : List (List UInt8)} (h : SmallR o) : o.length < 2 ^ 20 := Nat.lt_of_le_of_lt (manyF_length o) h.many
theorem SmallR.all {o : List (List UInt8)} (h : SmallR o) : ∀ b ∈ o, b.length < 2 ^ 40 := fun b hb => by have := manyF_mem hb; have := h.many; omega

set_option maxHeartbeats 2000000 in
set_option maxRecDepth 100000 in
theorem appendSpec_any (o : List (List UInt8)) (m s : Int) (b : List UInt8) (ho : SmallR o) (hb : b.length ≤ 2 ^ 20) : FnC Try.prog 4 [jr o m s, isl eByte b] [] (fun p loc => p = exB true ∧ loc = []) := by
  refine FnC_enter Try.func4 rfl Try.ntmps4 rfl fun w0 F0 out => ?_
  have h1 := ho.len
  have h2 := ho.all
  have h3 := ho.many
  have hF := FnC_args (few_any zeroDisk o (by omega) (by omega)) (.cons im_dz (.cons (.refl _) .nil))
  have hA := append_any o m s b h1 h2 (by omega)
  have hB := appendR_any o m s b h1 h2 (by omega)
  have hlen := appF_len o m s b
  have hC := jcheck_any o m s h1 h2
  have hD := jcheckR_any o m s h1 h2
  have hM := room_any o m s h1 h2
  have hN := roomR_any o m s h1 h2
  generalize jchk o m s = ck at *
  generalize jroom o m s = rm at *
  generalize appF o m s b = r at *
  obtain ⟨⟨o2, m2, s2⟩, e⟩ := r
  dsimp only at hA hB hlen
  have hS := jsame_any o2 o2 m2 s2 m2 s2 (by omega) (by omega)
  rw [show decide (m2 = m2 ∧ s2 = s2 ∧ o2 = o2) = true by simp] at hS
  (repeat' (first | refine WP_seq ?_ | refine WP_region ?_ | refine WPL_nil ?_ | (apply WPL_t; (first | exact WT_move rfl | exact WT_assign rfl | exact WT_pick (b := true) rfl (fun _ => rfl) (fun e => by cases e) | exact WT_pick (b := false) rfl (fun e => by cases e) (fun _ => rfl) | exact WT_extract rfl rfl | (apply g_load; first | exact WT_load (k := 0) rfl rfl rfl rfl | exact WT_loada2 (k := 0) rfl rfl rfl | exact WT_loada2 (k := 1) rfl rfl rfl) | (apply g_fld; first | exact WT_field rfl rfl rfl) | (apply g_un; first | exact WT_not rfl) | (apply g_build; first | exact WT_build2 rfl rfl (by repeat (first | exact PartsO.nil)))); exact rfl) | (refine WPL_off rfl rfl rfl rfl rfl ?_) | (apply WPL_gt; exact rfl; exact rfl; exact rfl; (first | exact WT_move rfl | (apply g_bin; first | exact WT_gtr rfl rfl) | (apply g_call; first | exact WT_len rfl rfl)); exact rfl) | refine WP_skip ?_ | refine WP_ret ?_ | refine WP_cond_t rfl ?_ | refine WP_cond_f rfl ?_ | (apply WPL_op0; exact rfl; first | (apply g_callf; first | (refine WO_call Try.func10 rfl sane_any rfl ?_; rintro _ _ ⟨rfl, rfl⟩) | (refine WO_call Try.func11 rfl hF rfl ?_; rintro _ _ ⟨rfl, rfl⟩) | (refine WO_call Try.func15 rfl hA rfl ?_; rintro _ _ ⟨rfl, rfl⟩) | (refine WO_call Try.func16 rfl hB rfl ?_; rintro _ _ ⟨rfl, rfl⟩)) | (apply g_box; refine WO_box rfl ?_; intro _) | (apply g_alloc; refine WO_alloc ?_; intro _) | (apply g_store; first | refine WO_store (k := 0) (l0 := []) rfl rfl rfl ?_)) | (refine WPL_case rfl rfl (fun hb => ?_) (fun hb => ?_) <;> (repeat (first | replace hb := dec_t hb | replace hb := dec_f hb | replace hb := not_t hb | replace hb := not_f hb)) <;> (try (exfalso; first | fail))) | (refine WP_cond rfl (fun hb => ?_) (fun hb => ?_) <;> (repeat (first | replace hb := dec_t hb | replace hb := dec_f hb)) <;> (try (exfalso; first | fail)))))
  · exact ⟨.inr rfl, ret1 rfl (.tmp rfl) (List.nil_sublist _) ⟨rfl, rfl⟩⟩
  · exact ⟨.inr rfl, ret1 rfl (.tmp rfl) (List.nil_sublist _) ⟨rfl, rfl⟩⟩
  ·
    (refine WP_drawl 23 rfl ?_)
    all_goals ((apply WPY_take 0 rfl (by decide +kernel) rfl (by decide +kernel) (by repeat (first | exact np_ret)) guard_none; (first | (apply g_load; first | exact WT_loada2 (k := 2) rfl rfl rfl)); exact rfl))
    all_goals ((apply WPY_take 2 rfl (by decide +kernel) rfl (by decide +kernel) (by repeat (first | exact np_ret)) guard_none; (first | (apply g_load; first | exact WT_loada2 (k := 2) rfl rfl rfl)); exact rfl))
    all_goals (first | (apply WPY_one 1; exact (by decide +kernel); exact rfl; exact guard_none; exact (fun _ _ h => h); first | (apply g_callf; first | (refine WO_call Try.func17 rfl hC rfl ?_; rintro _ _ ⟨rfl, rfl⟩))))
    all_goals (first | (apply WPY_one 3; exact (by decide +kernel); exact rfl; exact guard_none; exact (fun _ _ h => h); first | (apply g_callf; first | (refine WO_call Try.func18 rfl hD rfl ?_; rintro _ _ ⟨rfl, rfl⟩))))
    all_goals ((apply WPY_pure 4 rfl (by decide +kernel) rfl (by repeat (first | exact np_ret)) guard_none; (first | (apply g_bin; first | exact WT_eql rfl rfl)); exact rfl))
    all_goals ((apply WPY_pure 5 rfl (by decide +kernel) rfl (by repeat (first | exact np_ret)) guard_none; (first | exact WT_move rfl); exact rfl))
    all_goals (first | (refine WPY_case 38 rfl (fun hb => ?_) (fun hb => ?_) <;> (repeat (first | replace hb := dec_t hb | replace hb := dec_f hb | replace hb := not_t hb | replace hb := not_f hb)) <;> (try (exfalso; first | (cases hb; done) | omega))) | skip)
    all_goals (first | (apply WPY_take 6 rfl (by decide +kernel) rfl (by decide +kernel) (by repeat (first | exact np_ret)) (guard_some rfl rfl rfl); (first | (apply g_load; first | exact WT_loada2 (k := 2) rfl rfl rfl)); exact rfl))
    all_goals (first | (apply WPY_take 8 rfl (by decide +kernel) rfl (by decide +kernel) (by repeat (first | exact np_ret)) (guard_some rfl rfl rfl); (first | (apply g_load; first | exact WT_loada2 (k := 2) rfl rfl rfl)); exact rfl))
    all_goals (first | (apply WPY_one 7; exact (by decide +kernel); exact rfl; exact (guard_some rfl rfl rfl); exact (fun _ _ h => h); first | (apply g_callf; first | (refine WO_call Try.func19 rfl hM rfl ?_; rintro _ _ ⟨rfl, rfl⟩))))
    all_goals (first | (apply WPY_one 9; exact (by decide +kernel); exact rfl; exact (guard_some rfl rfl rfl); exact (fun _ _ h => h); first | (apply g_callf; first | (refine WO_call Try.func20 rfl hN rfl ?_; rintro _ _ ⟨rfl, rfl⟩))))
    all_goals (first | (apply WPY_pure 10 rfl (by decide +kernel) rfl (by repeat (first | exact np_ret)) (guard_some rfl rfl rfl); (first | (apply g_bin; first | exact WT_eql rfl rfl)); exact rfl))
    all_goals ((apply WPY_pure 11 rfl (by decide +kernel) rfl (by repeat (first | exact np_ret)) guard_none; (first | exact WT_pick (b := true) rfl (fun _ => rfl) (fun e => by cases e)); exact rfl))
    all_goals ((apply WPY_pure 12 rfl (by decide +kernel) rfl (by repeat (first | exact np_ret)) guard_none; (first | exact WT_move rfl); exact rfl))
    all_goals (first | (refine WPY_case 45 rfl (fun hb => ?_) (fun hb => ?_) <;> (repeat (first | replace hb := dec_t hb | replace hb := dec_f hb | replace hb := not_t hb | replace hb := not_f hb)) <;> (try (exfalso; first | (cases hb; done) | omega))) | skip)
    all_goals (first | (apply WPY_take 13 rfl (by decide +kernel) rfl (by decide +kernel) (by repeat (first | exact np_ret)) (guard_some rfl rfl rfl); (first | (apply g_load; first | exact WT_loada2 (k := 1) rfl rfl rfl)); exact rfl))
    all_goals (first | (apply WPY_take 14 rfl (by decide +kernel) rfl (by decide +kernel) (by repeat (first | exact np_ret)) (guard_some rfl rfl rfl); (first | (apply g_load; first | exact WT_loada2 (k := 0) rfl rfl rfl)); exact rfl))
    all_goals (first | (apply WPY_one 15; exact (by decide +kernel); exact rfl; exact (guard_some rfl rfl rfl); exact (fun _ _ h => h); first | (apply g_callf; first | (refine WO_call Try.func14 rfl hS rfl ?_; rintro _ _ ⟨rfl, rfl⟩))))
    all_goals ((apply WPY_pure 16 rfl (by decide +kernel) rfl (by repeat (first | exact np_ret)) guard_none; (first | exact WT_pick (b := true) rfl (fun _ => rfl) (fun e => by cases e)); exact rfl))
    all_goals ((apply WPY_pure 17 rfl (by decide +kernel) rfl (by repeat (first | exact np_ret)) guard_none; (first | exact WT_move rfl); exact rfl))
    all_goals (first | (refine WPY_case 50 rfl (fun hb => ?_) (fun hb => ?_) <;> (repeat (first | replace hb := dec_t hb | replace hb := dec_f hb | replace hb := not_t hb | replace hb := not_f hb)) <;> (try (exfalso; first | (cases hb; done) | omega))) | skip)
    all_goals (first | (apply WPY_pure 18 rfl (by decide +kernel) rfl (by repeat (first | exact np_ret)) (guard_some rfl rfl rfl); (first | exact WT_move rfl); exact rfl))
    all_goals (first | (apply WPY_pure 19 rfl (by decide +kernel) rfl (by repeat (first | exact np_ret)) (guard_some rfl rfl rfl); (first | exact WT_move rfl); exact rfl))
    all_goals (first | (apply WPY_pure 20 rfl (by decide +kernel) rfl (by repeat (first | exact np_ret)) (guard_some rfl rfl rfl); (first | (apply g_bin; first | exact WT_eql rfl rfl)); exact rfl))
    all_goals ((apply WPY_pure 21 rfl (by decide +kernel) rfl (by repeat (first | exact np_ret)) guard_none; (first | exact WT_pick (b := true) rfl (fun _ => rfl) (fun e => by cases e)); exact rfl))
    all_goals ((apply WPY_pure 22 rfl (by decide +kernel) rfl (by repeat (first | exact np_ret)) guard_none; (first | exact WT_assign rfl); exact rfl))
    all_goals (refine WPY_done (by decide +kernel) ?_)
    all_goals ((repeat' (first | refine WP_ret ?_)))
    all_goals first | (exfalso; simp_all; done) | exact ⟨.inr rfl, ret1 rfl (.tmp rfl) (List.nil_sublist _) ⟨by simp, rfl⟩⟩

end Go.Proofs.Ytmghnjahjeinnaa

/- Journals and bytes as arguments of bounded bulk. -/
namespace Go.Proofs.Ytmghnjahjeinnaa
open Go Go.RowKit Go.Kx Go.Fr Go.ChangeShapes Go.WideShapes

theorem rdBytesW : ReadsW Try.prog 35 (eSl eByte) (fun l => (l.map fun _ => 1).sum + 1) := readsW_slice Try.underlying35 (by kernel_rfl) (by decide) (by kernel_rfl) (readsW_one (reads_byte Try.underlying5) bulk_one)
theorem rdRowsW : ReadsW Try.prog 22 (eSl (eSl eByte)) (fun l => (l.map fun b => (b.map fun _ => 1).sum + 1).sum + 1) := readsW_slice Try.underlying22 (by kernel_rfl) (by decide) (by kernel_rfl) rdBytesW
theorem sum_ones {α : Type} (l : List α) : (l.map fun _ => 1).sum = l.length := by induction l with
  | nil => rfl
  | cons a l ih => simp only [List.map_cons, List.sum_cons, List.length_cons, ih]; omega
theorem wt_many (o : List (List UInt8)) : (o.map fun b => (b.map fun _ => 1).sum + 1).sum = manyF o := by
  unfold manyF
  congr 1
  apply List.map_congr_left
  intro b _
  rw [sum_ones]; omega

theorem arg_bytesU {W : World} {v : Value} (h : ArgU Try.prog W 35 v) : ∃ a n c l, v = .slice a n c ∧ Sl eByte (fun _ => True) W a n c l ∧ l.length ≤ 2 ^ 20 := by
  obtain ⟨a, n, c, l, h1, h2, h3⟩ := h.slice Try.underlying35 rdBytesW
  rw [sum_ones] at h3
  exact ⟨a, n, c, l, h1, h2, by omega⟩
theorem arg_rowsU {W : World} {v : Value} (h : ArgU Try.prog W 22 v) : ∃ a n c l, v = .slice a n c ∧ Sl (eSl eByte) (fun _ => True) W a n c l ∧ SmallR l := by
  obtain ⟨a, n, c, l, h1, h2, h3⟩ := h.slice Try.underlying22 rdRowsW
  rw [wt_many] at h3
  exact ⟨a, n, c, l, h1, h2, ⟨by omega⟩⟩

set_option maxRecDepth 100000 in
theorem arg_jourU {W : World} {v : Value} (h : ArgU Try.prog W 29 v) :
    ∃ a n c o m s, v = .agg #[.slice a n c, .int .i64 m, .int .i64 s] ∧ Sl (eSl eByte) (fun _ => True) W a n c o ∧ SmallR o := by
  obtain ⟨base, H, enc, d, p, hok, ⟨fuel, hf⟩, hw, hb⟩ := h
  obtain ⟨cs, rfl, hsz⟩ := okWide_struct Try.underlying29 hok
  have hf' : DataW.trod enc Try.prog W 0 (fun _ => true) true fuel 29 cs.toList = some (d, p) := hf
  have hl : cs.toList.length = 3 := (reads_field Try.underlying29 hf' hw 1 _ rfl (reads_int Try.underlying3)).1
  obtain ⟨_, o, ⟨a, n, c, h1, h1'⟩, hwt⟩ := readsW_field Try.underlying29 hf' hw 0 _ rfl rdRowsW
  obtain ⟨m, h2, _⟩ := (reads_field Try.underlying29 hf' hw 1 _ rfl (reads_int Try.underlying3)).2
  obtain ⟨s, h3, _⟩ := (reads_field Try.underlying29 hf' hw 2 _ rfl (reads_int Try.underlying3)).2
  rw [wt_many] at hwt
  have hwt' : manyF o + 1 ≤ Rows.uptoBulk d := hwt
  obtain ⟨cs⟩ := cs
  match cs, hl with
  | [u0, u1, u2], _ =>
    have e0 : [u0] = [.slice a n c] := h1
    have e1 : [u1] = [.int .i64 m] := h2
    have e2 : [u2] = [.int .i64 s] := h3
    simp only [List.cons.injEq, and_true] at e0 e1 e2
    subst e0 e1 e2
    exact ⟨a, n, c, o, m, s, rfl, h1', ⟨by omega⟩⟩

theorem jr_to {F : Nat → Prop} {w : World} {a : Option Addr} {n c : Nat} {o : List (List UInt8)} {m s : Int} (h : Sl (eSl eByte) F w a n c o) : (jr o m s).rel F w (.agg #[.slice a n c, .int .i64 m, .int .i64 s]) :=
  ⟨[.slice a n c, .int .i64 m, .int .i64 s], rfl, .cons ⟨a, n, c, rfl, h⟩ (.cons rfl (.cons rfl .nil))⟩

theorem appendSpec_run (W : World) (a : Option Addr) (n c : Nat) (o : List (List UInt8)) (m s : Int) (a2 : Option Addr) (n2 c2 : Nat) (b : List UInt8) (h : Sl (eSl eByte) (fun _ => True) W a n c o) (hs : SmallR o) (h2 : Sl eByte (fun _ => True) W a2 n2 c2 b) (hb : b.length ≤ 2 ^ 20) :
    Calls Try.prog 4 #[.agg #[.slice a n c, .int .i64 m, .int .i64 s], .slice a2 n2 c2] W fun e w' => e = .returned (.bool true) ∧ Below W.heap.size W w' :=
  law_of (appendSpec_any o m s b hs hb) (.cons (jr_to h) (.cons ⟨a2, n2, c2, rfl, h2⟩ .nil))

end Go.Proofs.Ytmghnjahjeinnaa
