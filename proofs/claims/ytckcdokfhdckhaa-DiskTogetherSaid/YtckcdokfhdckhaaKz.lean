/- From a reading of the arguments, as the statements make it, to Lean data; and the row of a law that answers true and turns nothing that was there. No program in sight. -/
import Derived.Test.YtckcdokfhdckhaaKx
import Derived.SizedLaws
namespace Go.Kx
open Go.RowKit Go.ChangeShapes Go.WideShapes Go.ChangeAt

/-- Data of type t reads by E, whatever the memory. -/
def Reads (P : Program) {α : Type} (t : TypeId) (E : Enc α) : Prop :=
  ∀ (H : Type) (enc : TypeId × Value → H) (w : World) (fuel : Nat) (cs : List Value) (x : DataW H × List MemPlace),
    DataW.trod enc P w 0 (fun _ => true) true fuel t cs = some x → (∀ n ∈ x.1.weights P t, n ≤ reachBytes) → ∃ a, E.rel (fun _ => True) w cs a

theorem cell_lt {w : World} {a : Addr} {v : Value} (h : w.cell? a = some v) : a.block < w.heap.size ∧ a.spot = none := by
  unfold World.cell? at h
  split at h
  · rename_i he
    refine ⟨(Array.getElem?_eq_some_iff.1 he).1, ?_⟩
    split at h
    · cases h
    · rename_i hs; simpa using hs
  · cases h

theorem reads_byte {P : Program} {t : TypeId} (ht : P.underlying t = some (.int .u8)) : Reads P t eByte := by
  intro H enc w fuel cs x h _
  obtain ⟨n, rfl, _, hw⟩ := DataW.trod_int ht h
  have hw2 : IntKind.u8.min ≤ n ∧ n ≤ IntKind.u8.max := by simpa only [Lit.wf, Bool.and_eq_true, decide_eq_true_eq] using hw
  have hw' : (0 : Int) ≤ n ∧ n ≤ 255 := by rw [show IntKind.u8.min = 0 from rfl, show IntKind.u8.max = 255 from rfl] at hw2; exact hw2
  refine ⟨UInt8.ofNat n.toNat, ?_⟩
  show [Value.int .u8 n] = [Value.int .u8 ((UInt8.ofNat n.toNat).toNat : Int)]
  rw [UInt8.toNat_ofNat']
  congr 2
  omega

theorem reads_int {P : Program} {t : TypeId} (ht : P.underlying t = some (.int .i64)) : Reads P t eInt := by
  intro H enc w fuel cs x h _
  obtain ⟨n, rfl, _, hw⟩ := DataW.trod_int ht h
  have hw2 : IntKind.i64.min ≤ n ∧ n ≤ IntKind.i64.max := by simpa only [Lit.wf, Bool.and_eq_true, decide_eq_true_eq] using hw
  have hw' : (-9223372036854775808 : Int) ≤ n ∧ n ≤ 9223372036854775807 := by rw [show IntKind.i64.min = -9223372036854775808 from rfl, show IntKind.i64.max = 9223372036854775807 from rfl] at hw2; exact hw2
  exact ⟨n, rfl, hw'.1, hw'.2⟩

theorem reads_bool {P : Program} {t : TypeId} (ht : P.underlying t = some .bool) : Reads P t eBool := by
  intro H enc w fuel cs x h _
  obtain ⟨b, rfl, _⟩ := DataW.trod_bool ht h
  exact ⟨b, rfl⟩

theorem weightsAll_of_mem {H : Type} {P : Program} {e : TypeId} : ∀ {l : List (DataW H)} {d : DataW H}, d ∈ l → ∀ n ∈ d.weights P e, n ∈ DataW.weightsAll P e l
  | d' :: r, d, hd, n, hn => by
    simp only [DataW.weightsAll, List.mem_append]
    rcases List.mem_cons.1 hd with rfl | h
    · exact Or.inl hn
    · exact Or.inr (weightsAll_of_mem h n hn)

theorem list_of_all {α : Type} {n : Nat} {p : Nat → α → Prop} (h : ∀ i, i < n → ∃ x, p i x) : ∃ l : List α, l.length = n ∧ ∀ i (hi : i < l.length), p i l[i] := by
  induction n with
  | zero => exact ⟨[], rfl, fun i hi => absurd hi (Nat.not_lt_zero _)⟩
  | succ n ih =>
    obtain ⟨l, hl, hp⟩ := ih fun i hi => h i (Nat.lt_succ_of_lt hi)
    obtain ⟨x, hx⟩ := h n (Nat.lt_succ_self n)
    refine ⟨l ++ [x], by simp [hl], fun i hi => ?_⟩
    by_cases hlt : i < l.length
    · rw [List.getElem_append_left hlt]; exact hp i hlt
    · have : i = n := by simp at hi; omega
      subst this
      rw [List.getElem_append_right (by omega)]
      simpa [hl] using hx

/-- A slice reads, where its elements do. -/
theorem reads_slice {P : Program} {α : Type} {t e : TypeId} {E : Enc α} (ht : P.underlying t = some (.slice e)) (hsz : P.cellsOf e = E.size) (h0 : 0 < E.size) (hby : P.bytesOf e = E.bytes) (hE : Reads P e E) : Reads P t (eSl E) := by
  intro H enc w fuel cs x h hw
  rcases DataW.trod_slice ht h with ⟨rfl, rfl⟩ | ⟨a, len, cap, elems, rest, n, _, rfl, rfl, _, hl, hm, hlen, hel, hsp, _⟩
  · exact ⟨[], none, 0, 0, rfl, Sl.zero _ _ _⟩
  · have hwt : ∀ k, k ∈ ((elems.map (·.1)).length + (rest.map (·.1)).length) * P.bytesOf e :: (DataW.weightsAll P e (elems.map (·.1)) ++ DataW.weightsAll P e (rest.map (·.1))) → k ≤ reachBytes := by
      intro k hk
      apply hw
      simpa [DataW.weights, ht] using hk
    have hall : ∀ i, i < len → ∃ y, ∃ b off cs', some a = some (⟨b, off, none⟩ : Addr) ∧ b < w.heap.size ∧ cs'.length = E.size ∧ (∀ j, j < E.size → w.cell? ⟨b, off + i * E.size + j, none⟩ = cs'[j]?) ∧ E.rel (fun _ => True) w cs' y := by
      intro i hi
      have hk := hel i hi
      rw [List.getElem?_eq_getElem (by omega)] at hk
      obtain ⟨cs', h1, h2⟩ := Option.bind_eq_some_iff.1 hk
      obtain ⟨y, hy⟩ := hE H enc w n cs' _ h2 (fun k hkk => hwt k (List.mem_cons_of_mem _ (List.mem_append.2 (Or.inl (weightsAll_of_mem (List.mem_map_of_mem (List.getElem_mem (l := elems) (n := i) (by omega))) k hkk)))))
      obtain ⟨_, hlen', hcells⟩ := World.cells?_some h1
      rw [hsz] at hcells hlen'
      have hc0 := hcells 0 h0
      obtain ⟨v, hv⟩ : ∃ v, cs'[0]? = some v := ⟨_, List.getElem?_eq_getElem (by omega)⟩
      rw [hv] at hc0
      obtain ⟨hb, hs⟩ := cell_lt hc0
      have hspot : a.spot = none ∨ i ≠ 0 := by
        by_cases hi0 : i = 0
        · subst hi0; left; simpa [Addr.add] using hs
        · exact Or.inr hi0
      have hblk : a.block < w.heap.size := by
        have e : ((a.add (i * E.size)).add 0).block = a.block := by unfold Addr.add; split <;> split <;> rfl
        rwa [e] at hb
      have hns : a.spot = none := by
        rcases hspot with h | h
        · exact h
        · have hk0 := hel 0 (by omega)
          rw [List.getElem?_eq_getElem (by omega)] at hk0
          obtain ⟨cs0, h10, _⟩ := Option.bind_eq_some_iff.1 hk0
          obtain ⟨_, hlen0, hcells0⟩ := World.cells?_some h10
          rw [hsz] at hcells0 hlen0
          have hc00 := hcells0 0 h0
          rw [List.getElem?_eq_getElem (by omega)] at hc00
          simpa [Addr.add] using (cell_lt hc00).2
      obtain ⟨ab, ao, as⟩ := a
      simp only at hns hblk
      subst hns
      refine ⟨y, ab, ao, cs', rfl, hblk, hlen', fun j hj => ?_, hy⟩
      rw [← hcells j hj]
      congr 1
      unfold Addr.add
      by_cases h1 : i * E.size = 0 <;> by_cases h2 : j = 0 <;> simp [h1, h2]
    obtain ⟨l, hll, hl2⟩ := list_of_all hall
    refine ⟨l, some a, len, cap, rfl, Sl.mk hll hl hm ?_ (fun h => absurd h (by simp)) fun i hi => ?_⟩
    · have := hwt _ List.mem_cons_self
      rw [hby] at this
      simp only [List.length_map, hlen, reachBytes] at this
      have h2 : len * E.bytes ≤ (len + rest.length) * E.bytes := Nat.mul_le_mul_right _ (by omega)
      omega
    · obtain ⟨b, off, cs', h1, h2, h3, h4, h5⟩ := hl2 i hi
      exact ⟨b, off, cs', h1, trivial, h2, h3, h4, h5⟩

/-- One field of a struct. -/
theorem reads_field {P : Program} {t : TypeId} {fs : Array Field} (ht : P.underlying t = some (.struct fs)) {H : Type} {enc : TypeId × Value → H} {w : World} {fuel : Nat} {cs : List Value} {x : DataW H × List MemPlace}
    (h : DataW.trod enc P w 0 (fun _ => true) true fuel t cs = some x) (hw : ∀ n ∈ x.1.weights P t, n ≤ reachBytes) (i : Nat) (f : Field) (hf : fs[i]? = some f) {α : Type} {E : Enc α} (hE : Reads P f.type E) :
    cs.length = P.cellsOf t ∧ ∃ a, E.rel (fun _ => True) w ((cs.drop f.offset).take (P.cellsOf f.type)) a := by
  obtain ⟨xs, n, _, rfl, hl, hlen, hfs⟩ := DataW.trod_struct ht h
  have hi : i < fs.size := by
    rcases Nat.lt_or_ge i fs.size with h | h
    · exact h
    · rw [Array.getElem?_eq_none h] at hf; cases hf
  have hk := hfs i f hf
  rw [List.getElem?_eq_getElem (by omega)] at hk
  refine ⟨hl, hE H enc w n _ _ hk fun k hkk => hw k ?_⟩
  simp only [DataW.weights, ht]
  exact DataW.weights_mem_each (j := i) (t := f.type) (d := xs[i].1) (by rw [List.getElem?_map, Array.getElem?_toList, hf]; rfl) (by rw [List.getElem?_map, List.getElem?_eq_getElem (by omega)]; rfl) k hkk

/-! ### Arguments -/

/-- The arguments, as a statement reads them. -/
def ArgsIn (P : Program) (W : World) (ts : List TypeId) (vs : List Value) : Prop :=
  ∃ (base : Nat) (H : Type) (enc : TypeId × Value → H) (ds : List (DataW H)) (p : List MemPlace), (∀ (j : Nat) t v, ts[j]? = some t → vs[j]? = some v → Value.okWide P W .any base t v) ∧
    DataW.TrodAll enc P W 0 (fun _ => true) true ts vs ds p ∧ ∀ n ∈ DataW.weightsEach P ts ds, n ≤ reachBytes

def ArgIn (P : Program) (W : World) (t : TypeId) (v : Value) : Prop :=
  ∃ (base : Nat) (H : Type) (enc : TypeId × Value → H) (d : DataW H) (p : List MemPlace), Value.okWide P W .any base t v ∧ DataW.Trod enc P W 0 (fun _ => true) true t v d p ∧ ∀ n ∈ d.weights P t, n ≤ reachBytes

theorem ArgsIn.cons {P : Program} {W : World} {t : TypeId} {ts : List TypeId} {vs : List Value} (h : ArgsIn P W (t :: ts) vs) : ∃ v vs', vs = v :: vs' ∧ ArgIn P W t v ∧ ArgsIn P W ts vs' := by
  obtain ⟨base, H, enc, ds, p, hok, hA, hw⟩ := h
  match vs, ds, hA with
  | v :: vs', d :: ds', ⟨q, q', h1, h2, _⟩ =>
    refine ⟨v, vs', rfl, ⟨base, H, enc, d, q, hok 0 t v rfl rfl, h1, fun n hn => hw n ?_⟩, ⟨base, H, enc, ds', q', fun j t' v' h3 h4 => hok (j + 1) t' v' h3 h4, h2, fun n hn => hw n ?_⟩⟩
    · simp only [DataW.weightsEach, List.mem_append]; exact Or.inl hn
    · simp only [DataW.weightsEach, List.mem_append]; exact Or.inr hn

theorem ArgsIn.nil {P : Program} {W : World} {vs : List Value} (h : ArgsIn P W [] vs) : vs = [] := by
  obtain ⟨base, H, enc, ds, p, hok, hA, hw⟩ := h
  match vs, ds, hA with
  | [], [], _ => rfl

theorem ArgIn.int {P : Program} {W : World} {t : TypeId} {v : Value} {k : IntKind} (h : ArgIn P W t v) (ht : P.underlying t = some (.int k)) : ∃ n : Int, v = .int k n ∧ k.min ≤ n ∧ n ≤ k.max := by
  obtain ⟨base, H, enc, d, p, hok, ht', hw⟩ := h
  obtain ⟨n, rfl, _, _, hwf⟩ := open_int ht hok ht'
  simp only [Lit.wf, Bool.and_eq_true, decide_eq_true_eq] at hwf
  exact ⟨n, rfl, hwf.1, hwf.2⟩

theorem ArgIn.bool {P : Program} {W : World} {t : TypeId} {v : Value} (h : ArgIn P W t v) (ht : P.underlying t = some .bool) : ∃ b : Bool, v = .bool b := by
  obtain ⟨base, H, enc, d, p, hok, _⟩ := h
  exact okWide_bool ht hok

theorem ArgIn.slice {P : Program} {W : World} {t e : TypeId} {v : Value} {α : Type} {E : Enc α} (h : ArgIn P W t v) (ht : P.underlying t = some (.slice e)) (hE : Reads P t (eSl E)) : ∃ a n c l, v = .slice a n c ∧ Sl E (fun _ => True) W a n c l := by
  obtain ⟨base, H, enc, d, p, hok, ⟨fuel, hf⟩, hw⟩ := h
  obtain ⟨a, n, c, rfl⟩ := okWide_slice ht hok
  obtain ⟨l, a', n', c', hc, hs⟩ := hE H enc W fuel _ _ hf hw
  simp only [Value.cells, List.cons.injEq, Value.slice.injEq, and_true] at hc
  obtain ⟨rfl, rfl, rfl⟩ := hc
  exact ⟨_, _, _, l, rfl, hs⟩

theorem ArgIn.struct {P : Program} {W : World} {t : TypeId} {fs : Array Field} {v : Value} {α : Type} {E : Enc α} (h : ArgIn P W t v) (ht : P.underlying t = some (.struct fs)) (hE : Reads P t E) : ∃ cs a, v = .agg cs ∧ E.rel (fun _ => True) W cs.toList a := by
  obtain ⟨base, H, enc, d, p, hok, ⟨fuel, hf⟩, hw⟩ := h
  obtain ⟨cs, rfl, _⟩ := okWide_struct ht hok
  obtain ⟨a, ha⟩ := hE H enc W fuel _ _ hf hw
  exact ⟨cs, a, rfl, ha⟩

/-! ### The row -/

theorem trodAll_below {H : Type} {enc : TypeId × Value → H} {P : Program} (hl : laidOutB P = true) {W W' : World} (hb : Below W.heap.size W W') :
    ∀ {ts : List TypeId} {vs : List Value} {ds : List (DataW H)} {ps : List MemPlace}, (∀ t ∈ ts, P.readableRec t = true ∧ t < P.types.size) →
      DataW.TrodAll enc P W 0 (fun _ => true) true ts vs ds ps → (∀ x ∈ ps, x.block < W.heap.size) → DataW.TrodAll enc P W' 0 (fun b => decide (b < W.heap.size)) true ts vs ds ps
  | [], [], [], _, _, h, _ => h
  | t :: ts, v :: vs, d :: ds, _, hr, ⟨p, q, h1, h2, e⟩, hlt => by
    subst e
    exact ⟨p, q, Below.trod hl (hr t List.mem_cons_self).1 (hr t List.mem_cons_self).2 h1 hb fun x hx => hlt x (List.mem_append.2 (Or.inl hx)),
      trodAll_below hl hb (fun t' ht' => hr t' (List.mem_cons_of_mem _ ht')) h2 fun x hx => hlt x (List.mem_append.2 (Or.inr hx)), rfl⟩

/-- A LAW: it answers true, and all that was there is as it was. -/
theorem law_lifted {C : Checked} {os : Os} {f : FuncId} {fn : Func} {s : ChangeSpec} {tb : TypeId} {H : Type} {enc : TypeId × Value → H}
    (own : ownKnob C.prog.godebug = none) (hl : laidOutB C.prog = true) (started : os.Started) (noInit : C.prog.inits.idxOf? f = none) (hfn : C.prog.funcs[f]? = some fn)
    (hres : fn.resultTypes = #[tb]) (htb : C.prog.underlying tb = some .bool) (hvars : s.vars = [])
    (hread : fn.params.toList.all (fun t => C.prog.readableRec t && decide (t < C.prog.types.size)) = true)
    (hs : ∀ ds : List (DataW H), ds.length = fn.params.size → s.fn H (ds ++ []) = { results := [.lit (.bool true)], args := ds })
    (witness : ∃ (w : World) (tape : Tape) (i : Input), w.os = os ∧ (w.forCall tape i).Shaped C.prog ∧ i.vars = [] ∧ Input.okWide C.prog (w.forCall tape i) .any w.heap.size f i ∧
      s.pre6 enc C.prog fn [] false (w.forCall tape i).memory i.args ∧ ({} : Assume).holds C.prog (lone (Frame.enter C.prog f i.args .normal) [] (w.forCall tape i)))
    (walk : ∀ (W : World) (args : Array Value), ArgsIn C.prog W fn.params.toList args.toList → Calls C.prog f args W fun e W' => e = .returned (.bool true) ∧ Below W.heap.size W W') :
    ReturnsInHanded {} C os f .any (s.pre6 enc C.prog fn [] false) (s.post enc C.prog fn false true false false) := by
  refine returnsInHanded_of_change_sized own started noInit hfn witness ?_
  intro W base args ds gs before hval hW _ hsz _
  have hlt := hW.lt
  have hW' := hW
  obtain ⟨p, q, hA, hV, rfl, _, _⟩ := hW
  rw [hvars] at hV
  obtain ⟨rfl, rfl⟩ := trodVars_none hV
  have hvt : s.plain.varTypes C.prog = [] := by simp [DataSpec.varTypes, ChangeSpec.plain, hvars]
  rw [hvt, List.append_nil, List.append_nil] at hsz
  have hlen : ∀ {ts : List TypeId} {vs : List Value} {es : List (DataW H)} {ps : List MemPlace}, DataW.TrodAll enc C.prog W 0 (fun _ => true) true ts vs es ps → es.length = ts.length := by
    intro ts
    induction ts with
    | nil => intro vs es ps h; match vs, es, h with | [], [], _ => rfl
    | cons t ts ih => intro vs es ps h; match vs, es, h with | v :: vs, d :: es, ⟨_, _, _, h2, _⟩ => simp [ih h2]
  have hd := hs ds ((hlen hA).trans (by simp))
  refine (walk W args ⟨base, H, enc, ds, p, fun j t v h1 h2 => hval j t v (by simpa using h1) (by simpa using h2), hA, fun n hn => by simpa using List.all_eq_true.1 hsz n hn⟩).mono ?_
  rintro e W' ⟨rfl, hb⟩
  refine ⟨_, rfl, ds, [], p ++ [], [], p, [], hW', ?_, ?_, ?_, hb.frame _, fun h => by cases h⟩
  · rw [hd, hres]
    exact trodAll_mk1 (shut_bool htb true)
  · rw [hd]
    exact trodAll_below hl hb (fun t ht => by simpa using List.all_eq_true.1 hread t ht) hA fun x hx => hlt x (List.mem_append.2 (Or.inl hx))
  · rw [hd, hvars]; rfl

end Go.Kx
