/- What reads as data of a Go type reads as the printed kind of that type (bridges between the form's readings and the printed contracts). -/
import Derived.Test.YtegcobkhejpmkaaDoorRows
import Derived.Test.YtegcobkhejpmkaaDoorVocab
import Derived.Deep.Slices
import Derived.ChangeArms
import Derived.OpenShut
import Derived.SizedLaws
namespace Go.Proofs.YtegcobkhejpmkaaDoor.Br
open Go.RowKit Go.Deep Go.Proofs.YtegcobkhejpmkaaDoorW.PrintWords
open Go.WideShapes

theorem bulk_pos {H : Type} (d : DataW H) : 1 ≤ Rows.uptoBulk d := by
  cases d with
  | lit l => cases l <;> simp [Rows.uptoBulk]
  | nil => simp [Rows.uptoBulk]
  | ptr d => simp [Rows.uptoBulk]
  | slice elems spare => simp [Rows.uptoBulk]
  | agg parts => simp [Rows.uptoBulk]
  | iface t d => simp [Rows.uptoBulk]
  | map entries => simp [Rows.uptoBulk]
  | held h => simp [Rows.uptoBulk]
theorem bulk_part {H : Type} {d : DataW H} {l : List (DataW H)} (h : d ∈ l) : Rows.uptoBulk d ≤ Rows.uptoBulkAll l := by
  induction l with
  | nil => cases h
  | cons x r ih =>
    simp only [Rows.uptoBulkAll]
    cases List.mem_cons.1 h with
    | inl e => subst e; omega
    | inr e => have := ih e; omega
theorem bulk_len {H : Type} (l : List (DataW H)) : l.length ≤ Rows.uptoBulkAll l := by
  induction l with
  | nil => simp [Rows.uptoBulkAll]
  | cons x r ih => have := bulk_pos x; simp only [Rows.uptoBulkAll, List.length_cons]; omega
theorem bulk_cons {H : Type} (d : DataW H) (l : List (DataW H)) : Rows.uptoBulkAll (d :: l) = Rows.uptoBulk d + Rows.uptoBulkAll l := by simp only [Rows.uptoBulkAll]
theorem bulk_slice {H : Type} (e s : List (DataW H)) : Rows.uptoBulk (.slice e s) = Rows.uptoBulkAll e + Rows.uptoBulkAll s + 1 := by simp only [Rows.uptoBulk]
theorem bulk_agg {H : Type} (e : List (DataW H)) : Rows.uptoBulk (.agg e) = Rows.uptoBulkAll e + 1 := by simp only [Rows.uptoBulk]
theorem bulk_string {H : Type} (bytes : List UInt8) : Rows.uptoBulk (DataW.lit (H := H) (.string bytes)) = bytes.length + 1 := by simp only [Rows.uptoBulk]
/-- the bound of the second form -/
theorem small {H : Type} {l : List (DataW H)} (hk : Rows.uptoSmall H l = true) : Rows.uptoBulkAll l ≤ 1048576 := of_decide_eq_true hk

/-- What reads as data of type T reads as kind d; the value meets Ok (at the datum's bulk). -/
structure Br {α : Type} (P : Program) (d : Kd α) (T : TypeId) (Ok : Nat → α → Prop) : Prop where
  sz : d.sz = P.cellsOf T
  mono : ∀ a b x, a ≤ b → Ok a x → Ok b x
  get : ∀ (H : Type) (enc : TypeId × Value → H) (w : World) (base : Nat) (spare : Nat → Bool) (held : Bool) (fuel : Nat) (cs : List Value) (x : DataW H × List MemPlace),
    DataW.trod enc P w base spare held fuel T cs = some x → ∃ v : α, d.K w v cs ∧ Ok (Rows.uptoBulk x.1) v

section
variable {P : Program} {T E : TypeId}
theorem br_int {k : IntKind} (ht : P.underlying T = some (.int k)) (hc : P.cellsOf T = 1) : Br P (Kd.int k) T (fun _ n => (Lit.int k n).wf = true) where
  sz := hc.symm
  mono := fun _ _ _ _ h => h
  get := fun H enc w base spare held fuel cs x h => by
    obtain ⟨n, rfl, rfl, hw⟩ := DataW.trod_int ht h
    exact ⟨n, rfl, hw⟩
theorem br_bool (ht : P.underlying T = some .bool) (hc : P.cellsOf T = 1) : Br P Kd.bool T (fun _ _ => True) where
  sz := hc.symm
  mono := fun _ _ _ _ h => h
  get := fun H enc w base spare held fuel cs x h => by
    obtain ⟨n, rfl, rfl⟩ := DataW.trod_bool ht h
    exact ⟨n, rfl, trivial⟩
theorem br_string (ht : P.underlying T = some .string) (hc : P.cellsOf T = 1) : Br P Kd.string T (fun N s => s.size ≤ N ∧ s.size ≤ maxLen) where
  sz := hc.symm
  mono := fun _ _ _ hab h => ⟨Nat.le_trans h.1 hab, h.2⟩
  get := fun H enc w base spare held fuel cs x h => by
    obtain ⟨s, rfl, rfl, hs⟩ := DataW.trod_string ht h
    refine ⟨s, rfl, ?_, hs⟩
    rw [bulk_string, Array.length_toList]
    have e : s.size = s.data.size := rfl
    omega

theorem rows_of {α : Type} (p : Nat → α → Prop) : ∀ n, (∀ i, i < n → ∃ x, p i x) → ∃ xs : List α, xs.length = n ∧ ∀ j x, xs[j]? = some x → p j x
  | 0, _ => ⟨[], rfl, fun j x h => by simp at h⟩
  | n + 1, h => by
    obtain ⟨xs, hl, hx⟩ := rows_of p n (fun i hi => h i (Nat.lt_succ_of_lt hi))
    obtain ⟨y, hy⟩ := h n (Nat.lt_succ_self n)
    refine ⟨xs ++ [y], by simp [hl], fun j x hj => ?_⟩
    by_cases hjn : j < xs.length
    · rw [List.getElem?_append_left hjn] at hj
      exact hx j x hj
    · rw [List.getElem?_append_right (by omega)] at hj
      have hj0 : j - xs.length = 0 := by
        have := (List.getElem?_eq_some_iff.1 hj).1
        simp at this
        omega
      rw [hj0] at hj
      simp at hj
      subst hj
      have : j = n := by omega
      subst this
      exact hy

theorem br_slice {α : Type} {d : Kd α} {Ok : Nat → α → Prop} (ht : P.underlying T = some (.slice E)) (hc : P.cellsOf T = 1) (h : Br P d E Ok) :
    Br P (Kd.slice E d) T (fun N xs => xs.length ≤ N ∧ xs.length ≤ maxLen ∧ ∀ x ∈ xs, Ok N x) where
  sz := hc.symm
  mono := fun _ _ _ hab g => ⟨Nat.le_trans g.1 hab, g.2.1, fun x hx => h.mono _ _ _ hab (g.2.2 x hx)⟩
  get := fun H enc w base spare held fuel cs x hf => by
    rcases open_slice ht hf with ⟨rfl, rfl⟩ | ⟨a, len, cap, m, n, D, Pl, rfl, hb, hl, hm, hmm, rfl, hi⟩
    · exact ⟨[], ⟨none, 0, rfl, Nat.le_refl _, rfl, by simp, fun h0 => absurd h0 (Nat.lt_irrefl 0)⟩, by simp, by simp, fun x hx => by simp at hx⟩
    · have hlm : len ≤ m := by rw [hmm]; split <;> omega
      obtain ⟨xs, hxl, hx⟩ := rows_of (fun i (v : α) => (∃ c, c.length = d.sz ∧ d.K w v c ∧ ∀ j u, c[j]? = some u → w.cell? (a.add (i * d.sz + j)) = some u) ∧ Ok (Rows.uptoBulk (D i)) v) len (fun i hil => by
        obtain ⟨cs', h1, h2⟩ := hi i (by omega)
        obtain ⟨_, hcl, hat⟩ := World.cells?_some h1
        obtain ⟨v, hv, hok⟩ := h.get _ _ _ _ _ _ _ _ _ h2
        refine ⟨v, ⟨cs', hcl.trans h.sz.symm, hv, fun j u hj => ?_⟩, hok⟩
        have hjl : j < P.cellsOf E := by
          have := (List.getElem?_eq_some_iff.1 hj).1
          omega
        rw [h.sz, ← Go.Deep.add_add, hat j hjl, hj])
      have hml : maxLen = 9223372036854775807 := rfl
      refine ⟨xs, ⟨some a, cap, by rw [hxl], by omega, rfl, by omega, fun h0 => ⟨a, rfl, fun j p hj => ?_⟩⟩, ?_, by omega, fun x hx' => ?_⟩
      · exact (hx j p hj).1
      · have := bulk_len ((List.range len).map D)
        simp only [List.length_map, List.length_range] at this
        rw [bulk_slice]
        omega
      · obtain ⟨j, hj⟩ := List.mem_iff_getElem?.1 hx'
        have hjl := (List.getElem?_eq_some_iff.1 hj).1
        refine h.mono _ _ _ ?_ (hx j x hj).2
        have := bulk_part (d := D j) (l := (List.range len).map D) (List.mem_map.2 ⟨j, List.mem_range.2 (by omega), rfl⟩)
        show _ ≤ Rows.uptoBulk (DataW.slice _ _)
        rw [bulk_slice]
        omega

/-- Fields of a struct from cell o on. -/
structure Brs {α : Type} (P : Program) (d : Kd α) (fs : List TypeId) (Ok : Nat → α → Prop) : Prop where
  mono : ∀ a b x, a ≤ b → Ok a x → Ok b x
  get : ∀ (H : Type) (enc : TypeId × Value → H) (w : World) (base : Nat) (spare : Nat → Bool) (held : Bool) (n : Nat) (cs : List Value) (ys : List (DataW H × List MemPlace)),
    cs.length = d.sz → ys.length = fs.length → (∀ j t y, fs[j]? = some t → ys[j]? = some y → DataW.trod enc P w base spare held n t ((cs.drop (((fs.take j).map P.cellsOf).sum)).take (P.cellsOf t)) = some y) →
    ∃ v : α, d.K w v cs ∧ Ok (Rows.uptoBulkAll (ys.map (·.1))) v

theorem brs_one {α : Type} {d : Kd α} {Ok : Nat → α → Prop} (h : Br P d T Ok) : Brs P d [T] Ok where
  mono := h.mono
  get := fun H enc w base spare held n cs ys hc hy hf => by
    match ys, hy with
    | [y], _ =>
      have h0 := hf 0 T y rfl rfl
      simp only [List.take_zero, List.map_nil, List.sum_nil, List.drop_zero] at h0
      rw [List.take_of_length_le (by rw [hc, h.sz]; exact Nat.le_refl _)] at h0
      obtain ⟨v, hv, ho⟩ := h.get _ _ _ _ _ _ _ _ _ h0
      refine ⟨v, hv, h.mono _ _ _ ?_ ho⟩
      simp only [List.map_cons, List.map_nil]
      rw [bulk_cons]
      omega
theorem brs_cons {α β : Type} {d0 : Kd α} {d1 : Kd β} {fs : List TypeId} {Ok0 : Nat → α → Prop} {Ok1 : Nat → β → Prop} (h0 : Br P d0 T Ok0) (h1 : Brs P d1 fs Ok1) :
    Brs P (Kd.pair d0 d1) (T :: fs) (fun N x => Ok0 N x.1 ∧ Ok1 N x.2) where
  mono := fun _ _ _ hab g => ⟨h0.mono _ _ _ hab g.1, h1.mono _ _ _ hab g.2⟩
  get := fun H enc w base spare held n cs ys hc hy hf => by
    match ys, hy with
    | y :: ys, hy =>
      have hsz : (Kd.pair d0 d1).sz = d0.sz + d1.sz := rfl
      have z0 := hf 0 T y rfl rfl
      simp only [List.take_zero, List.map_nil, List.sum_nil, List.drop_zero] at z0
      obtain ⟨v0, hv0, ho0⟩ := h0.get _ _ _ _ _ _ _ _ _ z0
      obtain ⟨v1, hv1, ho1⟩ := h1.get H enc w base spare held n (cs.drop (P.cellsOf T)) ys (by rw [List.length_drop, hc, hsz, h0.sz]; omega) (by simpa using hy) (fun j t y' hj hy' => by
        have := hf (j + 1) t y' (by simpa using hj) (by simpa using hy')
        simpa [List.drop_drop, Nat.add_comm] using this)
      refine ⟨(v0, v1), ⟨cs.take (P.cellsOf T), cs.drop (P.cellsOf T), (List.take_append_drop _ _).symm, hv0, hv1⟩, ?_, ?_⟩
      · refine h0.mono _ _ _ ?_ ho0
        simp only [List.map_cons]
        rw [bulk_cons]
        omega
      · refine h1.mono _ _ _ ?_ ho1
        simp only [List.map_cons]
        rw [bulk_cons]
        omega
/-- A struct. -/
theorem br_struct {α β : Type} {d : Kd α} {fs : Array Field} {ts : List TypeId} {Ok : Nat → α → Prop} {f : β → α} {g : α → β} (ht : P.underlying T = some (.struct fs)) (hc : d.sz = P.cellsOf T)
    (hts : fs.toList.map (·.type) = ts) (hos : fs.toList.map (·.offset) = (List.range ts.length).map (fun j => ((ts.take j).map P.cellsOf).sum)) (hfg : ∀ x, f (g x) = x) (h : Brs P d ts Ok) :
    Br P (Kd.iso d f) T (fun N x => Ok N (f x)) where
  sz := hc
  mono := fun _ _ _ hab o => h.mono _ _ _ hab o
  get := fun H enc w base spare held fuel cs x hf => by
    obtain ⟨xs, n, rfl, rfl, hl, hxl, hg⟩ := DataW.trod_struct ht hf
    have hlen : ts.length = fs.size := by rw [← hts]; simp
    obtain ⟨v, hv, ho⟩ := h.get H enc w base spare held n cs xs (hl.trans hc.symm) (by omega) (fun j t y hj hy => by
      have hjl : j < ts.length := (List.getElem?_eq_some_iff.1 hj).1
      have hjf : j < fs.size := by omega
      have hfj : fs[j]? = some fs[j] := Array.getElem?_eq_getElem hjf
      have e1 : fs[j].type = t := by
        have : (fs.toList.map (·.type))[j]? = some t := by rw [hts]; exact hj
        rw [List.getElem?_map] at this
        simpa [hjf] using this
      have e2 : fs[j].offset = ((ts.take j).map P.cellsOf).sum := by
        have : (fs.toList.map (·.offset))[j]? = some (((ts.take j).map P.cellsOf).sum) := by rw [hos]; simp [hjl]
        rw [List.getElem?_map] at this
        simpa [hjf] using this
      have := hg j _ hfj
      rw [e1, e2, hy] at this
      exact this)
    refine ⟨g v, ?_, ?_⟩
    · show d.K w (f (g v)) cs
      rw [hfg]
      exact hv
    · show Ok _ (f (g v))
      rw [hfg]
      refine h.mono _ _ _ ?_ ho
      rw [bulk_agg]
      omega

/-- A parameter that is a slice. -/
theorem arg_slice {α : Type} {d : Kd α} {Ok' : Nat → List α → Prop} {H : Type} {enc : TypeId × Value → H} {w : World} {base : Nat} {spare : Nat → Bool} {held : Bool} {dat : DataW H} {ps : List MemPlace} {a : Option Addr} {len cap : Nat}
    (h : Br P (Kd.slice E d) T Ok') (hv : DataW.Trod enc P w base spare held T (.slice a len cap) dat ps) : ∃ xs, len = xs.length ∧ xs.length ≤ cap ∧ d.C w a xs.length xs ∧ Ok' (Rows.uptoBulk dat) xs := by
  obtain ⟨fuel, hf⟩ := hv
  obtain ⟨xs, ⟨A, c, e, hc, hC⟩, ho⟩ := h.get _ _ _ _ _ _ _ _ _ hf
  simp only [Value.cells] at e
  injection e with e _
  injection e with e1 e2 e3
  subst e1; subst e2; subst e3
  exact ⟨xs, rfl, hc, hC, ho⟩
/-- A parameter that is a slice takes no more than the form's reach. -/
theorem arg_sized {H : Type} {enc : TypeId × Value → H} {w : World} {base : Nat} {spare : Nat → Bool} {held : Bool} {dat : DataW H} {ps : List MemPlace} {a : Option Addr} {len cap : Nat} {ts : List TypeId} {ds : List (DataW H)} {j B : Nat}
    (hsz : (DataW.weightsEach P ts ds).all (· ≤ reachBytes) = true) (ht : ts[j]? = some T) (hd : ds[j]? = some dat) (hu : P.underlying T = some (.slice E)) (hB : P.bytesOf E = B) (hv : DataW.Trod enc P w base spare held T (.slice a len cap) dat ps) : len * B ≤ 140737488351232 := by
  obtain ⟨fuel, hf⟩ := hv
  rcases open_slice hu hf with ⟨hcs, _⟩ | ⟨x, l, c, m, n, D, Pl, hcs, _, _, _, _, hx, _⟩
  · simp [Value.cells] at hcs
    obtain ⟨rfl, rfl, rfl⟩ := hcs
    simp
  · simp [Value.cells] at hcs
    obtain ⟨rfl, rfl, rfl⟩ := hcs
    obtain ⟨hx, _⟩ := Prod.mk.inj hx
    subst hx
    have z := sized_slice hsz ht hd hu
    rw [hB, List.length_map, List.length_range] at z
    exact Nat.le_trans (Nat.mul_le_mul_right _ (Nat.le_add_right _ _)) z
/-- A parameter that is a struct by value. -/
theorem arg_struct {α : Type} {d : Kd α} {Ok : Nat → α → Prop} {H : Type} {enc : TypeId × Value → H} {w : World} {base : Nat} {spare : Nat → Bool} {held : Bool} {dat : DataW H} {ps : List MemPlace} {v : Value} {fs : Array Field} {r : Reach} {b0 : Nat}
    (h : Br P d T Ok) (ht : P.underlying T = some (.struct fs)) (hv : Value.okWide P w r b0 T v) (hr : DataW.Trod enc P w base spare held T v dat ps) : ∃ x cs, v = .agg cs ∧ d.K w x cs.toList ∧ Ok (Rows.uptoBulk dat) x := by
  obtain ⟨cs, rfl, hsz⟩ := okWide_struct ht hv
  obtain ⟨fuel, hf⟩ := hr
  obtain ⟨x, hx, ho⟩ := h.get _ _ _ _ _ _ _ _ _ hf
  exact ⟨x, cs, rfl, by simpa [Value.cells] using hx, ho⟩
end
end Go.Proofs.YtegcobkhejpmkaaDoor.Br
