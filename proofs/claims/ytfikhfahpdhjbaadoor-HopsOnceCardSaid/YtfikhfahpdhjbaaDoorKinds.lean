/- The bridges of this seat's types: a property, a message, a link. -/
import Derived.Test.YtfikhfahpdhjbaaDoorBr
import Derived.Test.YtfikhfahpdhjbaaDoorPx0
namespace Go.Proofs.YtfikhfahpdhjbaaDoor.Br
open Go.RowKit Go.Proofs.YtfikhfahpdhjbaaDoorW.PrintWords Go.Proofs.YtfikhfahpdhjbaaDoor.P
/-- An array of two. -/
theorem br_array2 {P : Program} {T E : TypeId} {α β : Type} {d : Kd α} {Ok : Nat → α → Prop} {f : β → α} {g : α → β} (ht : P.underlying T = some (.array 2 E)) (hc : d.sz = P.cellsOf T) (hfg : ∀ x, f (g x) = x) (h : Brs P d [E, E] Ok) : Br P (Kd.iso d f) T (fun N x => Ok N (f x)) where
  sz := hc
  mono := fun _ _ _ hab o => h.mono _ _ _ hab o
  get := fun H enc w base spare held fuel cs x hf => by
    obtain ⟨xs, n, rfl, rfl, hl, hxl, hg⟩ := DataW.trod_array ht hf
    obtain ⟨v, hv, ho⟩ := h.get H enc w base spare held n cs xs (hl.trans hc.symm) hxl (fun j t y hj hy => by
      have hjl : j < 2 := (List.getElem?_eq_some_iff.1 hj).1
      have := hg j hjl
      rw [hy] at this
      match j, hjl with
      | 0, _ =>
        obtain rfl : E = t := Option.some.inj hj
        simpa using this
      | 1, _ =>
        obtain rfl : E = t := Option.some.inj hj
        simpa using this)
    refine ⟨g v, ?_, ?_⟩
    · show d.K w (f (g v)) cs
      rw [hfg]
      exact hv
    · show Ok _ (f (g v))
      rw [hfg]
      refine h.mono _ _ _ ?_ ho
      rw [bulk_agg]
      omega
theorem br3 : Br Tryd.prog (Kd.int .i64) 3 (fun _ n => (Lit.int .i64 n).wf = true) := br_int Tryd.underlying3 (by kernel_rfl)
theorem br4 : Br Tryd.prog Kd.bool 4 (fun _ _ => True) := br_bool Tryd.underlying4 (by kernel_rfl)
theorem br9 : Br Tryd.prog Kd.string 9 (fun N s => s.size ≤ N ∧ s.size ≤ maxLen) := br_string Tryd.underlying9 (by kernel_rfl)
theorem br48 : Br Tryd.prog k48 48 (fun _ x => (Lit.int .i64 x.f0).wf = true ∧ (Lit.int .i64 x.f1).wf = true) :=
  br_array2 (f := fun x : S48 => (x.f0, x.f1)) (g := fun v => ⟨v.1, v.2⟩) Tryd.underlying48 (by kernel_rfl) (fun _ => rfl) (brs_cons br3 (brs_one br3))
theorem br38 : Br Tryd.prog (Kd.slice 48 k48) 38 (fun N xs => xs.length ≤ N ∧ xs.length ≤ maxLen ∧ ∀ x ∈ xs, (Lit.int .i64 x.f0).wf = true ∧ (Lit.int .i64 x.f1).wf = true) := br_slice Tryd.underlying38 (by kernel_rfl) br48
theorem br50 : Br Tryd.prog k50 50 (fun N x => (x.f0.size ≤ N ∧ x.f0.size ≤ maxLen) ∧ (x.f1.size ≤ N ∧ x.f1.size ≤ maxLen)) :=
  br_struct (f := fun x : S50 => (x.f0, x.f1)) (g := fun v => ⟨v.1, v.2⟩) Tryd.underlying50 (by kernel_rfl) rfl (by kernel_rfl) (fun _ => rfl) (brs_cons br9 (brs_one br9))
theorem br22 : Br Tryd.prog (Kd.slice 50 k50) 22 (fun N xs => xs.length ≤ N ∧ xs.length ≤ maxLen ∧ ∀ x ∈ xs, (x.f0.size ≤ N ∧ x.f0.size ≤ maxLen) ∧ (x.f1.size ≤ N ∧ x.f1.size ≤ maxLen)) := br_slice Tryd.underlying22 (by kernel_rfl) br50
theorem br28 : Br Tryd.prog (Kd.slice 9 Kd.string) 28 (fun N xs => xs.length ≤ N ∧ xs.length ≤ maxLen ∧ ∀ x ∈ xs, x.size ≤ N ∧ x.size ≤ maxLen) := br_slice Tryd.underlying28 (by kernel_rfl) br9
/-- A message. -/
structure S24 where
  f0 : ByteArray
  f1 : ByteArray
  f2 : Int
  f3 : Bool
  f4 : Int
  f5 : Int
  f6 : ByteArray
  f7 : Int
  f8 : List S50
def k24 : Kd S24 := Kd.iso (Kd.pair Kd.string (Kd.pair Kd.string (Kd.pair (Kd.int .i64) (Kd.pair Kd.bool (Kd.pair (Kd.int .i64) (Kd.pair (Kd.int .i64) (Kd.pair Kd.string (Kd.pair (Kd.int .i64) (Kd.slice 50 k50))))))))) (fun x : S24 => (x.f0, x.f1, x.f2, x.f3, x.f4, x.f5, x.f6, x.f7, x.f8))
theorem k24_open {w : World} {x : S24} {cs : List Value} (h : k24.K w x cs) : ∃ A c, cs = [.string x.f0, .string x.f1, .int .i64 x.f2, .bool x.f3, .int .i64 x.f4, .int .i64 x.f5, .string x.f6, .int .i64 x.f7, .slice A x.f8.length c] ∧ x.f8.length ≤ c ∧ Kd.C k50 w A x.f8.length x.f8 := by
  obtain ⟨_, _, rfl, rfl, _, _, rfl, rfl, _, _, rfl, rfl, _, _, rfl, rfl, _, _, rfl, rfl, _, _, rfl, rfl, _, _, rfl, rfl, _, _, rfl, rfl, A, c, rfl, hl, hC⟩ := h
  exact ⟨A, c, rfl, hl, hC⟩
theorem br24 : Br Tryd.prog k24 24 (fun N x => (x.f0.size ≤ N ∧ x.f0.size ≤ maxLen) ∧ (x.f1.size ≤ N ∧ x.f1.size ≤ maxLen) ∧ (Lit.int .i64 x.f2).wf = true ∧ True ∧ (Lit.int .i64 x.f4).wf = true ∧ (Lit.int .i64 x.f5).wf = true ∧ (x.f6.size ≤ N ∧ x.f6.size ≤ maxLen) ∧ (Lit.int .i64 x.f7).wf = true ∧ (x.f8.length ≤ N ∧ x.f8.length ≤ maxLen ∧ ∀ y ∈ x.f8, (y.f0.size ≤ N ∧ y.f0.size ≤ maxLen) ∧ (y.f1.size ≤ N ∧ y.f1.size ≤ maxLen))) :=
  br_struct (f := fun x : S24 => (x.f0, x.f1, x.f2, x.f3, x.f4, x.f5, x.f6, x.f7, x.f8)) (g := fun v => ⟨v.1, v.2.1, v.2.2.1, v.2.2.2.1, v.2.2.2.2.1, v.2.2.2.2.2.1, v.2.2.2.2.2.2.1, v.2.2.2.2.2.2.2.1, v.2.2.2.2.2.2.2.2⟩) Tryd.underlying24 (by kernel_rfl) rfl (by kernel_rfl) (fun _ => rfl)
    (brs_cons br9 (brs_cons br9 (brs_cons br3 (brs_cons br4 (brs_cons br3 (brs_cons br3 (brs_cons br9 (brs_cons br3 (brs_one br22)))))))))
end Go.Proofs.YtfikhfahpdhjbaaDoor.Br
