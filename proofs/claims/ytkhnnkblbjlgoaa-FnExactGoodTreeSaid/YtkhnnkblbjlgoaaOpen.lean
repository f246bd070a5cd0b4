/- How an argument that reads as data stands in memory: for whole numbers, bools, strings, slices and structs of these, by the kinds of the printed words. Conditions: the type's row of the table is the one that is named. -/
import Derived.Test.YtkhnnkblbjlgoaaWWords
import Derived.ProofKit
import Derived.OpenShut
import Derived.ShutString
import Derived.ChangeOld
import Derived.Below
import Derived.SizedLaws
import Derived.Deep.Slices
namespace Go.Proofs.Ytkhnnkblbjlgoaa.Opn
open Go.RowKit Go.Deep Go.WideShapes Go.Proofs.YtkhnnkblbjlgoaaW.PrintWords

/-- A type whose data can be opened: its cells, and what is told of its values. -/
structure Opens (P : Program) {α : Type} (d : Kd α) (t : TypeId) (wf : α → Prop) : Prop where
  len : P.cellsOf t = d.sz
  op : ∀ {H : Type} {enc : TypeId × Value → H} {w : World} {base : Nat} {spare : Nat → Bool} {held : Bool} {fuel : Nat} {cs : List Value} {x : DataW H × List MemPlace},
    DataW.trod enc P w base spare held fuel t cs = some x → ∃ a : α, d.K w a cs ∧ wf a

def WI (k : IntKind) : Int → Prop := fun n => (Lit.int k n).wf = true
def WB : Bool → Prop := fun _ => True
def WS : ByteArray → Prop := fun s => s.size ≤ maxLen
def WL {α : Type} (p : α → Prop) : List α → Prop := fun xs => ∀ x ∈ xs, p x
def WP {α β : Type} (p : α → Prop) (q : β → Prop) : α × β → Prop := fun x => p x.1 ∧ q x.2
def WF {α β : Type} (f : β → α) (p : α → Prop) : β → Prop := fun x => p (f x)

theorem opens_int {P : Program} {t : TypeId} {k : IntKind} (ht : P.underlying t = some (.int k)) (hc : P.cellsOf t = 1) : Opens P (Kd.int k) t (WI k) :=
  ⟨hc, fun h => by
    obtain ⟨n, rfl, _, hw⟩ := DataW.trod_int ht h
    exact ⟨n, rfl, hw⟩⟩

theorem opens_bool {P : Program} {t : TypeId} (ht : P.underlying t = some .bool) (hc : P.cellsOf t = 1) : Opens P Kd.bool t WB :=
  ⟨hc, fun h => by
    obtain ⟨n, rfl, _⟩ := DataW.trod_bool ht h
    exact ⟨n, rfl, trivial⟩⟩

theorem opens_string {P : Program} {t : TypeId} (ht : P.underlying t = some .string) (hc : P.cellsOf t = 1) : Opens P Kd.string t WS :=
  ⟨hc, fun h => by
    obtain ⟨n, rfl, _, hl⟩ := DataW.trod_string ht h
    exact ⟨n, rfl, hl⟩⟩

theorem list_of_idx {α : Type} (n : Nat) (p : Nat → α → Prop) (h : ∀ i, i < n → ∃ a, p i a) : ∃ l : List α, l.length = n ∧ ∀ i a, l[i]? = some a → p i a := by
  induction n generalizing p with
  | zero => exact ⟨[], rfl, by simp⟩
  | succ n ih =>
    obtain ⟨a, ha⟩ := h 0 (by omega)
    obtain ⟨l, hl, hp⟩ := ih (fun i a => p (i + 1) a) (fun i hi => h (i + 1) (by omega))
    refine ⟨a :: l, by simp [hl], fun i b hb => ?_⟩
    cases i with
    | zero =>
      simp at hb
      subst hb
      exact ha
    | succ i => exact hp i b (by simpa using hb)

theorem opens_slice {P : Program} {α : Type} {d : Kd α} {t e : TypeId} {wf : α → Prop} (ht : P.underlying t = some (.slice e)) (hc : P.cellsOf t = 1) (he : Opens P d e wf) :
    Opens P (Kd.slice e d) t (WL wf) :=
  ⟨hc, fun {H enc w base spare held fuel cs x} h => by
    rcases open_slice ht h with ⟨rfl, _⟩ | ⟨a, len, cap, m, n, D, Pl, rfl, _, hl, hm, hmm, _, hx⟩
    · exact ⟨[], ⟨none, 0, rfl, by simp, rfl, by simp, fun h => absurd h (by simp)⟩, fun _ h => by cases h⟩
    · have hlm : len ≤ m := by rw [hmm]; split <;> omega
      obtain ⟨l, hll, hlp⟩ := list_of_idx len (fun i a' => wf a' ∧ ∃ cs', d.K w a' cs' ∧ w.cells? base (a.add (i * P.cellsOf e)) (P.cellsOf e) = some cs') (fun i hi => by
        obtain ⟨cs', h1, h2⟩ := hx i (by omega)
        obtain ⟨a', hk, hw⟩ := he.op h2
        exact ⟨a', hw, cs', hk, h1⟩)
      refine ⟨l, ⟨some a, cap, by rw [hll], by omega, rfl, ?_, fun _ => ⟨a, rfl, fun j p hp => ?_⟩⟩, fun x hx => ?_⟩
      · simp only [maxLen] at hm
        omega
      · obtain ⟨_, cs', hk, hcs⟩ := hlp j p hp
        obtain ⟨_, hlen, hcell⟩ := World.cells?_some hcs
        refine ⟨cs', d.K_len hk, hk, fun i u hu => ?_⟩
        have hi : i < P.cellsOf e := by
          have := (List.getElem?_eq_some_iff.1 hu).1
          omega
        have := hcell i hi
        rw [hu] at this
        rw [← this, he.len]
        congr 1
        unfold Addr.add
        split <;> split <;> split <;> simp_all <;> omega
      · obtain ⟨i, hi, rfl⟩ := List.mem_iff_getElem.1 hx
        exact (hlp i _ (List.getElem?_eq_getElem hi)).1⟩

/-- The fields of a struct, one behind the other. -/
inductive FieldsOpen (P : Program) : {α : Type} → List Field → Nat → Kd α → (α → Prop) → Prop
  | one {α : Type} {f : Field} {d : Kd α} {wf : α → Prop} {off : Nat} (ho : f.offset = off) (h : Opens P d f.type wf) : FieldsOpen P [f] off d wf
  | cons {α β : Type} {f : Field} {fs : List Field} {d : Kd α} {ds : Kd β} {wf : α → Prop} {wfs : β → Prop} {off : Nat} (ho : f.offset = off) (h : Opens P d f.type wf) (hs : FieldsOpen P fs (off + d.sz) ds wfs) :
    FieldsOpen P (f :: fs) off (Kd.pair d ds) (WP wf wfs)

theorem fields_open {P : Program} {α : Type} {fs : List Field} {off : Nat} {d : Kd α} {wf : α → Prop} (hf : FieldsOpen P fs off d wf) :
    ∀ {H : Type} {enc : TypeId × Value → H} {w : World} {base : Nat} {spare : Nat → Bool} {held : Bool} {n : Nat} {cs : List Value}, cs.length = off + d.sz →
    (∀ (i : Nat) (f : Field), fs[i]? = some f → ∃ y, DataW.trod enc P w base spare held n f.type ((cs.drop f.offset).take (P.cellsOf f.type)) = some y) → ∃ a, d.K w a (cs.drop off) ∧ wf a := by
  induction hf with
  | @one α f d wf off ho h =>
    intro H enc w base spare held n cs hl hy
    obtain ⟨y, hy⟩ := hy 0 f rfl
    obtain ⟨a, hk, hw⟩ := h.op hy
    refine ⟨a, ?_, hw⟩
    rw [ho, h.len, List.take_of_length_le (by simp; omega)] at hk
    exact hk
  | @cons α β f fs d ds wf wfs off ho h hs ih =>
    intro H enc w base spare held n cs hl hy
    obtain ⟨y, hy0⟩ := hy 0 f rfl
    obtain ⟨a, hk, hw⟩ := h.op hy0
    obtain ⟨b, hkb, hwb⟩ := ih (cs := cs) (by rw [hl]; show off + (d.sz + ds.sz) = _; omega) (fun i g hg => hy (i + 1) g (by simpa using hg))
    refine ⟨(a, b), ⟨(cs.drop off).take d.sz, cs.drop (off + d.sz), ?_, ?_, hkb⟩, hw, hwb⟩
    · rw [← List.drop_drop, List.take_append_drop]
    · rw [ho, h.len] at hk
      exact hk

theorem opens_struct {P : Program} {α β : Type} {fs : Array Field} {d : Kd α} {wf : α → Prop} {t : TypeId} (f : β → α) (g : α → β) (hfg : ∀ a, f (g a) = a) (ht : P.underlying t = some (.struct fs)) (hc : P.cellsOf t = d.sz)
    (hf : FieldsOpen P fs.toList 0 d wf) : Opens P (Kd.iso d f) t (WF f wf) :=
  ⟨hc, fun {H enc w base spare held fuel cs x} h => by
    obtain ⟨xs, n, _, _, hl, hxl, hx⟩ := DataW.trod_struct ht h
    obtain ⟨a, hk, hw⟩ := fields_open hf (enc := enc) (w := w) (base := base) (spare := spare) (held := held) (n := n) (cs := cs) (by rw [hl, hc]; omega) (fun i fd hfd => by
      have hi : i < xs.length := by
        have := (List.getElem?_eq_some_iff.1 hfd).1
        simp at this
        omega
      exact ⟨xs[i], by rw [hx i fd (by simpa using hfd), List.getElem?_eq_getElem hi]⟩)
    exact ⟨g a, by show d.K w (f (g a)) cs; rw [hfg]; simpa using hk, by show wf (f (g a)); rw [hfg]; exact hw⟩⟩

/-- A struct that came in by value: its value, opened. -/
theorem open_value {P : Program} {α : Type} {d : Kd α} {t : TypeId} {wf : α → Prop} {fs : Array Field} (ht : P.underlying t = some (.struct fs)) (ho : Opens P d t wf)
    {H : Type} {enc : TypeId × Value → H} {w : World} {base b0 : Nat} {r : Reach} {spare : Nat → Bool} {held : Bool} {v : Value} {dd : DataW H} {p : List MemPlace}
    (hv : Value.okWide P w r b0 t v) (h : DataW.Trod enc P w base spare held t v dd p) : ∃ (a : α) (cs : List Value), v = .agg cs.toArray ∧ d.K w a cs ∧ wf a := by
  obtain ⟨cs, rfl, _⟩ := okWide_struct ht hv
  obtain ⟨fuel, hf⟩ := h
  obtain ⟨a, hk, hw⟩ := ho.op hf
  exact ⟨a, cs.toList, by simp, by simpa [Value.cells] using hk, hw⟩

/-- A slice that came in, opened. -/
theorem open_row {P : Program} {α : Type} {d : Kd α} {t e : TypeId} {wf : α → Prop} (ht : P.underlying t = some (.slice e)) (hc : P.cellsOf t = 1) (ho : Opens P d e wf)
    {H : Type} {enc : TypeId × Value → H} {w : World} {base b0 : Nat} {r : Reach} {spare : Nat → Bool} {held : Bool} {v : Value} {dd : DataW H} {p : List MemPlace}
    (hv : Value.okWide P w r b0 t v) (h : DataW.Trod enc P w base spare held t v dd p) :
    ∃ (A : Option Addr) (c : Nat) (xs : List α), v = .slice A xs.length c ∧ xs.length ≤ c ∧ Kd.C d w A xs.length xs ∧ WL wf xs := by
  obtain ⟨A, len, cap, rfl⟩ := okWide_slice ht hv
  obtain ⟨fuel, hf⟩ := h
  obtain ⟨xs, ⟨A', c', hcs, hl, hC⟩, hw⟩ := (opens_slice ht hc ho).op hf
  simp [Value.cells] at hcs
  obtain ⟨rfl, rfl, rfl⟩ := hcs
  exact ⟨A, cap, xs, rfl, hl, hC, hw⟩

theorem trod_blocks {P : Program} {H : Type} {enc : TypeId × Value → H} {w : World} {base : Nat} {spare : Nat → Bool} {held : Bool} {t : TypeId} {v : Value} {dd : DataW H} {p : List MemPlace}
    (h : DataW.Trod enc P w base spare held t v dd p) : ∀ x ∈ p, x.block < w.heap.size := by
  obtain ⟨fuel, hf⟩ := h
  exact DataW.trod_lt fuel _ _ _ hf
end Go.Proofs.Ytkhnnkblbjlgoaa.Opn
