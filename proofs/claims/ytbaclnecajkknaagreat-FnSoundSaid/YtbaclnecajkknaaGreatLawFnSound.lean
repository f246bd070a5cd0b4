/- FnSound: the law holds for every input. No condition. -/
import Derived.Test.YtbaclnecajkknaaGreatPiLim
import Derived.Test.YtbaclnecajkknaaGreatPiDz
import Derived.ProofKit
import Derived.OpenShut
import Derived.ShutString
import Derived.ChangeOld
import Derived.Below
import Derived.SizedLaws
import Derived.Deep.Slices
import Derived.Test.YtbaclnecajkknaaGreatRows
import Derived.Test.YtbaclnecajkknaaGreatCkFnSound
import Derived.Test.YtbaclnecajkknaaGreatFnFnSound0
import Derived.Test.YtbaclnecajkknaaGreatFnFnSound1
import Derived.Test.YtbaclnecajkknaaGreatFnFnSound2
import Derived.WalkKit
import Derived.JoinedTies
namespace Go.Proofs.YtbaclnecajkknaaGreat.Pi
open Go Go.RowKit Go.Deep Go.WideShapes
set_option linter.all false

def Sw (w : World) (c : Nat) : Prop := c < w.heap.size

structure Opn (P : Program) {α : Type} (el : α → PV) (t : TypeId) (wf : α → Prop) : Prop where
  len : ∀ a, (el a).cells.length = P.cellsOf t
  imm : ∀ a, ∀ c ∈ (el a).cells, c.imm1 = true
  shape : ∀ a, (∃ cs, el a = .agg cs) ∨ (el a).imm1 = true
  op : ∀ {H : Type} {enc : TypeId × Value → H} {w : World} {base : Nat} {spare : Nat → Bool} {held : Bool} {fuel : Nat} {cs : List Value} {x : DataW H × List MemPlace},
    DataW.trod enc P w base spare held fuel t cs = some x → ∃ a : α, RpIL (Sw w) w (el a).cells cs ∧ wf a

theorem zlm {x : PV} (h : x.imm1 = true) : x.cells = [x] := by cases x <;> simp [PV.imm1] at h <;> rfl

theorem Opn.val {P : Program} {α : Type} {el : α → PV} {t : TypeId} {wf : α → Prop} (ho : Opn P el t wf) {S : Nat → Prop} {w : World} {a : α} {cs : List Value} (h : RpIL S w (el a).cells cs) : ∃ v, RpI S w (el a) v ∧ v.cells.toList = cs := by
  rcases ho.shape a with ⟨ps, he⟩ | hi
  · rw [he] at h ⊢
    exact ⟨.agg cs.toArray, ⟨cs, rfl, h⟩, by simp [Value.cells]⟩
  · rw [zlm hi] at h
    obtain ⟨v, rest, rfl, h1, h2⟩ := h
    simp only [RpIL] at h2; subst h2
    exact ⟨v, h1, by rw [(RpI.one h1 hi).2.1]⟩

theorem zzn {P : Program} {t : TypeId} {k : IntKind} (ht : P.underlying t = some (.int k)) (hc : P.cellsOf t = 1) : Opn P (PV.int k) t (fun n => (Lit.int k n).wf = true) :=
  ⟨fun _ => hc.symm, fun a c h => by simp [PV.cells] at h; subst h; rfl, fun _ => .inr rfl, fun h => by
    obtain ⟨n, rfl, _, hw⟩ := DataW.trod_int ht h
    exact ⟨n, ⟨_, [], rfl, rfl, rfl⟩, hw⟩⟩
theorem zzm {P : Program} {t : TypeId} (ht : P.underlying t = some .bool) (hc : P.cellsOf t = 1) : Opn P PV.bool t (fun _ => True) :=
  ⟨fun _ => hc.symm, fun a c h => by simp [PV.cells] at h; subst h; rfl, fun _ => .inr rfl, fun h => by
    obtain ⟨n, rfl, _⟩ := DataW.trod_bool ht h
    exact ⟨n, ⟨_, [], rfl, rfl, rfl⟩, trivial⟩⟩
theorem zzp {P : Program} {t : TypeId} (ht : P.underlying t = some .string) (hc : P.cellsOf t = 1) : Opn P PV.str t (fun s => s.size ≤ maxLen) :=
  ⟨fun _ => hc.symm, fun a c h => by simp [PV.cells] at h; subst h; rfl, fun _ => .inr rfl, fun h => by
    obtain ⟨n, rfl, _, hl⟩ := DataW.trod_string ht h
    exact ⟨n, ⟨_, [], rfl, rfl, rfl⟩, hl⟩⟩

theorem zrm {α : Type} (n : Nat) (p : Nat → α → Prop) (h : ∀ i, i < n → ∃ a, p i a) : ∃ l : List α, l.length = n ∧ ∀ i a, l[i]? = some a → p i a := by
  induction n generalizing p with
  | zero => exact ⟨[], rfl, by simp⟩
  | succ n ih =>
    obtain ⟨a, ha⟩ := h 0 (by omega)
    obtain ⟨l, hl, hp⟩ := ih (fun i a => p (i + 1) a) (fun i hi => h (i + 1) (by omega))
    refine ⟨a :: l, by simp [hl], fun i b hb => ?_⟩
    cases i with
    | zero => simp at hb; subst hb; exact ha
    | succ i => exact hp i b (by simpa using hb)

theorem z17e {P : Program} {α : Type} {el : α → PV} {t : TypeId} {wf : α → Prop} (ho : Opn P el t wf) {fl : Bool} {sz : Nat} (hok : ∀ a, okE fl sz (el a) = true) {w : World} {c : Nat} :
    ∀ (l : List α) (o : Nat), (∀ i a, l[i]? = some a → ∃ cs, RpIL (Sw w) w (el a).cells cs ∧ At w c (o + i * sz) cs) → ∃ vs, RpEs (Sw w) w fl sz (l.map el) vs ∧ At w c o vs
  | [], o, _ => ⟨[], rfl, by intro i v h; simp at h⟩
  | a :: l, o, h => by
    obtain ⟨cs, h1, h2⟩ := h 0 a rfl
    obtain ⟨v, h3, rfl⟩ := ho.val h1
    obtain ⟨vs, h4, h5⟩ := z17e ho hok l (o + sz) (fun i b hb => by
      obtain ⟨cs, k1, k2⟩ := h (i + 1) b (by simpa using hb)
      exact ⟨cs, k1, by rw [show o + sz + i * sz = o + (i + 1) * sz by rw [Nat.add_mul]; omega]; exact k2⟩)
    have hsz := zwa h3 (hok a)
    refine ⟨v.cells.toList ++ vs, ⟨v, vs, rfl, h3, hok a, h4⟩, fun i u hu => ?_⟩
    rw [List.getElem?_append] at hu
    split at hu
    · have := h2 i u hu
      simpa using this
    · rename_i hi
      have := h5 _ u hu
      rwa [show o + sz + (i - v.cells.toList.length) = o + i by omega] at this

theorem zzo {P : Program} {α : Type} {el : α → PV} {t e : TypeId} {wf : α → Prop} {fl : Bool} {sz : Nat} (ht : P.underlying t = some (.slice e)) (hc : P.cellsOf t = 1) (hs : P.cellsOf e = sz) (h0 : 0 < sz) (hok : ∀ a, okE fl sz (el a) = true) (he : Opn P el e wf) :
    Opn P (fun l : List α => .sl fl sz (l.map el)) t (fun l => l.length ≤ maxLen ∧ ∀ x ∈ l, wf x) :=
  ⟨fun _ => hc.symm, fun a c h => by simp [PV.cells] at h; subst h; rfl, fun _ => .inr rfl, fun {H enc w base spare held fuel cs x} h => by
    rcases open_slice ht h with ⟨rfl, _⟩ | ⟨a, len, cap, m, n, D, Pl, rfl, _, hl, hm, hmm, _, hx⟩
    · exact ⟨[], ⟨_, [], rfl, ⟨none, 0, [], rfl, by simp, rfl, fun _ => rfl, .inl rfl⟩, rfl⟩, by simp, by simp⟩
    · have hlm : len ≤ m := by rw [hmm]; split <;> omega
      obtain ⟨l, hll, hlp⟩ := zrm len (fun i a' => wf a' ∧ ∃ cs', RpIL (Sw w) w (el a').cells cs' ∧ w.cells? base (a.add (i * P.cellsOf e)) (P.cellsOf e) = some cs') (fun i hi => by
        obtain ⟨cs', h1, h2⟩ := hx i (by omega)
        obtain ⟨a', hk, hw⟩ := he.op h2
        exact ⟨a', hw, cs', hk, h1⟩)
      refine ⟨l, ⟨_, [], rfl, ?_, rfl⟩, by omega, fun x hx => by
        obtain ⟨i, hi, rfl⟩ := List.mem_iff_getElem.1 hx
        exact (hlp i _ (List.getElem?_eq_getElem hi)).1⟩
      cases l with
      | nil => exact ⟨some a, cap, [], by simp at hll; simp [← hll], by simp, rfl, fun h => (by cases h), .inl rfl⟩
      | cons a0 l0 =>
        have hcell : ∀ i a', (a0 :: l0)[i]? = some a' → ∃ cs', RpIL (Sw w) w (el a').cells cs' ∧ cs'.length = sz ∧ ∀ j, j < sz → w.cell? ((a.add (i * sz)).add j) = cs'[j]? := by
          intro i a' ha
          obtain ⟨_, cs', hk, hcs⟩ := hlp i a' ha
          obtain ⟨_, hlen, hcell⟩ := World.cells?_some hcs
          rw [hs] at hlen hcell
          exact ⟨cs', hk, hlen, hcell⟩
        have hspot : a.spot = none ∧ a.block < w.heap.size := by
          obtain ⟨cs', _, h2, h3⟩ := hcell 0 a0 rfl
          have := h3 0 h0
          rw [List.getElem?_eq_getElem (by omega)] at this
          simp [Addr.add, World.cell?] at this
          split at this
          · rename_i hb
            refine ⟨?_, (Array.getElem?_eq_some_iff.1 hb).1⟩
            cases hs : a.spot with
            | none => rfl
            | some _ => simp [hs] at this
          · cases this
        obtain ⟨c, o, sp⟩ := a
        obtain ⟨rfl, hblk⟩ : sp = none ∧ c < w.heap.size := hspot
        obtain ⟨vs, k1, k2⟩ := z17e he hok (c := c) (w := w) (a0 :: l0) o (fun i a' ha => by
          obtain ⟨cs', h1, h2, h3⟩ := hcell i a' ha
          refine ⟨cs', h1, fun j u hu => ?_⟩
          have := h3 j (by have := (List.getElem?_eq_some_iff.1 hu).1; omega)
          rw [hu] at this
          rw [← this]
          congr 1
          unfold Addr.add
          split <;> split <;> simp_all <;> omega)
        refine ⟨_, cap, vs, by rw [← hll]; simp, by simp; simp at hll; omega, k1, fun h => (by cases h), .inr ⟨c, o, rfl, hblk, k2⟩⟩⟩

inductive Fields (P : Program) : {α : Type} → List Field → Nat → (α → List PV) → Nat → (α → Prop) → Prop
  | one {α : Type} {f : Field} {el : α → PV} {wf : α → Prop} {off : Nat} (ho : f.offset = off) (h : Opn P el f.type wf) : Fields P [f] off (fun a => (el a).cells) (P.cellsOf f.type) wf
  | cons {α β : Type} {f : Field} {fs : List Field} {el : α → PV} {cl : β → List PV} {n : Nat} {wf : α → Prop} {wfs : β → Prop} {off : Nat} (ho : f.offset = off) (h : Opn P el f.type wf) (hs : Fields P fs (off + P.cellsOf f.type) cl n wfs) :
    Fields P (f :: fs) off (fun a : α × β => (el a.1).cells ++ cl a.2) (P.cellsOf f.type + n) (fun a => wf a.1 ∧ wfs a.2)

theorem Fields.len {P : Program} {α : Type} {fs : List Field} {off : Nat} {cl : α → List PV} {n : Nat} {wf : α → Prop} (hf : Fields P fs off cl n wf) : (∀ a, (cl a).length = n) ∧ ∀ a, ∀ c ∈ cl a, c.imm1 = true := by
  induction hf with
  | one ho h => exact ⟨h.len, h.imm⟩
  | cons ho h hs ih =>
    refine ⟨fun a => by rw [List.length_append, h.len, ih.1], fun a c hc => ?_⟩
    rcases List.mem_append.1 hc with hc | hc
    · exact h.imm _ _ hc
    · exact ih.2 _ _ hc

theorem Fields.op {P : Program} {α : Type} {fs : List Field} {off : Nat} {cl : α → List PV} {m : Nat} {wf : α → Prop} (hf : Fields P fs off cl m wf) :
    ∀ {H : Type} {enc : TypeId × Value → H} {w : World} {base : Nat} {spare : Nat → Bool} {held : Bool} {n : Nat} {cs : List Value}, cs.length = off + m →
    (∀ (i : Nat) (f : Field), fs[i]? = some f → ∃ y, DataW.trod enc P w base spare held n f.type ((cs.drop f.offset).take (P.cellsOf f.type)) = some y) → ∃ a, RpIL (Sw w) w (cl a) (cs.drop off) ∧ wf a := by
  induction hf with
  | @one α f el wf off ho h =>
    intro H enc w base spare held n cs hl hy
    obtain ⟨y, hy⟩ := hy 0 f rfl
    obtain ⟨a, hk, hw⟩ := h.op hy
    refine ⟨a, ?_, hw⟩
    rwa [ho, List.take_of_length_le (by simp; omega)] at hk
  | @cons α β f fs el cl m wf wfs off ho h hs ih =>
    intro H enc w base spare held n cs hl hy
    obtain ⟨y, hy0⟩ := hy 0 f rfl
    obtain ⟨a, hk, hw⟩ := h.op hy0
    obtain ⟨b, hkb, hwb⟩ := ih (cs := cs) (by rw [hl]; omega) (fun i g hg => hy (i + 1) g (by simpa using hg))
    refine ⟨(a, b), ?_, hw, hwb⟩
    rw [ho] at hk
    have := hk.append hkb
    rwa [← List.drop_drop, List.take_append_drop] at this

theorem zzq {P : Program} {α β : Type} {fs : Array Field} {cl : α → List PV} {n : Nat} {wf : α → Prop} {t : TypeId} (f : β → α) (g : α → β) (hfg : ∀ a, f (g a) = a) (ht : P.underlying t = some (.struct fs)) (hf : Fields P fs.toList 0 cl n wf) (hc : P.cellsOf t = n) :
    Opn P (fun b => .agg (cl (f b))) t (fun b => wf (f b)) :=
  ⟨fun b => by rw [hc]; exact hf.len.1 _, fun b c h => hf.len.2 _ c h, fun _ => .inl ⟨_, rfl⟩, fun {H enc w base spare held fuel cs x} h => by
    obtain ⟨xs, n', _, _, hl, hxl, hx⟩ := DataW.trod_struct ht h
    obtain ⟨a, hk, hw⟩ := hf.op (enc := enc) (w := w) (base := base) (spare := spare) (held := held) (n := n') (cs := cs) (by rw [hl, hc]; omega) (fun i fd hfd => by
      have hi : i < xs.length := by
        have := (List.getElem?_eq_some_iff.1 hfd).1
        simp at this
        omega
      exact ⟨xs[i], by rw [hx i fd (by simpa using hfd), List.getElem?_eq_getElem hi]⟩)
    exact ⟨g a, by show RpIL (Sw w) w (cl (f (g a))) cs; rw [hfg]; simpa using hk, by rw [hfg]; exact hw⟩⟩

section
variable {P : Program} {α : Type} {el : α → PV} {t : TypeId} {wf : α → Prop} {H : Type} {enc : TypeId × Value → H} {w : World} {base b0 : Nat} {r : Reach} {spare : Nat → Bool} {held : Bool} {v : Value} {dd : DataW H} {p : List MemPlace}

theorem zzh {fs : Array Field} (ht : P.underlying t = some (.struct fs)) (ho : Opn P el t wf) (hs : ∀ a, ∃ cs, el a = .agg cs) (hv : Value.okWide P w r b0 t v) (h : DataW.Trod enc P w base spare held t v dd p) : ∃ a, RpI (Sw w) w (el a) v ∧ wf a := by
  obtain ⟨cs, rfl, _⟩ := okWide_struct ht hv
  obtain ⟨fuel, hf⟩ := h
  obtain ⟨a, hk, hw⟩ := ho.op hf
  obtain ⟨ps, he⟩ := hs a
  rw [he] at hk
  exact ⟨a, by rw [he]; exact ⟨cs.toList, by simp, by simpa [Value.cells, PV.cells] using hk⟩, hw⟩
theorem zze (ho : Opn P el t wf) (hs : ∀ a, (el a).imm1 = true) (hv : v.cells = #[v]) (h : DataW.Trod enc P w base spare held t v dd p) : ∃ a, RpI (Sw w) w (el a) v ∧ wf a := by
  obtain ⟨fuel, hf⟩ := h
  obtain ⟨a, hk, hw⟩ := ho.op hf
  rw [zlm (hs a), hv] at hk
  obtain ⟨u, rest, e, h1, h2⟩ := hk
  simp at e
  obtain ⟨rfl, _⟩ := e
  exact ⟨a, h1, hw⟩
theorem zzg {e : TypeId} (ht : P.underlying t = some (.slice e)) (ho : Opn P el t wf) (hs : ∀ a, (el a).imm1 = true) (hv : Value.okWide P w r b0 t v) (h : DataW.Trod enc P w base spare held t v dd p) : ∃ a, RpI (Sw w) w (el a) v ∧ wf a := by
  obtain ⟨A, len, cap, rfl⟩ := okWide_slice ht hv
  exact zze ho hs rfl h
theorem zzd {k : IntKind} (ht : P.underlying t = some (.int k)) (ho : Opn P el t wf) (hs : ∀ a, (el a).imm1 = true) (hv : Value.okWide P w r b0 t v) (h : DataW.Trod enc P w base spare held t v dd p) : ∃ a, RpI (Sw w) w (el a) v ∧ wf a := by
  obtain ⟨n, rfl⟩ := okWide_int ht hv
  exact zze ho hs rfl h
theorem zzc (ht : P.underlying t = some .bool) (ho : Opn P el t wf) (hs : ∀ a, (el a).imm1 = true) (hv : Value.okWide P w r b0 t v) (h : DataW.Trod enc P w base spare held t v dd p) : ∃ a, RpI (Sw w) w (el a) v ∧ wf a := by
  obtain ⟨n, rfl, _⟩ := open_bool ht hv h
  exact zze ho hs rfl h
theorem zzf (ht : P.underlying t = some .string) (ho : Opn P el t wf) (hs : ∀ a, (el a).imm1 = true) (hv : Value.okWide P w r b0 t v) (h : DataW.Trod enc P w base spare held t v dd p) : ∃ a, RpI (Sw w) w (el a) v ∧ wf a := by
  obtain ⟨n, rfl, _⟩ := ChangeMaps.open_string ht hv h
  exact zze ho hs rfl h
end

theorem z72 {P : Program} {H : Type} {enc : TypeId × Value → H} {w : World} {base : Nat} {spare : Nat → Bool} {held : Bool} {t : TypeId} {v : Value} {dd : DataW H} {p : List MemPlace}
    (h : DataW.Trod enc P w base spare held t v dd p) : ∀ x ∈ p, x.block < w.heap.size := by
  obtain ⟨fuel, hf⟩ := h
  exact DataW.trod_lt fuel _ _ _ hf

theorem z8f {P : Program} {F : FuncId → Option IFun} {ext : FuncId → Option (List PV → Option PV)} (hm : P.follows .mixedOrders = true) (hF : ∀ f ir, F f = some ir → ∃ fn mf, P.funcs[f]? = some fn ∧ zbq P mf fn = some ir)
    (hE : ∀ f e, ext f = some e → ExtOk P f e) {f : FuncId} {args : List PV} (h : lim F ext f args [] = some (.bool true, [])) {W : World} {vargs : List Value} (hx : RpL ⟨Sw W, Sw W, fun _ => none, fun _ => none⟩ W args vargs) :
    Calls P f vargs.toArray W fun e W' => e = .returned (.bool true) ∧ Below W.heap.size W W' := by
  obtain ⟨n, hn⟩ := zqp.1 h
  have hor : OrcOk P (callN F ext n) := z85 hF hE (fun orc mf m n ho => zcy hm ho) n
  obtain ⟨_, hc⟩ := hor f args [] _ _ hn
  have hG : Good ⟨Sw W, Sw W, fun _ => none, fun _ => none⟩ W [] := ⟨fun b p hp => (by cases hp), fun b k c cp hb => (by simp at hb), fun c h => h, fun c h => h, fun c hc => (zvp (fun _ => rfl) hc).elim, fun b b' k k' c cp cp' hb => (by simp at hb), fun c d hd => (by cases hd), fun c d hd => (by cases hd)⟩
  refine Calls.mono (hc _ W vargs hG hx) fun e W' he => ?_
  cases e with
  | panicked _ => exact he.elim
  | outgrown => exact he.elim
  | returned v =>
    obtain ⟨G1, us, _, hw, hr, _⟩ := he
    have hv : v = .bool true := hr.2
    have hg := Grew.of_wx (fun _ => rfl) hw
    exact ⟨by rw [hv], ⟨hg.os, hg.tape, hg.output, hg.size, fun c hc => hg.same c hc⟩⟩
end Go.Proofs.YtbaclnecajkknaaGreat.Pi
namespace Go.Proofs.YtbaclnecajkknaaGreat.fnSound
open Go.ChangeShapes Go.WideShapes Go.ChangeAt Go.RowKit Go.Proofs.YtbaclnecajkknaaGreat.Pi
set_option linter.all false
theorem own : ownKnob Tryz.prog.godebug = none := by kernel_rfl
theorem laidOut : laidOutB Tryz.prog = true := by kernel_rfl
theorem op5 : Opn Tryz.prog (PV.int .u8) 5 (fun n => (Lit.int .u8 n).wf = true) := zzn Tryz.underlying5 (by kernel_rfl)
theorem op22 : Opn Tryz.prog (fun l : List Int => PV.sl true 1 (l.map (PV.int .u8))) 22 (fun l : List Int => l.length ≤ maxLen ∧ ∀ x ∈ l, (fun n => (Lit.int .u8 n).wf = true) x) := zzo Tryz.underlying22 (by kernel_rfl) (by kernel_rfl) (by decide) (fun _ => rfl) op5
set_option maxRecDepth 100000 in
theorem lifted (os : Os) (started : os.Started) (H : Type) (enc : TypeId × Value → H) :
    ReturnsInHanded {} Tryz.checked os 3 .any (Rows.fnSoundSpec.pre6 enc Tryz.prog Tryz.f3 Rows.fnSoundRow.domain false) (Rows.fnSoundSpec.post enc Tryz.prog Tryz.f3 false true false false) := by
  refine returnsInHanded_of_change_sized (C := Tryz.checked) own started (by kernel_rfl) Tryz.func3
    (ChangeSpec.witness6 (enc := enc) (C := Tryz.checked) false ⟨#[], #[.slice none 0 0, .slice none 0 0], []⟩ 8 (by kernel_rfl) (by kernel_rfl) (by kernel_rfl) (by kernel_rfl)) ?_
  intro W base args ds gs before hval0 hW hcnd hsz0 _
  have hval : ∀ (j : Nat) t v, Tryz.f3.params[j]? = some t → args[j]? = some v → Value.okWide Tryz.prog W .any base t v := hval0
  have hW' := hW
  obtain ⟨p, q, hA0, hV, rfl, hfz, hnd⟩ := hW
  have hA : DataW.TrodAll enc Tryz.prog W 0 (fun _ => true) true Tryz.f3.params.toList args.toList ds p := hA0
  rw [Tryz.params3] at hA hval
  obtain ⟨v0, vs0, d0, ds0, p0, q0, hargs, rfl, rfl, h0, r0⟩ := trodAll_cons hA
  obtain ⟨v1, vs1, d1, ds1, p1, q1, rfl, rfl, rfl, h1, r1⟩ := trodAll_cons r0
  obtain ⟨rfl, rfl, rfl⟩ := trodAll_nil r1
  obtain rfl : args = #[v0, v1] := by cases args; simp_all
  obtain ⟨rfl, rfl⟩ := trodVars_none hV
  have k0 := h0
  have lt0 := z72 k0
  obtain ⟨a0, e0, wf0⟩ := zzg Tryz.underlying22 op22 (fun _ => rfl) (hval 0 22 v0 rfl rfl) h0
  have k1 := h1
  have lt1 := z72 k1
  obtain ⟨a1, e1, wf1⟩ := zzg Tryz.underlying22 op22 (fun _ => rfl) (hval 1 22 v1 rfl rfl) h1
  have main := Pi.laws_FnSound_ok a0 a1 (fun x hx => by have := bounds_u8 (wf0.2 x hx); omega) (fun x hx => by have := bounds_u8 (wf1.2 x hx); omega)
  clear hA0 hval0 hsz0
  refine (show Calls Tryz.prog 3 #[v0, v1] W _ from z8f (Checked.mixed Tryz.checked) hF hE main (vargs := [v0, v1]) ⟨v0, _, rfl, (RpI.up (fl := false) (sz := 1) rfl).2 e0, ⟨v1, _, rfl, (RpI.up (fl := false) (sz := 1) rfl).2 e1, rfl⟩⟩).mono fun e W' ⟨he, bel⟩ => ?_
  subst he
  exact ⟨_, rfl, _, _, _, [], _, [], hW', trodAll_mk1 (shut_bool Tryz.underlying4 _), (trodAll_cons_mk (Below.trod laidOut (by kernel_rfl) (of_decide_eq_true (by kernel_rfl)) k0 bel lt0) (trodAll_cons_mk (Below.trod laidOut (by kernel_rfl) (of_decide_eq_true (by kernel_rfl)) k1 bel lt1) trodAll_mk0)), rfl, bel.frame _, fun h => by cases h⟩
theorem over : Rows.fnSoundRow.holds Tryz.pinned (OpenSpec.ofChange Rows.fnSoundSpec) :=
  OpenClaim.holds_of_wide 3 Tryz.f3 rfl rfl rfl rfl rfl rfl rfl ⟨rfl, rfl, rfl, rfl, rfl⟩ rfl rfl rfl rfl rfl (by kernel_rfl) Tryz.func3 (by kernel_rfl)
    (of_decide_eq_true (by kernel_rfl)) (by unfold Func.isWrapper; first | (rw [if_pos (by decide +kernel)]; kernel_rfl) | (rw [if_neg (by decide +kernel)]; exact ⟨rfl, rfl⟩))
    (fun os started H enc _ => lifted os started H enc)
theorem proved : Rows.FnSoundSaid := over
#print axioms proved
end Go.Proofs.YtbaclnecajkknaaGreat.fnSound
namespace Go.Proofs.YtbaclnecajkknaaGreat
theorem fnSound_holds : Rows.FnSoundSaid := fnSound.proved
end Go.Proofs.YtbaclnecajkknaaGreat
