/- Pi: drawn regions: a part of the blocks hidden for a while. -/
import Derived.Test.YtldlbpdbbbajfaaPiDs
namespace Go.Proofs.Ytldlbpdbbbajfaa.Pi
open Go
set_option linter.all false

/-- Some blocks are not looked at. -/
structure Mask (full mm : List Blk) : Prop where
  len : mm.length = full.length
  eq : ∀ (b : Nat) (k : Blk), mm[b]? = some k → k = .dead ∨ full[b]? = some k

section
variable {G G1 : Gh} {w w1 : World} {full mm : List Blk}

theorem Mask.own (h : Mask full mm) {c : Nat} (ho : Own G mm c) : Own G full c := by
  obtain ⟨b, k, cp, h1, h2, h3⟩ := ho
  rcases h.eq b k h1 with rfl | h4
  · simp [Blk.own] at h2
  · exact ⟨b, k, cp, h4, h2, h3⟩

theorem Good.mask (hG : Good G w full) (h : Mask full mm) : Good G w mm := by
  refine ⟨fun b p hp => by rw [h.len]; exact hG.bnd b p hp, fun b k c cp h1 h2 => ?_, hG.ST, hG.lt, fun c ho => hG.apart c (h.own ho), fun b b' k k' c cp cp' h1 h2 h3 h4 h5 h6 => ?_⟩
  · rcases h.eq b k h1 with rfl | h4
    · trivial
    · exact hG.blk b k c cp h4 h2
  · rcases h.eq b k h1 with rfl | h1'
    · simp [Blk.own] at h3
    · rcases h.eq b' k' h2 with rfl | h2'
      · simp [Blk.own] at h4
      · exact hG.inj b b' k k' c cp cp' h1' h2' h3 h4 h5 h6

/-- What was hidden is as it was. -/
theorem Good.unmask (hG : Good G w full) (h : Mask full mm) (g1 : Good G1 w1 mm) (x : Ext G w mm G1 w1 mm) : Good G1 w1 full ∧ Ext G w full G1 w1 full := by
  have hids : ∀ b, b < full.length → G1.ids b = G.ids b := fun b hb => x.ids b (by rw [h.len]; exact hb)
  have hid : ∀ b p, G1.ids b = some p → G.ids b = some p := fun b p hp => by rw [← hids b (by rw [← h.len]; exact g1.bnd b p hp)]; exact hp
  have hl := x.le (hG.mask h)
  have own1 : ∀ c, Own G1 full c → Own G full c := fun c ⟨b, k, cp, e1, e2, e3⟩ => ⟨b, k, cp, e1, e2, hid _ _ e3⟩
  have hidden : ∀ (b : Nat) (k : Blk) (c cp : Nat), full[b]? = some k → k.own = true → G.ids b = some (c, cp) → mm[b]? ≠ some k → ¬ Own G mm c := by
    rintro b k c cp h1 h2 h3 hne ⟨b', k', cp', e1, e2, e3⟩
    rcases h.eq b' k' e1 with rfl | e4
    · simp [Blk.own] at e2
    · have := hG.inj b b' k k' c cp cp' h1 e4 h2 e2 h3 e3
      subst this
      rw [h1] at e4; cases e4
      exact hne e1
  refine ⟨⟨fun b p hp => by rw [← h.len]; exact g1.bnd b p hp, fun b k c cp h1 h2 => ?_, g1.ST, g1.lt, fun c ho hT => ?_, fun b b' k k' c cp cp' h1 h2 h3 h4 h5 h6 => hG.inj b b' k k' c cp cp' h1 h2 h3 h4 (hid _ _ h5) (hid _ _ h6)⟩,
    ⟨⟨x.os, x.tape, x.output, x.size, fun c hc hn => x.same c hc (fun ho => hn (h.own ho)), fun c hc => .inl (own1 c hc), x.S, x.T, fun c hc => (x.newT c hc).imp id (Or.imp (fun ho => h.own ho) id), fun c hc => (x.newS c hc).imp id (Or.imp (fun ho => h.own ho) id)⟩, Nat.le_refl _, hids, fun _ _ _ => rfl⟩⟩
  · by_cases hm : mm[b]? = some k
    · exact g1.blk b k c cp hm h2
    · have hb := hG.blk b k c cp h1 (hid _ _ h2)
      exact hb.mono hl fun hk => x.same c (hb.lt hk) (hidden b k c cp h1 hk (hid _ _ h2) hm)
  · obtain ⟨b, k, cp, e1, e2, e3⟩ := ho
    have e3' := hid _ _ e3
    by_cases hm : mm[b]? = some k
    · exact g1.apart c ⟨b, k, cp, hm, e2, e3⟩ hT
    · rcases x.newT c hT with hT | hT | hT
      · exact hG.apart c ⟨b, k, cp, e1, e2, e3'⟩ hT
      · exact hidden b k c cp e1 e2 e3' hm hT
      · have := hG.ownLt ⟨b, k, cp, e1, e2, e3'⟩; omega
end
end Go.Proofs.Ytldlbpdbbbajfaa.Pi
