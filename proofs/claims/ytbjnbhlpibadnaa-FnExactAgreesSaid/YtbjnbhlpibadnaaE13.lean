/- Slots and objects listed anew inside regions. No program in sight. -/
import Derived.Test.YtbjnbhlpibadnaaE12
namespace Go.Proofs.Ytbjnbhlpibadnaa
open Go.RowKit
set_option linter.unusedSimpArgs false
set_option linter.unusedVariables false

theorem allO.has : ∀ {B : List (Nat × AO)} {H : Nat → AO} {id : Nat}, allO B H → (B.map (·.1)).contains id = true → ofO B id = H id
  | [], _, _, _, h => by simp at h
  | (s, x) :: l, H, id, h, h2 => by
    unfold ofO
    split
    · rename_i q; subst q; exact h.1.symm
    · rename_i q
      refine allO.has h.2 ?_
      rw [List.map_cons, List.contains_cons, Bool.or_eq_true, beq_iff_eq] at h2
      exact h2.resolve_left q
section
variable {P : Program} {L O : Nat → Prop} {w0 : World} {N : Nat} {τ : Nat → AV} {H : Nat → AO} {Q : AQ} {ops : Array Oper} {l : List Oper}
theorem rd_mvx {o : Oper} {X : Nat → Bool} {x : Operand} {v : AV} (ho : o.op = .move x ∨ o.op = .assign x) (hv : ev τ x = v) : Rd P o τ H X v := hv ▸ rd_mv ho
theorem AL.weak {τ' : Nat → AV} {H' : Nat → AO} (hs : ∀ t, τ' t = .bad ∨ τ' t = τ t) (hH : ∀ id, H' id = .gone ∨ H' id = H id) (h : AL P L O w0 N ops l τ' H' Q) : AL P L O w0 N ops l τ H Q := fun ρ fp a w hr => by
  obtain ⟨fp', hr', _⟩ := hr.weak hs hH
  exact h ρ fp' a w hr'
theorem AL.tidy (T : List (Nat × AV)) (B : List (Nat × AO)) (h1 : allT T τ) (h2 : allO B H) (h : AL P L O w0 N ops l (ofT T) (ofO B) Q) : AL P L O w0 N ops l τ H Q := AL.weak h1.weak h2.weak h
theorem AG.tidy (T : List (Nat × AV)) (B : List (Nat × AO)) {X : List Nat} {f n : Nat} {listed : Array Bool} (h1 : allT T τ) (h2 : allO B H) (hX : X.all (fun i => (B.map (·.1)).contains i) = true) (h : AG P L O w0 N ops f (inK X) n listed (ofT T) (ofO B) Q) : AG P L O w0 N ops f (inK X) n listed τ H Q := fun ρ fp a w hr => by
  obtain ⟨fp', hr', _⟩ := hr.weak h1.weak h2.weak
  have e : Keep (inK X) ρ (ofO B) w = Keep (inK X) ρ H w := by
    funext W
    unfold Keep
    have hh : ∀ id, inK X id = true → ofO B id = H id := fun id hid => h2.has (by
      rw [List.all_eq_true] at hX
      refine hX id ?_
      unfold inK at hid
      rwa [List.contains_iff_mem] at hid)
    refine propext ⟨fun q => ⟨q.1, fun b hb hn => q.2 b hb fun id h3 h4 => hn id h3 (by rw [← hh id h3]; exact h4)⟩, fun q => ⟨q.1, fun b hb hn => q.2 b hb fun id h3 h4 => hn id h3 (by rw [hh id h3]; exact h4)⟩⟩
  rw [← e]
  exact h ρ fp' a w hr'
end
end Go.Proofs.Ytbjnbhlpibadnaa
