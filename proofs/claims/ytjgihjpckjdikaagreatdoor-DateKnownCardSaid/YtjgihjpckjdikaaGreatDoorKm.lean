/- A map literal that a law lays and ranges over: its entries are those of a list. -/
import Derived.Test.YtjgihjpckjdikaaGreatDoorDh
namespace Go.Proofs.YtjgihjpckjdikaaGreatDoor
open Go.RowKit Go.Extern.Stop Go.Stop Go.Extern Go.Maps
set_option linter.unusedVariables false
set_option linter.unusedSimpArgs false

/-- Block b is a map of at most n entries, all of them of a list. -/
def MapOf (k : TypeId) (R : Value → Option (DataW Unit × List MemPlace)) (w : World) (b n : Nat) (L : List (Lit × DataW Unit)) : Prop :=
  ∃ D, w.ownsMap Tryz.prog k R b n D ∧ ∀ kl zd, Maps.has D kl = true → (kl, D.atKey kl zd) ∈ L
section
variable {k : TypeId} {R : Value → Option (DataW Unit × List MemPlace)} {w : World} {b n : Nat} {L : List (Lit × DataW Unit)}
theorem mapOf_made (k : TypeId) (R : Value → Option (DataW Unit × List MemPlace)) (w : World) (L : List (Lit × DataW Unit)) : MapOf k R (w.alloc (.map #[] 0)) w.heap.size 0 L :=
  ⟨.map [], World.ownsMap_made _ _ _ _, fun kl zd h => by cases h⟩
theorem MapOf.kept {w' : World} {row : Option Nat} (h : MapOf k R w b n L) (hg : w.grownBy w' row) (hne : some b ≠ row) : MapOf k R w' b n L := by
  obtain ⟨D, h, hS⟩ := h
  exact ⟨D, h.kept hg hne, hS⟩
theorem MapOf.gr {w' : World} (h : MapOf k R w b n L) (hg : Gr w w') : MapOf k R w' b n L := by
  obtain ⟨D, ⟨es, clock, hb, F, hs, hD⟩, hS⟩ := h
  exact ⟨D, ⟨es, clock, hg.heap hb, F, hs, hD⟩, hS⟩
theorem MapOf.store {t e : TypeId} (h : MapOf k R w b n L) (K : Keyed Tryz.prog k) (ht : Tryz.prog.underlying t = some (.map k e)) (hn : n < 1000) {key val : Value} {kl : Lit} {d : DataW Unit} {ps : List MemPlace}
    (hkey : keyOf Tryz.prog k key = some kl) (hv : R val = some (d, ps)) (hin : (kl, d) ∈ L) :
    ∃ w', (Instr.mapUpdate t (.map (some b)) key val).run Tryz.prog w = .ok () w' ∧ MapOf k R w' b (n + 1) L ∧ w.grownBy w' (some b) := by
  obtain ⟨D, hown, hS⟩ := h
  have hm := hown.isMap
  obtain ⟨w', hrun, ho, hg⟩ := hown.update K ht (by unfold maxLen; omega) hkey hv
  have hl := K.key hkey
  refine ⟨w', hrun, ⟨_, ho, fun j zd hj => ?_⟩, hg⟩
  by_cases hjk : j = kl
  · subst hjk
    rw [atKey_put_same hm hl _ _]
    exact hin
  · rw [has_put_other hjk] at hj
    rw [atKey_put_other hjk]
    exact hS j zd hj
theorem ranges_gr {w' : World} {r cnt : Nat} {D : DataW Unit} {left : Lit → Bool} (h : w.ranges Tryz.prog k R b r n D left cnt) (hg : Gr w w') : w'.ranges Tryz.prog k R b r n D left cnt := by
  obtain ⟨es, clock, since, seen, c0, hb, F, hs, hD, hr, rest⟩ := h
  exact ⟨es, clock, since, seen, c0, hg.heap hb, F, hs, hD, hg.heap hr, rest⟩
theorem wpList_lit_store {ops : Array Oper} {rest : List Oper} {o : Oper} {a : Act} {Q : Exit → Act → World → Prop} {t e : TypeId} (hg : o.guard = none) (m x v : Operand) (hop : o.op = Op.mapUpdate t m x v)
    (h : MapOf k R w b n L) (K : Keyed Tryz.prog k) (ht : Tryz.prog.underlying t = some (.map k e)) (hn : n < 1000) (hm : a.eval m = .map (some b)) (key val : Value) {kl : Lit} {d : DataW Unit} {ps : List MemPlace} (hx : a.eval x = key) (hv : a.eval v = val)
    (hkey : keyOf Tryz.prog k key = some kl) (hR : R val = some (d, ps)) (hin : (kl, d) ∈ L)
    (hK : ∀ w', MapOf k R w' b (n + 1) L → w.grownBy w' (some b) → wpList Tryz.prog ops Q rest (a.put o.dst undef) w') :
    wpList Tryz.prog ops Q (o :: rest) a w := by
  refine wpList_plain hg fun K' hK' => ?_
  obtain ⟨w', hrun, r1, r2⟩ := h.store K ht hn hkey hR hin
  unfold Oper.wp
  simp [execOp, hop, hm, hx, hv, hrun, Result.andThen]
  exact hK' _ _ (hK w' r1 r2)
theorem wpList_lit_insert {ops : Array Oper} {rest : List Oper} {o : Oper} {a : Act} {Q : Exit → Act → World → Prop} {t e : TypeId} (hg : o.guard = none) (m x v : Operand) (hop : o.op = Op.insert t m x v)
    (h : MapOf k R w b n L) (K : Keyed Tryz.prog k) (ht : Tryz.prog.underlying t = some (.map k e)) (hn : n < 1000) (hm : a.eval m = .map (some b)) (key val : Value) {kl : Lit} {d : DataW Unit} {ps : List MemPlace} (hx : a.eval x = key) (hv : a.eval v = val)
    (hkey : keyOf Tryz.prog k key = some kl) (hR : R val = some (d, ps)) (hin : (kl, d) ∈ L)
    (hK : ∀ w', MapOf k R w' b (n + 1) L → w.grownBy w' (some b) → wpList Tryz.prog ops Q rest (a.put o.dst undef) w') :
    wpList Tryz.prog ops Q (o :: rest) a w := by
  refine wpList_plain hg fun K' hK' => ?_
  obtain ⟨w', hrun, r1, r2⟩ := h.store K ht hn hkey hR hin
  unfold Oper.wp
  simp [execOp, hop, hm, hx, hv, hrun, Result.andThen]
  exact hK' _ _ (hK w' r1 r2)
end
end Go.Proofs.YtjgihjpckjdikaaGreatDoor
