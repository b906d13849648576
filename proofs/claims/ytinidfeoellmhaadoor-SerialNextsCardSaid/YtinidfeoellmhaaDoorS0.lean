import Derived.Test.YtinidfeoellmhaaDoorH1
import Derived.StillTailTactics
/-! Reads before one writing call, in a region that draws: the kit's StillTail law with the state held in a structure (else 'apply' unfolds the state's law: minutes a step). -/
namespace Go.Proofs.YtinidfeoellmhaaDoor
open Go.RowKit

structure StillAt (P : Program) (ops : Array Oper) (w : World) (Q : Act → Prop) (rest : List Oper) (a : Act) : Prop where
  out : wpStill P ops w Q rest a
theorem st_end {P : Program} {ops : Array Oper} {w : World} {Q : Act → Prop} {a : Act} (h : Q a) : StillAt P ops w Q [] a := ⟨wpStill_nil h⟩
theorem st_yes {P : Program} {ops : Array Oper} {w : World} {Q : Act → Prop} {a : Act} {o : Oper} {rest : List Oper} (hw : Region.wanted o (yielded ops a.tmps) = true)
    (h : ∀ K : Act → Prop, (∀ a, StillAt P ops w Q rest a → K a) → o.still P a w K) : StillAt P ops w Q (o :: rest) a :=
  ⟨wpStill_step fun K hK => by rw [if_pos hw]; exact h K (fun a ha => hK a ha.out)⟩
theorem st_no {P : Program} {ops : Array Oper} {w : World} {Q : Act → Prop} {a : Act} {o : Oper} {rest : List Oper} (hw : Region.wanted o (yielded ops a.tmps) = false)
    (h : StillAt P ops w Q rest (a.put o.dst undef)) : StillAt P ops w Q (o :: rest) a :=
  ⟨wpStill_step fun K hK => by rw [if_neg (by rw [hw]; exact Bool.noConfusion)]; exact hK _ h.out⟩
theorem st_region {P : Program} {id : Nat} {Q : Exit → Act → World → Prop} {a : Act} {w : World} {l : List Oper} (n : Nat) (hm : P.follows .mixedOrders = true) (hB : Region.lexTailB .any l.toArray n = true)
    (h : StillAt P l.toArray w.drew (fun a' => wpList P l.toArray Q (l.drop n) a' w.drew) (l.take n) a) : (Code.region id l.toArray true).wp P Q a w :=
  wp_region_still_tail n hm hB h.out
/-- The whole region only reads. -/
theorem st_region0 {P : Program} {id : Nat} {Q : Exit → Act → World → Prop} {a : Act} {w : World} {l : List Oper} (hm : P.follows .mixedOrders = true) (hB : Region.lexB .any l.toArray = true)
    (h : StillAt P l.toArray w.drew (fun a' => Q .normal a' w.drew) l a) : (Code.region id l.toArray true).wp P Q a w :=
  wp_region_still_lit hm hB h.out
end Go.Proofs.YtinidfeoellmhaaDoor
