/- The k-th assertion to the front, and back. -/
import Derived.Test.YtdfdcenbpanegaaSat
set_option linter.unusedSimpArgs false
set_option linter.unusedVariables false
namespace Go.Proofs.Ytdfdcenbpanegaa
open Go.RowKit

theorem sepAll_mid (A : Asrt) (l' : List Asrt) : ∀ (l : List Asrt) (R h : Hp), sepAll (l ++ A :: l') R h → sepAll (A :: (l ++ l')) R h := by
  intro l
  induction l with
  | nil => intro R h H; exact H
  | cons B l ih => intro R h H; exact sepAll_swap (sepAll_tail (ih R) H)
theorem sepAll_dim (A : Asrt) (l' : List Asrt) : ∀ (l : List Asrt) (R h : Hp), sepAll (A :: (l ++ l')) R h → sepAll (l ++ A :: l') R h := by
  intro l
  induction l with
  | nil => intro R h H; exact H
  | cons B l ih => intro R h H; exact sepAll_tail (ih R) (sepAll_swap H)
theorem Sat.mid {G : Gnd} {w : World} {A : Asrt} {l' : List Asrt} (l : List Asrt) (H : Sat G w (l ++ A :: l')) : Sat G w (A :: (l ++ l')) := H.map fun _ => sepAll_mid A l' l _ _
theorem Sat.dim {G : Gnd} {w : World} {A : Asrt} {l' : List Asrt} (l : List Asrt) (H : Sat G w (A :: (l ++ l'))) : Sat G w (l ++ A :: l') := H.map fun _ => sepAll_dim A l' l _ _
end Go.Proofs.Ytdfdcenbpanegaa
