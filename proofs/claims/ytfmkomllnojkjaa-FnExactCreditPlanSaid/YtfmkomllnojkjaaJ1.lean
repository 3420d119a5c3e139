/- ways that meet again -/

import Derived.Test.YtfmkomllnojkjaaGD
namespace Go.Proofs.Ytfmkomllnojkjaa
open Go.RowKit
theorem awp_joinU {P : Go.Program} {τ : Ty} {Q : Go.Exit → St → Prop} {st : St} {ι : Type} {x y : Go.Code} (ds rs : List Nat) (L : ι → List (Nat × AV)) (B : ι → List (Nat × List AV)) (R : ι → List (Nat × Root)) (I : ι → Prop)
    (hx : ∀ K : St → Prop, (∀ st', (∃ j, I j ∧ Cov st' (st.reset ds rs (L j) (B j) (R j))) → K st') → awp P τ x (AThen K Q) st) (hy : ∀ j, I j → awp P τ y Q (st.reset ds rs (L j) (B j) (R j))) : awp P τ (.seq x y) Q st :=
  awp_join (fun j => st.reset ds rs (L j) (B j) (R j)) I hx hy
theorem take_iot (k : Int) (n : Nat) : (iot k n).take n = iot k n := List.take_of_length_le (by rw [iot_len]; exact Nat.le_refl _)
theorem take_mkR (k : Int) (xs : List (List Int)) : (mkR k xs).take xs.length = mkR k xs := List.take_of_length_le (by rw [mkR_len]; exact Nat.le_refl _)
theorem range_0 : List.range 0 = [] := rfl
theorem range_1 : List.range 1 = [0] := rfl
theorem range_2 : List.range 2 = [0, 1] := rfl
attribute [push_cast] List.map_nil range_0 range_1 range_2
attribute [push_cast] take_iot take_mkR
end Go.Proofs.Ytfmkomllnojkjaa
