/-
  The law of ScriptText, walked.
-/
import Derived.Test.YtoghnlcnacocgaaDoorScrS
set_option linter.unusedSimpArgs false
set_option linter.unusedVariables false
namespace Go.Proofs.YtoghnlcnacocgaaDoor
open Go.RowKit

set_option maxHeartbeats 4000000 in
set_option maxRecDepth 100000 in
theorem scrLaw_any (v : Value) (l : List Ac) (w : World) (h : RA w v l) :
    Calls Tryd.prog 5 #[v] w fun e w' => e = .returned (.bool true) ∧ Below w.heap.size w w' := by
  by_cases hbig : 1048576 < l.length
  · go_enter Tryd.func5, Tryd.ntmps5
    go_wp2_with fail
    refine (szActS_less v l _ h hbig).mono ?_
    rintro e w' ⟨rfl, rfl⟩
    go_wp2
    go_ret
    exact ⟨rfl, Below.refl _ _⟩
  · have hle : l.length ≤ 1048576 := by omega
    have hpos : ¬ (1048576 : Int) - l.length < 0 := by omega
    have hpos2 : (0 : Int) ≤ 1048576 - l.length := by omega
    obtain ⟨s, hs⟩ : ∃ s, scriptS l = s := ⟨_, rfl⟩
    obtain ⟨x, hx⟩ : ∃ x, scriptB l = x := ⟨_, rfl⟩
    have HS := Lib.hid hs
    have HX := Lib.hid hx
    clear hs hx
    go_enter Tryd.func5, Tryd.ntmps5
    go_wp2_with fail
    refine (szActS_more v l _ h hle).mono ?_
    rintro e w' ⟨rfl, rfl⟩
    go_wp2_with fail
    refine (toActS_any v l _ h hle).mono ?_
    rintro e w1 ⟨v1, rfl, ho1, hb1⟩
    have hz1 := hb1.size
    go_wp2_with fail
    refine (sScript_any _ l _ ho1.reads).mono ?_
    rw [HS.out, HX.out]
    rintro e w2 ⟨rfl, hb2⟩
    have hb02 : Below w.heap.size w w2 := hb1.trans (hb2.mono hz1)
    have hz2 := hb2.size
    clear hb2 ho1 hb1
    go_wp2_with fail
    refine (toActS_any v l _ (h.below hb02) hle).mono ?_
    rintro e w3 ⟨v3, rfl, ho3, hb3⟩
    have hz3 := hb3.size
    have hb03 : Below w.heap.size w w3 := hb02.trans (hb3.mono hb02.size)
    clear hb3 hb02
    go_wp2_with fail
    refine (iScript_any _ l _ ho3.reads).mono ?_
    rw [HS.out, HX.out]
    rintro e w4 ⟨rfl, hb4⟩
    have hz4 := hb4.size
    have hb04 : Below w.heap.size w w4 := hb03.trans (hb4.mono hb03.size)
    have ho4 := ho3.kept hb4
    clear hb4 hb03 ho3
    go_wp2_with fail
    refine (toActS_any v l _ (h.below hb04) hle).mono ?_
    rintro e w5 ⟨v5, rfl, ho5, hb5⟩
    have hz5 := hb5.size
    have hb05 : Below w.heap.size w w5 := hb04.trans (hb5.mono hb04.size)
    have ho45 := ho4.kept hb5
    clear hb5 hb04 ho4
    go_wp2_with fail
    refine (eqActS_any _ _ l _ ho45.reads ho5.reads).mono ?_
    rintro e w6 ⟨rfl, hb6⟩
    have hb06 : Below w.heap.size w w6 := hb05.trans (hb6.mono hb05.size)
    clear hb6 hb05 ho45 ho5
    go_wp2
    go_ret
    exact ⟨rfl, hb06⟩

end Go.Proofs.YtoghnlcnacocgaaDoor
