/- A part of the proof of a law of the step table. -/
import Derived.Test.YtpnilbemlgbokaaGreatDoorS8
import Derived.Test.YtpnilbemlgbokaaGreatDoorSL21
import Derived.Test.YtpnilbemlgbokaaGreatDoorPS
set_option linter.all false
namespace Go.V
open Go.Proofs
theorem wr8b {x : Int} (h1 : 0 ≤ x) (h2 : x ≤ 255) : IntKind.u8.wrap x = x := wr8 h1 h2
theorem law21 (x : (List (Int × (Int × Unit))) × (Int × (Int × Unit))) (p dg : Int) : f21 (x, (p, (dg, ()))) = .ret true := by
  unfold f21 F21; try delta lenI
  simp only [f34v_eq, f67v_eq, f68v_eq, f70v_eq, known_true]
  by_cases h1 : (x.1.length : Int) ≤ 16
  rotate_left
  · simp only [dF h1, Bool.not_false]
  simp only [dT h1, Bool.not_true]
  obtain ⟨b, t1, t2, t3⟩ := tab x (by omega)
  cases b
  · simp only [t1, Bool.not_false]
  have ht := t3.1 rfl
  by_cases c1 : dg < 0
  · simp only [t1, Bool.not_true, dT c1]
  by_cases c2 : dg > 9
  · simp only [t1, Bool.not_true, dF c1, dT c2]
  have e67 : f67 (x, ()) = .ret (txt (rowsL x), (0, ())) := by
    unfold f67 F67
    simp only [t2, Bool.not_true, f114_at x (sb_tb ht)]
  by_cases c3 : p < 0
  · simp only [t1, Bool.not_true, dF c1, dF c2, e67, nF (rfl : (0 : Int) = 0), dT c3]
  by_cases c4 : p ≥ ((txt (rowsL x)).length : Int)
  · simp only [t1, Bool.not_true, dF c1, dF c2, e67, nF (rfl : (0 : Int) = 0), dF c3, dT c4]
  have hib : inb p (txt (rowsL x)).length = true := inbT (by omega) (by omega)
  have hby := byteAt_eq (txt (rowsL x)) (i := p) (by omega) (by omega)
  simp only [t1, Bool.not_true, dF c1, dF c2, e67, nF (rfl : (0 : Int) = 0), dF c3, dF c4, hib, cond_true, hby]
  have hbd : (List.getD (txt (rowsL x)) p.toNat 0).toNat < 256 := UInt8.toNat_lt _
  by_cases c5 : (((List.getD (txt (rowsL x)) p.toNat 0).toNat : Nat) : Int) < 48
  · simp only [dT c5]
  by_cases c6 : (((List.getD (txt (rowsL x)) p.toNat 0).toNat : Nat) : Int) > 57
  · simp only [dF c5, dT c6]
  simp only [dF c5, dF c6]
  rw [wr8b (x := (((List.getD (txt (rowsL x)) p.toNat 0).toNat : Nat) : Int) - 48) (by omega) (by omega), wr (x := (((List.getD (txt (rowsL x)) p.toNat 0).toNat : Nat) : Int) - 48) (by omega) (by omega)]
  by_cases c7 : (((List.getD (txt (rowsL x)) p.toNat 0).toNat : Nat) : Int) - 48 = dg
  · simp only [eT c7]
  have hin : in21 (txt (rowsL x)) p dg = true := by
    unfold in21
    simp only [Bool.and_eq_true, decide_eq_true_eq]
    omega
  have hdg : (dgB dg).toNat = (48 + dg).toNat := by
    unfold dgB
    rw [UInt8.toNat_ofNat']
    omega
  have hsh := txt_short ht
  have hlen : (setB (txt (rowsL x)) p dg).length = (txt (rowsL x)).length := by unfold setB; exact List.length_set
  have z70 : f70 (([], (0, (0, ()))), (([], (0, (0, ()))), ())) = .ret true := by
    obtain ⟨b, s1, s2⟩ := f70_iff ([], (0, (0, ()))) ([], (0, (0, ()))) (by simp) (by simp)
    rw [s1, s2.2 rfl]
  have e68 : f68 (setB (txt (rowsL x)) p dg, ()) = .ret (([], (0, (0, ()))), (4, ())) := by
    rcases f117_any (setB (txt (rowsL x)) p dg) (by omega) with ⟨y, _, rb, hs⟩ | ⟨q, e117⟩
    · exfalso
      refine spoilt ht rb (p := p.toNat) (v := dgB dg) (by omega) (by omega) (by omega) (by omega) (by omega) (fun e => c7 ?_) hs
      rw [← e, hdg]
      omega
    · unfold f68 F68; try delta lenI
      simp only [dF (show ¬ (((setB (txt (rowsL x)) p dg).length : Nat) : Int) > 270 by omega), e117, nt_err, nT (show (4 : Int) ≠ 0 by decide)]
  simp only [eF c7, hin, cond_true, e68, eT (rfl : (4 : Int) = 4), z70]
end Go.V
