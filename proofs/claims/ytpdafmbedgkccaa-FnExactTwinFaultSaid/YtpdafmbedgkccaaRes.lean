/- What the functions compute. Conditions: none. -/
import Derived.Test.YtpdafmbedgkccaaSx3
/- What the functions compute, printed by program out of their code. Conditions: none (definitions). -/
namespace Go.Sx.R
open Go Go.Sx
def r_laws_szWireS (_N : Nat) (a0 : (List (Int × (Int × Int)))) (a1 : Int) : Option Int :=
  (cond (decide ((wr (a1 - (((List.length a0) : Nat) : Int))) < (0 : Int)))
    (some (-(1 : Int)))
    (some (wr (a1 - (((List.length a0) : Nat) : Int)))))

noncomputable def e_laws_szWireS (a : (List (Int × Int × Int)) × Int × Unit) : Option Int := r_laws_szWireS N0 a.1 a.2.1
def r_laws_szNet (c_laws_szWireS : ((List (Int × Int × Int)) × Int × Unit → Option Int)) (_N : Nat) (a0 : (Int × (Int × (Int × (List (Int × (Int × Int))))))) (a1 : Int) : Option Int :=
  (Option.bind (c_laws_szWireS (a0.2.2.2, (a1, ()))) fun (x1 : Int) =>
  (cond (decide (x1 < (0 : Int)))
    (some (-(1 : Int)))
    (some x1)))

noncomputable def e_laws_szNet (a : (Int × Int × Int × List (Int × Int × Int)) × Int × Unit) : Option Int := r_laws_szNet e_laws_szWireS N0 a.1 a.2.1
def r_laws_szRatioS (_N : Nat) (a0 : (List (Int × Int))) (a1 : Int) : Option Int :=
  (cond (decide ((wr (a1 - (((List.length a0) : Nat) : Int))) < (0 : Int)))
    (some (-(1 : Int)))
    (some (wr (a1 - (((List.length a0) : Nat) : Int)))))

noncomputable def e_laws_szRatioS (a : (List (Int × Int)) × Int × Unit) : Option Int := r_laws_szRatioS N0 a.1 a.2.1
def r_laws_szRatioSS_L0 (c_laws_szRatioS : ((List (Int × Int)) × Int × Unit → Option Int)) (_N : Nat) (s : ((List (List (Int × Int))) × (Int × (Int × Unit)))) (kc ke : ((List (List (Int × Int))) × (Int × (Int × Unit))) → Option Int) : Option Int :=
  (cond (decide (s.2.2.1 < (((List.length s.1) : Nat) : Int)))
    (Option.bind (getI s.1 s.2.2.1) fun (x1 : (List (Int × Int))) =>
    (Option.bind (c_laws_szRatioS (x1, (s.2.1, ()))) fun (x2 : Int) =>
    (cond (decide (x2 < (0 : Int)))
      (some (-(1 : Int)))
      (kc (s.1, (x2, ((wr (s.2.2.1 + (1 : Int))), ())))))))
    (ke (s.1, (s.2.1, (s.2.2.1, ())))))
def r_laws_szRatioSS (c_laws_szRatioS : ((List (Int × Int)) × Int × Unit → Option Int)) (N : Nat) (a0 : (List (List (Int × Int)))) (a1 : Int) : Option Int :=
  (cond (decide ((wr (a1 - (((List.length a0) : Nat) : Int))) < (0 : Int)))
    (some (-(1 : Int)))
    (iterK (r_laws_szRatioSS_L0 c_laws_szRatioS N) N (a0, ((wr (a1 - (((List.length a0) : Nat) : Int))), ((0 : Int), ()))) fun (s1 : ((List (List (Int × Int))) × (Int × (Int × Unit)))) =>
    (some s1.2.1)))

noncomputable def e_laws_szRatioSS (a : (List (List (Int × Int))) × Int × Unit) : Option Int := r_laws_szRatioSS e_laws_szRatioS N0 a.1 a.2.1
def r_laws_toWire (_N : Nat) (a0 : (Int × (Int × Int))) : Option (Int × (Int × Int)) :=
  (some (a0.1, (a0.2.1, a0.2.2)))

noncomputable def e_laws_toWire (a : (Int × Int × Int) × Unit) : Option (Int × Int × Int) := r_laws_toWire N0 a.1
def r_laws_toWireS_L0 (c_laws_toWire : ((Int × Int × Int) × Unit → Option (Int × Int × Int))) (_N : Nat) (s : ((List (Int × (Int × Int))) × ((List (Int × (Int × Int))) × (Int × Unit)))) (kc ke : ((List (Int × (Int × Int))) × ((List (Int × (Int × Int))) × (Int × Unit))) → Option (List (Int × (Int × Int)))) : Option (List (Int × (Int × Int))) :=
  (cond (decide (s.2.2.1 < (((List.length s.1) : Nat) : Int)))
    (Option.bind (getI s.1 s.2.2.1) fun (x1 : (Int × (Int × Int))) =>
    (Option.bind (c_laws_toWire (x1, ())) fun (x2 : (Int × (Int × Int))) =>
    (Option.bind (getI s.2.1 s.2.2.1) fun (_x3 : (Int × (Int × Int))) =>
    (kc (s.1, ((List.set s.2.1 (Int.toNat s.2.2.1) x2), ((wr (s.2.2.1 + (1 : Int))), ())))))))
    (ke (s.1, (s.2.1, (s.2.2.1, ())))))
def r_laws_toWireS (c_laws_toWire : ((Int × Int × Int) × Unit → Option (Int × Int × Int))) (N : Nat) (a0 : (List (Int × (Int × Int)))) : Option (List (Int × (Int × Int))) :=
  (cond (Nat.ble (Int.toNat (((List.length a0) : Nat) : Int)) 17179869184)
    (iterK (r_laws_toWireS_L0 c_laws_toWire N) N (a0, ((List.replicate (Int.toNat (((List.length a0) : Nat) : Int)) ((0 : Int), ((0 : Int), (0 : Int)))), ((0 : Int), ()))) fun (s1 : ((List (Int × (Int × Int))) × ((List (Int × (Int × Int))) × (Int × Unit)))) =>
    (some s1.2.1))
    none)

noncomputable def e_laws_toWireS (a : (List (Int × Int × Int)) × Unit) : Option (List (Int × Int × Int)) := r_laws_toWireS e_laws_toWire N0 a.1
def r_laws_toNet (c_laws_toWireS : ((List (Int × Int × Int)) × Unit → Option (List (Int × Int × Int)))) (_N : Nat) (a0 : (Int × (Int × (Int × (List (Int × (Int × Int))))))) : Option (Int × (Int × (Int × (List (Int × (Int × Int)))))) :=
  (Option.bind (c_laws_toWireS (a0.2.2.2, ())) fun (x1 : (List (Int × (Int × Int)))) =>
  (some (a0.1, (a0.2.1, (a0.2.2.1, x1)))))

noncomputable def e_laws_toNet (a : (Int × Int × Int × List (Int × Int × Int)) × Unit) : Option (Int × Int × Int × List (Int × Int × Int)) := r_laws_toNet e_laws_toWireS N0 a.1
def r_laws_toRatio (_N : Nat) (a0 : (Int × Int)) : Option (Int × Int) :=
  (some (a0.1, a0.2))

noncomputable def e_laws_toRatio (a : (Int × Int) × Unit) : Option (Int × Int) := r_laws_toRatio N0 a.1
def r_laws_toRatioS_L0 (c_laws_toRatio : ((Int × Int) × Unit → Option (Int × Int))) (_N : Nat) (s : ((List (Int × Int)) × ((List (Int × Int)) × (Int × Unit)))) (kc ke : ((List (Int × Int)) × ((List (Int × Int)) × (Int × Unit))) → Option (List (Int × Int))) : Option (List (Int × Int)) :=
  (cond (decide (s.2.2.1 < (((List.length s.1) : Nat) : Int)))
    (Option.bind (getI s.1 s.2.2.1) fun (x1 : (Int × Int)) =>
    (Option.bind (c_laws_toRatio (x1, ())) fun (x2 : (Int × Int)) =>
    (Option.bind (getI s.2.1 s.2.2.1) fun (_x3 : (Int × Int)) =>
    (kc (s.1, ((List.set s.2.1 (Int.toNat s.2.2.1) x2), ((wr (s.2.2.1 + (1 : Int))), ())))))))
    (ke (s.1, (s.2.1, (s.2.2.1, ())))))
def r_laws_toRatioS (c_laws_toRatio : ((Int × Int) × Unit → Option (Int × Int))) (N : Nat) (a0 : (List (Int × Int))) : Option (List (Int × Int)) :=
  (cond (Nat.ble (Int.toNat (((List.length a0) : Nat) : Int)) 17179869184)
    (iterK (r_laws_toRatioS_L0 c_laws_toRatio N) N (a0, ((List.replicate (Int.toNat (((List.length a0) : Nat) : Int)) ((0 : Int), (0 : Int))), ((0 : Int), ()))) fun (s1 : ((List (Int × Int)) × ((List (Int × Int)) × (Int × Unit)))) =>
    (some s1.2.1))
    none)

noncomputable def e_laws_toRatioS (a : (List (Int × Int)) × Unit) : Option (List (Int × Int)) := r_laws_toRatioS e_laws_toRatio N0 a.1
def r_laws_toRatioSS_L0 (c_laws_toRatioS : ((List (Int × Int)) × Unit → Option (List (Int × Int)))) (_N : Nat) (s : ((List (List (Int × Int))) × ((List (List (Int × Int))) × (Int × Unit)))) (kc ke : ((List (List (Int × Int))) × ((List (List (Int × Int))) × (Int × Unit))) → Option (List (List (Int × Int)))) : Option (List (List (Int × Int))) :=
  (cond (decide (s.2.2.1 < (((List.length s.1) : Nat) : Int)))
    (Option.bind (getI s.1 s.2.2.1) fun (x1 : (List (Int × Int))) =>
    (Option.bind (c_laws_toRatioS (x1, ())) fun (x2 : (List (Int × Int))) =>
    (Option.bind (getI s.2.1 s.2.2.1) fun (_x3 : (List (Int × Int))) =>
    (kc (s.1, ((List.set s.2.1 (Int.toNat s.2.2.1) x2), ((wr (s.2.2.1 + (1 : Int))), ())))))))
    (ke (s.1, (s.2.1, (s.2.2.1, ())))))
def r_laws_toRatioSS (c_laws_toRatioS : ((List (Int × Int)) × Unit → Option (List (Int × Int)))) (N : Nat) (a0 : (List (List (Int × Int)))) : Option (List (List (Int × Int))) :=
  (cond (Nat.ble (Int.toNat (((List.length a0) : Nat) : Int)) 17179869184)
    (iterK (r_laws_toRatioSS_L0 c_laws_toRatioS N) N (a0, ((List.replicate (Int.toNat (((List.length a0) : Nat) : Int)) ([] : List (Int × Int))), ((0 : Int), ()))) fun (s1 : ((List (List (Int × Int))) × ((List (List (Int × Int))) × (Int × Unit)))) =>
    (some s1.2.1))
    none)

noncomputable def e_laws_toRatioSS (a : (List (List (Int × Int))) × Unit) : Option (List (List (Int × Int))) := r_laws_toRatioSS e_laws_toRatioS N0 a.1
def r_spec_l01In (_N : Nat) (a0 : Int) (a1 : Int) (a2 : Int) : Option Bool :=
  (cond (decide (a0 ≥ a1))
    (some (decide (a0 ≤ a2)))
    (some false))

noncomputable def e_spec_l01In (a : Int × Int × Int × Unit) : Option Bool := r_spec_l01In N0 a.1 a.2.1 a.2.2.1
def r_spec_l03Has_L0 (_N : Nat) (s : (Int × ((List Int) × (Int × (Int × Unit))))) (kc ke : (Int × ((List Int) × (Int × (Int × Unit)))) → Option Bool) : Option Bool :=
  (cond (decide (s.2.2.2.1 < s.2.2.1))
    (Option.bind (getI s.2.1 s.2.2.2.1) fun (x1 : Int) =>
    (cond (decide (x1 = s.1))
      (some true)
      (kc (s.1, (s.2.1, (s.2.2.1, ((wr (s.2.2.2.1 + (1 : Int))), ())))))))
    (ke (s.1, (s.2.1, (s.2.2.1, (s.2.2.2.1, ()))))))
def r_spec_l03Has (N : Nat) (a0 : (List Int)) (a1 : Int) : Option Bool :=
  (iterK (r_spec_l03Has_L0 N) N (a1, (a0, ((((List.length a0) : Nat) : Int), ((0 : Int), ())))) fun (_s1 : (Int × ((List Int) × (Int × (Int × Unit))))) =>
  (some false))

noncomputable def e_spec_l03Has (a : (List Int) × Int × Unit) : Option Bool := r_spec_l03Has N0 a.1 a.2.1
def r_spec_l03Reach_L2 (c_spec_l03Has : ((List Int) × Int × Unit → Option Bool)) (_N : Nat) (s : ((List (Int × (Int × Int))) × ((List Int) × (Int × ((List (Int × (Int × Int))) × (Int × (Int × Unit))))))) (kc ke : ((List (Int × (Int × Int))) × ((List Int) × (Int × ((List (Int × (Int × Int))) × (Int × (Int × Unit)))))) → Option (List Int)) : Option (List Int) :=
  (cond (decide (s.2.2.2.2.2.1 < s.2.2.2.2.1))
    (Option.bind (getI s.2.2.2.1 s.2.2.2.2.2.1) fun (x1 : (Int × (Int × Int))) =>
    (Option.bind (getI s.2.1 s.2.2.1) fun (x2 : Int) =>
    (cond (decide (x1.1 = x2))
      (Option.bind (c_spec_l03Has (s.2.1, (x1.2.1, ()))) fun (x3 : Bool) =>
      (cond (!x3)
        (cond (Nat.ble ((List.length s.2.1) + (List.length (x1.2.1 :: ([] : List Int)))) 17179869184)
          (Option.bind (getI (s.2.1 ++ (x1.2.1 :: ([] : List Int))) s.2.2.1) fun (x4 : Int) =>
          (cond (decide (x1.2.1 = x4))
            (Option.bind (c_spec_l03Has ((s.2.1 ++ (x1.2.1 :: ([] : List Int))), (x1.1, ()))) fun (x5 : Bool) =>
            (cond (!x5)
              (cond (Nat.ble ((List.length (s.2.1 ++ (x1.2.1 :: ([] : List Int)))) + (List.length (x1.1 :: ([] : List Int)))) 17179869184)
                (kc (s.1, (((s.2.1 ++ (x1.2.1 :: ([] : List Int))) ++ (x1.1 :: ([] : List Int))), (s.2.2.1, (s.2.2.2.1, (s.2.2.2.2.1, ((wr (s.2.2.2.2.2.1 + (1 : Int))), ())))))))
                none)
              (kc (s.1, ((s.2.1 ++ (x1.2.1 :: ([] : List Int))), (s.2.2.1, (s.2.2.2.1, (s.2.2.2.2.1, ((wr (s.2.2.2.2.2.1 + (1 : Int))), ())))))))))
            (kc (s.1, ((s.2.1 ++ (x1.2.1 :: ([] : List Int))), (s.2.2.1, (s.2.2.2.1, (s.2.2.2.2.1, ((wr (s.2.2.2.2.2.1 + (1 : Int))), ())))))))))
          none)
        (Option.bind (getI s.2.1 s.2.2.1) fun (x6 : Int) =>
        (cond (decide (x1.2.1 = x6))
          (Option.bind (c_spec_l03Has (s.2.1, (x1.1, ()))) fun (x7 : Bool) =>
          (cond (!x7)
            (cond (Nat.ble ((List.length s.2.1) + (List.length (x1.1 :: ([] : List Int)))) 17179869184)
              (kc (s.1, ((s.2.1 ++ (x1.1 :: ([] : List Int))), (s.2.2.1, (s.2.2.2.1, (s.2.2.2.2.1, ((wr (s.2.2.2.2.2.1 + (1 : Int))), ())))))))
              none)
            (kc (s.1, (s.2.1, (s.2.2.1, (s.2.2.2.1, (s.2.2.2.2.1, ((wr (s.2.2.2.2.2.1 + (1 : Int))), ())))))))))
          (kc (s.1, (s.2.1, (s.2.2.1, (s.2.2.2.1, (s.2.2.2.2.1, ((wr (s.2.2.2.2.2.1 + (1 : Int))), ())))))))))))
      (Option.bind (getI s.2.1 s.2.2.1) fun (x8 : Int) =>
      (cond (decide (x1.2.1 = x8))
        (Option.bind (c_spec_l03Has (s.2.1, (x1.1, ()))) fun (x9 : Bool) =>
        (cond (!x9)
          (cond (Nat.ble ((List.length s.2.1) + (List.length (x1.1 :: ([] : List Int)))) 17179869184)
            (kc (s.1, ((s.2.1 ++ (x1.1 :: ([] : List Int))), (s.2.2.1, (s.2.2.2.1, (s.2.2.2.2.1, ((wr (s.2.2.2.2.2.1 + (1 : Int))), ())))))))
            none)
          (kc (s.1, (s.2.1, (s.2.2.1, (s.2.2.2.1, (s.2.2.2.2.1, ((wr (s.2.2.2.2.2.1 + (1 : Int))), ())))))))))
        (kc (s.1, (s.2.1, (s.2.2.1, (s.2.2.2.1, (s.2.2.2.2.1, ((wr (s.2.2.2.2.2.1 + (1 : Int))), ()))))))))))))
    (ke (s.1, (s.2.1, (s.2.2.1, (s.2.2.2.1, (s.2.2.2.2.1, (s.2.2.2.2.2.1, ()))))))))
def r_spec_l03Reach_L0 (c_spec_l03Has : ((List Int) × Int × Unit → Option Bool)) (N : Nat) (s : ((List (Int × (Int × Int))) × ((List Int) × (Int × Unit)))) (kc ke : ((List (Int × (Int × Int))) × ((List Int) × (Int × Unit))) → Option (List Int)) : Option (List Int) :=
  (cond (decide (s.2.2.1 < (((List.length s.2.1) : Nat) : Int)))
    (iterK (r_spec_l03Reach_L2 c_spec_l03Has N) N (s.1, (s.2.1, (s.2.2.1, (s.1, ((((List.length s.1) : Nat) : Int), ((0 : Int), ())))))) fun (s1 : ((List (Int × (Int × Int))) × ((List Int) × (Int × ((List (Int × (Int × Int))) × (Int × (Int × Unit))))))) =>
    (kc (s1.1, (s1.2.1, ((wr (s1.2.2.1 + (1 : Int))), ())))))
    (ke (s.1, (s.2.1, (s.2.2.1, ())))))
def r_spec_l03Reach (c_spec_l03Has : ((List Int) × Int × Unit → Option Bool)) (N : Nat) (a0 : (List (Int × (Int × Int)))) (a1 : Int) : Option (List Int) :=
  (iterK (r_spec_l03Reach_L0 c_spec_l03Has N) N (a0, ((a1 :: ([] : List Int)), ((0 : Int), ()))) fun (s1 : ((List (Int × (Int × Int))) × ((List Int) × (Int × Unit)))) =>
  (some s1.2.1))

noncomputable def e_spec_l03Reach (a : (List (Int × Int × Int)) × Int × Unit) : Option (List Int) := r_spec_l03Reach e_spec_l03Has N0 a.1 a.2.1
def r_spec_NetOk_L0 (c_spec_l01In : (Int × Int × Int × Unit → Option Bool)) (_c_spec_l03Reach : ((List (Int × Int × Int)) × Int × Unit → Option (List Int))) (_N : Nat) (s : ((Int × (Int × (Int × (List (Int × (Int × Int)))))) × ((List (Int × (Int × Int))) × (Int × (Int × Unit))))) (kc ke : ((Int × (Int × (Int × (List (Int × (Int × Int)))))) × ((List (Int × (Int × Int))) × (Int × (Int × Unit)))) → Option Bool) : Option Bool :=
  (cond (decide (s.2.2.2.1 < s.2.2.1))
    (Option.bind (getI s.2.1 s.2.2.2.1) fun (x1 : (Int × (Int × Int))) =>
    (Option.bind (c_spec_l01In (x1.1, ((0 : Int), ((wr (s.1.1 - (1 : Int))), ())))) fun (x2 : Bool) =>
    (cond (!x2)
      (some false)
      (Option.bind (c_spec_l01In (x1.2.1, ((wr (x1.1 + (1 : Int))), ((wr (s.1.1 - (1 : Int))), ())))) fun (x3 : Bool) =>
      (cond (!x3)
        (some false)
        (Option.bind (c_spec_l01In (x1.2.2, ((1 : Int), ((200 : Int), ())))) fun (x4 : Bool) =>
        (cond (!x4)
          (some false)
          (cond (decide (s.2.2.2.1 > (0 : Int)))
            (Option.bind (getI s.1.2.2.2 (wr (s.2.2.2.1 - (1 : Int)))) fun (x5 : (Int × (Int × Int))) =>
            (cond (decide (x1.1 < x5.1))
              (some false)
              (Option.bind (getI s.1.2.2.2 (wr (s.2.2.2.1 - (1 : Int)))) fun (x6 : (Int × (Int × Int))) =>
              (cond (decide (x1.1 = x6.1))
                (Option.bind (getI s.1.2.2.2 (wr (s.2.2.2.1 - (1 : Int)))) fun (x7 : (Int × (Int × Int))) =>
                (cond (decide (x1.2.1 ≤ x7.2.1))
                  (some false)
                  (kc (s.1, (s.2.1, (s.2.2.1, ((wr (s.2.2.2.1 + (1 : Int))), ())))))))
                (kc (s.1, (s.2.1, (s.2.2.1, ((wr (s.2.2.2.1 + (1 : Int))), ())))))))))
            (kc (s.1, (s.2.1, (s.2.2.1, ((wr (s.2.2.2.1 + (1 : Int))), ())))))))))))))
    (ke (s.1, (s.2.1, (s.2.2.1, (s.2.2.2.1, ()))))))
def r_spec_NetOk (c_spec_l01In : (Int × Int × Int × Unit → Option Bool)) (c_spec_l03Reach : ((List (Int × Int × Int)) × Int × Unit → Option (List Int))) (N : Nat) (a0 : (Int × (Int × (Int × (List (Int × (Int × Int))))))) : Option Bool :=
  (Option.bind (c_spec_l01In (a0.1, ((1 : Int), ((5 : Int), ())))) fun (x1 : Bool) =>
  (cond (!x1)
    (some false)
    (Option.bind (c_spec_l01In (a0.2.1, ((1 : Int), (a0.1, ())))) fun (x2 : Bool) =>
    (cond (!x2)
      (some false)
      (Option.bind (c_spec_l01In (a0.2.2.1, ((1 : Int), ((1000 : Int), ())))) fun (x3 : Bool) =>
      (cond (!x3)
        (some false)
        (iterK (r_spec_NetOk_L0 c_spec_l01In c_spec_l03Reach N) N (a0, (a0.2.2.2, ((((List.length a0.2.2.2) : Nat) : Int), ((0 : Int), ())))) fun (s4 : ((Int × (Int × (Int × (List (Int × (Int × Int)))))) × ((List (Int × (Int × Int))) × (Int × (Int × Unit))))) =>
        (Option.bind (c_spec_l03Reach (s4.1.2.2.2, ((0 : Int), ()))) fun (x5 : (List Int)) =>
        (some (decide ((((List.length x5) : Nat) : Int) = s4.1.1)))))))))))

noncomputable def e_spec_NetOk (a : (Int × Int × Int × List (Int × Int × Int)) × Unit) : Option Bool := r_spec_NetOk e_spec_l01In e_spec_l03Reach N0 a.1
def r_spec_l10Copy (_N : Nat) (a0 : (Int × (Int × (Int × (List (Int × (Int × Int))))))) : Option (Int × (Int × (Int × (List (Int × (Int × Int)))))) :=
  (cond (Nat.ble ((List.length ([] : List (Int × (Int × Int)))) + (List.length a0.2.2.2)) 17179869184)
    (some (a0.1, (a0.2.1, (a0.2.2.1, (([] : List (Int × (Int × Int))) ++ a0.2.2.2)))))
    none)

noncomputable def e_spec_l10Copy (a : (Int × Int × Int × List (Int × Int × Int)) × Unit) : Option (Int × Int × Int × List (Int × Int × Int)) := r_spec_l10Copy N0 a.1
def r_spec_l03Drop_L0 (_N : Nat) (s : ((List (Int × (Int × Int))) × ((List (Int × (Int × Int))) × (Int × (Int × Unit))))) (kc ke : ((List (Int × (Int × Int))) × ((List (Int × (Int × Int))) × (Int × (Int × Unit)))) → Option (List (Int × (Int × Int)))) : Option (List (Int × (Int × Int))) :=
  (cond (decide (s.2.2.2.1 < s.2.2.1))
    (Option.bind (getI s.2.1 s.2.2.2.1) fun (x1 : (Int × (Int × Int))) =>
    (cond (!(decide (x1.2.2 = (0 : Int))))
      (cond (Nat.ble ((List.length s.1) + (List.length (x1 :: ([] : List (Int × (Int × Int)))))) 17179869184)
        (kc ((s.1 ++ (x1 :: ([] : List (Int × (Int × Int))))), (s.2.1, (s.2.2.1, ((wr (s.2.2.2.1 + (1 : Int))), ())))))
        none)
      (kc (s.1, (s.2.1, (s.2.2.1, ((wr (s.2.2.2.1 + (1 : Int))), ())))))))
    (ke (s.1, (s.2.1, (s.2.2.1, (s.2.2.2.1, ()))))))
def r_spec_l03Drop (N : Nat) (a0 : (List (Int × (Int × Int)))) : Option (List (Int × (Int × Int))) :=
  (iterK (r_spec_l03Drop_L0 N) N (([] : List (Int × (Int × Int))), (a0, ((((List.length a0) : Nat) : Int), ((0 : Int), ())))) fun (s1 : ((List (Int × (Int × Int))) × ((List (Int × (Int × Int))) × (Int × (Int × Unit))))) =>
  (some s1.1))

noncomputable def e_spec_l03Drop (a : (List (Int × Int × Int)) × Unit) : Option (List (Int × Int × Int)) := r_spec_l03Drop N0 a.1
def r_spec_ApplyFault (c_spec_NetOk : ((Int × Int × Int × List (Int × Int × Int)) × Unit → Option Bool)) (c_spec_l01In : (Int × Int × Int × Unit → Option Bool)) (c_spec_l10Copy : ((Int × Int × Int × List (Int × Int × Int)) × Unit → Option (Int × Int × Int × List (Int × Int × Int)))) (c_spec_l03Drop : ((List (Int × Int × Int)) × Unit → Option (List (Int × Int × Int)))) (_N : Nat) (a0 : (Int × (Int × (Int × (List (Int × (Int × Int))))))) (a1 : (Int × Int)) : Option ((Int × (Int × (Int × (List (Int × (Int × Int)))))) × Bool) :=
  (Option.bind (c_spec_NetOk (a0, ())) fun (x1 : Bool) =>
  (cond (!x1)
    (some (((0 : Int), ((0 : Int), ((0 : Int), ([] : List (Int × (Int × Int)))))), false))
    (Option.bind (c_spec_l01In (a1.1, ((0 : Int), ((wr ((((List.length a0.2.2.2) : Nat) : Int) - (1 : Int))), ())))) fun (x2 : Bool) =>
    (cond (!x2)
      (some (((0 : Int), ((0 : Int), ((0 : Int), ([] : List (Int × (Int × Int)))))), false))
      (Option.bind (c_spec_l01In (a1.2, ((0 : Int), ((12 : Int), ())))) fun (x3 : Bool) =>
      (cond (!x3)
        (some (((0 : Int), ((0 : Int), ((0 : Int), ([] : List (Int × (Int × Int)))))), false))
        (Option.bind (getI a0.2.2.2 a1.1) fun (x4 : (Int × (Int × Int))) =>
        (cond (decide (x4.2.2 = a1.2))
          (some (((0 : Int), ((0 : Int), ((0 : Int), ([] : List (Int × (Int × Int)))))), false))
          (Option.bind (c_spec_l10Copy (a0, ())) fun (x5 : (Int × (Int × (Int × (List (Int × (Int × Int))))))) =>
          (Option.bind (getI x5.2.2.2 a1.1) fun (x6 : (Int × (Int × Int))) =>
          (Option.bind (c_spec_l03Drop ((List.set x5.2.2.2 (Int.toNat a1.1) (x6.1, (x6.2.1, a1.2))), ())) fun (x7 : (List (Int × (Int × Int)))) =>
          (Option.bind (c_spec_NetOk ((x5.1, (x5.2.1, (x5.2.2.1, x7))), ())) fun (x8 : Bool) =>
          (cond (!x8)
            (some (((0 : Int), ((0 : Int), ((0 : Int), ([] : List (Int × (Int × Int)))))), false))
            (some ((x5.1, (x5.2.1, (x5.2.2.1, x7))), true)))))))))))))))

noncomputable def e_spec_ApplyFault (a : (Int × Int × Int × List (Int × Int × Int)) × (Int × Int) × Unit) : Option ((Int × Int × Int × List (Int × Int × Int)) × Bool) := r_spec_ApplyFault e_spec_NetOk e_spec_l01In e_spec_l10Copy e_spec_l03Drop N0 a.1 a.2.1
def r_spec_AllFaults_L2 (_c_spec_NetOk : ((Int × Int × Int × List (Int × Int × Int)) × Unit → Option Bool)) (c_spec_ApplyFault : ((Int × Int × Int × List (Int × Int × Int)) × (Int × Int) × Unit → Option ((Int × Int × Int × List (Int × Int × Int)) × Bool))) (_N : Nat) (s : ((Int × (Int × (Int × (List (Int × (Int × Int)))))) × ((List (Int × Int)) × (Int × (Int × (Int × (Int × Unit))))))) (kc ke : ((Int × (Int × (Int × (List (Int × (Int × Int)))))) × ((List (Int × Int)) × (Int × (Int × (Int × (Int × Unit)))))) → Option (List (Int × Int))) : Option (List (Int × Int)) :=
  (cond (decide (s.2.2.2.1 ≤ (12 : Int)))
    (Option.bind (c_spec_ApplyFault (s.1, ((s.2.2.1, s.2.2.2.1), ()))) fun (x1 : ((Int × (Int × (Int × (List (Int × (Int × Int)))))) × Bool)) =>
    (cond x1.2
      (cond (Nat.ble ((List.length s.2.1) + (List.length ((s.2.2.1, s.2.2.2.1) :: ([] : List (Int × Int))))) 17179869184)
        (kc (s.1, ((s.2.1 ++ ((s.2.2.1, s.2.2.2.1) :: ([] : List (Int × Int)))), (s.2.2.1, ((wr (s.2.2.2.1 + (1 : Int))), (s.2.2.2.2.1, (s.2.2.2.2.2.1, ())))))))
        none)
      (kc (s.1, (s.2.1, (s.2.2.1, ((wr (s.2.2.2.1 + (1 : Int))), (s.2.2.2.2.1, (s.2.2.2.2.2.1, ())))))))))
    (ke (s.1, (s.2.1, (s.2.2.1, (s.2.2.2.1, (s.2.2.2.2.1, (s.2.2.2.2.2.1, ()))))))))
def r_spec_AllFaults_L0 (c_spec_NetOk : ((Int × Int × Int × List (Int × Int × Int)) × Unit → Option Bool)) (c_spec_ApplyFault : ((Int × Int × Int × List (Int × Int × Int)) × (Int × Int) × Unit → Option ((Int × Int × Int × List (Int × Int × Int)) × Bool))) (N : Nat) (s : ((Int × (Int × (Int × (List (Int × (Int × Int)))))) × ((List (Int × Int)) × (Int × (Int × Unit))))) (kc ke : ((Int × (Int × (Int × (List (Int × (Int × Int)))))) × ((List (Int × Int)) × (Int × (Int × Unit)))) → Option (List (Int × Int))) : Option (List (Int × Int)) :=
  (cond (decide (s.2.2.2.1 < s.2.2.1))
    (iterK (r_spec_AllFaults_L2 c_spec_NetOk c_spec_ApplyFault N) N (s.1, (s.2.1, (s.2.2.2.1, ((0 : Int), (s.2.2.1, (s.2.2.2.1, ())))))) fun (s1 : ((Int × (Int × (Int × (List (Int × (Int × Int)))))) × ((List (Int × Int)) × (Int × (Int × (Int × (Int × Unit))))))) =>
    (kc (s1.1, (s1.2.1, (s1.2.2.2.2.1, ((wr (s1.2.2.2.2.2.1 + (1 : Int))), ()))))))
    (ke (s.1, (s.2.1, (s.2.2.1, (s.2.2.2.1, ()))))))
def r_spec_AllFaults (c_spec_NetOk : ((Int × Int × Int × List (Int × Int × Int)) × Unit → Option Bool)) (c_spec_ApplyFault : ((Int × Int × Int × List (Int × Int × Int)) × (Int × Int) × Unit → Option ((Int × Int × Int × List (Int × Int × Int)) × Bool))) (N : Nat) (a0 : (Int × (Int × (Int × (List (Int × (Int × Int))))))) : Option (List (Int × Int)) :=
  (Option.bind (c_spec_NetOk (a0, ())) fun (x1 : Bool) =>
  (cond (!x1)
    (some ([] : List (Int × Int)))
    (iterK (r_spec_AllFaults_L0 c_spec_NetOk c_spec_ApplyFault N) N (a0, (([] : List (Int × Int)), ((((List.length a0.2.2.2) : Nat) : Int), ((0 : Int), ())))) fun (s2 : ((Int × (Int × (Int × (List (Int × (Int × Int)))))) × ((List (Int × Int)) × (Int × (Int × Unit))))) =>
    (some s2.2.1))))

noncomputable def e_spec_AllFaults (a : (Int × Int × Int × List (Int × Int × Int)) × Unit) : Option (List (Int × Int)) := r_spec_AllFaults e_spec_NetOk e_spec_ApplyFault N0 a.1
def r_spec_WeightAt_L0 (_N : Nat) (s : (Int × (Int × ((List (Int × (Int × Int))) × (Int × (Int × Unit)))))) (kc ke : (Int × (Int × ((List (Int × (Int × Int))) × (Int × (Int × Unit))))) → Option Int) : Option Int :=
  (cond (decide (s.2.2.2.2.1 < s.2.2.2.1))
    (Option.bind (getI s.2.2.1 s.2.2.2.2.1) fun (x1 : (Int × (Int × Int))) =>
    (cond (decide (x1.1 = s.1))
      (kc (s.1, ((wr (s.2.1 + x1.2.2)), (s.2.2.1, (s.2.2.2.1, ((wr (s.2.2.2.2.1 + (1 : Int))), ()))))))
      (cond (decide (x1.2.1 = s.1))
        (kc (s.1, ((wr (s.2.1 + x1.2.2)), (s.2.2.1, (s.2.2.2.1, ((wr (s.2.2.2.2.1 + (1 : Int))), ()))))))
        (kc (s.1, (s.2.1, (s.2.2.1, (s.2.2.2.1, ((wr (s.2.2.2.2.1 + (1 : Int))), ())))))))))
    (ke (s.1, (s.2.1, (s.2.2.1, (s.2.2.2.1, (s.2.2.2.2.1, ())))))))
def r_spec_WeightAt (N : Nat) (a0 : (Int × (Int × (Int × (List (Int × (Int × Int))))))) (a1 : Int) : Option Int :=
  (iterK (r_spec_WeightAt_L0 N) N (a1, ((0 : Int), (a0.2.2.2, ((((List.length a0.2.2.2) : Nat) : Int), ((0 : Int), ()))))) fun (s1 : (Int × (Int × ((List (Int × (Int × Int))) × (Int × (Int × Unit)))))) =>
  (some s1.2.1))

noncomputable def e_spec_WeightAt (a : (Int × Int × Int × List (Int × Int × Int)) × Int × Unit) : Option Int := r_spec_WeightAt N0 a.1 a.2.1
def r_spec_l03Find_L0 (_N : Nat) (s : (Int × (Int × ((List (Int × (Int × Int))) × (Int × (Int × Unit)))))) (kc ke : (Int × (Int × ((List (Int × (Int × Int))) × (Int × (Int × Unit))))) → Option Int) : Option Int :=
  (cond (decide (s.2.2.2.2.1 < s.2.2.2.1))
    (Option.bind (getI s.2.2.1 s.2.2.2.2.1) fun (x1 : (Int × (Int × Int))) =>
    (cond (decide (x1.1 = (@ite @Int (s.2.1 < s.1) (@Int.decLt s.2.1 s.1) s.2.1 s.1)))
      (cond (decide (x1.2.1 = (@ite @Int (s.2.1 > s.1) (@Int.decLt s.1 s.2.1) s.2.1 s.1)))
        (some s.2.2.2.2.1)
        (kc (s.1, (s.2.1, (s.2.2.1, (s.2.2.2.1, ((wr (s.2.2.2.2.1 + (1 : Int))), ())))))))
      (kc (s.1, (s.2.1, (s.2.2.1, (s.2.2.2.1, ((wr (s.2.2.2.2.1 + (1 : Int))), ()))))))))
    (ke (s.1, (s.2.1, (s.2.2.1, (s.2.2.2.1, (s.2.2.2.2.1, ())))))))
def r_spec_l03Find (N : Nat) (a0 : (List (Int × (Int × Int)))) (a1 : Int) (a2 : Int) : Option Int :=
  (iterK (r_spec_l03Find_L0 N) N (a1, (a2, (a0, ((((List.length a0) : Nat) : Int), ((0 : Int), ()))))) fun (_s1 : (Int × (Int × ((List (Int × (Int × Int))) × (Int × (Int × Unit)))))) =>
  (some (-(1 : Int))))

noncomputable def e_spec_l03Find (a : (List (Int × Int × Int)) × Int × Int × Unit) : Option Int := r_spec_l03Find N0 a.1 a.2.1 a.2.2.1
def r_spec_WeightBetween (c_spec_l03Find : ((List (Int × Int × Int)) × Int × Int × Unit → Option Int)) (_N : Nat) (a0 : (Int × (Int × (Int × (List (Int × (Int × Int))))))) (a1 : Int) (a2 : Int) : Option Int :=
  (Option.bind (c_spec_l03Find (a0.2.2.2, (a1, (a2, ())))) fun (x1 : Int) =>
  (cond (decide (x1 < (0 : Int)))
    (some (0 : Int))
    (cond (decide (a1 = a2))
      (some (0 : Int))
      (Option.bind (getI a0.2.2.2 x1) fun (x2 : (Int × (Int × Int))) =>
      (some x2.2.2)))))

noncomputable def e_spec_WeightBetween (a : (Int × Int × Int × List (Int × Int × Int)) × Int × Int × Unit) : Option Int := r_spec_WeightBetween e_spec_l03Find N0 a.1 a.2.1 a.2.2.1
def r_spec_LaplacianOf_L2 (_c_spec_NetOk : ((Int × Int × Int × List (Int × Int × Int)) × Unit → Option Bool)) (c_spec_WeightAt : ((Int × Int × Int × List (Int × Int × Int)) × Int × Unit → Option Int)) (c_spec_WeightBetween : ((Int × Int × Int × List (Int × Int × Int)) × Int × Int × Unit → Option Int)) (_N : Nat) (s : ((Int × (Int × (Int × (List (Int × (Int × Int)))))) × ((List (List Int)) × (Int × ((List Int) × (Int × Unit)))))) (kc ke : ((Int × (Int × (Int × (List (Int × (Int × Int)))))) × ((List (List Int)) × (Int × ((List Int) × (Int × Unit))))) → Option (List (List Int))) : Option (List (List Int)) :=
  (cond (decide (s.2.2.2.2.1 < s.1.1))
    (cond (decide (s.2.2.1 = s.2.2.2.2.1))
      (Option.bind (c_spec_WeightAt (s.1, (s.2.2.1, ()))) fun (x1 : Int) =>
      (cond (Nat.ble ((List.length s.2.2.2.1) + (List.length (x1 :: ([] : List Int)))) 17179869184)
        (kc (s.1, (s.2.1, (s.2.2.1, ((s.2.2.2.1 ++ (x1 :: ([] : List Int))), ((wr (s.2.2.2.2.1 + (1 : Int))), ()))))))
        none))
      (Option.bind (c_spec_WeightBetween (s.1, (s.2.2.1, (s.2.2.2.2.1, ())))) fun (x2 : Int) =>
      (cond (Nat.ble ((List.length s.2.2.2.1) + (List.length ((wr ((0 : Int) - x2)) :: ([] : List Int)))) 17179869184)
        (kc (s.1, (s.2.1, (s.2.2.1, ((s.2.2.2.1 ++ ((wr ((0 : Int) - x2)) :: ([] : List Int))), ((wr (s.2.2.2.2.1 + (1 : Int))), ()))))))
        none)))
    (ke (s.1, (s.2.1, (s.2.2.1, (s.2.2.2.1, (s.2.2.2.2.1, ())))))))
def r_spec_LaplacianOf_L0 (c_spec_NetOk : ((Int × Int × Int × List (Int × Int × Int)) × Unit → Option Bool)) (c_spec_WeightAt : ((Int × Int × Int × List (Int × Int × Int)) × Int × Unit → Option Int)) (c_spec_WeightBetween : ((Int × Int × Int × List (Int × Int × Int)) × Int × Int × Unit → Option Int)) (N : Nat) (s : ((Int × (Int × (Int × (List (Int × (Int × Int)))))) × ((List (List Int)) × (Int × Unit)))) (kc ke : ((Int × (Int × (Int × (List (Int × (Int × Int)))))) × ((List (List Int)) × (Int × Unit))) → Option (List (List Int))) : Option (List (List Int)) :=
  (cond (decide (s.2.2.1 < s.1.1))
    (iterK (r_spec_LaplacianOf_L2 c_spec_NetOk c_spec_WeightAt c_spec_WeightBetween N) N (s.1, (s.2.1, (s.2.2.1, (([] : List Int), ((0 : Int), ()))))) fun (s1 : ((Int × (Int × (Int × (List (Int × (Int × Int)))))) × ((List (List Int)) × (Int × ((List Int) × (Int × Unit)))))) =>
    (cond (Nat.ble ((List.length s1.2.1) + (List.length (s1.2.2.2.1 :: ([] : List (List Int))))) 17179869184)
      (kc (s1.1, ((s1.2.1 ++ (s1.2.2.2.1 :: ([] : List (List Int)))), ((wr (s1.2.2.1 + (1 : Int))), ()))))
      none))
    (ke (s.1, (s.2.1, (s.2.2.1, ())))))
def r_spec_LaplacianOf (c_spec_NetOk : ((Int × Int × Int × List (Int × Int × Int)) × Unit → Option Bool)) (c_spec_WeightAt : ((Int × Int × Int × List (Int × Int × Int)) × Int × Unit → Option Int)) (c_spec_WeightBetween : ((Int × Int × Int × List (Int × Int × Int)) × Int × Int × Unit → Option Int)) (N : Nat) (a0 : (Int × (Int × (Int × (List (Int × (Int × Int))))))) : Option (List (List Int)) :=
  (Option.bind (c_spec_NetOk (a0, ())) fun (x1 : Bool) =>
  (cond (!x1)
    (some ([] : List (List Int)))
    (iterK (r_spec_LaplacianOf_L0 c_spec_NetOk c_spec_WeightAt c_spec_WeightBetween N) N (a0, (([] : List (List Int)), ((0 : Int), ()))) fun (s2 : ((Int × (Int × (Int × (List (Int × (Int × Int)))))) × ((List (List Int)) × (Int × Unit)))) =>
    (some s2.2.1))))

noncomputable def e_spec_LaplacianOf (a : (Int × Int × Int × List (Int × Int × Int)) × Unit) : Option (List (List Int)) := r_spec_LaplacianOf e_spec_NetOk e_spec_WeightAt e_spec_WeightBetween N0 a.1
def r_spec_l06Inner_L0 (_N : Nat) (s : ((Int × (Int × (Int × (List (Int × (Int × Int)))))) × ((List Int) × (Int × Unit)))) (kc ke : ((Int × (Int × (Int × (List (Int × (Int × Int)))))) × ((List Int) × (Int × Unit))) → Option (List Int)) : Option (List Int) :=
  (cond (decide (s.2.2.1 < s.1.1))
    (cond (Nat.ble ((List.length s.2.1) + (List.length (s.2.2.1 :: ([] : List Int)))) 17179869184)
      (kc (s.1, ((s.2.1 ++ (s.2.2.1 :: ([] : List Int))), ((wr (s.2.2.1 + (1 : Int))), ()))))
      none)
    (ke (s.1, (s.2.1, (s.2.2.1, ())))))
def r_spec_l06Inner (N : Nat) (a0 : (Int × (Int × (Int × (List (Int × (Int × Int))))))) : Option (List Int) :=
  (iterK (r_spec_l06Inner_L0 N) N (a0, (([] : List Int), (a0.2.1, ()))) fun (s1 : ((Int × (Int × (Int × (List (Int × (Int × Int)))))) × ((List Int) × (Int × Unit)))) =>
  (some s1.2.1))

noncomputable def e_spec_l06Inner (a : (Int × Int × Int × List (Int × Int × Int)) × Unit) : Option (List Int) := r_spec_l06Inner N0 a.1
def r_spec_l04Det_L0 (c_spec_l04Det : ((List (List Int)) × (List Int) × (List Int) × Unit → Option Int)) (_N : Nat) (s : ((List (List Int)) × ((List Int) × ((List Int) × (Int × (Int × ((List Int) × (Int × (Int × Unit))))))))) (kc ke : ((List (List Int)) × ((List Int) × ((List Int) × (Int × (Int × ((List Int) × (Int × (Int × Unit)))))))) → Option Int) : Option Int :=
  (cond (decide (s.2.2.2.2.2.2.2.1 < s.2.2.2.2.2.2.1))
    (Option.bind (getI s.2.2.2.2.2.1 s.2.2.2.2.2.2.2.1) fun (x1 : Int) =>
    (Option.bind (getI s.2.1 (0 : Int)) fun (x2 : Int) =>
    (Option.bind (getI s.1 x2) fun (x3 : (List Int)) =>
    (Option.bind (getI x3 x1) fun (x4 : Int) =>
    (cond (!(decide (x4 = (0 : Int))))
      (cond (decide ((0 : Int) ≤ s.2.2.2.2.2.2.2.1))
        (cond (decide (s.2.2.2.2.2.2.2.1 ≤ (((List.length s.2.2.1) : Nat) : Int)))
          (cond (Nat.ble ((List.length ([] : List Int)) + (List.length (List.take ((Int.toNat s.2.2.2.2.2.2.2.1) - (Int.toNat (0 : Int))) (List.drop (Int.toNat (0 : Int)) s.2.2.1)))) 17179869184)
            (cond (decide ((0 : Int) ≤ (wr (s.2.2.2.2.2.2.2.1 + (1 : Int)))))
              (cond (decide ((wr (s.2.2.2.2.2.2.2.1 + (1 : Int))) ≤ (((List.length s.2.2.1) : Nat) : Int)))
                (cond (decide ((((List.length s.2.2.1) : Nat) : Int) ≤ (((List.length s.2.2.1) : Nat) : Int)))
                  (cond (Nat.ble ((List.length (([] : List Int) ++ (List.take ((Int.toNat s.2.2.2.2.2.2.2.1) - (Int.toNat (0 : Int))) (List.drop (Int.toNat (0 : Int)) s.2.2.1)))) + (List.length (List.take ((Int.toNat (((List.length s.2.2.1) : Nat) : Int)) - (Int.toNat (wr (s.2.2.2.2.2.2.2.1 + (1 : Int))))) (List.drop (Int.toNat (wr (s.2.2.2.2.2.2.2.1 + (1 : Int)))) s.2.2.1)))) 17179869184)
                    (cond (decide ((1 : Int) ≤ (((List.length s.2.1) : Nat) : Int)))
                      (cond (decide ((((List.length s.2.1) : Nat) : Int) ≤ (((List.length s.2.1) : Nat) : Int)))
                        (Option.bind (c_spec_l04Det (s.1, ((List.take ((Int.toNat (((List.length s.2.1) : Nat) : Int)) - (Int.toNat (1 : Int))) (List.drop (Int.toNat (1 : Int)) s.2.1)), (((([] : List Int) ++ (List.take ((Int.toNat s.2.2.2.2.2.2.2.1) - (Int.toNat (0 : Int))) (List.drop (Int.toNat (0 : Int)) s.2.2.1))) ++ (List.take ((Int.toNat (((List.length s.2.2.1) : Nat) : Int)) - (Int.toNat (wr (s.2.2.2.2.2.2.2.1 + (1 : Int))))) (List.drop (Int.toNat (wr (s.2.2.2.2.2.2.2.1 + (1 : Int)))) s.2.2.1))), ())))) fun (x5 : Int) =>
                        (kc (s.1, (s.2.1, (s.2.2.1, ((wr (s.2.2.2.1 + (wr ((wr (s.2.2.2.2.1 * x4)) * x5)))), ((wr ((0 : Int) - s.2.2.2.2.1)), (s.2.2.2.2.2.1, (s.2.2.2.2.2.2.1, ((wr (s.2.2.2.2.2.2.2.1 + (1 : Int))), ()))))))))))
                        none)
                      none)
                    none)
                  none)
                none)
              none)
            none)
          none)
        none)
      (kc (s.1, (s.2.1, (s.2.2.1, (s.2.2.2.1, ((wr ((0 : Int) - s.2.2.2.2.1)), (s.2.2.2.2.2.1, (s.2.2.2.2.2.2.1, ((wr (s.2.2.2.2.2.2.2.1 + (1 : Int))), ()))))))))))))))
    (ke (s.1, (s.2.1, (s.2.2.1, (s.2.2.2.1, (s.2.2.2.2.1, (s.2.2.2.2.2.1, (s.2.2.2.2.2.2.1, (s.2.2.2.2.2.2.2.1, ()))))))))))
def r_spec_l04Det (c_spec_l04Det : ((List (List Int)) × (List Int) × (List Int) × Unit → Option Int)) (N : Nat) (a0 : (List (List Int))) (a1 : (List Int)) (a2 : (List Int)) : Option Int :=
  (cond (decide ((((List.length a1) : Nat) : Int) = (0 : Int)))
    (some (1 : Int))
    (iterK (r_spec_l04Det_L0 c_spec_l04Det N) N (a0, (a1, (a2, ((0 : Int), ((1 : Int), (a2, ((((List.length a2) : Nat) : Int), ((0 : Int), ())))))))) fun (s1 : ((List (List Int)) × ((List Int) × ((List Int) × (Int × (Int × ((List Int) × (Int × (Int × Unit))))))))) =>
    (some s1.2.2.2.1)))

noncomputable def e_spec_l04Det_n : Nat → ((List (List Int)) × (List Int) × (List Int) × Unit) → Option Int
  | 0, _ => none
  | n + 1, a => r_spec_l04Det (e_spec_l04Det_n n) N0 a.1 a.2.1 a.2.2.1
noncomputable def e_spec_l04Det (a : (List (List Int)) × (List Int) × (List Int) × Unit) : Option Int := e_spec_l04Det_n N0 a
def r_spec_l06Down (c_spec_LaplacianOf : ((Int × Int × Int × List (Int × Int × Int)) × Unit → Option (List (List Int)))) (c_spec_l06Inner : ((Int × Int × Int × List (Int × Int × Int)) × Unit → Option (List Int))) (c_spec_l04Det : ((List (List Int)) × (List Int) × (List Int) × Unit → Option Int)) (_N : Nat) (a0 : (Int × (Int × (Int × (List (Int × (Int × Int))))))) : Option Int :=
  (Option.bind (c_spec_LaplacianOf (a0, ())) fun (x1 : (List (List Int))) =>
  (Option.bind (c_spec_l06Inner (a0, ())) fun (x2 : (List Int)) =>
  (Option.bind (c_spec_l06Inner (a0, ())) fun (x3 : (List Int)) =>
  (Option.bind (c_spec_l04Det (x1, (x2, (x3, ())))) fun (x4 : Int) =>
  (some x4)))))

noncomputable def e_spec_l06Down (a : (Int × Int × Int × List (Int × Int × Int)) × Unit) : Option Int := r_spec_l06Down e_spec_LaplacianOf e_spec_l06Inner e_spec_l04Det N0 a.1
def r_spec_l06Top (c_spec_l06Inner : ((Int × Int × Int × List (Int × Int × Int)) × Unit → Option (List Int))) (c_spec_LaplacianOf : ((Int × Int × Int × List (Int × Int × Int)) × Unit → Option (List (List Int)))) (c_spec_l04Det : ((List (List Int)) × (List Int) × (List Int) × Unit → Option Int)) (_N : Nat) (a0 : (Int × (Int × (Int × (List (Int × (Int × Int))))))) (a1 : Int) (a2 : Int) : Option Int :=
  (Option.bind (c_spec_l06Inner (a0, ())) fun (x1 : (List Int)) =>
  (Option.bind (c_spec_LaplacianOf (a0, ())) fun (x2 : (List (List Int))) =>
  (cond (Nat.ble ((List.length (a1 :: ([] : List Int))) + (List.length x1)) 17179869184)
    (cond (Nat.ble ((List.length (a2 :: ([] : List Int))) + (List.length x1)) 17179869184)
      (Option.bind (c_spec_l04Det (x2, (((a1 :: ([] : List Int)) ++ x1), (((a2 :: ([] : List Int)) ++ x1), ())))) fun (x3 : Int) =>
      (some x3))
      none)
    none)))

noncomputable def e_spec_l06Top (a : (Int × Int × Int × List (Int × Int × Int)) × Int × Int × Unit) : Option Int := r_spec_l06Top e_spec_l06Inner e_spec_LaplacianOf e_spec_l04Det N0 a.1 a.2.1 a.2.2.1
def r_spec_l02Turn (_N : Nat) (a0 : Int) (a1 : Int) : Option (Int × Int) :=
  (cond (decide (a1 = (0 : Int)))
    none
    (some (a1, (Int.tmod a0 a1))))

noncomputable def e_spec_l02Turn (a : Int × Int × Unit) : Option (Int × Int) := r_spec_l02Turn N0 a.1 a.2.1
def r_spec_GcdOf_L0 (c_spec_l02Turn : (Int × Int × Unit → Option (Int × Int))) (_N : Nat) (s : (Int × (Int × Unit))) (kc ke : (Int × (Int × Unit)) → Option Int) : Option Int :=
  (cond (!(decide (s.2.1 = (0 : Int))))
    (Option.bind (c_spec_l02Turn (s.1, (s.2.1, ()))) fun (x1 : (Int × Int)) =>
    (kc (x1.1, (x1.2, ()))))
    (ke (s.1, (s.2.1, ()))))
def r_spec_GcdOf (c_spec_l02Turn : (Int × Int × Unit → Option (Int × Int))) (N : Nat) (a0 : Int) (a1 : Int) : Option Int :=
  (cond (decide (a0 < (-(9223372036854775807 : Int))))
    (some (0 : Int))
    (cond (decide (a1 < (-(9223372036854775807 : Int))))
      (some (0 : Int))
      (iterK (r_spec_GcdOf_L0 c_spec_l02Turn N) N ((@ite @Int ((wr ((0 : Int) - a0)) > a0) (@Int.decLt a0 (wr ((0 : Int) - a0))) (wr ((0 : Int) - a0)) a0), ((@ite @Int ((wr ((0 : Int) - a1)) > a1) (@Int.decLt a1 (wr ((0 : Int) - a1))) (wr ((0 : Int) - a1)) a1), ())) fun (s1 : (Int × (Int × Unit))) =>
      (some s1.1))))

noncomputable def e_spec_GcdOf (a : Int × Int × Unit) : Option Int := r_spec_GcdOf e_spec_l02Turn N0 a.1 a.2.1
def r_spec_RatioOk (c_spec_l01In : (Int × Int × Int × Unit → Option Bool)) (c_spec_GcdOf : (Int × Int × Unit → Option Int)) (_N : Nat) (a0 : (Int × Int)) : Option Bool :=
  (Option.bind (c_spec_l01In (a0.2, ((1 : Int), ((1000000000000000 : Int), ())))) fun (x1 : Bool) =>
  (cond x1
    (Option.bind (c_spec_l01In (a0.1, ((-(1000000000000000000 : Int)), ((1000000000000000000 : Int), ())))) fun (x2 : Bool) =>
    (cond x2
      (Option.bind (c_spec_GcdOf (a0.1, (a0.2, ()))) fun (x3 : Int) =>
      (some (decide (x3 = (1 : Int)))))
      (some false)))
    (some false)))

noncomputable def e_spec_RatioOk (a : (Int × Int) × Unit) : Option Bool := r_spec_RatioOk e_spec_l01In e_spec_GcdOf N0 a.1
def r_spec_RatioOf (c_spec_GcdOf : (Int × Int × Unit → Option Int)) (c_spec_RatioOk : ((Int × Int) × Unit → Option Bool)) (_N : Nat) (a0 : Int) (a1 : Int) : Option (Int × Int) :=
  (Option.bind (c_spec_GcdOf (a0, (a1, ()))) fun (x1 : Int) =>
  (cond (decide (x1 = (0 : Int)))
    (some ((0 : Int), (0 : Int)))
    (cond (decide (a1 = (0 : Int)))
      (some ((0 : Int), (0 : Int)))
      (cond (decide (a1 < (0 : Int)))
        (cond (decide ((wr ((0 : Int) - x1)) = (0 : Int)))
          none
          (cond (decide ((wr ((0 : Int) - x1)) = (0 : Int)))
            none
            (Option.bind (c_spec_RatioOk (((wr (Int.tdiv a0 (wr ((0 : Int) - x1)))), (wr (Int.tdiv a1 (wr ((0 : Int) - x1))))), ())) fun (x2 : Bool) =>
            (cond (!x2)
              (some ((0 : Int), (0 : Int)))
              (some ((wr (Int.tdiv a0 (wr ((0 : Int) - x1)))), (wr (Int.tdiv a1 (wr ((0 : Int) - x1))))))))))
        (cond (decide (x1 = (0 : Int)))
          none
          (cond (decide (x1 = (0 : Int)))
            none
            (Option.bind (c_spec_RatioOk (((wr (Int.tdiv a0 x1)), (wr (Int.tdiv a1 x1))), ())) fun (x3 : Bool) =>
            (cond (!x3)
              (some ((0 : Int), (0 : Int)))
              (some ((wr (Int.tdiv a0 x1)), (wr (Int.tdiv a1 x1))))))))))))

noncomputable def e_spec_RatioOf (a : Int × Int × Unit) : Option (Int × Int) := r_spec_RatioOf e_spec_GcdOf e_spec_RatioOk N0 a.1 a.2.1
def r_spec_ResponseOf_L2 (_c_spec_NetOk : ((Int × Int × Int × List (Int × Int × Int)) × Unit → Option Bool)) (_c_spec_l06Down : ((Int × Int × Int × List (Int × Int × Int)) × Unit → Option Int)) (c_spec_l06Top : ((Int × Int × Int × List (Int × Int × Int)) × Int × Int × Unit → Option Int)) (c_spec_RatioOf : (Int × Int × Unit → Option (Int × Int))) (_N : Nat) (s : ((Int × (Int × (Int × (List (Int × (Int × Int)))))) × (Int × ((List (List (Int × Int))) × (Int × ((List (Int × Int)) × (Int × Unit))))))) (kc ke : ((Int × (Int × (Int × (List (Int × (Int × Int)))))) × (Int × ((List (List (Int × Int))) × (Int × ((List (Int × Int)) × (Int × Unit)))))) → Option ((List (List (Int × Int))) × Bool)) : Option ((List (List (Int × Int))) × Bool) :=
  (cond (decide (s.2.2.2.2.2.1 < s.1.2.1))
    (Option.bind (c_spec_l06Top (s.1, (s.2.2.2.1, (s.2.2.2.2.2.1, ())))) fun (x1 : Int) =>
    (Option.bind (c_spec_RatioOf (x1, (s.2.1, ()))) fun (x2 : (Int × Int)) =>
    (cond (Nat.ble ((List.length s.2.2.2.2.1) + (List.length (x2 :: ([] : List (Int × Int))))) 17179869184)
      (kc (s.1, (s.2.1, (s.2.2.1, (s.2.2.2.1, ((s.2.2.2.2.1 ++ (x2 :: ([] : List (Int × Int)))), ((wr (s.2.2.2.2.2.1 + (1 : Int))), ())))))))
      none)))
    (ke (s.1, (s.2.1, (s.2.2.1, (s.2.2.2.1, (s.2.2.2.2.1, (s.2.2.2.2.2.1, ()))))))))
def r_spec_ResponseOf_L0 (c_spec_NetOk : ((Int × Int × Int × List (Int × Int × Int)) × Unit → Option Bool)) (c_spec_l06Down : ((Int × Int × Int × List (Int × Int × Int)) × Unit → Option Int)) (c_spec_l06Top : ((Int × Int × Int × List (Int × Int × Int)) × Int × Int × Unit → Option Int)) (c_spec_RatioOf : (Int × Int × Unit → Option (Int × Int))) (N : Nat) (s : ((Int × (Int × (Int × (List (Int × (Int × Int)))))) × (Int × ((List (List (Int × Int))) × (Int × Unit))))) (kc ke : ((Int × (Int × (Int × (List (Int × (Int × Int)))))) × (Int × ((List (List (Int × Int))) × (Int × Unit)))) → Option ((List (List (Int × Int))) × Bool)) : Option ((List (List (Int × Int))) × Bool) :=
  (cond (decide (s.2.2.2.1 < s.1.2.1))
    (iterK (r_spec_ResponseOf_L2 c_spec_NetOk c_spec_l06Down c_spec_l06Top c_spec_RatioOf N) N (s.1, (s.2.1, (s.2.2.1, (s.2.2.2.1, (([] : List (Int × Int)), ((0 : Int), ())))))) fun (s1 : ((Int × (Int × (Int × (List (Int × (Int × Int)))))) × (Int × ((List (List (Int × Int))) × (Int × ((List (Int × Int)) × (Int × Unit))))))) =>
    (cond (Nat.ble ((List.length s1.2.2.1) + (List.length (s1.2.2.2.2.1 :: ([] : List (List (Int × Int)))))) 17179869184)
      (kc (s1.1, (s1.2.1, ((s1.2.2.1 ++ (s1.2.2.2.2.1 :: ([] : List (List (Int × Int))))), ((wr (s1.2.2.2.1 + (1 : Int))), ())))))
      none))
    (ke (s.1, (s.2.1, (s.2.2.1, (s.2.2.2.1, ()))))))
def r_spec_ResponseOf (c_spec_NetOk : ((Int × Int × Int × List (Int × Int × Int)) × Unit → Option Bool)) (c_spec_l06Down : ((Int × Int × Int × List (Int × Int × Int)) × Unit → Option Int)) (c_spec_l06Top : ((Int × Int × Int × List (Int × Int × Int)) × Int × Int × Unit → Option Int)) (c_spec_RatioOf : (Int × Int × Unit → Option (Int × Int))) (N : Nat) (a0 : (Int × (Int × (Int × (List (Int × (Int × Int))))))) : Option ((List (List (Int × Int))) × Bool) :=
  (Option.bind (c_spec_NetOk (a0, ())) fun (x1 : Bool) =>
  (cond (!x1)
    (some (([] : List (List (Int × Int))), false))
    (Option.bind (c_spec_l06Down (a0, ())) fun (x2 : Int) =>
    (iterK (r_spec_ResponseOf_L0 c_spec_NetOk c_spec_l06Down c_spec_l06Top c_spec_RatioOf N) N (a0, ((wr (a0.2.2.1 * x2)), (([] : List (List (Int × Int))), ((0 : Int), ())))) fun (s3 : ((Int × (Int × (Int × (List (Int × (Int × Int)))))) × (Int × ((List (List (Int × Int))) × (Int × Unit))))) =>
    (some (s3.2.2.1, true))))))

noncomputable def e_spec_ResponseOf (a : (Int × Int × Int × List (Int × Int × Int)) × Unit) : Option ((List (List (Int × Int))) × Bool) := r_spec_ResponseOf e_spec_NetOk e_spec_l06Down e_spec_l06Top e_spec_RatioOf N0 a.1
def r_spec_SameResponse_L2 (_N : Nat) (s : ((List (List (Int × Int))) × (Int × ((List (List (Int × Int))) × (Int × (Int × ((List (Int × Int)) × (Int × (Int × Unit))))))))) (kc ke : ((List (List (Int × Int))) × (Int × ((List (List (Int × Int))) × (Int × (Int × ((List (Int × Int)) × (Int × (Int × Unit)))))))) → Option Bool) : Option Bool :=
  (cond (decide (s.2.2.2.2.2.2.2.1 < s.2.2.2.2.2.2.1))
    (Option.bind (getI s.2.2.2.2.2.1 s.2.2.2.2.2.2.2.1) fun (x1 : (Int × Int)) =>
    (Option.bind (getI s.1 s.2.1) fun (x2 : (List (Int × Int))) =>
    (Option.bind (getI x2 s.2.2.2.2.2.2.2.1) fun (x3 : (Int × Int)) =>
    (cond (!((intEq x1.1 x3.1) && (intEq x1.2 x3.2)))
      (some false)
      (kc (s.1, (s.2.1, (s.2.2.1, (s.2.2.2.1, (s.2.2.2.2.1, (s.2.2.2.2.2.1, (s.2.2.2.2.2.2.1, ((wr (s.2.2.2.2.2.2.2.1 + (1 : Int))), ())))))))))))))
    (ke (s.1, (s.2.1, (s.2.2.1, (s.2.2.2.1, (s.2.2.2.2.1, (s.2.2.2.2.2.1, (s.2.2.2.2.2.2.1, (s.2.2.2.2.2.2.2.1, ()))))))))))
def r_spec_SameResponse_L0 (N : Nat) (s : ((List (List (Int × Int))) × ((List (List (Int × Int))) × (Int × (Int × Unit))))) (kc ke : ((List (List (Int × Int))) × ((List (List (Int × Int))) × (Int × (Int × Unit)))) → Option Bool) : Option Bool :=
  (cond (decide (s.2.2.2.1 < s.2.2.1))
    (Option.bind (getI s.2.1 s.2.2.2.1) fun (x1 : (List (Int × Int))) =>
    (Option.bind (getI s.1 s.2.2.2.1) fun (x2 : (List (Int × Int))) =>
    (cond (!(decide ((((List.length x1) : Nat) : Int) = (((List.length x2) : Nat) : Int))))
      (some false)
      (iterK (r_spec_SameResponse_L2 N) N (s.1, (s.2.2.2.1, (s.2.1, (s.2.2.1, (s.2.2.2.1, (x1, ((((List.length x1) : Nat) : Int), ((0 : Int), ())))))))) fun (s3 : ((List (List (Int × Int))) × (Int × ((List (List (Int × Int))) × (Int × (Int × ((List (Int × Int)) × (Int × (Int × Unit))))))))) =>
      (kc (s3.1, (s3.2.2.1, (s3.2.2.2.1, ((wr (s3.2.2.2.2.1 + (1 : Int))), ())))))))))
    (ke (s.1, (s.2.1, (s.2.2.1, (s.2.2.2.1, ()))))))
def r_spec_SameResponse (N : Nat) (a0 : (List (List (Int × Int)))) (a1 : (List (List (Int × Int)))) : Option Bool :=
  (cond (!(decide ((((List.length a0) : Nat) : Int) = (((List.length a1) : Nat) : Int))))
    (some false)
    (iterK (r_spec_SameResponse_L0 N) N (a1, (a0, ((((List.length a0) : Nat) : Int), ((0 : Int), ())))) fun (_s1 : ((List (List (Int × Int))) × ((List (List (Int × Int))) × (Int × (Int × Unit))))) =>
    (some true)))

noncomputable def e_spec_SameResponse (a : (List (List (Int × Int))) × (List (List (Int × Int))) × Unit) : Option Bool := r_spec_SameResponse N0 a.1 a.2.1
def r_spec_FaultsLike_L0 (_c_spec_AllFaults : ((Int × Int × Int × List (Int × Int × Int)) × Unit → Option (List (Int × Int)))) (c_spec_ApplyFault : ((Int × Int × Int × List (Int × Int × Int)) × (Int × Int) × Unit → Option ((Int × Int × Int × List (Int × Int × Int)) × Bool))) (c_spec_ResponseOf : ((Int × Int × Int × List (Int × Int × Int)) × Unit → Option ((List (List (Int × Int))) × Bool))) (c_spec_SameResponse : ((List (List (Int × Int))) × (List (List (Int × Int))) × Unit → Option Bool)) (_N : Nat) (s : ((List (List (Int × Int))) × ((Int × (Int × (Int × (List (Int × (Int × Int)))))) × ((List (Int × Int)) × ((List (Int × Int)) × (Int × (Int × Unit))))))) (kc ke : ((List (List (Int × Int))) × ((Int × (Int × (Int × (List (Int × (Int × Int)))))) × ((List (Int × Int)) × ((List (Int × Int)) × (Int × (Int × Unit)))))) → Option (List (Int × Int))) : Option (List (Int × Int)) :=
  (cond (decide (s.2.2.2.2.2.1 < s.2.2.2.2.1))
    (Option.bind (getI s.2.2.2.1 s.2.2.2.2.2.1) fun (x1 : (Int × Int)) =>
    (Option.bind (c_spec_ApplyFault (s.2.1, (x1, ()))) fun (x2 : ((Int × (Int × (Int × (List (Int × (Int × Int)))))) × Bool)) =>
    (Option.bind (c_spec_ResponseOf (x2.1, ())) fun (x3 : ((List (List (Int × Int))) × Bool)) =>
    (Option.bind (c_spec_SameResponse (x3.1, (s.1, ()))) fun (x4 : Bool) =>
    (cond x4
      (cond (Nat.ble ((List.length s.2.2.1) + (List.length (x1 :: ([] : List (Int × Int))))) 17179869184)
        (kc (s.1, (s.2.1, ((s.2.2.1 ++ (x1 :: ([] : List (Int × Int)))), (s.2.2.2.1, (s.2.2.2.2.1, ((wr (s.2.2.2.2.2.1 + (1 : Int))), ())))))))
        none)
      (kc (s.1, (s.2.1, (s.2.2.1, (s.2.2.2.1, (s.2.2.2.2.1, ((wr (s.2.2.2.2.2.1 + (1 : Int))), ()))))))))))))
    (ke (s.1, (s.2.1, (s.2.2.1, (s.2.2.2.1, (s.2.2.2.2.1, (s.2.2.2.2.2.1, ()))))))))
def r_spec_FaultsLike (c_spec_AllFaults : ((Int × Int × Int × List (Int × Int × Int)) × Unit → Option (List (Int × Int)))) (c_spec_ApplyFault : ((Int × Int × Int × List (Int × Int × Int)) × (Int × Int) × Unit → Option ((Int × Int × Int × List (Int × Int × Int)) × Bool))) (c_spec_ResponseOf : ((Int × Int × Int × List (Int × Int × Int)) × Unit → Option ((List (List (Int × Int))) × Bool))) (c_spec_SameResponse : ((List (List (Int × Int))) × (List (List (Int × Int))) × Unit → Option Bool)) (N : Nat) (a0 : (Int × (Int × (Int × (List (Int × (Int × Int))))))) (a1 : (List (List (Int × Int)))) : Option (List (Int × Int)) :=
  (Option.bind (c_spec_AllFaults (a0, ())) fun (x1 : (List (Int × Int))) =>
  (iterK (r_spec_FaultsLike_L0 c_spec_AllFaults c_spec_ApplyFault c_spec_ResponseOf c_spec_SameResponse N) N (a1, (a0, (([] : List (Int × Int)), (x1, ((((List.length x1) : Nat) : Int), ((0 : Int), ())))))) fun (s2 : ((List (List (Int × Int))) × ((Int × (Int × (Int × (List (Int × (Int × Int)))))) × ((List (Int × Int)) × ((List (Int × Int)) × (Int × (Int × Unit))))))) =>
  (some s2.2.2.1)))

noncomputable def e_spec_FaultsLike (a : (Int × Int × Int × List (Int × Int × Int)) × (List (List (Int × Int))) × Unit) : Option (List (Int × Int)) := r_spec_FaultsLike e_spec_AllFaults e_spec_ApplyFault e_spec_ResponseOf e_spec_SameResponse N0 a.1 a.2.1
def r_slices_Index_bool_L0 (_N : Nat) (s : ((List Bool) × (Bool × (Int × (Int × Unit))))) (kc ke : ((List Bool) × (Bool × (Int × (Int × Unit)))) → Option Int) : Option Int :=
  (cond (decide (s.2.2.2.1 < s.2.2.1))
    (Option.bind (getI s.1 s.2.2.2.1) fun (x1 : Bool) =>
    (cond (beqB s.2.1 x1)
      (some s.2.2.2.1)
      (kc (s.1, (s.2.1, (s.2.2.1, ((wr (s.2.2.2.1 + (1 : Int))), ())))))))
    (ke (s.1, (s.2.1, (s.2.2.1, (s.2.2.2.1, ()))))))
def r_slices_Index_bool (N : Nat) (a0 : (List Bool)) (a1 : Bool) : Option Int :=
  (iterK (r_slices_Index_bool_L0 N) N (a0, (a1, ((((List.length a0) : Nat) : Int), ((0 : Int), ())))) fun (_s1 : ((List Bool) × (Bool × (Int × (Int × Unit))))) =>
  (some (-(1 : Int))))

noncomputable def e_slices_Index_bool (a : (List Bool) × Bool × Unit) : Option Int := r_slices_Index_bool N0 a.1 a.2.1
def r_slices_Contains_bool (c_slices_Index_bool : ((List Bool) × Bool × Unit → Option Int)) (_N : Nat) (a0 : (List Bool)) (a1 : Bool) : Option Bool :=
  (Option.bind (c_slices_Index_bool (a0, (a1, ()))) fun (x1 : Int) =>
  (some (decide (x1 ≥ (0 : Int)))))

noncomputable def e_slices_Contains_bool (a : (List Bool) × Bool × Unit) : Option Bool := r_slices_Contains_bool e_slices_Index_bool N0 a.1 a.2.1
def r_cmp_isNaN_int (_N : Nat) (a0 : Int) : Option Bool :=
  (some (!(decide (a0 = a0))))

noncomputable def e_cmp_isNaN_int (a : Int × Unit) : Option Bool := r_cmp_isNaN_int N0 a.1
def r_cmp_Compare_int (c_cmp_isNaN_int : (Int × Unit → Option Bool)) (_N : Nat) (a0 : Int) (a1 : Int) : Option Int :=
  (Option.bind (c_cmp_isNaN_int (a0, ())) fun (x1 : Bool) =>
  (Option.bind (c_cmp_isNaN_int (a1, ())) fun (x2 : Bool) =>
  (cond x1
    (cond x2
      (some (0 : Int))
      (some (-(1 : Int))))
    (cond x2
      (some (1 : Int))
      (cond (decide (a0 < a1))
        (some (-(1 : Int)))
        (cond (decide (a0 > a1))
          (some (1 : Int))
          (some (0 : Int))))))))

noncomputable def e_cmp_Compare_int (a : Int × Int × Unit) : Option Int := r_cmp_Compare_int e_cmp_isNaN_int N0 a.1 a.2.1
def r_cmp_Or_int_L0 (_N : Nat) (s : (Int × ((List Int) × (Int × (Int × Unit))))) (kc ke : (Int × ((List Int) × (Int × (Int × Unit)))) → Option Int) : Option Int :=
  (cond (decide (s.2.2.2.1 < s.2.2.1))
    (Option.bind (getI s.2.1 s.2.2.2.1) fun (x1 : Int) =>
    (cond (!(decide (x1 = s.1)))
      (some x1)
      (kc (s.1, (s.2.1, (s.2.2.1, ((wr (s.2.2.2.1 + (1 : Int))), ())))))))
    (ke (s.1, (s.2.1, (s.2.2.1, (s.2.2.2.1, ()))))))
def r_cmp_Or_int (N : Nat) (a0 : (List Int)) : Option Int :=
  (iterK (r_cmp_Or_int_L0 N) N ((0 : Int), (a0, ((((List.length a0) : Nat) : Int), ((0 : Int), ())))) fun (s1 : (Int × ((List Int) × (Int × (Int × Unit))))) =>
  (some s1.1))

noncomputable def e_cmp_Or_int (a : (List Int) × Unit) : Option Int := r_cmp_Or_int N0 a.1
def r_impl_byEnds (c_cmp_Compare_int : (Int × Int × Unit → Option Int)) (c_cmp_Or_int : ((List Int) × Unit → Option Int)) (_N : Nat) (a0 : (Int × (Int × Int))) (a1 : (Int × (Int × Int))) : Option Int :=
  (Option.bind (c_cmp_Compare_int (a0.1, (a1.1, ()))) fun (x1 : Int) =>
  (Option.bind (c_cmp_Compare_int (a0.2.1, (a1.2.1, ()))) fun (x2 : Int) =>
  (Option.bind (c_cmp_Or_int ((x1 :: (x2 :: ([] : List Int))), ())) fun (x3 : Int) =>
  (some x3))))

noncomputable def e_impl_byEnds (a : (Int × Int × Int) × (Int × Int × Int) × Unit) : Option Int := r_impl_byEnds e_cmp_Compare_int e_cmp_Or_int N0 a.1 a.2.1
def r_impl_NetOk_L4 (_c_slices_Contains_bool : ((List Bool) × Bool × Unit → Option Bool)) (_c_impl_byEnds : ((Int × Int × Int) × (Int × Int × Int) × Unit → Option Int)) (_N : Nat) (s : ((Int × (Int × (Int × (List (Int × (Int × Int)))))) × ((List Bool) × (Int × (Int × ((List (Int × (Int × Int))) × (Int × (Int × Unit)))))))) (kc ke : ((Int × (Int × (Int × (List (Int × (Int × Int)))))) × ((List Bool) × (Int × (Int × ((List (Int × (Int × Int))) × (Int × (Int × Unit))))))) → Option Bool) : Option Bool :=
  (cond (decide (s.2.2.2.2.2.2.1 < s.2.2.2.2.2.1))
    (Option.bind (getI s.2.2.2.2.1 s.2.2.2.2.2.2.1) fun (x1 : (Int × (Int × Int))) =>
    (Option.bind (getI s.2.1 x1.1) fun (x2 : Bool) =>
    (cond x2
      (Option.bind (getI s.2.1 x1.1) fun (_x3 : Bool) =>
      (Option.bind (getI (List.set s.2.1 (Int.toNat x1.1) true) x1.2.1) fun (_x4 : Bool) =>
      (kc (s.1, ((List.set (List.set s.2.1 (Int.toNat x1.1) true) (Int.toNat x1.2.1) true), (s.2.2.1, (s.2.2.2.1, (s.2.2.2.2.1, (s.2.2.2.2.2.1, ((wr (s.2.2.2.2.2.2.1 + (1 : Int))), ()))))))))))
      (Option.bind (getI s.2.1 x1.2.1) fun (x5 : Bool) =>
      (cond x5
        (Option.bind (getI s.2.1 x1.1) fun (_x6 : Bool) =>
        (Option.bind (getI (List.set s.2.1 (Int.toNat x1.1) true) x1.2.1) fun (_x7 : Bool) =>
        (kc (s.1, ((List.set (List.set s.2.1 (Int.toNat x1.1) true) (Int.toNat x1.2.1) true), (s.2.2.1, (s.2.2.2.1, (s.2.2.2.2.1, (s.2.2.2.2.2.1, ((wr (s.2.2.2.2.2.2.1 + (1 : Int))), ()))))))))))
        (kc (s.1, (s.2.1, (s.2.2.1, (s.2.2.2.1, (s.2.2.2.2.1, (s.2.2.2.2.2.1, ((wr (s.2.2.2.2.2.2.1 + (1 : Int))), ())))))))))))))
    (ke (s.1, (s.2.1, (s.2.2.1, (s.2.2.2.1, (s.2.2.2.2.1, (s.2.2.2.2.2.1, (s.2.2.2.2.2.2.1, ())))))))))
def r_impl_NetOk_L2 (c_slices_Contains_bool : ((List Bool) × Bool × Unit → Option Bool)) (c_impl_byEnds : ((Int × Int × Int) × (Int × Int × Int) × Unit → Option Int)) (N : Nat) (s : ((Int × (Int × (Int × (List (Int × (Int × Int)))))) × ((List Bool) × (Int × (Int × Unit))))) (kc ke : ((Int × (Int × (Int × (List (Int × (Int × Int)))))) × ((List Bool) × (Int × (Int × Unit)))) → Option Bool) : Option Bool :=
  (cond (decide (s.2.2.2.1 < s.2.2.1))
    (iterK (r_impl_NetOk_L4 c_slices_Contains_bool c_impl_byEnds N) N (s.1, (s.2.1, (s.2.2.1, (s.2.2.2.1, (s.1.2.2.2, ((((List.length s.1.2.2.2) : Nat) : Int), ((0 : Int), ()))))))) fun (s1 : ((Int × (Int × (Int × (List (Int × (Int × Int)))))) × ((List Bool) × (Int × (Int × ((List (Int × (Int × Int))) × (Int × (Int × Unit)))))))) =>
    (kc (s1.1, (s1.2.1, (s1.2.2.1, ((wr (s1.2.2.2.1 + (1 : Int))), ()))))))
    (ke (s.1, (s.2.1, (s.2.2.1, (s.2.2.2.1, ()))))))
def r_impl_NetOk_L0 (_c_slices_Contains_bool : ((List Bool) × Bool × Unit → Option Bool)) (c_impl_byEnds : ((Int × Int × Int) × (Int × Int × Int) × Unit → Option Int)) (_N : Nat) (s : ((Int × (Int × (Int × (List (Int × (Int × Int)))))) × ((List (Int × (Int × Int))) × (Int × (Int × Unit))))) (kc ke : ((Int × (Int × (Int × (List (Int × (Int × Int)))))) × ((List (Int × (Int × Int))) × (Int × (Int × Unit)))) → Option Bool) : Option Bool :=
  (cond (decide (s.2.2.2.1 < s.2.2.1))
    (Option.bind (getI s.2.1 s.2.2.2.1) fun (x1 : (Int × (Int × Int))) =>
    (cond (decide (x1.1 < (0 : Int)))
      (some false)
      (cond (decide (x1.1 ≥ x1.2.1))
        (some false)
        (cond (decide (x1.2.1 ≥ s.1.1))
          (some false)
          (cond (decide (x1.2.2 < (1 : Int)))
            (some false)
            (cond (decide (x1.2.2 > (200 : Int)))
              (some false)
              (cond (decide (s.2.2.2.1 > (0 : Int)))
                (Option.bind (getI s.1.2.2.2 (wr (s.2.2.2.1 - (1 : Int)))) fun (x2 : (Int × (Int × Int))) =>
                (Option.bind (c_impl_byEnds (x2, (x1, ()))) fun (x3 : Int) =>
                (cond (decide (x3 ≥ (0 : Int)))
                  (some false)
                  (kc (s.1, (s.2.1, (s.2.2.1, ((wr (s.2.2.2.1 + (1 : Int))), ()))))))))
                (kc (s.1, (s.2.1, (s.2.2.1, ((wr (s.2.2.2.1 + (1 : Int))), ()))))))))))))
    (ke (s.1, (s.2.1, (s.2.2.1, (s.2.2.2.1, ()))))))
def r_impl_NetOk (c_slices_Contains_bool : ((List Bool) × Bool × Unit → Option Bool)) (c_impl_byEnds : ((Int × Int × Int) × (Int × Int × Int) × Unit → Option Int)) (N : Nat) (a0 : (Int × (Int × (Int × (List (Int × (Int × Int))))))) : Option Bool :=
  (cond (decide (a0.1 < (1 : Int)))
    (some false)
    (cond (decide (a0.1 > (5 : Int)))
      (some false)
      (cond (decide (a0.2.1 < (1 : Int)))
        (some false)
        (cond (decide (a0.2.1 > a0.1))
          (some false)
          (cond (decide (a0.2.2.1 < (1 : Int)))
            (some false)
            (cond (decide (a0.2.2.1 > (1000 : Int)))
              (some false)
              (iterK (r_impl_NetOk_L0 c_slices_Contains_bool c_impl_byEnds N) N (a0, (a0.2.2.2, ((((List.length a0.2.2.2) : Nat) : Int), ((0 : Int), ())))) fun (s1 : ((Int × (Int × (Int × (List (Int × (Int × Int)))))) × ((List (Int × (Int × Int))) × (Int × (Int × Unit))))) =>
              (cond (decide ((0 : Int) ≤ s1.1.1))
                (cond (Nat.ble (Int.toNat s1.1.1) 17179869184)
                  (Option.bind (getI (List.replicate (Int.toNat s1.1.1) false) (0 : Int)) fun (_x2 : Bool) =>
                  (iterK (r_impl_NetOk_L2 c_slices_Contains_bool c_impl_byEnds N) N (s1.1, ((List.set (List.replicate (Int.toNat s1.1.1) false) (Int.toNat (0 : Int)) true), (s1.1.1, ((0 : Int), ())))) fun (s3 : ((Int × (Int × (Int × (List (Int × (Int × Int)))))) × ((List Bool) × (Int × (Int × Unit))))) =>
                  (Option.bind (c_slices_Contains_bool (s3.2.1, (false, ()))) fun (x4 : Bool) =>
                  (some (!x4)))))
                  none)
                none))))))))

noncomputable def e_impl_NetOk (a : (Int × Int × Int × List (Int × Int × Int)) × Unit) : Option Bool := r_impl_NetOk e_slices_Contains_bool e_impl_byEnds N0 a.1
def r_impl_isWire (_N : Nat) (a0 : (Int × (Int × (Int × (List (Int × (Int × Int))))))) (a1 : Int) : Option Bool :=
  (cond (decide (a1 ≥ (0 : Int)))
    (some (decide (a1 < (((List.length a0.2.2.2) : Nat) : Int))))
    (some false))

noncomputable def e_impl_isWire (a : (Int × Int × Int × List (Int × Int × Int)) × Int × Unit) : Option Bool := r_impl_isWire N0 a.1 a.2.1
def r_impl_isNode (_N : Nat) (a0 : (Int × (Int × (Int × (List (Int × (Int × Int))))))) (a1 : Int) : Option Bool :=
  (cond (decide (a1 ≥ (0 : Int)))
    (some (decide (a1 < a0.1)))
    (some false))

noncomputable def e_impl_isNode (a : (Int × Int × Int × List (Int × Int × Int)) × Int × Unit) : Option Bool := r_impl_isNode N0 a.1 a.2.1
def r_impl_WeightBetween_L0 (_N : Nat) (s : (Int × (Int × ((List (Int × (Int × Int))) × (Int × (Int × Unit)))))) (kc ke : (Int × (Int × ((List (Int × (Int × Int))) × (Int × (Int × Unit))))) → Option Int) : Option Int :=
  (cond (decide (s.2.2.2.2.1 < s.2.2.2.1))
    (Option.bind (getI s.2.2.1 s.2.2.2.2.1) fun (x1 : (Int × (Int × Int))) =>
    (cond (!(decide (s.1 = s.2.1)))
      (cond (decide (x1.1 = s.1))
        (cond (decide (x1.2.1 = s.2.1))
          (some x1.2.2)
          (cond (decide (x1.1 = s.2.1))
            (cond (decide (x1.2.1 = s.1))
              (some x1.2.2)
              (kc (s.1, (s.2.1, (s.2.2.1, (s.2.2.2.1, ((wr (s.2.2.2.2.1 + (1 : Int))), ())))))))
            (kc (s.1, (s.2.1, (s.2.2.1, (s.2.2.2.1, ((wr (s.2.2.2.2.1 + (1 : Int))), ()))))))))
        (cond (decide (x1.1 = s.2.1))
          (cond (decide (x1.2.1 = s.1))
            (some x1.2.2)
            (kc (s.1, (s.2.1, (s.2.2.1, (s.2.2.2.1, ((wr (s.2.2.2.2.1 + (1 : Int))), ())))))))
          (kc (s.1, (s.2.1, (s.2.2.1, (s.2.2.2.1, ((wr (s.2.2.2.2.1 + (1 : Int))), ()))))))))
      (kc (s.1, (s.2.1, (s.2.2.1, (s.2.2.2.1, ((wr (s.2.2.2.2.1 + (1 : Int))), ()))))))))
    (ke (s.1, (s.2.1, (s.2.2.1, (s.2.2.2.1, (s.2.2.2.2.1, ())))))))
def r_impl_WeightBetween (N : Nat) (a0 : (Int × (Int × (Int × (List (Int × (Int × Int))))))) (a1 : Int) (a2 : Int) : Option Int :=
  (iterK (r_impl_WeightBetween_L0 N) N (a1, (a2, (a0.2.2.2, ((((List.length a0.2.2.2) : Nat) : Int), ((0 : Int), ()))))) fun (_s1 : (Int × (Int × ((List (Int × (Int × Int))) × (Int × (Int × Unit)))))) =>
  (some (0 : Int)))

noncomputable def e_impl_WeightBetween (a : (Int × Int × Int × List (Int × Int × Int)) × Int × Int × Unit) : Option Int := r_impl_WeightBetween N0 a.1 a.2.1 a.2.2.1
def r_impl_table_L2 (c_impl_WeightBetween : ((Int × Int × Int × List (Int × Int × Int)) × Int × Int × Unit → Option Int)) (_N : Nat) (s : ((Int × (Int × (Int × (List (Int × (Int × Int)))))) × ((List (List Int)) × (Int × (Int × (Int × (Int × (Int × Unit)))))))) (kc ke : ((Int × (Int × (Int × (List (Int × (Int × Int)))))) × ((List (List Int)) × (Int × (Int × (Int × (Int × (Int × Unit))))))) → Option (List (List Int))) : Option (List (List Int)) :=
  (cond (decide (s.2.2.2.2.2.2.1 < s.2.2.2.2.2.1))
    (Option.bind (getI s.2.1 s.2.2.1) fun (x1 : (List Int)) =>
    (Option.bind (c_impl_WeightBetween (s.1, (s.2.2.1, (s.2.2.2.2.2.2.1, ())))) fun (x2 : Int) =>
    (Option.bind (getI x1 s.2.2.2.2.2.2.1) fun (_x3 : Int) =>
    (kc (s.1, ((List.set s.2.1 (Int.toNat s.2.2.1) (List.set x1 (Int.toNat s.2.2.2.2.2.2.1) x2)), (s.2.2.1, (s.2.2.2.1, (s.2.2.2.2.1, (s.2.2.2.2.2.1, ((wr (s.2.2.2.2.2.2.1 + (1 : Int))), ())))))))))))
    (ke (s.1, (s.2.1, (s.2.2.1, (s.2.2.2.1, (s.2.2.2.2.1, (s.2.2.2.2.2.1, (s.2.2.2.2.2.2.1, ())))))))))
def r_impl_table_L0 (c_impl_WeightBetween : ((Int × Int × Int × List (Int × Int × Int)) × Int × Int × Unit → Option Int)) (N : Nat) (s : ((Int × (Int × (Int × (List (Int × (Int × Int)))))) × ((List (List Int)) × (Int × (Int × Unit))))) (kc ke : ((Int × (Int × (Int × (List (Int × (Int × Int)))))) × ((List (List Int)) × (Int × (Int × Unit)))) → Option (List (List Int))) : Option (List (List Int)) :=
  (cond (decide (s.2.2.2.1 < s.2.2.1))
    (cond (decide ((0 : Int) ≤ s.1.1))
      (cond (Nat.ble (Int.toNat s.1.1) 17179869184)
        (Option.bind (getI s.2.1 s.2.2.2.1) fun (_x1 : (List Int)) =>
        (Option.bind (getI (List.set s.2.1 (Int.toNat s.2.2.2.1) (List.replicate (Int.toNat s.1.1) (0 : Int))) s.2.2.2.1) fun (x2 : (List Int)) =>
        (iterK (r_impl_table_L2 c_impl_WeightBetween N) N (s.1, ((List.set s.2.1 (Int.toNat s.2.2.2.1) (List.replicate (Int.toNat s.1.1) (0 : Int))), (s.2.2.2.1, (s.2.2.1, (s.2.2.2.1, ((((List.length x2) : Nat) : Int), ((0 : Int), ()))))))) fun (s3 : ((Int × (Int × (Int × (List (Int × (Int × Int)))))) × ((List (List Int)) × (Int × (Int × (Int × (Int × (Int × Unit)))))))) =>
        (kc (s3.1, (s3.2.1, (s3.2.2.2.1, ((wr (s3.2.2.2.2.1 + (1 : Int))), ()))))))))
        none)
      none)
    (ke (s.1, (s.2.1, (s.2.2.1, (s.2.2.2.1, ()))))))
def r_impl_table (c_impl_WeightBetween : ((Int × Int × Int × List (Int × Int × Int)) × Int × Int × Unit → Option Int)) (N : Nat) (a0 : (Int × (Int × (Int × (List (Int × (Int × Int))))))) : Option (List (List Int)) :=
  (cond (decide ((0 : Int) ≤ a0.1))
    (cond (Nat.ble (Int.toNat a0.1) 17179869184)
      (iterK (r_impl_table_L0 c_impl_WeightBetween N) N (a0, ((List.replicate (Int.toNat a0.1) ([] : List Int)), ((((List.length (List.replicate (Int.toNat a0.1) ([] : List Int))) : Nat) : Int), ((0 : Int), ())))) fun (s1 : ((Int × (Int × (Int × (List (Int × (Int × Int)))))) × ((List (List Int)) × (Int × (Int × Unit))))) =>
      (some s1.2.1))
      none)
    none)

noncomputable def e_impl_table (a : (Int × Int × Int × List (Int × Int × Int)) × Unit) : Option (List (List Int)) := r_impl_table e_impl_WeightBetween N0 a.1
def r_impl_size (_N : Nat) (a0 : Int) : Option Int :=
  (cond (decide (a0 < (0 : Int)))
    (some (Go.IntKind.wrap @Go.IntKind.u64 ((0 : Int) - (Go.IntKind.wrap @Go.IntKind.u64 a0))))
    (some (Go.IntKind.wrap @Go.IntKind.u64 a0)))

noncomputable def e_impl_size (a : Int × Unit) : Option Int := r_impl_size N0 a.1
def r_impl_common_L0 (_N : Nat) (s : (Int × (Int × Unit))) (kc ke : (Int × (Int × Unit)) → Option Int) : Option Int :=
  (cond (!(decide (s.2.1 = (0 : Int))))
    (cond (decide (s.2.1 = (0 : Int)))
      none
      (kc (s.2.1, ((Int.tmod s.1 s.2.1), ()))))
    (ke (s.1, (s.2.1, ()))))
def r_impl_common (N : Nat) (a0 : Int) (a1 : Int) : Option Int :=
  (iterK (r_impl_common_L0 N) N (a0, (a1, ())) fun (s1 : (Int × (Int × Unit))) =>
  (some s1.1))

noncomputable def e_impl_common (a : Int × Int × Unit) : Option Int := r_impl_common N0 a.1 a.2.1
def r_impl_GcdOf (c_impl_size : (Int × Unit → Option Int)) (c_impl_common : (Int × Int × Unit → Option Int)) (_N : Nat) (a0 : Int) (a1 : Int) : Option Int :=
  (cond (decide (a0 = (-(9223372036854775808 : Int))))
    (some (0 : Int))
    (cond (decide (a1 = (-(9223372036854775808 : Int))))
      (some (0 : Int))
      (Option.bind (c_impl_size (a0, ())) fun (x1 : Int) =>
      (Option.bind (c_impl_size (a1, ())) fun (x2 : Int) =>
      (Option.bind (c_impl_common (x1, (x2, ()))) fun (x3 : Int) =>
      (some (wr x3)))))))

noncomputable def e_impl_GcdOf (a : Int × Int × Unit) : Option Int := r_impl_GcdOf e_impl_size e_impl_common N0 a.1 a.2.1
def r_impl_netOf_L2 (_c_impl_NetOk : ((Int × Int × Int × List (Int × Int × Int)) × Unit → Option Bool)) (c_impl_GcdOf : (Int × Int × Unit → Option Int)) (_N : Nat) (s : ((List (List Int)) × (Bool × ((Int × (Int × (Int × (List (Int × (Int × Int)))))) × ((Int × (Int × (Int × (List (Int × (Int × Int)))))) × (Int × (Int × (Int × (Int × (Int × Unit)))))))))) (kc ke : ((List (List Int)) × (Bool × ((Int × (Int × (Int × (List (Int × (Int × Int)))))) × ((Int × (Int × (Int × (List (Int × (Int × Int)))))) × (Int × (Int × (Int × (Int × (Int × Unit))))))))) → Option ((Int × (Int × (Int × (List (Int × (Int × Int)))))) × Bool)) : Option ((Int × (Int × (Int × (List (Int × (Int × Int)))))) × Bool) :=
  (cond (decide (s.2.2.2.2.2.2.1 < (((List.length s.1) : Nat) : Int)))
    (Option.bind (getI s.1 s.2.2.2.2.2.1) fun (x1 : (List Int)) =>
    (Option.bind (getI x1 s.2.2.2.2.2.2.1) fun (x2 : Int) =>
    (cond (!(decide (x2 = (0 : Int))))
      (cond (Nat.ble ((List.length s.2.2.2.1.2.2.2) + (List.length ((s.2.2.2.2.2.1, (s.2.2.2.2.2.2.1, x2)) :: ([] : List (Int × (Int × Int)))))) 17179869184)
        (Option.bind (c_impl_GcdOf (s.2.2.2.2.1, (x2, ()))) fun (x3 : Int) =>
        (kc (s.1, (s.2.1, (s.2.2.1, ((s.2.2.2.1.1, (s.2.2.2.1.2.1, (s.2.2.2.1.2.2.1, (s.2.2.2.1.2.2.2 ++ ((s.2.2.2.2.2.1, (s.2.2.2.2.2.2.1, x2)) :: ([] : List (Int × (Int × Int)))))))), (x3, (s.2.2.2.2.2.1, ((wr (s.2.2.2.2.2.2.1 + (1 : Int))), (s.2.2.2.2.2.2.2.1, (s.2.2.2.2.2.2.2.2.1, ())))))))))))
        none)
      (kc (s.1, (s.2.1, (s.2.2.1, (s.2.2.2.1, (s.2.2.2.2.1, (s.2.2.2.2.2.1, ((wr (s.2.2.2.2.2.2.1 + (1 : Int))), (s.2.2.2.2.2.2.2.1, (s.2.2.2.2.2.2.2.2.1, ())))))))))))))
    (ke (s.1, (s.2.1, (s.2.2.1, (s.2.2.2.1, (s.2.2.2.2.1, (s.2.2.2.2.2.1, (s.2.2.2.2.2.2.1, (s.2.2.2.2.2.2.2.1, (s.2.2.2.2.2.2.2.2.1, ())))))))))))
def r_impl_netOf_L4 (_c_impl_NetOk : ((Int × Int × Int × List (Int × Int × Int)) × Unit → Option Bool)) (_c_impl_GcdOf : (Int × Int × Unit → Option Int)) (_N : Nat) (s : ((Int × (Int × (Int × (List (Int × (Int × Int)))))) × ((Int × (Int × (Int × (List (Int × (Int × Int)))))) × (Int × (Int × (Int × Unit)))))) (kc ke : ((Int × (Int × (Int × (List (Int × (Int × Int)))))) × ((Int × (Int × (Int × (List (Int × (Int × Int)))))) × (Int × (Int × (Int × Unit))))) → Option ((Int × (Int × (Int × (List (Int × (Int × Int)))))) × Bool)) : Option ((Int × (Int × (Int × (List (Int × (Int × Int)))))) × Bool) :=
  (cond (decide (s.2.2.2.2.1 < s.2.2.2.1))
    (Option.bind (getI s.2.1.2.2.2 s.2.2.2.2.1) fun (x1 : (Int × (Int × Int))) =>
    (cond (decide (s.2.2.1 = (0 : Int)))
      none
      (Option.bind (getI s.2.1.2.2.2 s.2.2.2.2.1) fun (x2 : (Int × (Int × Int))) =>
      (kc (s.1, ((s.2.1.1, (s.2.1.2.1, (s.2.1.2.2.1, (List.set s.2.1.2.2.2 (Int.toNat s.2.2.2.2.1) (x2.1, (x2.2.1, (wr (Int.tdiv x1.2.2 s.2.2.1)))))))), (s.2.2.1, (s.2.2.2.1, ((wr (s.2.2.2.2.1 + (1 : Int))), ())))))))))
    (ke (s.1, (s.2.1, (s.2.2.1, (s.2.2.2.1, (s.2.2.2.2.1, ())))))))
def r_impl_netOf_L0 (c_impl_NetOk : ((Int × Int × Int × List (Int × Int × Int)) × Unit → Option Bool)) (c_impl_GcdOf : (Int × Int × Unit → Option Int)) (N : Nat) (s : ((List (List Int)) × (Bool × ((Int × (Int × (Int × (List (Int × (Int × Int)))))) × ((Int × (Int × (Int × (List (Int × (Int × Int)))))) × (Int × (Int × (Int × Unit)))))))) (kc ke : ((List (List Int)) × (Bool × ((Int × (Int × (Int × (List (Int × (Int × Int)))))) × ((Int × (Int × (Int × (List (Int × (Int × Int)))))) × (Int × (Int × (Int × Unit))))))) → Option ((Int × (Int × (Int × (List (Int × (Int × Int)))))) × Bool)) : Option ((Int × (Int × (Int × (List (Int × (Int × Int)))))) × Bool) :=
  (cond (decide (s.2.2.2.2.2.2.1 < s.2.2.2.2.2.1))
    (iterK (r_impl_netOf_L2 c_impl_NetOk c_impl_GcdOf N) N (s.1, (s.2.1, (s.2.2.1, (s.2.2.2.1, (s.2.2.2.2.1, (s.2.2.2.2.2.2.1, ((wr (s.2.2.2.2.2.2.1 + (1 : Int))), (s.2.2.2.2.2.1, (s.2.2.2.2.2.2.1, ()))))))))) fun (s1 : ((List (List Int)) × (Bool × ((Int × (Int × (Int × (List (Int × (Int × Int)))))) × ((Int × (Int × (Int × (List (Int × (Int × Int)))))) × (Int × (Int × (Int × (Int × (Int × Unit)))))))))) =>
    (kc (s1.1, (s1.2.1, (s1.2.2.1, (s1.2.2.2.1, (s1.2.2.2.2.1, (s1.2.2.2.2.2.2.2.1, ((wr (s1.2.2.2.2.2.2.2.2.1 + (1 : Int))), ())))))))))
    (ke (s.1, (s.2.1, (s.2.2.1, (s.2.2.2.1, (s.2.2.2.2.1, (s.2.2.2.2.2.1, (s.2.2.2.2.2.2.1, ())))))))))
def r_impl_netOf (c_impl_NetOk : ((Int × Int × Int × List (Int × Int × Int)) × Unit → Option Bool)) (c_impl_GcdOf : (Int × Int × Unit → Option Int)) (N : Nat) (a0 : Int) (a1 : Int) (a2 : (List (List Int))) (a3 : Bool) : Option ((Int × (Int × (Int × (List (Int × (Int × Int)))))) × Bool) :=
  (iterK (r_impl_netOf_L0 c_impl_NetOk c_impl_GcdOf N) N (a2, (a3, (((0 : Int), ((0 : Int), ((0 : Int), ([] : List (Int × (Int × Int)))))), (((((List.length a2) : Nat) : Int), (a0, (a1, ([] : List (Int × (Int × Int)))))), (a1, ((((List.length a2) : Nat) : Int), ((0 : Int), ()))))))) fun (s1 : ((List (List Int)) × (Bool × ((Int × (Int × (Int × (List (Int × (Int × Int)))))) × ((Int × (Int × (Int × (List (Int × (Int × Int)))))) × (Int × (Int × (Int × Unit)))))))) =>
  (cond s1.2.1
    (cond (decide (s1.2.2.2.2.1 = (0 : Int)))
      none
      (iterK (r_impl_netOf_L4 c_impl_NetOk c_impl_GcdOf N) N (s1.2.2.1, ((s1.2.2.2.1.1, (s1.2.2.2.1.2.1, ((wr (Int.tdiv s1.2.2.2.1.2.2.1 s1.2.2.2.2.1)), s1.2.2.2.1.2.2.2))), (s1.2.2.2.2.1, ((((List.length s1.2.2.2.1.2.2.2) : Nat) : Int), ((0 : Int), ()))))) fun (s2 : ((Int × (Int × (Int × (List (Int × (Int × Int)))))) × ((Int × (Int × (Int × (List (Int × (Int × Int)))))) × (Int × (Int × (Int × Unit)))))) =>
      (Option.bind (c_impl_NetOk (s2.2.1, ())) fun (x3 : Bool) =>
      (cond (!x3)
        (some (((0 : Int), ((0 : Int), ((0 : Int), ([] : List (Int × (Int × Int)))))), false))
        (some (s2.2.1, true))))))
    (Option.bind (c_impl_NetOk (s1.2.2.2.1, ())) fun (x4 : Bool) =>
    (cond (!x4)
      (some (((0 : Int), ((0 : Int), ((0 : Int), ([] : List (Int × (Int × Int)))))), false))
      (some (s1.2.2.2.1, true))))))

noncomputable def e_impl_netOf (a : Int × Int × (List (List Int)) × Bool × Unit) : Option ((Int × Int × Int × List (Int × Int × Int)) × Bool) := r_impl_netOf e_impl_NetOk e_impl_GcdOf N0 a.1 a.2.1 a.2.2.1 a.2.2.2.1
def r_impl_PutWire (c_impl_NetOk : ((Int × Int × Int × List (Int × Int × Int)) × Unit → Option Bool)) (c_impl_isNode : ((Int × Int × Int × List (Int × Int × Int)) × Int × Unit → Option Bool)) (c_impl_table : ((Int × Int × Int × List (Int × Int × Int)) × Unit → Option (List (List Int)))) (c_impl_netOf : (Int × Int × (List (List Int)) × Bool × Unit → Option ((Int × Int × Int × List (Int × Int × Int)) × Bool))) (_N : Nat) (a0 : (Int × (Int × (Int × (List (Int × (Int × Int))))))) (a1 : Int) (a2 : Int) (a3 : Int) : Option ((Int × (Int × (Int × (List (Int × (Int × Int)))))) × Bool) :=
  (Option.bind (c_impl_NetOk (a0, ())) fun (x1 : Bool) =>
  (cond (!x1)
    (some (((0 : Int), ((0 : Int), ((0 : Int), ([] : List (Int × (Int × Int)))))), false))
    (Option.bind (c_impl_isNode (a0, (a1, ()))) fun (x2 : Bool) =>
    (cond (!x2)
      (some (((0 : Int), ((0 : Int), ((0 : Int), ([] : List (Int × (Int × Int)))))), false))
      (Option.bind (c_impl_isNode (a0, (a2, ()))) fun (x3 : Bool) =>
      (cond (!x3)
        (some (((0 : Int), ((0 : Int), ((0 : Int), ([] : List (Int × (Int × Int)))))), false))
        (cond (decide (a1 = a2))
          (some (((0 : Int), ((0 : Int), ((0 : Int), ([] : List (Int × (Int × Int)))))), false))
          (cond (decide (a3 < (0 : Int)))
            (some (((0 : Int), ((0 : Int), ((0 : Int), ([] : List (Int × (Int × Int)))))), false))
            (cond (decide (a3 > (200 : Int)))
              (some (((0 : Int), ((0 : Int), ((0 : Int), ([] : List (Int × (Int × Int)))))), false))
              (Option.bind (c_impl_table (a0, ())) fun (x4 : (List (List Int))) =>
              (Option.bind (getI x4 a1) fun (x5 : (List Int)) =>
              (Option.bind (getI x5 a2) fun (_x6 : Int) =>
              (Option.bind (getI (List.set x4 (Int.toNat a1) (List.set x5 (Int.toNat a2) a3)) a2) fun (x7 : (List Int)) =>
              (Option.bind (getI x7 a1) fun (_x8 : Int) =>
              (Option.bind (c_impl_netOf (a0.2.1, (a0.2.2.1, ((List.set (List.set x4 (Int.toNat a1) (List.set x5 (Int.toNat a2) a3)) (Int.toNat a2) (List.set x7 (Int.toNat a1) a3)), (false, ()))))) fun (x9 : ((Int × (Int × (Int × (List (Int × (Int × Int)))))) × Bool)) =>
              (some (x9.1, x9.2)))))))))))))))))

noncomputable def e_impl_PutWire (a : (Int × Int × Int × List (Int × Int × Int)) × Int × Int × Int × Unit) : Option ((Int × Int × Int × List (Int × Int × Int)) × Bool) := r_impl_PutWire e_impl_NetOk e_impl_isNode e_impl_table e_impl_netOf N0 a.1 a.2.1 a.2.2.1 a.2.2.2.1
def r_impl_ApplyFault (c_impl_NetOk : ((Int × Int × Int × List (Int × Int × Int)) × Unit → Option Bool)) (c_impl_isWire : ((Int × Int × Int × List (Int × Int × Int)) × Int × Unit → Option Bool)) (c_impl_PutWire : ((Int × Int × Int × List (Int × Int × Int)) × Int × Int × Int × Unit → Option ((Int × Int × Int × List (Int × Int × Int)) × Bool))) (_N : Nat) (a0 : (Int × (Int × (Int × (List (Int × (Int × Int))))))) (a1 : (Int × Int)) : Option ((Int × (Int × (Int × (List (Int × (Int × Int)))))) × Bool) :=
  (Option.bind (c_impl_NetOk (a0, ())) fun (x1 : Bool) =>
  (cond (!x1)
    (some (((0 : Int), ((0 : Int), ((0 : Int), ([] : List (Int × (Int × Int)))))), false))
    (Option.bind (c_impl_isWire (a0, (a1.1, ()))) fun (x2 : Bool) =>
    (cond (!x2)
      (some (((0 : Int), ((0 : Int), ((0 : Int), ([] : List (Int × (Int × Int)))))), false))
      (cond (decide (a1.2 < (0 : Int)))
        (some (((0 : Int), ((0 : Int), ((0 : Int), ([] : List (Int × (Int × Int)))))), false))
        (cond (decide (a1.2 > (12 : Int)))
          (some (((0 : Int), ((0 : Int), ((0 : Int), ([] : List (Int × (Int × Int)))))), false))
          (Option.bind (getI a0.2.2.2 a1.1) fun (x3 : (Int × (Int × Int))) =>
          (cond (decide (a1.2 = x3.2.2))
            (some (((0 : Int), ((0 : Int), ((0 : Int), ([] : List (Int × (Int × Int)))))), false))
            (Option.bind (getI a0.2.2.2 a1.1) fun (x4 : (Int × (Int × Int))) =>
            (Option.bind (c_impl_PutWire (a0, (x4.1, (x4.2.1, (a1.2, ()))))) fun (x5 : ((Int × (Int × (Int × (List (Int × (Int × Int)))))) × Bool)) =>
            (some (x5.1, x5.2))))))))))))

noncomputable def e_impl_ApplyFault (a : (Int × Int × Int × List (Int × Int × Int)) × (Int × Int) × Unit) : Option ((Int × Int × Int × List (Int × Int × Int)) × Bool) := r_impl_ApplyFault e_impl_NetOk e_impl_isWire e_impl_PutWire N0 a.1 a.2.1
def r_impl_AllFaults_L2 (_c_impl_NetOk : ((Int × Int × Int × List (Int × Int × Int)) × Unit → Option Bool)) (c_impl_ApplyFault : ((Int × Int × Int × List (Int × Int × Int)) × (Int × Int) × Unit → Option ((Int × Int × Int × List (Int × Int × Int)) × Bool))) (_N : Nat) (s : ((Int × (Int × (Int × (List (Int × (Int × Int)))))) × ((List (Int × Int)) × (Int × (Int × (Int × (Int × Unit))))))) (kc ke : ((Int × (Int × (Int × (List (Int × (Int × Int)))))) × ((List (Int × Int)) × (Int × (Int × (Int × (Int × Unit)))))) → Option (List (Int × Int))) : Option (List (Int × Int)) :=
  (cond (decide (s.2.2.2.2.2.1 < (13 : Int)))
    (Option.bind (c_impl_ApplyFault (s.1, ((s.2.2.1, s.2.2.2.2.2.1), ()))) fun (x1 : ((Int × (Int × (Int × (List (Int × (Int × Int)))))) × Bool)) =>
    (cond x1.2
      (cond (Nat.ble ((List.length s.2.1) + (List.length ((s.2.2.1, s.2.2.2.2.2.1) :: ([] : List (Int × Int))))) 17179869184)
        (kc (s.1, ((s.2.1 ++ ((s.2.2.1, s.2.2.2.2.2.1) :: ([] : List (Int × Int)))), (s.2.2.1, (s.2.2.2.1, (s.2.2.2.2.1, ((wr (s.2.2.2.2.2.1 + (1 : Int))), ())))))))
        none)
      (kc (s.1, (s.2.1, (s.2.2.1, (s.2.2.2.1, (s.2.2.2.2.1, ((wr (s.2.2.2.2.2.1 + (1 : Int))), ())))))))))
    (ke (s.1, (s.2.1, (s.2.2.1, (s.2.2.2.1, (s.2.2.2.2.1, (s.2.2.2.2.2.1, ()))))))))
def r_impl_AllFaults_L0 (c_impl_NetOk : ((Int × Int × Int × List (Int × Int × Int)) × Unit → Option Bool)) (c_impl_ApplyFault : ((Int × Int × Int × List (Int × Int × Int)) × (Int × Int) × Unit → Option ((Int × Int × Int × List (Int × Int × Int)) × Bool))) (N : Nat) (s : ((Int × (Int × (Int × (List (Int × (Int × Int)))))) × ((List (Int × Int)) × (Int × (Int × Unit))))) (kc ke : ((Int × (Int × (Int × (List (Int × (Int × Int)))))) × ((List (Int × Int)) × (Int × (Int × Unit)))) → Option (List (Int × Int))) : Option (List (Int × Int)) :=
  (cond (decide (s.2.2.2.1 < s.2.2.1))
    (iterK (r_impl_AllFaults_L2 c_impl_NetOk c_impl_ApplyFault N) N (s.1, (s.2.1, (s.2.2.2.1, (s.2.2.1, (s.2.2.2.1, ((0 : Int), ())))))) fun (s1 : ((Int × (Int × (Int × (List (Int × (Int × Int)))))) × ((List (Int × Int)) × (Int × (Int × (Int × (Int × Unit))))))) =>
    (kc (s1.1, (s1.2.1, (s1.2.2.2.1, ((wr (s1.2.2.2.2.1 + (1 : Int))), ()))))))
    (ke (s.1, (s.2.1, (s.2.2.1, (s.2.2.2.1, ()))))))
def r_impl_AllFaults (c_impl_NetOk : ((Int × Int × Int × List (Int × Int × Int)) × Unit → Option Bool)) (c_impl_ApplyFault : ((Int × Int × Int × List (Int × Int × Int)) × (Int × Int) × Unit → Option ((Int × Int × Int × List (Int × Int × Int)) × Bool))) (N : Nat) (a0 : (Int × (Int × (Int × (List (Int × (Int × Int))))))) : Option (List (Int × Int)) :=
  (Option.bind (c_impl_NetOk (a0, ())) fun (x1 : Bool) =>
  (cond (!x1)
    (some ([] : List (Int × Int)))
    (iterK (r_impl_AllFaults_L0 c_impl_NetOk c_impl_ApplyFault N) N (a0, (([] : List (Int × Int)), ((((List.length a0.2.2.2) : Nat) : Int), ((0 : Int), ())))) fun (s2 : ((Int × (Int × (Int × (List (Int × (Int × Int)))))) × ((List (Int × Int)) × (Int × (Int × Unit))))) =>
    (some s2.2.1))))

noncomputable def e_impl_AllFaults (a : (Int × Int × Int × List (Int × Int × Int)) × Unit) : Option (List (Int × Int)) := r_impl_AllFaults e_impl_NetOk e_impl_ApplyFault N0 a.1
def r_impl_WeightAt_L0 (_N : Nat) (s : (Int × (Int × ((List (Int × (Int × Int))) × (Int × (Int × Unit)))))) (kc ke : (Int × (Int × ((List (Int × (Int × Int))) × (Int × (Int × Unit))))) → Option Int) : Option Int :=
  (cond (decide (s.2.2.2.2.1 < s.2.2.2.1))
    (Option.bind (getI s.2.2.1 s.2.2.2.2.1) fun (x1 : (Int × (Int × Int))) =>
    (cond (decide (x1.1 = s.1))
      (kc (s.1, ((wr (s.2.1 + x1.2.2)), (s.2.2.1, (s.2.2.2.1, ((wr (s.2.2.2.2.1 + (1 : Int))), ()))))))
      (cond (decide (x1.2.1 = s.1))
        (kc (s.1, ((wr (s.2.1 + x1.2.2)), (s.2.2.1, (s.2.2.2.1, ((wr (s.2.2.2.2.1 + (1 : Int))), ()))))))
        (kc (s.1, (s.2.1, (s.2.2.1, (s.2.2.2.1, ((wr (s.2.2.2.2.1 + (1 : Int))), ())))))))))
    (ke (s.1, (s.2.1, (s.2.2.1, (s.2.2.2.1, (s.2.2.2.2.1, ())))))))
def r_impl_WeightAt (N : Nat) (a0 : (Int × (Int × (Int × (List (Int × (Int × Int))))))) (a1 : Int) : Option Int :=
  (iterK (r_impl_WeightAt_L0 N) N (a1, ((0 : Int), (a0.2.2.2, ((((List.length a0.2.2.2) : Nat) : Int), ((0 : Int), ()))))) fun (s1 : (Int × (Int × ((List (Int × (Int × Int))) × (Int × (Int × Unit)))))) =>
  (some s1.2.1))

noncomputable def e_impl_WeightAt (a : (Int × Int × Int × List (Int × Int × Int)) × Int × Unit) : Option Int := r_impl_WeightAt N0 a.1 a.2.1
def r_impl_LaplacianOf_L2 (_c_impl_NetOk : ((Int × Int × Int × List (Int × Int × Int)) × Unit → Option Bool)) (_c_impl_table : ((Int × Int × Int × List (Int × Int × Int)) × Unit → Option (List (List Int)))) (_c_impl_WeightAt : ((Int × Int × Int × List (Int × Int × Int)) × Int × Unit → Option Int)) (_N : Nat) (s : ((Int × (Int × (Int × (List (Int × (Int × Int)))))) × ((List (List Int)) × (Int × (Int × (Int × (Int × (Int × Unit)))))))) (kc ke : ((Int × (Int × (Int × (List (Int × (Int × Int)))))) × ((List (List Int)) × (Int × (Int × (Int × (Int × (Int × Unit))))))) → Option (List (List Int))) : Option (List (List Int)) :=
  (cond (decide (s.2.2.2.2.2.2.1 < s.2.2.2.2.2.1))
    (Option.bind (getI s.2.1 s.2.2.1) fun (x1 : (List Int)) =>
    (Option.bind (getI s.2.1 s.2.2.1) fun (x2 : (List Int)) =>
    (Option.bind (getI x2 s.2.2.2.2.2.2.1) fun (x3 : Int) =>
    (Option.bind (getI x1 s.2.2.2.2.2.2.1) fun (_x4 : Int) =>
    (kc (s.1, ((List.set s.2.1 (Int.toNat s.2.2.1) (List.set x1 (Int.toNat s.2.2.2.2.2.2.1) (wr ((0 : Int) - x3)))), (s.2.2.1, (s.2.2.2.1, (s.2.2.2.2.1, (s.2.2.2.2.2.1, ((wr (s.2.2.2.2.2.2.1 + (1 : Int))), ()))))))))))))
    (ke (s.1, (s.2.1, (s.2.2.1, (s.2.2.2.1, (s.2.2.2.2.1, (s.2.2.2.2.2.1, (s.2.2.2.2.2.2.1, ())))))))))
def r_impl_LaplacianOf_L0 (c_impl_NetOk : ((Int × Int × Int × List (Int × Int × Int)) × Unit → Option Bool)) (c_impl_table : ((Int × Int × Int × List (Int × Int × Int)) × Unit → Option (List (List Int)))) (c_impl_WeightAt : ((Int × Int × Int × List (Int × Int × Int)) × Int × Unit → Option Int)) (N : Nat) (s : ((Int × (Int × (Int × (List (Int × (Int × Int)))))) × ((List (List Int)) × (Int × (Int × Unit))))) (kc ke : ((Int × (Int × (Int × (List (Int × (Int × Int)))))) × ((List (List Int)) × (Int × (Int × Unit)))) → Option (List (List Int))) : Option (List (List Int)) :=
  (cond (decide (s.2.2.2.1 < s.2.2.1))
    (iterK (r_impl_LaplacianOf_L2 c_impl_NetOk c_impl_table c_impl_WeightAt N) N (s.1, (s.2.1, (s.2.2.2.1, (s.2.2.1, (s.2.2.2.1, ((((List.length s.2.1) : Nat) : Int), ((0 : Int), ()))))))) fun (s1 : ((Int × (Int × (Int × (List (Int × (Int × Int)))))) × ((List (List Int)) × (Int × (Int × (Int × (Int × (Int × Unit)))))))) =>
    (Option.bind (getI s1.2.1 s1.2.2.1) fun (x2 : (List Int)) =>
    (Option.bind (c_impl_WeightAt (s1.1, (s1.2.2.1, ()))) fun (x3 : Int) =>
    (Option.bind (getI x2 s1.2.2.1) fun (_x4 : Int) =>
    (kc (s1.1, ((List.set s1.2.1 (Int.toNat s1.2.2.1) (List.set x2 (Int.toNat s1.2.2.1) x3)), (s1.2.2.2.1, ((wr (s1.2.2.2.2.1 + (1 : Int))), ())))))))))
    (ke (s.1, (s.2.1, (s.2.2.1, (s.2.2.2.1, ()))))))
def r_impl_LaplacianOf (c_impl_NetOk : ((Int × Int × Int × List (Int × Int × Int)) × Unit → Option Bool)) (c_impl_table : ((Int × Int × Int × List (Int × Int × Int)) × Unit → Option (List (List Int)))) (c_impl_WeightAt : ((Int × Int × Int × List (Int × Int × Int)) × Int × Unit → Option Int)) (N : Nat) (a0 : (Int × (Int × (Int × (List (Int × (Int × Int))))))) : Option (List (List Int)) :=
  (Option.bind (c_impl_NetOk (a0, ())) fun (x1 : Bool) =>
  (cond (!x1)
    (some ([] : List (List Int)))
    (Option.bind (c_impl_table (a0, ())) fun (x2 : (List (List Int))) =>
    (iterK (r_impl_LaplacianOf_L0 c_impl_NetOk c_impl_table c_impl_WeightAt N) N (a0, (x2, ((((List.length x2) : Nat) : Int), ((0 : Int), ())))) fun (s3 : ((Int × (Int × (Int × (List (Int × (Int × Int)))))) × ((List (List Int)) × (Int × (Int × Unit))))) =>
    (some s3.2.1)))))

noncomputable def e_impl_LaplacianOf (a : (Int × Int × Int × List (Int × Int × Int)) × Unit) : Option (List (List Int)) := r_impl_LaplacianOf e_impl_NetOk e_impl_table e_impl_WeightAt N0 a.1
def r_impl_inner_L0 (_N : Nat) (s : ((Int × (Int × (Int × (List (Int × (Int × Int)))))) × ((List Int) × (Int × Unit)))) (kc ke : ((Int × (Int × (Int × (List (Int × (Int × Int)))))) × ((List Int) × (Int × Unit))) → Option (List Int)) : Option (List Int) :=
  (cond (decide (s.2.2.1 < s.1.1))
    (cond (Nat.ble ((List.length s.2.1) + (List.length (s.2.2.1 :: ([] : List Int)))) 17179869184)
      (kc (s.1, ((s.2.1 ++ (s.2.2.1 :: ([] : List Int))), ((wr (s.2.2.1 + (1 : Int))), ()))))
      none)
    (ke (s.1, (s.2.1, (s.2.2.1, ())))))
def r_impl_inner (N : Nat) (a0 : (Int × (Int × (Int × (List (Int × (Int × Int))))))) : Option (List Int) :=
  (iterK (r_impl_inner_L0 N) N (a0, (([] : List Int), (a0.2.1, ()))) fun (s1 : ((Int × (Int × (Int × (List (Int × (Int × Int)))))) × ((List Int) × (Int × Unit)))) =>
  (some s1.2.1))

noncomputable def e_impl_inner (a : (Int × Int × Int × List (Int × Int × Int)) × Unit) : Option (List Int) := r_impl_inner N0 a.1
noncomputable def r_slices_Clone_int (_N : Nat) (a0 : (List Int)) : Option (List Int) :=
  (cond (List.isEmpty a0)
    (agree
      (some ([] : List Int))
      (cond (Nat.ble ((List.length ([] : List Int)) + (List.length a0)) 17179869184)
        (some (([] : List Int) ++ a0))
        none))
    (cond (Nat.ble ((List.length ([] : List Int)) + (List.length a0)) 17179869184)
      (some (([] : List Int) ++ a0))
      none))

noncomputable def e_slices_Clone_int (a : (List Int) × Unit) : Option (List Int) := r_slices_Clone_int N0 a.1
noncomputable def e_slices_Delete_int (y : List Int) (a : Int × Int × Unit) : Option (List Int × List Int) := delFn y a

def r_impl_det_L0 (c_slices_Clone_int : ((List Int) × Unit → Option (List Int))) (m_slices_Delete_int : ((List Int) → (Int × Int × Unit) → Option ((List Int) × (List Int)))) (c_impl_det : ((List (List Int)) × (List Int) × (List Int) × Unit → Option Int)) (_N : Nat) (s : ((List (List Int)) × ((List Int) × ((List Int) × (Int × (Int × ((List Int) × (Int × (Int × Unit))))))))) (kc ke : ((List (List Int)) × ((List Int) × ((List Int) × (Int × (Int × ((List Int) × (Int × (Int × Unit)))))))) → Option Int) : Option Int :=
  (cond (decide (s.2.2.2.2.2.2.2.1 < s.2.2.2.2.2.2.1))
    (Option.bind (getI s.2.2.2.2.2.1 s.2.2.2.2.2.2.2.1) fun (x1 : Int) =>
    (Option.bind (getI s.2.1 (0 : Int)) fun (x2 : Int) =>
    (Option.bind (getI s.1 x2) fun (x3 : (List Int)) =>
    (Option.bind (getI x3 x1) fun (x4 : Int) =>
    (cond (!(decide (x4 = (0 : Int))))
      (cond (decide ((1 : Int) ≤ (((List.length s.2.1) : Nat) : Int)))
        (cond (decide ((((List.length s.2.1) : Nat) : Int) ≤ (((List.length s.2.1) : Nat) : Int)))
          (Option.bind (c_slices_Clone_int (s.2.2.1, ())) fun (x5 : (List Int)) =>
          (Option.bind (m_slices_Delete_int x5 (s.2.2.2.2.2.2.2.1, ((wr (s.2.2.2.2.2.2.2.1 + (1 : Int))), ()))) fun (x6 : ((List Int) × (List Int))) =>
          (Option.bind (c_impl_det (s.1, ((List.take ((Int.toNat (((List.length s.2.1) : Nat) : Int)) - (Int.toNat (1 : Int))) (List.drop (Int.toNat (1 : Int)) s.2.1)), (x6.2, ())))) fun (x7 : Int) =>
          (kc (s.1, (s.2.1, (s.2.2.1, ((wr (s.2.2.2.1 + (wr ((wr (s.2.2.2.2.1 * x4)) * x7)))), ((wr ((0 : Int) - s.2.2.2.2.1)), (s.2.2.2.2.2.1, (s.2.2.2.2.2.2.1, ((wr (s.2.2.2.2.2.2.2.1 + (1 : Int))), ()))))))))))))
          none)
        none)
      (kc (s.1, (s.2.1, (s.2.2.1, (s.2.2.2.1, ((wr ((0 : Int) - s.2.2.2.2.1)), (s.2.2.2.2.2.1, (s.2.2.2.2.2.2.1, ((wr (s.2.2.2.2.2.2.2.1 + (1 : Int))), ()))))))))))))))
    (ke (s.1, (s.2.1, (s.2.2.1, (s.2.2.2.1, (s.2.2.2.2.1, (s.2.2.2.2.2.1, (s.2.2.2.2.2.2.1, (s.2.2.2.2.2.2.2.1, ()))))))))))
def r_impl_det (c_slices_Clone_int : ((List Int) × Unit → Option (List Int))) (m_slices_Delete_int : ((List Int) → (Int × Int × Unit) → Option ((List Int) × (List Int)))) (c_impl_det : ((List (List Int)) × (List Int) × (List Int) × Unit → Option Int)) (N : Nat) (a0 : (List (List Int))) (a1 : (List Int)) (a2 : (List Int)) : Option Int :=
  (cond (decide ((((List.length a1) : Nat) : Int) = (0 : Int)))
    (some (1 : Int))
    (iterK (r_impl_det_L0 c_slices_Clone_int m_slices_Delete_int c_impl_det N) N (a0, (a1, (a2, ((0 : Int), ((1 : Int), (a2, ((((List.length a2) : Nat) : Int), ((0 : Int), ())))))))) fun (s1 : ((List (List Int)) × ((List Int) × ((List Int) × (Int × (Int × ((List Int) × (Int × (Int × Unit))))))))) =>
    (some s1.2.2.2.1)))

noncomputable def e_impl_det_n : Nat → ((List (List Int)) × (List Int) × (List Int) × Unit) → Option Int
  | 0, _ => none
  | n + 1, a => r_impl_det e_slices_Clone_int e_slices_Delete_int (e_impl_det_n n) N0 a.1 a.2.1 a.2.2.1
noncomputable def e_impl_det (a : (List (List Int)) × (List Int) × (List Int) × Unit) : Option Int := e_impl_det_n N0 a
def r_impl_response_L2 (_c_impl_LaplacianOf : ((Int × Int × Int × List (Int × Int × Int)) × Unit → Option (List (List Int)))) (_c_impl_inner : ((Int × Int × Int × List (Int × Int × Int)) × Unit → Option (List Int))) (c_impl_det : ((List (List Int)) × (List Int) × (List Int) × Unit → Option Int)) (_N : Nat) (s : ((Int × (Int × (Int × (List (Int × (Int × Int)))))) × ((List (List Int)) × ((List Int) × ((List (List Int)) × (Int × (Int × (Int × (Int × (Int × Unit)))))))))) (kc ke : ((Int × (Int × (Int × (List (Int × (Int × Int)))))) × ((List (List Int)) × ((List Int) × ((List (List Int)) × (Int × (Int × (Int × (Int × (Int × Unit))))))))) → Option ((List (List Int)) × Int)) : Option ((List (List Int)) × Int) :=
  (cond (decide (s.2.2.2.2.2.2.2.2.1 < s.2.2.2.2.2.2.2.1))
    (Option.bind (getI s.2.2.2.1 s.2.2.2.2.1) fun (x1 : (List Int)) =>
    (cond (Nat.ble ((List.length (s.2.2.2.2.1 :: ([] : List Int))) + (List.length s.2.2.1)) 17179869184)
      (cond (Nat.ble ((List.length (s.2.2.2.2.2.2.2.2.1 :: ([] : List Int))) + (List.length s.2.2.1)) 17179869184)
        (Option.bind (c_impl_det (s.2.1, (((s.2.2.2.2.1 :: ([] : List Int)) ++ s.2.2.1), (((s.2.2.2.2.2.2.2.2.1 :: ([] : List Int)) ++ s.2.2.1), ())))) fun (x2 : Int) =>
        (cond (Nat.ble ((List.length x1) + (List.length (x2 :: ([] : List Int)))) 17179869184)
          (Option.bind (getI s.2.2.2.1 s.2.2.2.2.1) fun (_x3 : (List Int)) =>
          (cond (@Go.Sx.samePath (([] : List PS) ++ ((@Go.Sx.PS.idx (Int.toNat s.2.2.2.2.1)) :: ([] : List PS))) (([] : List PS) ++ ((@Go.Sx.PS.idx (Int.toNat s.2.2.2.2.1)) :: ([] : List PS))))
            (kc (s.1, (s.2.1, (s.2.2.1, ((List.set s.2.2.2.1 (Int.toNat s.2.2.2.2.1) (x1 ++ (x2 :: ([] : List Int)))), (s.2.2.2.2.1, (s.2.2.2.2.2.1, (s.2.2.2.2.2.2.1, (s.2.2.2.2.2.2.2.1, ((wr (s.2.2.2.2.2.2.2.2.1 + (1 : Int))), ()))))))))))
            none))
          none))
        none)
      none))
    (ke (s.1, (s.2.1, (s.2.2.1, (s.2.2.2.1, (s.2.2.2.2.1, (s.2.2.2.2.2.1, (s.2.2.2.2.2.2.1, (s.2.2.2.2.2.2.2.1, (s.2.2.2.2.2.2.2.2.1, ())))))))))))
def r_impl_response_L0 (c_impl_LaplacianOf : ((Int × Int × Int × List (Int × Int × Int)) × Unit → Option (List (List Int)))) (c_impl_inner : ((Int × Int × Int × List (Int × Int × Int)) × Unit → Option (List Int))) (c_impl_det : ((List (List Int)) × (List Int) × (List Int) × Unit → Option Int)) (N : Nat) (s : ((Int × (Int × (Int × (List (Int × (Int × Int)))))) × ((List (List Int)) × ((List Int) × ((List (List Int)) × (Int × (Int × Unit))))))) (kc ke : ((Int × (Int × (Int × (List (Int × (Int × Int)))))) × ((List (List Int)) × ((List Int) × ((List (List Int)) × (Int × (Int × Unit)))))) → Option ((List (List Int)) × Int)) : Option ((List (List Int)) × Int) :=
  (cond (decide (s.2.2.2.2.2.1 < s.2.2.2.2.1))
    (iterK (r_impl_response_L2 c_impl_LaplacianOf c_impl_inner c_impl_det N) N (s.1, (s.2.1, (s.2.2.1, (s.2.2.2.1, (s.2.2.2.2.2.1, (s.2.2.2.2.1, (s.2.2.2.2.2.1, ((((List.length s.2.2.2.1) : Nat) : Int), ((0 : Int), ()))))))))) fun (s1 : ((Int × (Int × (Int × (List (Int × (Int × Int)))))) × ((List (List Int)) × ((List Int) × ((List (List Int)) × (Int × (Int × (Int × (Int × (Int × Unit)))))))))) =>
    (kc (s1.1, (s1.2.1, (s1.2.2.1, (s1.2.2.2.1, (s1.2.2.2.2.2.1, ((wr (s1.2.2.2.2.2.2.1 + (1 : Int))), ()))))))))
    (ke (s.1, (s.2.1, (s.2.2.1, (s.2.2.2.1, (s.2.2.2.2.1, (s.2.2.2.2.2.1, ()))))))))
def r_impl_response (c_impl_LaplacianOf : ((Int × Int × Int × List (Int × Int × Int)) × Unit → Option (List (List Int)))) (c_impl_inner : ((Int × Int × Int × List (Int × Int × Int)) × Unit → Option (List Int))) (c_impl_det : ((List (List Int)) × (List Int) × (List Int) × Unit → Option Int)) (N : Nat) (a0 : (Int × (Int × (Int × (List (Int × (Int × Int))))))) : Option ((List (List Int)) × Int) :=
  (Option.bind (c_impl_LaplacianOf (a0, ())) fun (x1 : (List (List Int))) =>
  (Option.bind (c_impl_inner (a0, ())) fun (x2 : (List Int)) =>
  (cond (decide ((0 : Int) ≤ a0.2.1))
    (cond (Nat.ble (Int.toNat a0.2.1) 17179869184)
      (iterK (r_impl_response_L0 c_impl_LaplacianOf c_impl_inner c_impl_det N) N (a0, (x1, (x2, ((List.replicate (Int.toNat a0.2.1) ([] : List Int)), ((((List.length (List.replicate (Int.toNat a0.2.1) ([] : List Int))) : Nat) : Int), ((0 : Int), ())))))) fun (s3 : ((Int × (Int × (Int × (List (Int × (Int × Int)))))) × ((List (List Int)) × ((List Int) × ((List (List Int)) × (Int × (Int × Unit))))))) =>
      (Option.bind (c_impl_det (s3.2.1, (s3.2.2.1, (s3.2.2.1, ())))) fun (x4 : Int) =>
      (some (s3.2.2.2.1, (wr (s3.1.2.2.1 * x4))))))
      none)
    none)))

noncomputable def e_impl_response (a : (Int × Int × Int × List (Int × Int × Int)) × Unit) : Option ((List (List Int)) × Int) := r_impl_response e_impl_LaplacianOf e_impl_inner e_impl_det N0 a.1
def r_impl_RatioOf (c_impl_size : (Int × Unit → Option Int)) (c_impl_common : (Int × Int × Unit → Option Int)) (_N : Nat) (a0 : Int) (a1 : Int) : Option (Int × Int) :=
  (cond (decide (a1 = (0 : Int)))
    (some ((0 : Int), (0 : Int)))
    (Option.bind (c_impl_size (a0, ())) fun (x1 : Int) =>
    (Option.bind (c_impl_size (a1, ())) fun (x2 : Int) =>
    (Option.bind (c_impl_common (x1, (x2, ()))) fun (x3 : Int) =>
    (Option.bind (c_impl_size (a0, ())) fun (x4 : Int) =>
    (cond (decide (x3 = (0 : Int)))
      none
      (Option.bind (c_impl_size (a1, ())) fun (x5 : Int) =>
      (cond (decide (x3 = (0 : Int)))
        none
        (cond (decide ((Go.IntKind.wrap @Go.IntKind.u64 (Int.tdiv x4 x3)) > (1000000000000000000 : Int)))
          (some ((0 : Int), (0 : Int)))
          (cond (decide ((Go.IntKind.wrap @Go.IntKind.u64 (Int.tdiv x5 x3)) > (1000000000000000 : Int)))
            (some ((0 : Int), (0 : Int)))
            (cond (!(beqB (decide (a0 < (0 : Int))) (decide (a1 < (0 : Int)))))
              (some ((wr ((0 : Int) - (wr (Go.IntKind.wrap @Go.IntKind.u64 (Int.tdiv x4 x3))))), (wr (Go.IntKind.wrap @Go.IntKind.u64 (Int.tdiv x5 x3)))))
              (some ((wr (Go.IntKind.wrap @Go.IntKind.u64 (Int.tdiv x4 x3))), (wr (Go.IntKind.wrap @Go.IntKind.u64 (Int.tdiv x5 x3))))))))))))))))

noncomputable def e_impl_RatioOf (a : Int × Int × Unit) : Option (Int × Int) := r_impl_RatioOf e_impl_size e_impl_common N0 a.1 a.2.1
def r_impl_ResponseOf_L2 (_c_impl_NetOk : ((Int × Int × Int × List (Int × Int × Int)) × Unit → Option Bool)) (_c_impl_response : ((Int × Int × Int × List (Int × Int × Int)) × Unit → Option ((List (List Int)) × Int))) (c_impl_RatioOf : (Int × Int × Unit → Option (Int × Int))) (_N : Nat) (s : ((List (List Int)) × (Int × ((List (List (Int × Int))) × (Int × (Int × (Int × ((List Int) × (Int × (Int × Unit)))))))))) (kc ke : ((List (List Int)) × (Int × ((List (List (Int × Int))) × (Int × (Int × (Int × ((List Int) × (Int × (Int × Unit))))))))) → Option ((List (List (Int × Int))) × Bool)) : Option ((List (List (Int × Int))) × Bool) :=
  (cond (decide (s.2.2.2.2.2.2.2.2.1 < s.2.2.2.2.2.2.2.1))
    (Option.bind (getI s.2.2.2.2.2.2.1 s.2.2.2.2.2.2.2.2.1) fun (x1 : Int) =>
    (Option.bind (getI s.2.2.1 s.2.2.2.1) fun (x2 : (List (Int × Int))) =>
    (Option.bind (c_impl_RatioOf (x1, (s.2.1, ()))) fun (x3 : (Int × Int)) =>
    (cond (Nat.ble ((List.length x2) + (List.length (x3 :: ([] : List (Int × Int))))) 17179869184)
      (Option.bind (getI s.2.2.1 s.2.2.2.1) fun (_x4 : (List (Int × Int))) =>
      (cond (@Go.Sx.samePath (([] : List PS) ++ ((@Go.Sx.PS.idx (Int.toNat s.2.2.2.1)) :: ([] : List PS))) (([] : List PS) ++ ((@Go.Sx.PS.idx (Int.toNat s.2.2.2.1)) :: ([] : List PS))))
        (kc (s.1, (s.2.1, ((List.set s.2.2.1 (Int.toNat s.2.2.2.1) (x2 ++ (x3 :: ([] : List (Int × Int))))), (s.2.2.2.1, (s.2.2.2.2.1, (s.2.2.2.2.2.1, (s.2.2.2.2.2.2.1, (s.2.2.2.2.2.2.2.1, ((wr (s.2.2.2.2.2.2.2.2.1 + (1 : Int))), ()))))))))))
        none))
      none))))
    (ke (s.1, (s.2.1, (s.2.2.1, (s.2.2.2.1, (s.2.2.2.2.1, (s.2.2.2.2.2.1, (s.2.2.2.2.2.2.1, (s.2.2.2.2.2.2.2.1, (s.2.2.2.2.2.2.2.2.1, ())))))))))))
def r_impl_ResponseOf_L0 (c_impl_NetOk : ((Int × Int × Int × List (Int × Int × Int)) × Unit → Option Bool)) (c_impl_response : ((Int × Int × Int × List (Int × Int × Int)) × Unit → Option ((List (List Int)) × Int))) (c_impl_RatioOf : (Int × Int × Unit → Option (Int × Int))) (N : Nat) (s : ((List (List Int)) × (Int × ((List (List (Int × Int))) × (Int × (Int × Unit)))))) (kc ke : ((List (List Int)) × (Int × ((List (List (Int × Int))) × (Int × (Int × Unit))))) → Option ((List (List (Int × Int))) × Bool)) : Option ((List (List (Int × Int))) × Bool) :=
  (cond (decide (s.2.2.2.2.1 < s.2.2.2.1))
    (Option.bind (getI s.1 s.2.2.2.2.1) fun (x1 : (List Int)) =>
    (iterK (r_impl_ResponseOf_L2 c_impl_NetOk c_impl_response c_impl_RatioOf N) N (s.1, (s.2.1, (s.2.2.1, (s.2.2.2.2.1, (s.2.2.2.1, (s.2.2.2.2.1, (x1, ((((List.length x1) : Nat) : Int), ((0 : Int), ()))))))))) fun (s2 : ((List (List Int)) × (Int × ((List (List (Int × Int))) × (Int × (Int × (Int × ((List Int) × (Int × (Int × Unit)))))))))) =>
    (kc (s2.1, (s2.2.1, (s2.2.2.1, (s2.2.2.2.2.1, ((wr (s2.2.2.2.2.2.1 + (1 : Int))), ()))))))))
    (ke (s.1, (s.2.1, (s.2.2.1, (s.2.2.2.1, (s.2.2.2.2.1, ())))))))
def r_impl_ResponseOf (c_impl_NetOk : ((Int × Int × Int × List (Int × Int × Int)) × Unit → Option Bool)) (c_impl_response : ((Int × Int × Int × List (Int × Int × Int)) × Unit → Option ((List (List Int)) × Int))) (c_impl_RatioOf : (Int × Int × Unit → Option (Int × Int))) (N : Nat) (a0 : (Int × (Int × (Int × (List (Int × (Int × Int))))))) : Option ((List (List (Int × Int))) × Bool) :=
  (Option.bind (c_impl_NetOk (a0, ())) fun (x1 : Bool) =>
  (cond (!x1)
    (some (([] : List (List (Int × Int))), false))
    (Option.bind (c_impl_response (a0, ())) fun (x2 : ((List (List Int)) × Int)) =>
    (cond (Nat.ble (Int.toNat (((List.length x2.1) : Nat) : Int)) 17179869184)
      (iterK (r_impl_ResponseOf_L0 c_impl_NetOk c_impl_response c_impl_RatioOf N) N (x2.1, (x2.2, ((List.replicate (Int.toNat (((List.length x2.1) : Nat) : Int)) ([] : List (Int × Int))), ((((List.length x2.1) : Nat) : Int), ((0 : Int), ()))))) fun (s3 : ((List (List Int)) × (Int × ((List (List (Int × Int))) × (Int × (Int × Unit)))))) =>
      (some (s3.2.2.1, true)))
      none))))

noncomputable def e_impl_ResponseOf (a : (Int × Int × Int × List (Int × Int × Int)) × Unit) : Option ((List (List (Int × Int))) × Bool) := r_impl_ResponseOf e_impl_NetOk e_impl_response e_impl_RatioOf N0 a.1
def r_impl_after (c_impl_ApplyFault : ((Int × Int × Int × List (Int × Int × Int)) × (Int × Int) × Unit → Option ((Int × Int × Int × List (Int × Int × Int)) × Bool))) (c_impl_ResponseOf : ((Int × Int × Int × List (Int × Int × Int)) × Unit → Option ((List (List (Int × Int))) × Bool))) (_N : Nat) (a0 : (Int × (Int × (Int × (List (Int × (Int × Int))))))) (a1 : (Int × Int)) : Option (List (List (Int × Int))) :=
  (Option.bind (c_impl_ApplyFault (a0, (a1, ()))) fun (x1 : ((Int × (Int × (Int × (List (Int × (Int × Int)))))) × Bool)) =>
  (Option.bind (c_impl_ResponseOf (x1.1, ())) fun (x2 : ((List (List (Int × Int))) × Bool)) =>
  (some x2.1)))

noncomputable def e_impl_after (a : (Int × Int × Int × List (Int × Int × Int)) × (Int × Int) × Unit) : Option (List (List (Int × Int))) := r_impl_after e_impl_ApplyFault e_impl_ResponseOf N0 a.1 a.2.1
def r_slices_Equal_impl_Ratio_L0 (_N : Nat) (s : ((List (Int × Int)) × ((List (Int × Int)) × (Int × (Int × Unit))))) (kc ke : ((List (Int × Int)) × ((List (Int × Int)) × (Int × (Int × Unit)))) → Option Bool) : Option Bool :=
  (cond (decide (s.2.2.2.1 < s.2.2.1))
    (Option.bind (getI s.1 s.2.2.2.1) fun (x1 : (Int × Int)) =>
    (Option.bind (getI s.2.1 s.2.2.2.1) fun (x2 : (Int × Int)) =>
    (cond (!((intEq x1.1 x2.1) && (intEq x1.2 x2.2)))
      (some false)
      (kc (s.1, (s.2.1, (s.2.2.1, ((wr (s.2.2.2.1 + (1 : Int))), ()))))))))
    (ke (s.1, (s.2.1, (s.2.2.1, (s.2.2.2.1, ()))))))
def r_slices_Equal_impl_Ratio (N : Nat) (a0 : (List (Int × Int))) (a1 : (List (Int × Int))) : Option Bool :=
  (cond (!(decide ((((List.length a0) : Nat) : Int) = (((List.length a1) : Nat) : Int))))
    (some false)
    (iterK (r_slices_Equal_impl_Ratio_L0 N) N (a0, (a1, ((((List.length a0) : Nat) : Int), ((0 : Int), ())))) fun (_s1 : ((List (Int × Int)) × ((List (Int × Int)) × (Int × (Int × Unit))))) =>
    (some true)))

noncomputable def e_slices_Equal_impl_Ratio (a : (List (Int × Int)) × (List (Int × Int)) × Unit) : Option Bool := r_slices_Equal_impl_Ratio N0 a.1 a.2.1
def r_impl_SameResponse_1 (c_slices_Equal_impl_Ratio : ((List (Int × Int)) × (List (Int × Int)) × Unit → Option Bool)) (_N : Nat) (a0 : (List (Int × Int))) (a1 : (List (Int × Int))) : Option Bool :=
  (Option.bind (c_slices_Equal_impl_Ratio (a0, (a1, ()))) fun (x1 : Bool) =>
  (some x1))

noncomputable def e_impl_SameResponse_1 (a : (List (Int × Int)) × (List (Int × Int)) × Unit) : Option Bool := r_impl_SameResponse_1 e_slices_Equal_impl_Ratio N0 a.1 a.2.1
def r_slices_EqualFunc_Simpl_Ratio_L0 (c_impl_SameResponse_1 : ((List (Int × Int)) × (List (Int × Int)) × Unit → Option Bool)) (_N : Nat) (s : ((List (List (Int × Int))) × (Unit × ((List (List (Int × Int))) × (Int × (Int × Unit)))))) (kc ke : ((List (List (Int × Int))) × (Unit × ((List (List (Int × Int))) × (Int × (Int × Unit))))) → Option Bool) : Option Bool :=
  (cond (decide (s.2.2.2.2.1 < s.2.2.2.1))
    (Option.bind (getI s.2.2.1 s.2.2.2.2.1) fun (x1 : (List (Int × Int))) =>
    (Option.bind (getI s.1 s.2.2.2.2.1) fun (x2 : (List (Int × Int))) =>
    (Option.bind (c_impl_SameResponse_1 (x1, (x2, ()))) fun (x3 : Bool) =>
    (cond (!x3)
      (some false)
      (kc (s.1, (s.2.1, (s.2.2.1, (s.2.2.2.1, ((wr (s.2.2.2.2.1 + (1 : Int))), ()))))))))))
    (ke (s.1, (s.2.1, (s.2.2.1, (s.2.2.2.1, (s.2.2.2.2.1, ())))))))
def r_slices_EqualFunc_Simpl_Ratio (c_impl_SameResponse_1 : ((List (Int × Int)) × (List (Int × Int)) × Unit → Option Bool)) (N : Nat) (a0 : (List (List (Int × Int)))) (a1 : (List (List (Int × Int)))) (a2 : Unit) : Option Bool :=
  (cond (!(decide ((((List.length a0) : Nat) : Int) = (((List.length a1) : Nat) : Int))))
    (some false)
    (iterK (r_slices_EqualFunc_Simpl_Ratio_L0 c_impl_SameResponse_1 N) N (a1, (a2, (a0, ((((List.length a0) : Nat) : Int), ((0 : Int), ()))))) fun (_s1 : ((List (List (Int × Int))) × (Unit × ((List (List (Int × Int))) × (Int × (Int × Unit)))))) =>
    (some true)))

noncomputable def e_slices_EqualFunc_Simpl_Ratio (a : (List (List (Int × Int))) × (List (List (Int × Int))) × Unit × Unit) : Option Bool := r_slices_EqualFunc_Simpl_Ratio e_impl_SameResponse_1 N0 a.1 a.2.1 a.2.2.1
def r_impl_SameResponse (c_slices_EqualFunc_Simpl_Ratio : ((List (List (Int × Int))) × (List (List (Int × Int))) × Unit × Unit → Option Bool)) (_N : Nat) (a0 : (List (List (Int × Int)))) (a1 : (List (List (Int × Int)))) : Option Bool :=
  (Option.bind (c_slices_EqualFunc_Simpl_Ratio (a0, (a1, ((), ())))) fun (x1 : Bool) =>
  (some x1))

noncomputable def e_impl_SameResponse (a : (List (List (Int × Int))) × (List (List (Int × Int))) × Unit) : Option Bool := r_impl_SameResponse e_slices_EqualFunc_Simpl_Ratio N0 a.1 a.2.1
abbrev TNet' := Int × Int × Int × List (Int × Int × Int)
abbrev TMat' := List (List (Int × Int))

noncomputable def e_impl_FaultsLike_1 (x : Int × Int) (n : TNet') (m : TMat') : Option Bool :=
  (e_impl_after (n, x, ())).bind fun y => (e_impl_SameResponse (y, m, ())).bind fun b => some (!b)

noncomputable def e_impl_FaultsLike (a : TNet' × TMat' × Unit) : Option (List (Int × Int)) :=
  (e_impl_AllFaults (a.1, ())).bind fun l => open Classical in if ∀ x ∈ l, (e_impl_FaultsLike_1 x a.1 a.2.1).isSome = true then some (l.filter fun x => !(e_impl_FaultsLike_1 x a.1 a.2.1).getD true) else none


def r_laws_eqFault (_N : Nat) (a0 : (Int × Int)) (a1 : (Int × Int)) : Option Bool :=
  (cond (!(decide (a0.1 = a1.1)))
    (some false)
    (cond (!(decide (a0.2 = a1.2)))
      (some false)
      (some true)))

noncomputable def e_laws_eqFault (a : (Int × Int) × (Int × Int) × Unit) : Option Bool := r_laws_eqFault N0 a.1 a.2.1
def r_laws_eqFaultS_L0 (c_laws_eqFault : ((Int × Int) × (Int × Int) × Unit → Option Bool)) (_N : Nat) (s : ((List (Int × Int)) × ((List (Int × Int)) × (Int × Unit)))) (kc ke : ((List (Int × Int)) × ((List (Int × Int)) × (Int × Unit))) → Option Bool) : Option Bool :=
  (cond (decide (s.2.2.1 < (((List.length s.1) : Nat) : Int)))
    (Option.bind (getI s.1 s.2.2.1) fun (x1 : (Int × Int)) =>
    (Option.bind (getI s.2.1 s.2.2.1) fun (x2 : (Int × Int)) =>
    (Option.bind (c_laws_eqFault (x1, (x2, ()))) fun (x3 : Bool) =>
    (cond (!x3)
      (some false)
      (kc (s.1, (s.2.1, ((wr (s.2.2.1 + (1 : Int))), ()))))))))
    (ke (s.1, (s.2.1, (s.2.2.1, ())))))
def r_laws_eqFaultS (c_laws_eqFault : ((Int × Int) × (Int × Int) × Unit → Option Bool)) (N : Nat) (a0 : (List (Int × Int))) (a1 : (List (Int × Int))) : Option Bool :=
  (cond (!(decide ((((List.length a0) : Nat) : Int) = (((List.length a1) : Nat) : Int))))
    (some false)
    (iterK (r_laws_eqFaultS_L0 c_laws_eqFault N) N (a0, (a1, ((0 : Int), ()))) fun (_s1 : ((List (Int × Int)) × ((List (Int × Int)) × (Int × Unit)))) =>
    (some true)))

noncomputable def e_laws_eqFaultS (a : (List (Int × Int)) × (List (Int × Int)) × Unit) : Option Bool := r_laws_eqFaultS e_laws_eqFault N0 a.1 a.2.1
def r_laws_eqWire (_N : Nat) (a0 : (Int × (Int × Int))) (a1 : (Int × (Int × Int))) : Option Bool :=
  (cond (!(decide (a0.1 = a1.1)))
    (some false)
    (cond (!(decide (a0.2.1 = a1.2.1)))
      (some false)
      (cond (!(decide (a0.2.2 = a1.2.2)))
        (some false)
        (some true))))

noncomputable def e_laws_eqWire (a : (Int × Int × Int) × (Int × Int × Int) × Unit) : Option Bool := r_laws_eqWire N0 a.1 a.2.1
def r_laws_eqWireS_L0 (c_laws_eqWire : ((Int × Int × Int) × (Int × Int × Int) × Unit → Option Bool)) (_N : Nat) (s : ((List (Int × (Int × Int))) × ((List (Int × (Int × Int))) × (Int × Unit)))) (kc ke : ((List (Int × (Int × Int))) × ((List (Int × (Int × Int))) × (Int × Unit))) → Option Bool) : Option Bool :=
  (cond (decide (s.2.2.1 < (((List.length s.1) : Nat) : Int)))
    (Option.bind (getI s.1 s.2.2.1) fun (x1 : (Int × (Int × Int))) =>
    (Option.bind (getI s.2.1 s.2.2.1) fun (x2 : (Int × (Int × Int))) =>
    (Option.bind (c_laws_eqWire (x1, (x2, ()))) fun (x3 : Bool) =>
    (cond (!x3)
      (some false)
      (kc (s.1, (s.2.1, ((wr (s.2.2.1 + (1 : Int))), ()))))))))
    (ke (s.1, (s.2.1, (s.2.2.1, ())))))
def r_laws_eqWireS (c_laws_eqWire : ((Int × Int × Int) × (Int × Int × Int) × Unit → Option Bool)) (N : Nat) (a0 : (List (Int × (Int × Int)))) (a1 : (List (Int × (Int × Int)))) : Option Bool :=
  (cond (!(decide ((((List.length a0) : Nat) : Int) = (((List.length a1) : Nat) : Int))))
    (some false)
    (iterK (r_laws_eqWireS_L0 c_laws_eqWire N) N (a0, (a1, ((0 : Int), ()))) fun (_s1 : ((List (Int × (Int × Int))) × ((List (Int × (Int × Int))) × (Int × Unit)))) =>
    (some true)))

noncomputable def e_laws_eqWireS (a : (List (Int × Int × Int)) × (List (Int × Int × Int)) × Unit) : Option Bool := r_laws_eqWireS e_laws_eqWire N0 a.1 a.2.1
def r_laws_eqNet (c_laws_eqWireS : ((List (Int × Int × Int)) × (List (Int × Int × Int)) × Unit → Option Bool)) (_N : Nat) (a0 : (Int × (Int × (Int × (List (Int × (Int × Int))))))) (a1 : (Int × (Int × (Int × (List (Int × (Int × Int))))))) : Option Bool :=
  (cond (!(decide (a0.1 = a1.1)))
    (some false)
    (cond (!(decide (a0.2.1 = a1.2.1)))
      (some false)
      (cond (!(decide (a0.2.2.1 = a1.2.2.1)))
        (some false)
        (Option.bind (c_laws_eqWireS (a0.2.2.2, (a1.2.2.2, ()))) fun (x1 : Bool) =>
        (cond (!x1)
          (some false)
          (some true))))))

noncomputable def e_laws_eqNet (a : (Int × Int × Int × List (Int × Int × Int)) × (Int × Int × Int × List (Int × Int × Int)) × Unit) : Option Bool := r_laws_eqNet e_laws_eqWireS N0 a.1 a.2.1
def r_laws_eqRatio (_N : Nat) (a0 : (Int × Int)) (a1 : (Int × Int)) : Option Bool :=
  (cond (!(decide (a0.1 = a1.1)))
    (some false)
    (cond (!(decide (a0.2 = a1.2)))
      (some false)
      (some true)))

noncomputable def e_laws_eqRatio (a : (Int × Int) × (Int × Int) × Unit) : Option Bool := r_laws_eqRatio N0 a.1 a.2.1
def r_laws_eqRatioS_L0 (c_laws_eqRatio : ((Int × Int) × (Int × Int) × Unit → Option Bool)) (_N : Nat) (s : ((List (Int × Int)) × ((List (Int × Int)) × (Int × Unit)))) (kc ke : ((List (Int × Int)) × ((List (Int × Int)) × (Int × Unit))) → Option Bool) : Option Bool :=
  (cond (decide (s.2.2.1 < (((List.length s.1) : Nat) : Int)))
    (Option.bind (getI s.1 s.2.2.1) fun (x1 : (Int × Int)) =>
    (Option.bind (getI s.2.1 s.2.2.1) fun (x2 : (Int × Int)) =>
    (Option.bind (c_laws_eqRatio (x1, (x2, ()))) fun (x3 : Bool) =>
    (cond (!x3)
      (some false)
      (kc (s.1, (s.2.1, ((wr (s.2.2.1 + (1 : Int))), ()))))))))
    (ke (s.1, (s.2.1, (s.2.2.1, ())))))
def r_laws_eqRatioS (c_laws_eqRatio : ((Int × Int) × (Int × Int) × Unit → Option Bool)) (N : Nat) (a0 : (List (Int × Int))) (a1 : (List (Int × Int))) : Option Bool :=
  (cond (!(decide ((((List.length a0) : Nat) : Int) = (((List.length a1) : Nat) : Int))))
    (some false)
    (iterK (r_laws_eqRatioS_L0 c_laws_eqRatio N) N (a0, (a1, ((0 : Int), ()))) fun (_s1 : ((List (Int × Int)) × ((List (Int × Int)) × (Int × Unit)))) =>
    (some true)))

noncomputable def e_laws_eqRatioS (a : (List (Int × Int)) × (List (Int × Int)) × Unit) : Option Bool := r_laws_eqRatioS e_laws_eqRatio N0 a.1 a.2.1
def r_laws_eqRatioSS_L0 (c_laws_eqRatioS : ((List (Int × Int)) × (List (Int × Int)) × Unit → Option Bool)) (_N : Nat) (s : ((List (List (Int × Int))) × ((List (List (Int × Int))) × (Int × Unit)))) (kc ke : ((List (List (Int × Int))) × ((List (List (Int × Int))) × (Int × Unit))) → Option Bool) : Option Bool :=
  (cond (decide (s.2.2.1 < (((List.length s.1) : Nat) : Int)))
    (Option.bind (getI s.1 s.2.2.1) fun (x1 : (List (Int × Int))) =>
    (Option.bind (getI s.2.1 s.2.2.1) fun (x2 : (List (Int × Int))) =>
    (Option.bind (c_laws_eqRatioS (x1, (x2, ()))) fun (x3 : Bool) =>
    (cond (!x3)
      (some false)
      (kc (s.1, (s.2.1, ((wr (s.2.2.1 + (1 : Int))), ()))))))))
    (ke (s.1, (s.2.1, (s.2.2.1, ())))))
def r_laws_eqRatioSS (c_laws_eqRatioS : ((List (Int × Int)) × (List (Int × Int)) × Unit → Option Bool)) (N : Nat) (a0 : (List (List (Int × Int)))) (a1 : (List (List (Int × Int)))) : Option Bool :=
  (cond (!(decide ((((List.length a0) : Nat) : Int) = (((List.length a1) : Nat) : Int))))
    (some false)
    (iterK (r_laws_eqRatioSS_L0 c_laws_eqRatioS N) N (a0, (a1, ((0 : Int), ()))) fun (_s1 : ((List (List (Int × Int))) × ((List (List (Int × Int))) × (Int × Unit)))) =>
    (some true)))

noncomputable def e_laws_eqRatioSS (a : (List (List (Int × Int))) × (List (List (Int × Int))) × Unit) : Option Bool := r_laws_eqRatioSS e_laws_eqRatioS N0 a.1 a.2.1
def r_laws_markWireS_L0 (_N : Nat) (s : ((List (Int × (Int × Int))) × (Int × (Int × Unit)))) (kc ke : ((List (Int × (Int × Int))) × (Int × (Int × Unit))) → Option ((List (Int × (Int × Int))) × Int)) : Option ((List (Int × (Int × Int))) × Int) :=
  (cond (decide (s.2.2.1 < (((List.length s.1) : Nat) : Int)))
    (Option.bind (getI s.1 s.2.2.1) fun (x1 : (Int × (Int × Int))) =>
    (Option.bind (getI (List.set s.1 (Int.toNat s.2.2.1) (s.2.1, x1.2)) s.2.2.1) fun (x2 : (Int × (Int × Int))) =>
    (Option.bind (getI (List.set (List.set s.1 (Int.toNat s.2.2.1) (s.2.1, x1.2)) (Int.toNat s.2.2.1) (x2.1, ((wr (s.2.1 + (1 : Int))), x2.2.2))) s.2.2.1) fun (x3 : (Int × (Int × Int))) =>
    (kc ((List.set (List.set (List.set s.1 (Int.toNat s.2.2.1) (s.2.1, x1.2)) (Int.toNat s.2.2.1) (x2.1, ((wr (s.2.1 + (1 : Int))), x2.2.2))) (Int.toNat s.2.2.1) (x3.1, (x3.2.1, (wr ((wr (s.2.1 + (1 : Int))) + (1 : Int)))))), ((wr ((wr ((wr (s.2.1 + (1 : Int))) + (1 : Int))) + (1 : Int))), ((wr (s.2.2.1 + (1 : Int))), ())))))))
    (ke (s.1, (s.2.1, (s.2.2.1, ())))))
def r_laws_markWireS (N : Nat) (a0 : (List (Int × (Int × Int)))) (a1 : Int) : Option ((List (Int × (Int × Int))) × Int) :=
  (iterK (r_laws_markWireS_L0 N) N (a0, (a1, ((0 : Int), ()))) fun (s1 : ((List (Int × (Int × Int))) × (Int × (Int × Unit)))) =>
  (some (s1.1, s1.2.1)))

noncomputable def e_laws_markWireS (y : (List (Int × Int × Int))) (a : Int × Unit) : Option ((List (Int × Int × Int)) × Int) := r_laws_markWireS N0 y a.1
noncomputable def e_laws_markNet (y : (Int × Int × Int × List (Int × Int × Int))) (a : Int × Unit) : Option ((Int × Int × Int × List (Int × Int × Int)) × Int) :=
  Option.map (fun r => ((y.1, y.2.1, y.2.2.1, r.1), r.2)) (e_laws_markWireS y.2.2.2 a)

def r_laws_markRatioS_L0 (_N : Nat) (s : ((List (Int × Int)) × (Int × (Int × Unit)))) (kc ke : ((List (Int × Int)) × (Int × (Int × Unit))) → Option ((List (Int × Int)) × Int)) : Option ((List (Int × Int)) × Int) :=
  (cond (decide (s.2.2.1 < (((List.length s.1) : Nat) : Int)))
    (Option.bind (getI s.1 s.2.2.1) fun (x1 : (Int × Int)) =>
    (Option.bind (getI (List.set s.1 (Int.toNat s.2.2.1) (s.2.1, x1.2)) s.2.2.1) fun (x2 : (Int × Int)) =>
    (kc ((List.set (List.set s.1 (Int.toNat s.2.2.1) (s.2.1, x1.2)) (Int.toNat s.2.2.1) (x2.1, (wr (s.2.1 + (1 : Int))))), ((wr ((wr (s.2.1 + (1 : Int))) + (1 : Int))), ((wr (s.2.2.1 + (1 : Int))), ()))))))
    (ke (s.1, (s.2.1, (s.2.2.1, ())))))
def r_laws_markRatioS (N : Nat) (a0 : (List (Int × Int))) (a1 : Int) : Option ((List (Int × Int)) × Int) :=
  (iterK (r_laws_markRatioS_L0 N) N (a0, (a1, ((0 : Int), ()))) fun (s1 : ((List (Int × Int)) × (Int × (Int × Unit)))) =>
  (some (s1.1, s1.2.1)))

noncomputable def e_laws_markRatioS (y : (List (Int × Int))) (a : Int × Unit) : Option ((List (Int × Int)) × Int) := r_laws_markRatioS N0 y a.1
def r_laws_markRatioSS_L0 (m_laws_markRatioS : ((List (Int × Int)) → (Int × Unit) → Option ((List (Int × Int)) × Int))) (_N : Nat) (s : ((List (List (Int × Int))) × (Int × (Int × Unit)))) (kc ke : ((List (List (Int × Int))) × (Int × (Int × Unit))) → Option ((List (List (Int × Int))) × Int)) : Option ((List (List (Int × Int))) × Int) :=
  (cond (decide (s.2.2.1 < (((List.length s.1) : Nat) : Int)))
    (Option.bind (getI s.1 s.2.2.1) fun (x1 : (List (Int × Int))) =>
    (Option.bind (m_laws_markRatioS x1 (s.2.1, ())) fun (x2 : ((List (Int × Int)) × Int)) =>
    (kc ((List.set s.1 (Int.toNat s.2.2.1) x2.1), (x2.2, ((wr (s.2.2.1 + (1 : Int))), ()))))))
    (ke (s.1, (s.2.1, (s.2.2.1, ())))))
def r_laws_markRatioSS (m_laws_markRatioS : ((List (Int × Int)) → (Int × Unit) → Option ((List (Int × Int)) × Int))) (N : Nat) (a0 : (List (List (Int × Int)))) (a1 : Int) : Option ((List (List (Int × Int))) × Int) :=
  (iterK (r_laws_markRatioSS_L0 m_laws_markRatioS N) N (a0, (a1, ((0 : Int), ()))) fun (s1 : ((List (List (Int × Int))) × (Int × (Int × Unit)))) =>
  (some (s1.1, s1.2.1)))

noncomputable def e_laws_markRatioSS (y : (List (List (Int × Int)))) (a : Int × Unit) : Option ((List (List (Int × Int))) × Int) := r_laws_markRatioSS e_laws_markRatioS N0 y a.1
def r_laws_markFaultS_L0 (_N : Nat) (s : ((List (Int × Int)) × (Int × (Int × Unit)))) (kc ke : ((List (Int × Int)) × (Int × (Int × Unit))) → Option ((List (Int × Int)) × Int)) : Option ((List (Int × Int)) × Int) :=
  (cond (decide (s.2.2.1 < (((List.length s.1) : Nat) : Int)))
    (Option.bind (getI s.1 s.2.2.1) fun (x1 : (Int × Int)) =>
    (Option.bind (getI (List.set s.1 (Int.toNat s.2.2.1) (s.2.1, x1.2)) s.2.2.1) fun (x2 : (Int × Int)) =>
    (kc ((List.set (List.set s.1 (Int.toNat s.2.2.1) (s.2.1, x1.2)) (Int.toNat s.2.2.1) (x2.1, (wr (s.2.1 + (1 : Int))))), ((wr ((wr (s.2.1 + (1 : Int))) + (1 : Int))), ((wr (s.2.2.1 + (1 : Int))), ()))))))
    (ke (s.1, (s.2.1, (s.2.2.1, ())))))
def r_laws_markFaultS (N : Nat) (a0 : (List (Int × Int))) (a1 : Int) : Option ((List (Int × Int)) × Int) :=
  (iterK (r_laws_markFaultS_L0 N) N (a0, (a1, ((0 : Int), ()))) fun (s1 : ((List (Int × Int)) × (Int × (Int × Unit)))) =>
  (some (s1.1, s1.2.1)))

noncomputable def e_laws_markFaultS (y : (List (Int × Int))) (a : Int × Unit) : Option ((List (Int × Int)) × Int) := r_laws_markFaultS N0 y a.1
def r_laws_heldFaultS_L0 (_N : Nat) (s : ((List (Int × Int)) × (Int × (Int × Unit)))) (kc ke : ((List (Int × Int)) × (Int × (Int × Unit))) → Option Int) : Option Int :=
  (cond (decide (s.2.2.1 < (((List.length s.1) : Nat) : Int)))
    (Option.bind (getI s.1 s.2.2.1) fun (x1 : (Int × Int)) =>
    (cond (!(decide (x1.1 = s.2.1)))
      (some (-(1 : Int)))
      (Option.bind (getI s.1 s.2.2.1) fun (x2 : (Int × Int)) =>
      (cond (!(decide (x2.2 = (wr (s.2.1 + (1 : Int))))))
        (some (-(1 : Int)))
        (kc (s.1, ((wr ((wr (s.2.1 + (1 : Int))) + (1 : Int))), ((wr (s.2.2.1 + (1 : Int))), ()))))))))
    (ke (s.1, (s.2.1, (s.2.2.1, ())))))
def r_laws_heldFaultS (N : Nat) (a0 : (List (Int × Int))) (a1 : Int) : Option Int :=
  (iterK (r_laws_heldFaultS_L0 N) N (a0, (a1, ((0 : Int), ()))) fun (s1 : ((List (Int × Int)) × (Int × (Int × Unit)))) =>
  (some s1.2.1))

noncomputable def e_laws_heldFaultS (a : (List (Int × Int)) × Int × Unit) : Option Int := r_laws_heldFaultS N0 a.1 a.2.1
def r_laws_FnExactFaultsLike (c_laws_szNet : ((Int × Int × Int × List (Int × Int × Int)) × Int × Unit → Option Int)) (c_laws_szRatioSS : ((List (List (Int × Int))) × Int × Unit → Option Int)) (c_laws_toNet : ((Int × Int × Int × List (Int × Int × Int)) × Unit → Option (Int × Int × Int × List (Int × Int × Int)))) (c_laws_toRatioSS : ((List (List (Int × Int))) × Unit → Option (List (List (Int × Int))))) (c_spec_FaultsLike : ((Int × Int × Int × List (Int × Int × Int)) × (List (List (Int × Int))) × Unit → Option (List (Int × Int)))) (c_impl_FaultsLike : ((Int × Int × Int × List (Int × Int × Int)) × (List (List (Int × Int))) × Unit → Option (List (Int × Int)))) (c_laws_eqFaultS : ((List (Int × Int)) × (List (Int × Int)) × Unit → Option Bool)) (c_laws_eqNet : ((Int × Int × Int × List (Int × Int × Int)) × (Int × Int × Int × List (Int × Int × Int)) × Unit → Option Bool)) (c_laws_eqRatioSS : ((List (List (Int × Int))) × (List (List (Int × Int))) × Unit → Option Bool)) (m_laws_markNet : ((Int × Int × Int × List (Int × Int × Int)) → (Int × Unit) → Option ((Int × Int × Int × List (Int × Int × Int)) × Int))) (m_laws_markRatioSS : ((List (List (Int × Int))) → (Int × Unit) → Option ((List (List (Int × Int))) × Int))) (m_laws_markFaultS : ((List (Int × Int)) → (Int × Unit) → Option ((List (Int × Int)) × Int))) (c_laws_heldFaultS : ((List (Int × Int)) × Int × Unit → Option Int)) (_N : Nat) (a0 : (Int × (Int × (Int × (List (Int × (Int × Int))))))) (a1 : (List (List (Int × Int)))) : Option Bool :=
  (Option.bind (c_laws_szNet (a0, ((1048576 : Int), ()))) fun (x1 : Int) =>
  (cond (decide (x1 < (0 : Int)))
    (some true)
    (Option.bind (c_laws_szRatioSS (a1, (x1, ()))) fun (x2 : Int) =>
    (cond (decide (x2 < (0 : Int)))
      (some true)
      (Option.bind (c_laws_toNet (a0, ())) fun (x3 : (Int × (Int × (Int × (List (Int × (Int × Int))))))) =>
      (Option.bind (c_laws_toRatioSS (a1, ())) fun (x4 : (List (List (Int × Int)))) =>
      (Option.bind (c_spec_FaultsLike (x3, (x4, ()))) fun (x5 : (List (Int × Int))) =>
      (Option.bind (c_laws_toNet (a0, ())) fun (x6 : (Int × (Int × (Int × (List (Int × (Int × Int))))))) =>
      (Option.bind (c_laws_toRatioSS (a1, ())) fun (x7 : (List (List (Int × Int)))) =>
      (Option.bind (c_impl_FaultsLike (x6, (x7, ()))) fun (x8 : (List (Int × Int))) =>
      (Option.bind (c_laws_eqFaultS (x8, (x5, ()))) fun (x9 : Bool) =>
      (cond (!x9)
        (some false)
        (Option.bind (c_laws_toNet (a0, ())) fun (x10 : (Int × (Int × (Int × (List (Int × (Int × Int))))))) =>
        (Option.bind (c_laws_eqNet (x6, (x10, ()))) fun (x11 : Bool) =>
        (cond (!x11)
          (some false)
          (Option.bind (c_laws_toRatioSS (a1, ())) fun (x12 : (List (List (Int × Int)))) =>
          (Option.bind (c_laws_eqRatioSS (x7, (x12, ()))) fun (x13 : Bool) =>
          (cond (!x13)
            (some false)
            (Option.bind (m_laws_markNet x6 ((1 : Int), ())) fun (x14 : ((Int × (Int × (Int × (List (Int × (Int × Int)))))) × Int)) =>
            (Option.bind (m_laws_markRatioSS x7 (x14.2, ())) fun (x15 : ((List (List (Int × Int))) × Int)) =>
            (cond (decide (x15.2 < (0 : Int)))
              (some false)
              (Option.bind (c_laws_eqFaultS (x8, (x5, ()))) fun (x16 : Bool) =>
              (cond (!x16)
                (some false)
                (Option.bind (m_laws_markFaultS x8 ((1 : Int), ())) fun (x17 : ((List (Int × Int)) × Int)) =>
                (Option.bind (c_laws_heldFaultS (x17.1, ((1 : Int), ()))) fun (x18 : Int) =>
                (cond (decide (x18 < (0 : Int)))
                  (some false)
                  (cond (!(decide (x18 = x17.2)))
                    (some false)
                    (Option.bind (c_laws_toNet (a0, ())) fun (x19 : (Int × (Int × (Int × (List (Int × (Int × Int))))))) =>
                    (Option.bind (c_laws_toRatioSS (a1, ())) fun (x20 : (List (List (Int × Int)))) =>
                    (Option.bind (c_impl_FaultsLike (x19, (x20, ()))) fun (x21 : (List (Int × Int))) =>
                    (Option.bind (c_laws_eqFaultS (x21, (x5, ()))) fun (x22 : Bool) =>
                    (cond (!x22)
                      (some false)
                      (Option.bind (c_laws_heldFaultS (x17.1, ((1 : Int), ()))) fun (x23 : Int) =>
                      (cond (decide (x23 < (0 : Int)))
                        (some false)
                        (cond (!(decide (x23 = x17.2)))
                          (some false)
                          (some true))))))))))))))))))))))))))))))))))))

noncomputable def e_laws_FnExactFaultsLike (a : (Int × Int × Int × List (Int × Int × Int)) × (List (List (Int × Int))) × Unit) : Option Bool := r_laws_FnExactFaultsLike e_laws_szNet e_laws_szRatioSS e_laws_toNet e_laws_toRatioSS e_spec_FaultsLike e_impl_FaultsLike e_laws_eqFaultS e_laws_eqNet e_laws_eqRatioSS e_laws_markNet e_laws_markRatioSS e_laws_markFaultS e_laws_heldFaultS N0 a.1 a.2.1
def r_spec_HiddenFaults (c_spec_ResponseOf : ((Int × Int × Int × List (Int × Int × Int)) × Unit → Option ((List (List (Int × Int))) × Bool))) (c_spec_FaultsLike : ((Int × Int × Int × List (Int × Int × Int)) × (List (List (Int × Int))) × Unit → Option (List (Int × Int)))) (_N : Nat) (a0 : (Int × (Int × (Int × (List (Int × (Int × Int))))))) : Option (List (Int × Int)) :=
  (Option.bind (c_spec_ResponseOf (a0, ())) fun (x1 : ((List (List (Int × Int))) × Bool)) =>
  (Option.bind (c_spec_FaultsLike (a0, (x1.1, ()))) fun (x2 : (List (Int × Int))) =>
  (some x2)))

noncomputable def e_spec_HiddenFaults (a : (Int × Int × Int × List (Int × Int × Int)) × Unit) : Option (List (Int × Int)) := r_spec_HiddenFaults e_spec_ResponseOf e_spec_FaultsLike N0 a.1
def r_impl_HiddenFaults (c_impl_ResponseOf : ((Int × Int × Int × List (Int × Int × Int)) × Unit → Option ((List (List (Int × Int))) × Bool))) (c_impl_FaultsLike : ((Int × Int × Int × List (Int × Int × Int)) × (List (List (Int × Int))) × Unit → Option (List (Int × Int)))) (_N : Nat) (a0 : (Int × (Int × (Int × (List (Int × (Int × Int))))))) : Option (List (Int × Int)) :=
  (Option.bind (c_impl_ResponseOf (a0, ())) fun (x1 : ((List (List (Int × Int))) × Bool)) =>
  (Option.bind (c_impl_FaultsLike (a0, (x1.1, ()))) fun (x2 : (List (Int × Int))) =>
  (some x2)))

noncomputable def e_impl_HiddenFaults (a : (Int × Int × Int × List (Int × Int × Int)) × Unit) : Option (List (Int × Int)) := r_impl_HiddenFaults e_impl_ResponseOf e_impl_FaultsLike N0 a.1
def r_laws_FnExactHiddenFaults (c_laws_szNet : ((Int × Int × Int × List (Int × Int × Int)) × Int × Unit → Option Int)) (c_laws_toNet : ((Int × Int × Int × List (Int × Int × Int)) × Unit → Option (Int × Int × Int × List (Int × Int × Int)))) (c_spec_HiddenFaults : ((Int × Int × Int × List (Int × Int × Int)) × Unit → Option (List (Int × Int)))) (c_impl_HiddenFaults : ((Int × Int × Int × List (Int × Int × Int)) × Unit → Option (List (Int × Int)))) (c_laws_eqFaultS : ((List (Int × Int)) × (List (Int × Int)) × Unit → Option Bool)) (c_laws_eqNet : ((Int × Int × Int × List (Int × Int × Int)) × (Int × Int × Int × List (Int × Int × Int)) × Unit → Option Bool)) (m_laws_markNet : ((Int × Int × Int × List (Int × Int × Int)) → (Int × Unit) → Option ((Int × Int × Int × List (Int × Int × Int)) × Int))) (m_laws_markFaultS : ((List (Int × Int)) → (Int × Unit) → Option ((List (Int × Int)) × Int))) (c_laws_heldFaultS : ((List (Int × Int)) × Int × Unit → Option Int)) (_N : Nat) (a0 : (Int × (Int × (Int × (List (Int × (Int × Int))))))) : Option Bool :=
  (Option.bind (c_laws_szNet (a0, ((1048576 : Int), ()))) fun (x1 : Int) =>
  (cond (decide (x1 < (0 : Int)))
    (some true)
    (Option.bind (c_laws_toNet (a0, ())) fun (x2 : (Int × (Int × (Int × (List (Int × (Int × Int))))))) =>
    (Option.bind (c_spec_HiddenFaults (x2, ())) fun (x3 : (List (Int × Int))) =>
    (Option.bind (c_laws_toNet (a0, ())) fun (x4 : (Int × (Int × (Int × (List (Int × (Int × Int))))))) =>
    (Option.bind (c_impl_HiddenFaults (x4, ())) fun (x5 : (List (Int × Int))) =>
    (Option.bind (c_laws_eqFaultS (x5, (x3, ()))) fun (x6 : Bool) =>
    (cond (!x6)
      (some false)
      (Option.bind (c_laws_toNet (a0, ())) fun (x7 : (Int × (Int × (Int × (List (Int × (Int × Int))))))) =>
      (Option.bind (c_laws_eqNet (x4, (x7, ()))) fun (x8 : Bool) =>
      (cond (!x8)
        (some false)
        (Option.bind (m_laws_markNet x4 ((1 : Int), ())) fun (x9 : ((Int × (Int × (Int × (List (Int × (Int × Int)))))) × Int)) =>
        (cond (decide (x9.2 < (0 : Int)))
          (some false)
          (Option.bind (c_laws_eqFaultS (x5, (x3, ()))) fun (x10 : Bool) =>
          (cond (!x10)
            (some false)
            (Option.bind (m_laws_markFaultS x5 ((1 : Int), ())) fun (x11 : ((List (Int × Int)) × Int)) =>
            (Option.bind (c_laws_heldFaultS (x11.1, ((1 : Int), ()))) fun (x12 : Int) =>
            (cond (decide (x12 < (0 : Int)))
              (some false)
              (cond (!(decide (x12 = x11.2)))
                (some false)
                (Option.bind (c_laws_toNet (a0, ())) fun (x13 : (Int × (Int × (Int × (List (Int × (Int × Int))))))) =>
                (Option.bind (c_impl_HiddenFaults (x13, ())) fun (x14 : (List (Int × Int))) =>
                (Option.bind (c_laws_eqFaultS (x14, (x3, ()))) fun (x15 : Bool) =>
                (cond (!x15)
                  (some false)
                  (Option.bind (c_laws_heldFaultS (x11.1, ((1 : Int), ()))) fun (x16 : Int) =>
                  (cond (decide (x16 < (0 : Int)))
                    (some false)
                    (cond (!(decide (x16 = x11.2)))
                      (some false)
                      (some true)))))))))))))))))))))))))))

noncomputable def e_laws_FnExactHiddenFaults (a : (Int × Int × Int × List (Int × Int × Int)) × Unit) : Option Bool := r_laws_FnExactHiddenFaults e_laws_szNet e_laws_toNet e_spec_HiddenFaults e_impl_HiddenFaults e_laws_eqFaultS e_laws_eqNet e_laws_markNet e_laws_markFaultS e_laws_heldFaultS N0 a.1
def r_laws_toFault (_N : Nat) (a0 : (Int × Int)) : Option (Int × Int) :=
  (some (a0.1, a0.2))

noncomputable def e_laws_toFault (a : (Int × Int) × Unit) : Option (Int × Int) := r_laws_toFault N0 a.1
def r_spec_TwinFault_L0 (_c_spec_ApplyFault : ((Int × Int × Int × List (Int × Int × Int)) × (Int × Int) × Unit → Option ((Int × Int × Int × List (Int × Int × Int)) × Bool))) (_c_spec_ResponseOf : ((Int × Int × Int × List (Int × Int × Int)) × Unit → Option ((List (List (Int × Int))) × Bool))) (_c_spec_FaultsLike : ((Int × Int × Int × List (Int × Int × Int)) × (List (List (Int × Int))) × Unit → Option (List (Int × Int)))) (_N : Nat) (s : ((Int × Int) × ((Int × Int) × ((List (Int × Int)) × (Int × (Int × Unit)))))) (kc ke : ((Int × Int) × ((Int × Int) × ((List (Int × Int)) × (Int × (Int × Unit))))) → Option ((Int × Int) × Bool)) : Option ((Int × Int) × Bool) :=
  (cond (decide (s.2.2.2.2.1 < s.2.2.2.1))
    (Option.bind (getI s.2.2.1 s.2.2.2.2.1) fun (x1 : (Int × Int)) =>
    (cond (!((intEq x1.1 s.1.1) && (intEq x1.2 s.1.2)))
      (some (x1, true))
      (kc (s.1, (s.2.1, (s.2.2.1, (s.2.2.2.1, ((wr (s.2.2.2.2.1 + (1 : Int))), ()))))))))
    (ke (s.1, (s.2.1, (s.2.2.1, (s.2.2.2.1, (s.2.2.2.2.1, ())))))))
def r_spec_TwinFault (c_spec_ApplyFault : ((Int × Int × Int × List (Int × Int × Int)) × (Int × Int) × Unit → Option ((Int × Int × Int × List (Int × Int × Int)) × Bool))) (c_spec_ResponseOf : ((Int × Int × Int × List (Int × Int × Int)) × Unit → Option ((List (List (Int × Int))) × Bool))) (c_spec_FaultsLike : ((Int × Int × Int × List (Int × Int × Int)) × (List (List (Int × Int))) × Unit → Option (List (Int × Int)))) (N : Nat) (a0 : (Int × (Int × (Int × (List (Int × (Int × Int))))))) (a1 : (Int × Int)) : Option ((Int × Int) × Bool) :=
  (Option.bind (c_spec_ApplyFault (a0, (a1, ()))) fun (x1 : ((Int × (Int × (Int × (List (Int × (Int × Int)))))) × Bool)) =>
  (cond (!x1.2)
    (some (((0 : Int), (0 : Int)), false))
    (Option.bind (c_spec_ResponseOf (x1.1, ())) fun (x2 : ((List (List (Int × Int))) × Bool)) =>
    (Option.bind (c_spec_FaultsLike (a0, (x2.1, ()))) fun (x3 : (List (Int × Int))) =>
    (iterK (r_spec_TwinFault_L0 c_spec_ApplyFault c_spec_ResponseOf c_spec_FaultsLike N) N (a1, (((0 : Int), (0 : Int)), (x3, ((((List.length x3) : Nat) : Int), ((0 : Int), ()))))) fun (_s4 : ((Int × Int) × ((Int × Int) × ((List (Int × Int)) × (Int × (Int × Unit)))))) =>
    (some (((0 : Int), (0 : Int)), false)))))))

noncomputable def e_spec_TwinFault (a : (Int × Int × Int × List (Int × Int × Int)) × (Int × Int) × Unit) : Option ((Int × Int) × Bool) := r_spec_TwinFault e_spec_ApplyFault e_spec_ResponseOf e_spec_FaultsLike N0 a.1 a.2.1
def r_impl_TwinFault_L0 (_c_impl_ApplyFault : ((Int × Int × Int × List (Int × Int × Int)) × (Int × Int) × Unit → Option ((Int × Int × Int × List (Int × Int × Int)) × Bool))) (_c_impl_after : ((Int × Int × Int × List (Int × Int × Int)) × (Int × Int) × Unit → Option (List (List (Int × Int))))) (_c_impl_FaultsLike : ((Int × Int × Int × List (Int × Int × Int)) × (List (List (Int × Int))) × Unit → Option (List (Int × Int)))) (_N : Nat) (s : ((Int × Int) × ((Int × Int) × ((List (Int × Int)) × (Int × (Int × Unit)))))) (kc ke : ((Int × Int) × ((Int × Int) × ((List (Int × Int)) × (Int × (Int × Unit))))) → Option ((Int × Int) × Bool)) : Option ((Int × Int) × Bool) :=
  (cond (decide (s.2.2.2.2.1 < s.2.2.2.1))
    (Option.bind (getI s.2.2.1 s.2.2.2.2.1) fun (x1 : (Int × Int)) =>
    (cond (!((intEq x1.1 s.1.1) && (intEq x1.2 s.1.2)))
      (some (x1, true))
      (kc (s.1, (s.2.1, (s.2.2.1, (s.2.2.2.1, ((wr (s.2.2.2.2.1 + (1 : Int))), ()))))))))
    (ke (s.1, (s.2.1, (s.2.2.1, (s.2.2.2.1, (s.2.2.2.2.1, ())))))))
def r_impl_TwinFault (c_impl_ApplyFault : ((Int × Int × Int × List (Int × Int × Int)) × (Int × Int) × Unit → Option ((Int × Int × Int × List (Int × Int × Int)) × Bool))) (c_impl_after : ((Int × Int × Int × List (Int × Int × Int)) × (Int × Int) × Unit → Option (List (List (Int × Int))))) (c_impl_FaultsLike : ((Int × Int × Int × List (Int × Int × Int)) × (List (List (Int × Int))) × Unit → Option (List (Int × Int)))) (N : Nat) (a0 : (Int × (Int × (Int × (List (Int × (Int × Int))))))) (a1 : (Int × Int)) : Option ((Int × Int) × Bool) :=
  (Option.bind (c_impl_ApplyFault (a0, (a1, ()))) fun (x1 : ((Int × (Int × (Int × (List (Int × (Int × Int)))))) × Bool)) =>
  (cond (!x1.2)
    (some (((0 : Int), (0 : Int)), false))
    (Option.bind (c_impl_after (a0, (a1, ()))) fun (x2 : (List (List (Int × Int)))) =>
    (Option.bind (c_impl_FaultsLike (a0, (x2, ()))) fun (x3 : (List (Int × Int))) =>
    (iterK (r_impl_TwinFault_L0 c_impl_ApplyFault c_impl_after c_impl_FaultsLike N) N (a1, (((0 : Int), (0 : Int)), (x3, ((((List.length x3) : Nat) : Int), ((0 : Int), ()))))) fun (_s4 : ((Int × Int) × ((Int × Int) × ((List (Int × Int)) × (Int × (Int × Unit)))))) =>
    (some (((0 : Int), (0 : Int)), false)))))))

noncomputable def e_impl_TwinFault (a : (Int × Int × Int × List (Int × Int × Int)) × (Int × Int) × Unit) : Option ((Int × Int) × Bool) := r_impl_TwinFault e_impl_ApplyFault e_impl_after e_impl_FaultsLike N0 a.1 a.2.1
def r_laws_FnExactTwinFault (c_laws_szNet : ((Int × Int × Int × List (Int × Int × Int)) × Int × Unit → Option Int)) (c_laws_toNet : ((Int × Int × Int × List (Int × Int × Int)) × Unit → Option (Int × Int × Int × List (Int × Int × Int)))) (c_laws_toFault : ((Int × Int) × Unit → Option (Int × Int))) (c_spec_TwinFault : ((Int × Int × Int × List (Int × Int × Int)) × (Int × Int) × Unit → Option ((Int × Int) × Bool))) (c_impl_TwinFault : ((Int × Int × Int × List (Int × Int × Int)) × (Int × Int) × Unit → Option ((Int × Int) × Bool))) (c_laws_eqFault : ((Int × Int) × (Int × Int) × Unit → Option Bool)) (c_laws_eqNet : ((Int × Int × Int × List (Int × Int × Int)) × (Int × Int × Int × List (Int × Int × Int)) × Unit → Option Bool)) (_N : Nat) (a0 : (Int × (Int × (Int × (List (Int × (Int × Int))))))) (a1 : (Int × Int)) : Option Bool :=
  (Option.bind (c_laws_szNet (a0, ((1048576 : Int), ()))) fun (x1 : Int) =>
  (cond (decide (x1 < (0 : Int)))
    (some true)
    (Option.bind (c_laws_toNet (a0, ())) fun (x2 : (Int × (Int × (Int × (List (Int × (Int × Int))))))) =>
    (Option.bind (c_laws_toFault (a1, ())) fun (x3 : (Int × Int)) =>
    (Option.bind (c_spec_TwinFault (x2, (x3, ()))) fun (x4 : ((Int × Int) × Bool)) =>
    (Option.bind (c_laws_toNet (a0, ())) fun (x5 : (Int × (Int × (Int × (List (Int × (Int × Int))))))) =>
    (Option.bind (c_laws_toFault (a1, ())) fun (x6 : (Int × Int)) =>
    (Option.bind (c_impl_TwinFault (x5, (x6, ()))) fun (x7 : ((Int × Int) × Bool)) =>
    (Option.bind (c_laws_eqFault (x7.1, (x4.1, ()))) fun (x8 : Bool) =>
    (cond (!x8)
      (some false)
      (cond (!(beqB x7.2 x4.2))
        (some false)
        (Option.bind (c_laws_toNet (a0, ())) fun (x9 : (Int × (Int × (Int × (List (Int × (Int × Int))))))) =>
        (Option.bind (c_laws_eqNet (x5, (x9, ()))) fun (x10 : Bool) =>
        (cond (!x10)
          (some false)
          (some true)))))))))))))))

noncomputable def e_laws_FnExactTwinFault (a : (Int × Int × Int × List (Int × Int × Int)) × (Int × Int) × Unit) : Option Bool := r_laws_FnExactTwinFault e_laws_szNet e_laws_toNet e_laws_toFault e_spec_TwinFault e_impl_TwinFault e_laws_eqFault e_laws_eqNet N0 a.1 a.2.1
end Go.Sx.R
