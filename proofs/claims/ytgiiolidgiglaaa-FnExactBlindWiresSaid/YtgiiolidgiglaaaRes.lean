/- What the functions compute. Conditions: none. -/
import Derived.Test.YtgiiolidgiglaaaSx4
/- What the functions compute, printed by program out of their code. Conditions: none (definitions). -/
namespace Go.Sx.R
open Go Go.Sx
def r_laws_szWireS (_N : Nat) (a0 : (List (Int × (Int × Int)))) (a1 : Int) : Option Int :=
  (cond (decide ((wr (a1 - (((List.length a0) : Nat) : Int))) < (0 : Int)))
    (some (-(1 : Int)))
    (some (wr (a1 - (((List.length a0) : Nat) : Int)))))

noncomputable def e_laws_szWireS (a : (List (Int × Int × Int)) × Int × Unit) : Option Int := r_laws_szWireS N0 a.1 a.2.1
def r_laws_szNet (c_laws_szWireS : ((List (Int × Int × Int)) × Int × Unit → Option Int)) (_N : Nat) (a0 : (Int × (Int × (Int × (List (Int × (Int × Int))))))) (a1 : Int) : Option Int :=
  (Option.bind (c_laws_szWireS (a0.2.2.2, (a1, ()))) fun (x1 : Int) =>
  (cond (decide (x1 < (0 : Int)))
    (some (-(1 : Int)))
    (some x1)))

noncomputable def e_laws_szNet (a : (Int × Int × Int × List (Int × Int × Int)) × Int × Unit) : Option Int := r_laws_szNet e_laws_szWireS N0 a.1 a.2.1
def r_laws_toWire (_N : Nat) (a0 : (Int × (Int × Int))) : Option (Int × (Int × Int)) :=
  (some (a0.1, (a0.2.1, a0.2.2)))

noncomputable def e_laws_toWire (a : (Int × Int × Int) × Unit) : Option (Int × Int × Int) := r_laws_toWire N0 a.1
def r_laws_toWireS_L0 (c_laws_toWire : ((Int × Int × Int) × Unit → Option (Int × Int × Int))) (_N : Nat) (s : ((List (Int × (Int × Int))) × ((List (Int × (Int × Int))) × (Int × Unit)))) (kc ke : ((List (Int × (Int × Int))) × ((List (Int × (Int × Int))) × (Int × Unit))) → Option (List (Int × (Int × Int)))) : Option (List (Int × (Int × Int))) :=
  (cond (decide (s.2.2.1 < (((List.length s.1) : Nat) : Int)))
    (Option.bind (getI s.1 s.2.2.1) fun (x1 : (Int × (Int × Int))) =>
    (Option.bind (c_laws_toWire (x1, ())) fun (x2 : (Int × (Int × Int))) =>
    (Option.bind (getI s.2.1 s.2.2.1) fun (_x3 : (Int × (Int × Int))) =>
    (kc (s.1, ((List.set s.2.1 (Int.toNat s.2.2.1) x2), ((wr (s.2.2.1 + (1 : Int))), ())))))))
    (ke (s.1, (s.2.1, (s.2.2.1, ())))))
def r_laws_toWireS (c_laws_toWire : ((Int × Int × Int) × Unit → Option (Int × Int × Int))) (N : Nat) (a0 : (List (Int × (Int × Int)))) : Option (List (Int × (Int × Int))) :=
  (cond (Nat.ble (Int.toNat (((List.length a0) : Nat) : Int)) 17179869184)
    (iterK (r_laws_toWireS_L0 c_laws_toWire N) N (a0, ((List.replicate (Int.toNat (((List.length a0) : Nat) : Int)) ((0 : Int), ((0 : Int), (0 : Int)))), ((0 : Int), ()))) fun (s1 : ((List (Int × (Int × Int))) × ((List (Int × (Int × Int))) × (Int × Unit)))) =>
    (some s1.2.1))
    none)

noncomputable def e_laws_toWireS (a : (List (Int × Int × Int)) × Unit) : Option (List (Int × Int × Int)) := r_laws_toWireS e_laws_toWire N0 a.1
def r_laws_toNet (c_laws_toWireS : ((List (Int × Int × Int)) × Unit → Option (List (Int × Int × Int)))) (_N : Nat) (a0 : (Int × (Int × (Int × (List (Int × (Int × Int))))))) : Option (Int × (Int × (Int × (List (Int × (Int × Int)))))) :=
  (Option.bind (c_laws_toWireS (a0.2.2.2, ())) fun (x1 : (List (Int × (Int × Int)))) =>
  (some (a0.1, (a0.2.1, (a0.2.2.1, x1)))))

noncomputable def e_laws_toNet (a : (Int × Int × Int × List (Int × Int × Int)) × Unit) : Option (Int × Int × Int × List (Int × Int × Int)) := r_laws_toNet e_laws_toWireS N0 a.1
def r_spec_l01In (_N : Nat) (a0 : Int) (a1 : Int) (a2 : Int) : Option Bool :=
  (cond (decide (a0 ≥ a1))
    (some (decide (a0 ≤ a2)))
    (some false))

noncomputable def e_spec_l01In (a : Int × Int × Int × Unit) : Option Bool := r_spec_l01In N0 a.1 a.2.1 a.2.2.1
def r_spec_l03Has_L0 (_N : Nat) (s : (Int × ((List Int) × (Int × (Int × Unit))))) (kc ke : (Int × ((List Int) × (Int × (Int × Unit)))) → Option Bool) : Option Bool :=
  (cond (decide (s.2.2.2.1 < s.2.2.1))
    (Option.bind (getI s.2.1 s.2.2.2.1) fun (x1 : Int) =>
    (cond (decide (x1 = s.1))
      (some true)
      (kc (s.1, (s.2.1, (s.2.2.1, ((wr (s.2.2.2.1 + (1 : Int))), ())))))))
    (ke (s.1, (s.2.1, (s.2.2.1, (s.2.2.2.1, ()))))))
def r_spec_l03Has (N : Nat) (a0 : (List Int)) (a1 : Int) : Option Bool :=
  (iterK (r_spec_l03Has_L0 N) N (a1, (a0, ((((List.length a0) : Nat) : Int), ((0 : Int), ())))) fun (_s1 : (Int × ((List Int) × (Int × (Int × Unit))))) =>
  (some false))

noncomputable def e_spec_l03Has (a : (List Int) × Int × Unit) : Option Bool := r_spec_l03Has N0 a.1 a.2.1
def r_spec_l03Reach_L2 (c_spec_l03Has : ((List Int) × Int × Unit → Option Bool)) (_N : Nat) (s : ((List (Int × (Int × Int))) × ((List Int) × (Int × ((List (Int × (Int × Int))) × (Int × (Int × Unit))))))) (kc ke : ((List (Int × (Int × Int))) × ((List Int) × (Int × ((List (Int × (Int × Int))) × (Int × (Int × Unit)))))) → Option (List Int)) : Option (List Int) :=
  (cond (decide (s.2.2.2.2.2.1 < s.2.2.2.2.1))
    (Option.bind (getI s.2.2.2.1 s.2.2.2.2.2.1) fun (x1 : (Int × (Int × Int))) =>
    (Option.bind (getI s.2.1 s.2.2.1) fun (x2 : Int) =>
    (cond (decide (x1.1 = x2))
      (Option.bind (c_spec_l03Has (s.2.1, (x1.2.1, ()))) fun (x3 : Bool) =>
      (cond (!x3)
        (cond (Nat.ble ((List.length s.2.1) + (List.length (x1.2.1 :: ([] : List Int)))) 17179869184)
          (Option.bind (getI (s.2.1 ++ (x1.2.1 :: ([] : List Int))) s.2.2.1) fun (x4 : Int) =>
          (cond (decide (x1.2.1 = x4))
            (Option.bind (c_spec_l03Has ((s.2.1 ++ (x1.2.1 :: ([] : List Int))), (x1.1, ()))) fun (x5 : Bool) =>
            (cond (!x5)
              (cond (Nat.ble ((List.length (s.2.1 ++ (x1.2.1 :: ([] : List Int)))) + (List.length (x1.1 :: ([] : List Int)))) 17179869184)
                (kc (s.1, (((s.2.1 ++ (x1.2.1 :: ([] : List Int))) ++ (x1.1 :: ([] : List Int))), (s.2.2.1, (s.2.2.2.1, (s.2.2.2.2.1, ((wr (s.2.2.2.2.2.1 + (1 : Int))), ())))))))
                none)
              (kc (s.1, ((s.2.1 ++ (x1.2.1 :: ([] : List Int))), (s.2.2.1, (s.2.2.2.1, (s.2.2.2.2.1, ((wr (s.2.2.2.2.2.1 + (1 : Int))), ())))))))))
            (kc (s.1, ((s.2.1 ++ (x1.2.1 :: ([] : List Int))), (s.2.2.1, (s.2.2.2.1, (s.2.2.2.2.1, ((wr (s.2.2.2.2.2.1 + (1 : Int))), ())))))))))
          none)
        (Option.bind (getI s.2.1 s.2.2.1) fun (x6 : Int) =>
        (cond (decide (x1.2.1 = x6))
          (Option.bind (c_spec_l03Has (s.2.1, (x1.1, ()))) fun (x7 : Bool) =>
          (cond (!x7)
            (cond (Nat.ble ((List.length s.2.1) + (List.length (x1.1 :: ([] : List Int)))) 17179869184)
              (kc (s.1, ((s.2.1 ++ (x1.1 :: ([] : List Int))), (s.2.2.1, (s.2.2.2.1, (s.2.2.2.2.1, ((wr (s.2.2.2.2.2.1 + (1 : Int))), ())))))))
              none)
            (kc (s.1, (s.2.1, (s.2.2.1, (s.2.2.2.1, (s.2.2.2.2.1, ((wr (s.2.2.2.2.2.1 + (1 : Int))), ())))))))))
          (kc (s.1, (s.2.1, (s.2.2.1, (s.2.2.2.1, (s.2.2.2.2.1, ((wr (s.2.2.2.2.2.1 + (1 : Int))), ())))))))))))
      (Option.bind (getI s.2.1 s.2.2.1) fun (x8 : Int) =>
      (cond (decide (x1.2.1 = x8))
        (Option.bind (c_spec_l03Has (s.2.1, (x1.1, ()))) fun (x9 : Bool) =>
        (cond (!x9)
          (cond (Nat.ble ((List.length s.2.1) + (List.length (x1.1 :: ([] : List Int)))) 17179869184)
            (kc (s.1, ((s.2.1 ++ (x1.1 :: ([] : List Int))), (s.2.2.1, (s.2.2.2.1, (s.2.2.2.2.1, ((wr (s.2.2.2.2.2.1 + (1 : Int))), ())))))))
            none)
          (kc (s.1, (s.2.1, (s.2.2.1, (s.2.2.2.1, (s.2.2.2.2.1, ((wr (s.2.2.2.2.2.1 + (1 : Int))), ())))))))))
        (kc (s.1, (s.2.1, (s.2.2.1, (s.2.2.2.1, (s.2.2.2.2.1, ((wr (s.2.2.2.2.2.1 + (1 : Int))), ()))))))))))))
    (ke (s.1, (s.2.1, (s.2.2.1, (s.2.2.2.1, (s.2.2.2.2.1, (s.2.2.2.2.2.1, ()))))))))
def r_spec_l03Reach_L0 (c_spec_l03Has : ((List Int) × Int × Unit → Option Bool)) (N : Nat) (s : ((List (Int × (Int × Int))) × ((List Int) × (Int × Unit)))) (kc ke : ((List (Int × (Int × Int))) × ((List Int) × (Int × Unit))) → Option (List Int)) : Option (List Int) :=
  (cond (decide (s.2.2.1 < (((List.length s.2.1) : Nat) : Int)))
    (iterK (r_spec_l03Reach_L2 c_spec_l03Has N) N (s.1, (s.2.1, (s.2.2.1, (s.1, ((((List.length s.1) : Nat) : Int), ((0 : Int), ())))))) fun (s1 : ((List (Int × (Int × Int))) × ((List Int) × (Int × ((List (Int × (Int × Int))) × (Int × (Int × Unit))))))) =>
    (kc (s1.1, (s1.2.1, ((wr (s1.2.2.1 + (1 : Int))), ())))))
    (ke (s.1, (s.2.1, (s.2.2.1, ())))))
def r_spec_l03Reach (c_spec_l03Has : ((List Int) × Int × Unit → Option Bool)) (N : Nat) (a0 : (List (Int × (Int × Int)))) (a1 : Int) : Option (List Int) :=
  (iterK (r_spec_l03Reach_L0 c_spec_l03Has N) N (a0, ((a1 :: ([] : List Int)), ((0 : Int), ()))) fun (s1 : ((List (Int × (Int × Int))) × ((List Int) × (Int × Unit)))) =>
  (some s1.2.1))

noncomputable def e_spec_l03Reach (a : (List (Int × Int × Int)) × Int × Unit) : Option (List Int) := r_spec_l03Reach e_spec_l03Has N0 a.1 a.2.1
def r_spec_NetOk_L0 (c_spec_l01In : (Int × Int × Int × Unit → Option Bool)) (_c_spec_l03Reach : ((List (Int × Int × Int)) × Int × Unit → Option (List Int))) (_N : Nat) (s : ((Int × (Int × (Int × (List (Int × (Int × Int)))))) × ((List (Int × (Int × Int))) × (Int × (Int × Unit))))) (kc ke : ((Int × (Int × (Int × (List (Int × (Int × Int)))))) × ((List (Int × (Int × Int))) × (Int × (Int × Unit)))) → Option Bool) : Option Bool :=
  (cond (decide (s.2.2.2.1 < s.2.2.1))
    (Option.bind (getI s.2.1 s.2.2.2.1) fun (x1 : (Int × (Int × Int))) =>
    (Option.bind (c_spec_l01In (x1.1, ((0 : Int), ((wr (s.1.1 - (1 : Int))), ())))) fun (x2 : Bool) =>
    (cond (!x2)
      (some false)
      (Option.bind (c_spec_l01In (x1.2.1, ((wr (x1.1 + (1 : Int))), ((wr (s.1.1 - (1 : Int))), ())))) fun (x3 : Bool) =>
      (cond (!x3)
        (some false)
        (Option.bind (c_spec_l01In (x1.2.2, ((1 : Int), ((200 : Int), ())))) fun (x4 : Bool) =>
        (cond (!x4)
          (some false)
          (cond (decide (s.2.2.2.1 > (0 : Int)))
            (Option.bind (getI s.1.2.2.2 (wr (s.2.2.2.1 - (1 : Int)))) fun (x5 : (Int × (Int × Int))) =>
            (cond (decide (x1.1 < x5.1))
              (some false)
              (Option.bind (getI s.1.2.2.2 (wr (s.2.2.2.1 - (1 : Int)))) fun (x6 : (Int × (Int × Int))) =>
              (cond (decide (x1.1 = x6.1))
                (Option.bind (getI s.1.2.2.2 (wr (s.2.2.2.1 - (1 : Int)))) fun (x7 : (Int × (Int × Int))) =>
                (cond (decide (x1.2.1 ≤ x7.2.1))
                  (some false)
                  (kc (s.1, (s.2.1, (s.2.2.1, ((wr (s.2.2.2.1 + (1 : Int))), ())))))))
                (kc (s.1, (s.2.1, (s.2.2.1, ((wr (s.2.2.2.1 + (1 : Int))), ())))))))))
            (kc (s.1, (s.2.1, (s.2.2.1, ((wr (s.2.2.2.1 + (1 : Int))), ())))))))))))))
    (ke (s.1, (s.2.1, (s.2.2.1, (s.2.2.2.1, ()))))))
def r_spec_NetOk (c_spec_l01In : (Int × Int × Int × Unit → Option Bool)) (c_spec_l03Reach : ((List (Int × Int × Int)) × Int × Unit → Option (List Int))) (N : Nat) (a0 : (Int × (Int × (Int × (List (Int × (Int × Int))))))) : Option Bool :=
  (Option.bind (c_spec_l01In (a0.1, ((1 : Int), ((5 : Int), ())))) fun (x1 : Bool) =>
  (cond (!x1)
    (some false)
    (Option.bind (c_spec_l01In (a0.2.1, ((1 : Int), (a0.1, ())))) fun (x2 : Bool) =>
    (cond (!x2)
      (some false)
      (Option.bind (c_spec_l01In (a0.2.2.1, ((1 : Int), ((1000 : Int), ())))) fun (x3 : Bool) =>
      (cond (!x3)
        (some false)
        (iterK (r_spec_NetOk_L0 c_spec_l01In c_spec_l03Reach N) N (a0, (a0.2.2.2, ((((List.length a0.2.2.2) : Nat) : Int), ((0 : Int), ())))) fun (s4 : ((Int × (Int × (Int × (List (Int × (Int × Int)))))) × ((List (Int × (Int × Int))) × (Int × (Int × Unit))))) =>
        (Option.bind (c_spec_l03Reach (s4.1.2.2.2, ((0 : Int), ()))) fun (x5 : (List Int)) =>
        (some (decide ((((List.length x5) : Nat) : Int) = s4.1.1)))))))))))

noncomputable def e_spec_NetOk (a : (Int × Int × Int × List (Int × Int × Int)) × Unit) : Option Bool := r_spec_NetOk e_spec_l01In e_spec_l03Reach N0 a.1
def r_spec_l10Path_L0 (c_spec_l03Has : ((List Int) × Int × Unit → Option Bool)) (c_spec_l10Path : ((Int × Int × Int × List (Int × Int × Int)) × (List Int) × Bool × Int × Unit → Option Bool)) (_N : Nat) (s : ((List Int) × (Bool × (Int × ((Int × (Int × (Int × (List (Int × (Int × Int)))))) × (Int × ((List (Int × (Int × Int))) × (Int × (Int × Unit))))))))) (kc ke : ((List Int) × (Bool × (Int × ((Int × (Int × (Int × (List (Int × (Int × Int)))))) × (Int × ((List (Int × (Int × Int))) × (Int × (Int × Unit)))))))) → Option Bool) : Option Bool :=
  (cond (decide (s.2.2.2.2.2.2.2.1 < s.2.2.2.2.2.2.1))
    (Option.bind (getI s.2.2.2.2.2.1 s.2.2.2.2.2.2.2.1) fun (x1 : (Int × (Int × Int))) =>
    (cond (!(decide (x1.1 = s.2.2.2.2.1)))
      (cond (!(decide (x1.2.1 = s.2.2.2.2.1)))
        (kc (s.1, (s.2.1, (s.2.2.1, (s.2.2.2.1, (s.2.2.2.2.1, (s.2.2.2.2.2.1, (s.2.2.2.2.2.2.1, ((wr (s.2.2.2.2.2.2.2.1 + (1 : Int))), ())))))))))
        (Option.bind (c_spec_l03Has (s.1, ((wr ((wr (x1.1 + x1.2.1)) - s.2.2.2.2.1)), ()))) fun (x2 : Bool) =>
        (cond (!x2)
          (cond (Nat.ble ((List.length ([] : List Int)) + (List.length s.1)) 17179869184)
            (cond (Nat.ble ((List.length (([] : List Int) ++ s.1)) + (List.length ((wr ((wr (x1.1 + x1.2.1)) - s.2.2.2.2.1)) :: ([] : List Int)))) 17179869184)
              (cond s.2.1
                (Option.bind (c_spec_l10Path (s.2.2.2.1, (((([] : List Int) ++ s.1) ++ ((wr ((wr (x1.1 + x1.2.1)) - s.2.2.2.2.1)) :: ([] : List Int))), (true, (s.2.2.1, ()))))) fun (x3 : Bool) =>
                (cond x3
                  (some true)
                  (kc (s.1, (s.2.1, (s.2.2.1, (s.2.2.2.1, (s.2.2.2.2.1, (s.2.2.2.2.2.1, (s.2.2.2.2.2.2.1, ((wr (s.2.2.2.2.2.2.2.1 + (1 : Int))), ())))))))))))
                (Option.bind (c_spec_l10Path (s.2.2.2.1, (((([] : List Int) ++ s.1) ++ ((wr ((wr (x1.1 + x1.2.1)) - s.2.2.2.2.1)) :: ([] : List Int))), ((decide (s.2.2.2.2.2.2.2.1 = s.2.2.1)), (s.2.2.1, ()))))) fun (x4 : Bool) =>
                (cond x4
                  (some true)
                  (kc (s.1, (s.2.1, (s.2.2.1, (s.2.2.2.1, (s.2.2.2.2.1, (s.2.2.2.2.2.1, (s.2.2.2.2.2.2.1, ((wr (s.2.2.2.2.2.2.2.1 + (1 : Int))), ()))))))))))))
              none)
            none)
          (kc (s.1, (s.2.1, (s.2.2.1, (s.2.2.2.1, (s.2.2.2.2.1, (s.2.2.2.2.2.1, (s.2.2.2.2.2.2.1, ((wr (s.2.2.2.2.2.2.2.1 + (1 : Int))), ()))))))))))))
      (Option.bind (c_spec_l03Has (s.1, ((wr ((wr (x1.1 + x1.2.1)) - s.2.2.2.2.1)), ()))) fun (x5 : Bool) =>
      (cond (!x5)
        (cond (Nat.ble ((List.length ([] : List Int)) + (List.length s.1)) 17179869184)
          (cond (Nat.ble ((List.length (([] : List Int) ++ s.1)) + (List.length ((wr ((wr (x1.1 + x1.2.1)) - s.2.2.2.2.1)) :: ([] : List Int)))) 17179869184)
            (cond s.2.1
              (Option.bind (c_spec_l10Path (s.2.2.2.1, (((([] : List Int) ++ s.1) ++ ((wr ((wr (x1.1 + x1.2.1)) - s.2.2.2.2.1)) :: ([] : List Int))), (true, (s.2.2.1, ()))))) fun (x6 : Bool) =>
              (cond x6
                (some true)
                (kc (s.1, (s.2.1, (s.2.2.1, (s.2.2.2.1, (s.2.2.2.2.1, (s.2.2.2.2.2.1, (s.2.2.2.2.2.2.1, ((wr (s.2.2.2.2.2.2.2.1 + (1 : Int))), ())))))))))))
              (Option.bind (c_spec_l10Path (s.2.2.2.1, (((([] : List Int) ++ s.1) ++ ((wr ((wr (x1.1 + x1.2.1)) - s.2.2.2.2.1)) :: ([] : List Int))), ((decide (s.2.2.2.2.2.2.2.1 = s.2.2.1)), (s.2.2.1, ()))))) fun (x7 : Bool) =>
              (cond x7
                (some true)
                (kc (s.1, (s.2.1, (s.2.2.1, (s.2.2.2.1, (s.2.2.2.2.1, (s.2.2.2.2.2.1, (s.2.2.2.2.2.2.1, ((wr (s.2.2.2.2.2.2.2.1 + (1 : Int))), ()))))))))))))
            none)
          none)
        (kc (s.1, (s.2.1, (s.2.2.1, (s.2.2.2.1, (s.2.2.2.2.1, (s.2.2.2.2.2.1, (s.2.2.2.2.2.2.1, ((wr (s.2.2.2.2.2.2.2.1 + (1 : Int))), ())))))))))))))
    (ke (s.1, (s.2.1, (s.2.2.1, (s.2.2.2.1, (s.2.2.2.2.1, (s.2.2.2.2.2.1, (s.2.2.2.2.2.2.1, (s.2.2.2.2.2.2.2.1, ()))))))))))
def r_spec_l10Path (c_spec_l03Has : ((List Int) × Int × Unit → Option Bool)) (c_spec_l10Path : ((Int × Int × Int × List (Int × Int × Int)) × (List Int) × Bool × Int × Unit → Option Bool)) (N : Nat) (a0 : (Int × (Int × (Int × (List (Int × (Int × Int))))))) (a1 : (List Int)) (a2 : Bool) (a3 : Int) : Option Bool :=
  (Option.bind (getI a1 (wr ((((List.length a1) : Nat) : Int) - (1 : Int)))) fun (x1 : Int) =>
  (cond (decide ((((List.length a1) : Nat) : Int) > (1 : Int)))
    (cond (decide (x1 < a0.2.1))
      (cond a2
        (some true)
        (iterK (r_spec_l10Path_L0 c_spec_l03Has c_spec_l10Path N) N (a1, (a2, (a3, (a0, (x1, (a0.2.2.2, ((((List.length a0.2.2.2) : Nat) : Int), ((0 : Int), ())))))))) fun (_s2 : ((List Int) × (Bool × (Int × ((Int × (Int × (Int × (List (Int × (Int × Int)))))) × (Int × ((List (Int × (Int × Int))) × (Int × (Int × Unit))))))))) =>
        (some false)))
      (iterK (r_spec_l10Path_L0 c_spec_l03Has c_spec_l10Path N) N (a1, (a2, (a3, (a0, (x1, (a0.2.2.2, ((((List.length a0.2.2.2) : Nat) : Int), ((0 : Int), ())))))))) fun (_s3 : ((List Int) × (Bool × (Int × ((Int × (Int × (Int × (List (Int × (Int × Int)))))) × (Int × ((List (Int × (Int × Int))) × (Int × (Int × Unit))))))))) =>
      (some false)))
    (iterK (r_spec_l10Path_L0 c_spec_l03Has c_spec_l10Path N) N (a1, (a2, (a3, (a0, (x1, (a0.2.2.2, ((((List.length a0.2.2.2) : Nat) : Int), ((0 : Int), ())))))))) fun (_s4 : ((List Int) × (Bool × (Int × ((Int × (Int × (Int × (List (Int × (Int × Int)))))) × (Int × ((List (Int × (Int × Int))) × (Int × (Int × Unit))))))))) =>
    (some false))))

noncomputable def e_spec_l10Path_n : Nat → ((Int × Int × Int × List (Int × Int × Int)) × (List Int) × Bool × Int × Unit) → Option Bool
  | 0, _ => none
  | n + 1, a => r_spec_l10Path e_spec_l03Has (e_spec_l10Path_n n) N0 a.1 a.2.1 a.2.2.1 a.2.2.2.1
noncomputable def e_spec_l10Path (a : (Int × Int × Int × List (Int × Int × Int)) × (List Int) × Bool × Int × Unit) : Option Bool := e_spec_l10Path_n N0 a
def r_spec_l10Seen_L0 (c_spec_l10Path : ((Int × Int × Int × List (Int × Int × Int)) × (List Int) × Bool × Int × Unit → Option Bool)) (_N : Nat) (s : (Int × ((Int × (Int × (Int × (List (Int × (Int × Int)))))) × (Int × Unit)))) (kc ke : (Int × ((Int × (Int × (Int × (List (Int × (Int × Int)))))) × (Int × Unit))) → Option Bool) : Option Bool :=
  (cond (decide (s.2.2.1 < s.2.1.2.1))
    (Option.bind (c_spec_l10Path (s.2.1, ((s.2.2.1 :: ([] : List Int)), (false, (s.1, ()))))) fun (x1 : Bool) =>
    (cond x1
      (some true)
      (kc (s.1, (s.2.1, ((wr (s.2.2.1 + (1 : Int))), ()))))))
    (ke (s.1, (s.2.1, (s.2.2.1, ())))))
def r_spec_l10Seen (c_spec_l10Path : ((Int × Int × Int × List (Int × Int × Int)) × (List Int) × Bool × Int × Unit → Option Bool)) (N : Nat) (a0 : (Int × (Int × (Int × (List (Int × (Int × Int))))))) (a1 : Int) : Option Bool :=
  (iterK (r_spec_l10Seen_L0 c_spec_l10Path N) N (a1, (a0, ((0 : Int), ()))) fun (_s1 : (Int × ((Int × (Int × (Int × (List (Int × (Int × Int)))))) × (Int × Unit)))) =>
  (some false))

noncomputable def e_spec_l10Seen (a : (Int × Int × Int × List (Int × Int × Int)) × Int × Unit) : Option Bool := r_spec_l10Seen e_spec_l10Path N0 a.1 a.2.1
def r_spec_BlindWires_L0 (_c_spec_NetOk : ((Int × Int × Int × List (Int × Int × Int)) × Unit → Option Bool)) (c_spec_l10Seen : ((Int × Int × Int × List (Int × Int × Int)) × Int × Unit → Option Bool)) (_N : Nat) (s : ((Int × (Int × (Int × (List (Int × (Int × Int)))))) × ((List Int) × (Int × (Int × Unit))))) (kc ke : ((Int × (Int × (Int × (List (Int × (Int × Int)))))) × ((List Int) × (Int × (Int × Unit)))) → Option (List Int)) : Option (List Int) :=
  (cond (decide (s.2.2.2.1 < s.2.2.1))
    (Option.bind (c_spec_l10Seen (s.1, (s.2.2.2.1, ()))) fun (x1 : Bool) =>
    (cond (!x1)
      (cond (Nat.ble ((List.length s.2.1) + (List.length (s.2.2.2.1 :: ([] : List Int)))) 17179869184)
        (kc (s.1, ((s.2.1 ++ (s.2.2.2.1 :: ([] : List Int))), (s.2.2.1, ((wr (s.2.2.2.1 + (1 : Int))), ())))))
        none)
      (kc (s.1, (s.2.1, (s.2.2.1, ((wr (s.2.2.2.1 + (1 : Int))), ())))))))
    (ke (s.1, (s.2.1, (s.2.2.1, (s.2.2.2.1, ()))))))
def r_spec_BlindWires (c_spec_NetOk : ((Int × Int × Int × List (Int × Int × Int)) × Unit → Option Bool)) (c_spec_l10Seen : ((Int × Int × Int × List (Int × Int × Int)) × Int × Unit → Option Bool)) (N : Nat) (a0 : (Int × (Int × (Int × (List (Int × (Int × Int))))))) : Option (List Int) :=
  (Option.bind (c_spec_NetOk (a0, ())) fun (x1 : Bool) =>
  (cond (!x1)
    (some ([] : List Int))
    (iterK (r_spec_BlindWires_L0 c_spec_NetOk c_spec_l10Seen N) N (a0, (([] : List Int), ((((List.length a0.2.2.2) : Nat) : Int), ((0 : Int), ())))) fun (s2 : ((Int × (Int × (Int × (List (Int × (Int × Int)))))) × ((List Int) × (Int × (Int × Unit))))) =>
    (some s2.2.1))))

noncomputable def e_spec_BlindWires (a : (Int × Int × Int × List (Int × Int × Int)) × Unit) : Option (List Int) := r_spec_BlindWires e_spec_NetOk e_spec_l10Seen N0 a.1
def r_slices_Index_bool_L0 (_N : Nat) (s : ((List Bool) × (Bool × (Int × (Int × Unit))))) (kc ke : ((List Bool) × (Bool × (Int × (Int × Unit)))) → Option Int) : Option Int :=
  (cond (decide (s.2.2.2.1 < s.2.2.1))
    (Option.bind (getI s.1 s.2.2.2.1) fun (x1 : Bool) =>
    (cond (beqB s.2.1 x1)
      (some s.2.2.2.1)
      (kc (s.1, (s.2.1, (s.2.2.1, ((wr (s.2.2.2.1 + (1 : Int))), ())))))))
    (ke (s.1, (s.2.1, (s.2.2.1, (s.2.2.2.1, ()))))))
def r_slices_Index_bool (N : Nat) (a0 : (List Bool)) (a1 : Bool) : Option Int :=
  (iterK (r_slices_Index_bool_L0 N) N (a0, (a1, ((((List.length a0) : Nat) : Int), ((0 : Int), ())))) fun (_s1 : ((List Bool) × (Bool × (Int × (Int × Unit))))) =>
  (some (-(1 : Int))))

noncomputable def e_slices_Index_bool (a : (List Bool) × Bool × Unit) : Option Int := r_slices_Index_bool N0 a.1 a.2.1
def r_slices_Contains_bool (c_slices_Index_bool : ((List Bool) × Bool × Unit → Option Int)) (_N : Nat) (a0 : (List Bool)) (a1 : Bool) : Option Bool :=
  (Option.bind (c_slices_Index_bool (a0, (a1, ()))) fun (x1 : Int) =>
  (some (decide (x1 ≥ (0 : Int)))))

noncomputable def e_slices_Contains_bool (a : (List Bool) × Bool × Unit) : Option Bool := r_slices_Contains_bool e_slices_Index_bool N0 a.1 a.2.1
def r_cmp_isNaN_int (_N : Nat) (a0 : Int) : Option Bool :=
  (some (!(decide (a0 = a0))))

noncomputable def e_cmp_isNaN_int (a : Int × Unit) : Option Bool := r_cmp_isNaN_int N0 a.1
def r_cmp_Compare_int (c_cmp_isNaN_int : (Int × Unit → Option Bool)) (_N : Nat) (a0 : Int) (a1 : Int) : Option Int :=
  (Option.bind (c_cmp_isNaN_int (a0, ())) fun (x1 : Bool) =>
  (Option.bind (c_cmp_isNaN_int (a1, ())) fun (x2 : Bool) =>
  (cond x1
    (cond x2
      (some (0 : Int))
      (some (-(1 : Int))))
    (cond x2
      (some (1 : Int))
      (cond (decide (a0 < a1))
        (some (-(1 : Int)))
        (cond (decide (a0 > a1))
          (some (1 : Int))
          (some (0 : Int))))))))

noncomputable def e_cmp_Compare_int (a : Int × Int × Unit) : Option Int := r_cmp_Compare_int e_cmp_isNaN_int N0 a.1 a.2.1
def r_cmp_Or_int_L0 (_N : Nat) (s : (Int × ((List Int) × (Int × (Int × Unit))))) (kc ke : (Int × ((List Int) × (Int × (Int × Unit)))) → Option Int) : Option Int :=
  (cond (decide (s.2.2.2.1 < s.2.2.1))
    (Option.bind (getI s.2.1 s.2.2.2.1) fun (x1 : Int) =>
    (cond (!(decide (x1 = s.1)))
      (some x1)
      (kc (s.1, (s.2.1, (s.2.2.1, ((wr (s.2.2.2.1 + (1 : Int))), ())))))))
    (ke (s.1, (s.2.1, (s.2.2.1, (s.2.2.2.1, ()))))))
def r_cmp_Or_int (N : Nat) (a0 : (List Int)) : Option Int :=
  (iterK (r_cmp_Or_int_L0 N) N ((0 : Int), (a0, ((((List.length a0) : Nat) : Int), ((0 : Int), ())))) fun (s1 : (Int × ((List Int) × (Int × (Int × Unit))))) =>
  (some s1.1))

noncomputable def e_cmp_Or_int (a : (List Int) × Unit) : Option Int := r_cmp_Or_int N0 a.1
def r_impl_byEnds (c_cmp_Compare_int : (Int × Int × Unit → Option Int)) (c_cmp_Or_int : ((List Int) × Unit → Option Int)) (_N : Nat) (a0 : (Int × (Int × Int))) (a1 : (Int × (Int × Int))) : Option Int :=
  (Option.bind (c_cmp_Compare_int (a0.1, (a1.1, ()))) fun (x1 : Int) =>
  (Option.bind (c_cmp_Compare_int (a0.2.1, (a1.2.1, ()))) fun (x2 : Int) =>
  (Option.bind (c_cmp_Or_int ((x1 :: (x2 :: ([] : List Int))), ())) fun (x3 : Int) =>
  (some x3))))

noncomputable def e_impl_byEnds (a : (Int × Int × Int) × (Int × Int × Int) × Unit) : Option Int := r_impl_byEnds e_cmp_Compare_int e_cmp_Or_int N0 a.1 a.2.1
def r_impl_NetOk_L4 (_c_slices_Contains_bool : ((List Bool) × Bool × Unit → Option Bool)) (_c_impl_byEnds : ((Int × Int × Int) × (Int × Int × Int) × Unit → Option Int)) (_N : Nat) (s : ((Int × (Int × (Int × (List (Int × (Int × Int)))))) × ((List Bool) × (Int × (Int × ((List (Int × (Int × Int))) × (Int × (Int × Unit)))))))) (kc ke : ((Int × (Int × (Int × (List (Int × (Int × Int)))))) × ((List Bool) × (Int × (Int × ((List (Int × (Int × Int))) × (Int × (Int × Unit))))))) → Option Bool) : Option Bool :=
  (cond (decide (s.2.2.2.2.2.2.1 < s.2.2.2.2.2.1))
    (Option.bind (getI s.2.2.2.2.1 s.2.2.2.2.2.2.1) fun (x1 : (Int × (Int × Int))) =>
    (Option.bind (getI s.2.1 x1.1) fun (x2 : Bool) =>
    (cond x2
      (Option.bind (getI s.2.1 x1.1) fun (_x3 : Bool) =>
      (Option.bind (getI (List.set s.2.1 (Int.toNat x1.1) true) x1.2.1) fun (_x4 : Bool) =>
      (kc (s.1, ((List.set (List.set s.2.1 (Int.toNat x1.1) true) (Int.toNat x1.2.1) true), (s.2.2.1, (s.2.2.2.1, (s.2.2.2.2.1, (s.2.2.2.2.2.1, ((wr (s.2.2.2.2.2.2.1 + (1 : Int))), ()))))))))))
      (Option.bind (getI s.2.1 x1.2.1) fun (x5 : Bool) =>
      (cond x5
        (Option.bind (getI s.2.1 x1.1) fun (_x6 : Bool) =>
        (Option.bind (getI (List.set s.2.1 (Int.toNat x1.1) true) x1.2.1) fun (_x7 : Bool) =>
        (kc (s.1, ((List.set (List.set s.2.1 (Int.toNat x1.1) true) (Int.toNat x1.2.1) true), (s.2.2.1, (s.2.2.2.1, (s.2.2.2.2.1, (s.2.2.2.2.2.1, ((wr (s.2.2.2.2.2.2.1 + (1 : Int))), ()))))))))))
        (kc (s.1, (s.2.1, (s.2.2.1, (s.2.2.2.1, (s.2.2.2.2.1, (s.2.2.2.2.2.1, ((wr (s.2.2.2.2.2.2.1 + (1 : Int))), ())))))))))))))
    (ke (s.1, (s.2.1, (s.2.2.1, (s.2.2.2.1, (s.2.2.2.2.1, (s.2.2.2.2.2.1, (s.2.2.2.2.2.2.1, ())))))))))
def r_impl_NetOk_L2 (c_slices_Contains_bool : ((List Bool) × Bool × Unit → Option Bool)) (c_impl_byEnds : ((Int × Int × Int) × (Int × Int × Int) × Unit → Option Int)) (N : Nat) (s : ((Int × (Int × (Int × (List (Int × (Int × Int)))))) × ((List Bool) × (Int × (Int × Unit))))) (kc ke : ((Int × (Int × (Int × (List (Int × (Int × Int)))))) × ((List Bool) × (Int × (Int × Unit)))) → Option Bool) : Option Bool :=
  (cond (decide (s.2.2.2.1 < s.2.2.1))
    (iterK (r_impl_NetOk_L4 c_slices_Contains_bool c_impl_byEnds N) N (s.1, (s.2.1, (s.2.2.1, (s.2.2.2.1, (s.1.2.2.2, ((((List.length s.1.2.2.2) : Nat) : Int), ((0 : Int), ()))))))) fun (s1 : ((Int × (Int × (Int × (List (Int × (Int × Int)))))) × ((List Bool) × (Int × (Int × ((List (Int × (Int × Int))) × (Int × (Int × Unit)))))))) =>
    (kc (s1.1, (s1.2.1, (s1.2.2.1, ((wr (s1.2.2.2.1 + (1 : Int))), ()))))))
    (ke (s.1, (s.2.1, (s.2.2.1, (s.2.2.2.1, ()))))))
def r_impl_NetOk_L0 (_c_slices_Contains_bool : ((List Bool) × Bool × Unit → Option Bool)) (c_impl_byEnds : ((Int × Int × Int) × (Int × Int × Int) × Unit → Option Int)) (_N : Nat) (s : ((Int × (Int × (Int × (List (Int × (Int × Int)))))) × ((List (Int × (Int × Int))) × (Int × (Int × Unit))))) (kc ke : ((Int × (Int × (Int × (List (Int × (Int × Int)))))) × ((List (Int × (Int × Int))) × (Int × (Int × Unit)))) → Option Bool) : Option Bool :=
  (cond (decide (s.2.2.2.1 < s.2.2.1))
    (Option.bind (getI s.2.1 s.2.2.2.1) fun (x1 : (Int × (Int × Int))) =>
    (cond (decide (x1.1 < (0 : Int)))
      (some false)
      (cond (decide (x1.1 ≥ x1.2.1))
        (some false)
        (cond (decide (x1.2.1 ≥ s.1.1))
          (some false)
          (cond (decide (x1.2.2 < (1 : Int)))
            (some false)
            (cond (decide (x1.2.2 > (200 : Int)))
              (some false)
              (cond (decide (s.2.2.2.1 > (0 : Int)))
                (Option.bind (getI s.1.2.2.2 (wr (s.2.2.2.1 - (1 : Int)))) fun (x2 : (Int × (Int × Int))) =>
                (Option.bind (c_impl_byEnds (x2, (x1, ()))) fun (x3 : Int) =>
                (cond (decide (x3 ≥ (0 : Int)))
                  (some false)
                  (kc (s.1, (s.2.1, (s.2.2.1, ((wr (s.2.2.2.1 + (1 : Int))), ()))))))))
                (kc (s.1, (s.2.1, (s.2.2.1, ((wr (s.2.2.2.1 + (1 : Int))), ()))))))))))))
    (ke (s.1, (s.2.1, (s.2.2.1, (s.2.2.2.1, ()))))))
def r_impl_NetOk (c_slices_Contains_bool : ((List Bool) × Bool × Unit → Option Bool)) (c_impl_byEnds : ((Int × Int × Int) × (Int × Int × Int) × Unit → Option Int)) (N : Nat) (a0 : (Int × (Int × (Int × (List (Int × (Int × Int))))))) : Option Bool :=
  (cond (decide (a0.1 < (1 : Int)))
    (some false)
    (cond (decide (a0.1 > (5 : Int)))
      (some false)
      (cond (decide (a0.2.1 < (1 : Int)))
        (some false)
        (cond (decide (a0.2.1 > a0.1))
          (some false)
          (cond (decide (a0.2.2.1 < (1 : Int)))
            (some false)
            (cond (decide (a0.2.2.1 > (1000 : Int)))
              (some false)
              (iterK (r_impl_NetOk_L0 c_slices_Contains_bool c_impl_byEnds N) N (a0, (a0.2.2.2, ((((List.length a0.2.2.2) : Nat) : Int), ((0 : Int), ())))) fun (s1 : ((Int × (Int × (Int × (List (Int × (Int × Int)))))) × ((List (Int × (Int × Int))) × (Int × (Int × Unit))))) =>
              (cond (decide ((0 : Int) ≤ s1.1.1))
                (cond (Nat.ble (Int.toNat s1.1.1) 17179869184)
                  (Option.bind (getI (List.replicate (Int.toNat s1.1.1) false) (0 : Int)) fun (_x2 : Bool) =>
                  (iterK (r_impl_NetOk_L2 c_slices_Contains_bool c_impl_byEnds N) N (s1.1, ((List.set (List.replicate (Int.toNat s1.1.1) false) (Int.toNat (0 : Int)) true), (s1.1.1, ((0 : Int), ())))) fun (s3 : ((Int × (Int × (Int × (List (Int × (Int × Int)))))) × ((List Bool) × (Int × (Int × Unit))))) =>
                  (Option.bind (c_slices_Contains_bool (s3.2.1, (false, ()))) fun (x4 : Bool) =>
                  (some (!x4)))))
                  none)
                none))))))))

noncomputable def e_impl_NetOk (a : (Int × Int × Int × List (Int × Int × Int)) × Unit) : Option Bool := r_impl_NetOk e_slices_Contains_bool e_impl_byEnds N0 a.1
def r_impl_onPath_L0 (m_impl_onPath : ((List Bool) → ((Int × Int × Int × List (Int × Int × Int)) × Int × (Int × Int × Int) × Bool × Int × Unit) → Option ((List Bool) × Bool))) (_N : Nat) (s : (Int × ((List Bool) × (Bool × (Int × ((Int × (Int × (Int × (List (Int × (Int × Int)))))) × ((Int × (Int × Int)) × (Bool × ((List (Int × (Int × Int))) × (Int × (Int × Unit))))))))))) (kc ke : (Int × ((List Bool) × (Bool × (Int × ((Int × (Int × (Int × (List (Int × (Int × Int)))))) × ((Int × (Int × Int)) × (Bool × ((List (Int × (Int × Int))) × (Int × (Int × Unit)))))))))) → Option ((List Bool) × Bool)) : Option ((List Bool) × Bool) :=
  (cond (decide (s.2.2.2.2.2.2.2.2.2.1 < s.2.2.2.2.2.2.2.2.1))
    (Option.bind (getI s.2.2.2.2.2.2.2.1 s.2.2.2.2.2.2.2.2.2.1) fun (x1 : (Int × (Int × Int))) =>
    (cond (decide (x1.1 = s.1))
      (Option.bind (getI s.2.1 (wr ((wr (x1.1 + x1.2.1)) - s.1))) fun (x2 : Bool) =>
      (cond (!x2)
        (cond s.2.2.2.2.2.2.1
          (kc (s.1, (s.2.1, (s.2.2.1, (s.2.2.2.1, (s.2.2.2.2.1, (s.2.2.2.2.2.1, (true, (s.2.2.2.2.2.2.2.1, (s.2.2.2.2.2.2.2.2.1, ((wr (s.2.2.2.2.2.2.2.2.2.1 + (1 : Int))), ())))))))))))
          (cond s.2.2.1
            (Option.bind (m_impl_onPath s.2.1 (s.2.2.2.2.1, ((wr ((wr (x1.1 + x1.2.1)) - s.1)), (s.2.2.2.2.2.1, (true, (s.2.2.2.1, ())))))) fun (x3 : ((List Bool) × Bool)) =>
            (kc (s.1, (x3.1, (s.2.2.1, (s.2.2.2.1, (s.2.2.2.2.1, (s.2.2.2.2.2.1, (x3.2, (s.2.2.2.2.2.2.2.1, (s.2.2.2.2.2.2.2.2.1, ((wr (s.2.2.2.2.2.2.2.2.2.1 + (1 : Int))), ()))))))))))))
            (Option.bind (m_impl_onPath s.2.1 (s.2.2.2.2.1, ((wr ((wr (x1.1 + x1.2.1)) - s.1)), (s.2.2.2.2.2.1, (((intEq x1.1 s.2.2.2.2.2.1.1) && ((intEq x1.2.1 s.2.2.2.2.2.1.2.1) && (intEq x1.2.2 s.2.2.2.2.2.1.2.2))), (s.2.2.2.1, ())))))) fun (x4 : ((List Bool) × Bool)) =>
            (kc (s.1, (x4.1, (s.2.2.1, (s.2.2.2.1, (s.2.2.2.2.1, (s.2.2.2.2.2.1, (x4.2, (s.2.2.2.2.2.2.2.1, (s.2.2.2.2.2.2.2.2.1, ((wr (s.2.2.2.2.2.2.2.2.2.1 + (1 : Int))), ()))))))))))))))
        (kc (s.1, (s.2.1, (s.2.2.1, (s.2.2.2.1, (s.2.2.2.2.1, (s.2.2.2.2.2.1, (s.2.2.2.2.2.2.1, (s.2.2.2.2.2.2.2.1, (s.2.2.2.2.2.2.2.2.1, ((wr (s.2.2.2.2.2.2.2.2.2.1 + (1 : Int))), ())))))))))))))
      (cond (decide (x1.2.1 = s.1))
        (Option.bind (getI s.2.1 (wr ((wr (x1.1 + x1.2.1)) - s.1))) fun (x5 : Bool) =>
        (cond (!x5)
          (cond s.2.2.2.2.2.2.1
            (kc (s.1, (s.2.1, (s.2.2.1, (s.2.2.2.1, (s.2.2.2.2.1, (s.2.2.2.2.2.1, (true, (s.2.2.2.2.2.2.2.1, (s.2.2.2.2.2.2.2.2.1, ((wr (s.2.2.2.2.2.2.2.2.2.1 + (1 : Int))), ())))))))))))
            (cond s.2.2.1
              (Option.bind (m_impl_onPath s.2.1 (s.2.2.2.2.1, ((wr ((wr (x1.1 + x1.2.1)) - s.1)), (s.2.2.2.2.2.1, (true, (s.2.2.2.1, ())))))) fun (x6 : ((List Bool) × Bool)) =>
              (kc (s.1, (x6.1, (s.2.2.1, (s.2.2.2.1, (s.2.2.2.2.1, (s.2.2.2.2.2.1, (x6.2, (s.2.2.2.2.2.2.2.1, (s.2.2.2.2.2.2.2.2.1, ((wr (s.2.2.2.2.2.2.2.2.2.1 + (1 : Int))), ()))))))))))))
              (Option.bind (m_impl_onPath s.2.1 (s.2.2.2.2.1, ((wr ((wr (x1.1 + x1.2.1)) - s.1)), (s.2.2.2.2.2.1, (((intEq x1.1 s.2.2.2.2.2.1.1) && ((intEq x1.2.1 s.2.2.2.2.2.1.2.1) && (intEq x1.2.2 s.2.2.2.2.2.1.2.2))), (s.2.2.2.1, ())))))) fun (x7 : ((List Bool) × Bool)) =>
              (kc (s.1, (x7.1, (s.2.2.1, (s.2.2.2.1, (s.2.2.2.2.1, (s.2.2.2.2.2.1, (x7.2, (s.2.2.2.2.2.2.2.1, (s.2.2.2.2.2.2.2.2.1, ((wr (s.2.2.2.2.2.2.2.2.2.1 + (1 : Int))), ()))))))))))))))
          (kc (s.1, (s.2.1, (s.2.2.1, (s.2.2.2.1, (s.2.2.2.2.1, (s.2.2.2.2.2.1, (s.2.2.2.2.2.2.1, (s.2.2.2.2.2.2.2.1, (s.2.2.2.2.2.2.2.2.1, ((wr (s.2.2.2.2.2.2.2.2.2.1 + (1 : Int))), ())))))))))))))
        (kc (s.1, (s.2.1, (s.2.2.1, (s.2.2.2.1, (s.2.2.2.2.1, (s.2.2.2.2.2.1, (s.2.2.2.2.2.2.1, (s.2.2.2.2.2.2.2.1, (s.2.2.2.2.2.2.2.2.1, ((wr (s.2.2.2.2.2.2.2.2.2.1 + (1 : Int))), ()))))))))))))))
    (ke (s.1, (s.2.1, (s.2.2.1, (s.2.2.2.1, (s.2.2.2.2.1, (s.2.2.2.2.2.1, (s.2.2.2.2.2.2.1, (s.2.2.2.2.2.2.2.1, (s.2.2.2.2.2.2.2.2.1, (s.2.2.2.2.2.2.2.2.2.1, ()))))))))))))
def r_impl_onPath (m_impl_onPath : ((List Bool) → ((Int × Int × Int × List (Int × Int × Int)) × Int × (Int × Int × Int) × Bool × Int × Unit) → Option ((List Bool) × Bool))) (N : Nat) (a0 : (Int × (Int × (Int × (List (Int × (Int × Int))))))) (a1 : Int) (a2 : (List Bool)) (a3 : (Int × (Int × Int))) (a4 : Bool) (a5 : Int) : Option ((List Bool) × Bool) :=
  (cond (decide (a1 < a0.2.1))
    (cond (!(decide (a1 = a5)))
      (cond a4
        (some (a2, true))
        (Option.bind (getI a2 a1) fun (_x1 : Bool) =>
        (iterK (r_impl_onPath_L0 m_impl_onPath N) N (a1, ((List.set a2 (Int.toNat a1) true), (a4, (a5, (a0, (a3, (false, (a0.2.2.2, ((((List.length a0.2.2.2) : Nat) : Int), ((0 : Int), ())))))))))) fun (s2 : (Int × ((List Bool) × (Bool × (Int × ((Int × (Int × (Int × (List (Int × (Int × Int)))))) × ((Int × (Int × Int)) × (Bool × ((List (Int × (Int × Int))) × (Int × (Int × Unit))))))))))) =>
        (Option.bind (getI s2.2.1 s2.1) fun (_x3 : Bool) =>
        (some ((List.set s2.2.1 (Int.toNat s2.1) false), s2.2.2.2.2.2.2.1))))))
      (Option.bind (getI a2 a1) fun (_x4 : Bool) =>
      (iterK (r_impl_onPath_L0 m_impl_onPath N) N (a1, ((List.set a2 (Int.toNat a1) true), (a4, (a5, (a0, (a3, (false, (a0.2.2.2, ((((List.length a0.2.2.2) : Nat) : Int), ((0 : Int), ())))))))))) fun (s5 : (Int × ((List Bool) × (Bool × (Int × ((Int × (Int × (Int × (List (Int × (Int × Int)))))) × ((Int × (Int × Int)) × (Bool × ((List (Int × (Int × Int))) × (Int × (Int × Unit))))))))))) =>
      (Option.bind (getI s5.2.1 s5.1) fun (_x6 : Bool) =>
      (some ((List.set s5.2.1 (Int.toNat s5.1) false), s5.2.2.2.2.2.2.1))))))
    (Option.bind (getI a2 a1) fun (_x7 : Bool) =>
    (iterK (r_impl_onPath_L0 m_impl_onPath N) N (a1, ((List.set a2 (Int.toNat a1) true), (a4, (a5, (a0, (a3, (false, (a0.2.2.2, ((((List.length a0.2.2.2) : Nat) : Int), ((0 : Int), ())))))))))) fun (s8 : (Int × ((List Bool) × (Bool × (Int × ((Int × (Int × (Int × (List (Int × (Int × Int)))))) × ((Int × (Int × Int)) × (Bool × ((List (Int × (Int × Int))) × (Int × (Int × Unit))))))))))) =>
    (Option.bind (getI s8.2.1 s8.1) fun (_x9 : Bool) =>
    (some ((List.set s8.2.1 (Int.toNat s8.1) false), s8.2.2.2.2.2.2.1))))))

noncomputable def e_impl_onPath_n : Nat → (List Bool) → ((Int × Int × Int × List (Int × Int × Int)) × Int × (Int × Int × Int) × Bool × Int × Unit) → Option ((List Bool) × Bool)
  | 0, _, _ => none
  | n + 1, y, a => r_impl_onPath (e_impl_onPath_n n) N0 a.1 a.2.1 y a.2.2.1 a.2.2.2.1 a.2.2.2.2.1
noncomputable def e_impl_onPath (y : (List Bool)) (a : (Int × Int × Int × List (Int × Int × Int)) × Int × (Int × Int × Int) × Bool × Int × Unit) : Option ((List Bool) × Bool) := e_impl_onPath_n N0 y a
def r_impl_BlindWires_L2 (_c_impl_NetOk : ((Int × Int × Int × List (Int × Int × Int)) × Unit → Option Bool)) (m_impl_onPath : ((List Bool) → ((Int × Int × Int × List (Int × Int × Int)) × Int × (Int × Int × Int) × Bool × Int × Unit) → Option ((List Bool) × Bool))) (_N : Nat) (s : ((Int × (Int × (Int × (List (Int × (Int × Int)))))) × ((List Int) × (Int × ((Int × (Int × Int)) × (Bool × ((List (Int × (Int × Int))) × (Int × (Int × (Int × (Int × Unit))))))))))) (kc ke : ((Int × (Int × (Int × (List (Int × (Int × Int)))))) × ((List Int) × (Int × ((Int × (Int × Int)) × (Bool × ((List (Int × (Int × Int))) × (Int × (Int × (Int × (Int × Unit)))))))))) → Option (List Int)) : Option (List Int) :=
  (cond (decide (s.2.2.2.2.2.2.2.2.2.1 < s.2.2.2.2.2.2.2.2.1))
    (cond s.2.2.2.2.1
      (kc (s.1, (s.2.1, (s.2.2.1, (s.2.2.2.1, (true, (s.2.2.2.2.2.1, (s.2.2.2.2.2.2.1, (s.2.2.2.2.2.2.2.1, (s.2.2.2.2.2.2.2.2.1, ((wr (s.2.2.2.2.2.2.2.2.2.1 + (1 : Int))), ())))))))))))
      (cond (decide ((0 : Int) ≤ s.1.1))
        (cond (Nat.ble (Int.toNat s.1.1) 17179869184)
          (Option.bind (m_impl_onPath (List.replicate (Int.toNat s.1.1) false) (s.1, (s.2.2.2.2.2.2.2.2.2.1, (s.2.2.2.1, (false, (s.2.2.2.2.2.2.2.2.2.1, ())))))) fun (x1 : ((List Bool) × Bool)) =>
          (kc (s.1, (s.2.1, (s.2.2.1, (s.2.2.2.1, (x1.2, (s.2.2.2.2.2.1, (s.2.2.2.2.2.2.1, (s.2.2.2.2.2.2.2.1, (s.2.2.2.2.2.2.2.2.1, ((wr (s.2.2.2.2.2.2.2.2.2.1 + (1 : Int))), ()))))))))))))
          none)
        none))
    (ke (s.1, (s.2.1, (s.2.2.1, (s.2.2.2.1, (s.2.2.2.2.1, (s.2.2.2.2.2.1, (s.2.2.2.2.2.2.1, (s.2.2.2.2.2.2.2.1, (s.2.2.2.2.2.2.2.2.1, (s.2.2.2.2.2.2.2.2.2.1, ()))))))))))))
def r_impl_BlindWires_L0 (c_impl_NetOk : ((Int × Int × Int × List (Int × Int × Int)) × Unit → Option Bool)) (m_impl_onPath : ((List Bool) → ((Int × Int × Int × List (Int × Int × Int)) × Int × (Int × Int × Int) × Bool × Int × Unit) → Option ((List Bool) × Bool))) (N : Nat) (s : ((Int × (Int × (Int × (List (Int × (Int × Int)))))) × ((List Int) × ((List (Int × (Int × Int))) × (Int × (Int × Unit)))))) (kc ke : ((Int × (Int × (Int × (List (Int × (Int × Int)))))) × ((List Int) × ((List (Int × (Int × Int))) × (Int × (Int × Unit))))) → Option (List Int)) : Option (List Int) :=
  (cond (decide (s.2.2.2.2.1 < s.2.2.2.1))
    (Option.bind (getI s.2.2.1 s.2.2.2.2.1) fun (x1 : (Int × (Int × Int))) =>
    (iterK (r_impl_BlindWires_L2 c_impl_NetOk m_impl_onPath N) N (s.1, (s.2.1, (s.2.2.2.2.1, (x1, (false, (s.2.2.1, (s.2.2.2.1, (s.2.2.2.2.1, (s.1.2.1, ((0 : Int), ())))))))))) fun (s2 : ((Int × (Int × (Int × (List (Int × (Int × Int)))))) × ((List Int) × (Int × ((Int × (Int × Int)) × (Bool × ((List (Int × (Int × Int))) × (Int × (Int × (Int × (Int × Unit))))))))))) =>
    (cond (!s2.2.2.2.2.1)
      (cond (Nat.ble ((List.length s2.2.1) + (List.length (s2.2.2.1 :: ([] : List Int)))) 17179869184)
        (kc (s2.1, ((s2.2.1 ++ (s2.2.2.1 :: ([] : List Int))), (s2.2.2.2.2.2.1, (s2.2.2.2.2.2.2.1, ((wr (s2.2.2.2.2.2.2.2.1 + (1 : Int))), ()))))))
        none)
      (kc (s2.1, (s2.2.1, (s2.2.2.2.2.2.1, (s2.2.2.2.2.2.2.1, ((wr (s2.2.2.2.2.2.2.2.1 + (1 : Int))), ())))))))))
    (ke (s.1, (s.2.1, (s.2.2.1, (s.2.2.2.1, (s.2.2.2.2.1, ())))))))
def r_impl_BlindWires (c_impl_NetOk : ((Int × Int × Int × List (Int × Int × Int)) × Unit → Option Bool)) (m_impl_onPath : ((List Bool) → ((Int × Int × Int × List (Int × Int × Int)) × Int × (Int × Int × Int) × Bool × Int × Unit) → Option ((List Bool) × Bool))) (N : Nat) (a0 : (Int × (Int × (Int × (List (Int × (Int × Int))))))) : Option (List Int) :=
  (Option.bind (c_impl_NetOk (a0, ())) fun (x1 : Bool) =>
  (cond (!x1)
    (some ([] : List Int))
    (iterK (r_impl_BlindWires_L0 c_impl_NetOk m_impl_onPath N) N (a0, (([] : List Int), (a0.2.2.2, ((((List.length a0.2.2.2) : Nat) : Int), ((0 : Int), ()))))) fun (s2 : ((Int × (Int × (Int × (List (Int × (Int × Int)))))) × ((List Int) × ((List (Int × (Int × Int))) × (Int × (Int × Unit)))))) =>
    (some s2.2.1))))

noncomputable def e_impl_BlindWires (a : (Int × Int × Int × List (Int × Int × Int)) × Unit) : Option (List Int) := r_impl_BlindWires e_impl_NetOk e_impl_onPath N0 a.1
def r_laws_eqIntS_L0 (_N : Nat) (s : ((List Int) × ((List Int) × (Int × Unit)))) (kc ke : ((List Int) × ((List Int) × (Int × Unit))) → Option Bool) : Option Bool :=
  (cond (decide (s.2.2.1 < (((List.length s.1) : Nat) : Int)))
    (Option.bind (getI s.1 s.2.2.1) fun (x1 : Int) =>
    (Option.bind (getI s.2.1 s.2.2.1) fun (x2 : Int) =>
    (cond (!(decide (x1 = x2)))
      (some false)
      (kc (s.1, (s.2.1, ((wr (s.2.2.1 + (1 : Int))), ())))))))
    (ke (s.1, (s.2.1, (s.2.2.1, ())))))
def r_laws_eqIntS (N : Nat) (a0 : (List Int)) (a1 : (List Int)) : Option Bool :=
  (cond (!(decide ((((List.length a0) : Nat) : Int) = (((List.length a1) : Nat) : Int))))
    (some false)
    (iterK (r_laws_eqIntS_L0 N) N (a0, (a1, ((0 : Int), ()))) fun (_s1 : ((List Int) × ((List Int) × (Int × Unit)))) =>
    (some true)))

noncomputable def e_laws_eqIntS (a : (List Int) × (List Int) × Unit) : Option Bool := r_laws_eqIntS N0 a.1 a.2.1
def r_laws_eqWire (_N : Nat) (a0 : (Int × (Int × Int))) (a1 : (Int × (Int × Int))) : Option Bool :=
  (cond (!(decide (a0.1 = a1.1)))
    (some false)
    (cond (!(decide (a0.2.1 = a1.2.1)))
      (some false)
      (cond (!(decide (a0.2.2 = a1.2.2)))
        (some false)
        (some true))))

noncomputable def e_laws_eqWire (a : (Int × Int × Int) × (Int × Int × Int) × Unit) : Option Bool := r_laws_eqWire N0 a.1 a.2.1
def r_laws_eqWireS_L0 (c_laws_eqWire : ((Int × Int × Int) × (Int × Int × Int) × Unit → Option Bool)) (_N : Nat) (s : ((List (Int × (Int × Int))) × ((List (Int × (Int × Int))) × (Int × Unit)))) (kc ke : ((List (Int × (Int × Int))) × ((List (Int × (Int × Int))) × (Int × Unit))) → Option Bool) : Option Bool :=
  (cond (decide (s.2.2.1 < (((List.length s.1) : Nat) : Int)))
    (Option.bind (getI s.1 s.2.2.1) fun (x1 : (Int × (Int × Int))) =>
    (Option.bind (getI s.2.1 s.2.2.1) fun (x2 : (Int × (Int × Int))) =>
    (Option.bind (c_laws_eqWire (x1, (x2, ()))) fun (x3 : Bool) =>
    (cond (!x3)
      (some false)
      (kc (s.1, (s.2.1, ((wr (s.2.2.1 + (1 : Int))), ()))))))))
    (ke (s.1, (s.2.1, (s.2.2.1, ())))))
def r_laws_eqWireS (c_laws_eqWire : ((Int × Int × Int) × (Int × Int × Int) × Unit → Option Bool)) (N : Nat) (a0 : (List (Int × (Int × Int)))) (a1 : (List (Int × (Int × Int)))) : Option Bool :=
  (cond (!(decide ((((List.length a0) : Nat) : Int) = (((List.length a1) : Nat) : Int))))
    (some false)
    (iterK (r_laws_eqWireS_L0 c_laws_eqWire N) N (a0, (a1, ((0 : Int), ()))) fun (_s1 : ((List (Int × (Int × Int))) × ((List (Int × (Int × Int))) × (Int × Unit)))) =>
    (some true)))

noncomputable def e_laws_eqWireS (a : (List (Int × Int × Int)) × (List (Int × Int × Int)) × Unit) : Option Bool := r_laws_eqWireS e_laws_eqWire N0 a.1 a.2.1
def r_laws_eqNet (c_laws_eqWireS : ((List (Int × Int × Int)) × (List (Int × Int × Int)) × Unit → Option Bool)) (_N : Nat) (a0 : (Int × (Int × (Int × (List (Int × (Int × Int))))))) (a1 : (Int × (Int × (Int × (List (Int × (Int × Int))))))) : Option Bool :=
  (cond (!(decide (a0.1 = a1.1)))
    (some false)
    (cond (!(decide (a0.2.1 = a1.2.1)))
      (some false)
      (cond (!(decide (a0.2.2.1 = a1.2.2.1)))
        (some false)
        (Option.bind (c_laws_eqWireS (a0.2.2.2, (a1.2.2.2, ()))) fun (x1 : Bool) =>
        (cond (!x1)
          (some false)
          (some true))))))

noncomputable def e_laws_eqNet (a : (Int × Int × Int × List (Int × Int × Int)) × (Int × Int × Int × List (Int × Int × Int)) × Unit) : Option Bool := r_laws_eqNet e_laws_eqWireS N0 a.1 a.2.1
def r_laws_markWireS_L0 (_N : Nat) (s : ((List (Int × (Int × Int))) × (Int × (Int × Unit)))) (kc ke : ((List (Int × (Int × Int))) × (Int × (Int × Unit))) → Option ((List (Int × (Int × Int))) × Int)) : Option ((List (Int × (Int × Int))) × Int) :=
  (cond (decide (s.2.2.1 < (((List.length s.1) : Nat) : Int)))
    (Option.bind (getI s.1 s.2.2.1) fun (x1 : (Int × (Int × Int))) =>
    (Option.bind (getI (List.set s.1 (Int.toNat s.2.2.1) (s.2.1, x1.2)) s.2.2.1) fun (x2 : (Int × (Int × Int))) =>
    (Option.bind (getI (List.set (List.set s.1 (Int.toNat s.2.2.1) (s.2.1, x1.2)) (Int.toNat s.2.2.1) (x2.1, ((wr (s.2.1 + (1 : Int))), x2.2.2))) s.2.2.1) fun (x3 : (Int × (Int × Int))) =>
    (kc ((List.set (List.set (List.set s.1 (Int.toNat s.2.2.1) (s.2.1, x1.2)) (Int.toNat s.2.2.1) (x2.1, ((wr (s.2.1 + (1 : Int))), x2.2.2))) (Int.toNat s.2.2.1) (x3.1, (x3.2.1, (wr ((wr (s.2.1 + (1 : Int))) + (1 : Int)))))), ((wr ((wr ((wr (s.2.1 + (1 : Int))) + (1 : Int))) + (1 : Int))), ((wr (s.2.2.1 + (1 : Int))), ())))))))
    (ke (s.1, (s.2.1, (s.2.2.1, ())))))
def r_laws_markWireS (N : Nat) (a0 : (List (Int × (Int × Int)))) (a1 : Int) : Option ((List (Int × (Int × Int))) × Int) :=
  (iterK (r_laws_markWireS_L0 N) N (a0, (a1, ((0 : Int), ()))) fun (s1 : ((List (Int × (Int × Int))) × (Int × (Int × Unit)))) =>
  (some (s1.1, s1.2.1)))

noncomputable def e_laws_markWireS (y : (List (Int × Int × Int))) (a : Int × Unit) : Option ((List (Int × Int × Int)) × Int) := r_laws_markWireS N0 y a.1
noncomputable def e_laws_markNet (y : (Int × Int × Int × List (Int × Int × Int))) (a : Int × Unit) : Option ((Int × Int × Int × List (Int × Int × Int)) × Int) :=
  Option.map (fun r => ((y.1, y.2.1, y.2.2.1, r.1), r.2)) (e_laws_markWireS y.2.2.2 a)

def r_laws_markIntS_L0 (_N : Nat) (s : ((List Int) × (Int × (Int × Unit)))) (kc ke : ((List Int) × (Int × (Int × Unit))) → Option ((List Int) × Int)) : Option ((List Int) × Int) :=
  (cond (decide (s.2.2.1 < (((List.length s.1) : Nat) : Int)))
    (Option.bind (getI s.1 s.2.2.1) fun (_x1 : Int) =>
    (kc ((List.set s.1 (Int.toNat s.2.2.1) s.2.1), ((wr (s.2.1 + (1 : Int))), ((wr (s.2.2.1 + (1 : Int))), ())))))
    (ke (s.1, (s.2.1, (s.2.2.1, ())))))
def r_laws_markIntS (N : Nat) (a0 : (List Int)) (a1 : Int) : Option ((List Int) × Int) :=
  (iterK (r_laws_markIntS_L0 N) N (a0, (a1, ((0 : Int), ()))) fun (s1 : ((List Int) × (Int × (Int × Unit)))) =>
  (some (s1.1, s1.2.1)))

noncomputable def e_laws_markIntS (y : (List Int)) (a : Int × Unit) : Option ((List Int) × Int) := r_laws_markIntS N0 y a.1
def r_laws_heldIntS_L0 (_N : Nat) (s : ((List Int) × (Int × (Int × Unit)))) (kc ke : ((List Int) × (Int × (Int × Unit))) → Option Int) : Option Int :=
  (cond (decide (s.2.2.1 < (((List.length s.1) : Nat) : Int)))
    (Option.bind (getI s.1 s.2.2.1) fun (x1 : Int) =>
    (cond (!(decide (x1 = s.2.1)))
      (some (-(1 : Int)))
      (kc (s.1, ((wr (s.2.1 + (1 : Int))), ((wr (s.2.2.1 + (1 : Int))), ()))))))
    (ke (s.1, (s.2.1, (s.2.2.1, ())))))
def r_laws_heldIntS (N : Nat) (a0 : (List Int)) (a1 : Int) : Option Int :=
  (iterK (r_laws_heldIntS_L0 N) N (a0, (a1, ((0 : Int), ()))) fun (s1 : ((List Int) × (Int × (Int × Unit)))) =>
  (some s1.2.1))

noncomputable def e_laws_heldIntS (a : (List Int) × Int × Unit) : Option Int := r_laws_heldIntS N0 a.1 a.2.1
def r_laws_FnExactBlindWires (c_laws_szNet : ((Int × Int × Int × List (Int × Int × Int)) × Int × Unit → Option Int)) (c_laws_toNet : ((Int × Int × Int × List (Int × Int × Int)) × Unit → Option (Int × Int × Int × List (Int × Int × Int)))) (c_spec_BlindWires : ((Int × Int × Int × List (Int × Int × Int)) × Unit → Option (List Int))) (c_impl_BlindWires : ((Int × Int × Int × List (Int × Int × Int)) × Unit → Option (List Int))) (c_laws_eqIntS : ((List Int) × (List Int) × Unit → Option Bool)) (c_laws_eqNet : ((Int × Int × Int × List (Int × Int × Int)) × (Int × Int × Int × List (Int × Int × Int)) × Unit → Option Bool)) (m_laws_markNet : ((Int × Int × Int × List (Int × Int × Int)) → (Int × Unit) → Option ((Int × Int × Int × List (Int × Int × Int)) × Int))) (m_laws_markIntS : ((List Int) → (Int × Unit) → Option ((List Int) × Int))) (c_laws_heldIntS : ((List Int) × Int × Unit → Option Int)) (_N : Nat) (a0 : (Int × (Int × (Int × (List (Int × (Int × Int))))))) : Option Bool :=
  (Option.bind (c_laws_szNet (a0, ((1048576 : Int), ()))) fun (x1 : Int) =>
  (cond (decide (x1 < (0 : Int)))
    (some true)
    (Option.bind (c_laws_toNet (a0, ())) fun (x2 : (Int × (Int × (Int × (List (Int × (Int × Int))))))) =>
    (Option.bind (c_spec_BlindWires (x2, ())) fun (x3 : (List Int)) =>
    (Option.bind (c_laws_toNet (a0, ())) fun (x4 : (Int × (Int × (Int × (List (Int × (Int × Int))))))) =>
    (Option.bind (c_impl_BlindWires (x4, ())) fun (x5 : (List Int)) =>
    (Option.bind (c_laws_eqIntS (x5, (x3, ()))) fun (x6 : Bool) =>
    (cond (!x6)
      (some false)
      (Option.bind (c_laws_toNet (a0, ())) fun (x7 : (Int × (Int × (Int × (List (Int × (Int × Int))))))) =>
      (Option.bind (c_laws_eqNet (x4, (x7, ()))) fun (x8 : Bool) =>
      (cond (!x8)
        (some false)
        (Option.bind (m_laws_markNet x4 ((1 : Int), ())) fun (x9 : ((Int × (Int × (Int × (List (Int × (Int × Int)))))) × Int)) =>
        (cond (decide (x9.2 < (0 : Int)))
          (some false)
          (Option.bind (c_laws_eqIntS (x5, (x3, ()))) fun (x10 : Bool) =>
          (cond (!x10)
            (some false)
            (Option.bind (m_laws_markIntS x5 ((1 : Int), ())) fun (x11 : ((List Int) × Int)) =>
            (Option.bind (c_laws_heldIntS (x11.1, ((1 : Int), ()))) fun (x12 : Int) =>
            (cond (decide (x12 < (0 : Int)))
              (some false)
              (cond (!(decide (x12 = x11.2)))
                (some false)
                (Option.bind (c_laws_toNet (a0, ())) fun (x13 : (Int × (Int × (Int × (List (Int × (Int × Int))))))) =>
                (Option.bind (c_impl_BlindWires (x13, ())) fun (x14 : (List Int)) =>
                (Option.bind (c_laws_eqIntS (x14, (x3, ()))) fun (x15 : Bool) =>
                (cond (!x15)
                  (some false)
                  (Option.bind (c_laws_heldIntS (x11.1, ((1 : Int), ()))) fun (x16 : Int) =>
                  (cond (decide (x16 < (0 : Int)))
                    (some false)
                    (cond (!(decide (x16 = x11.2)))
                      (some false)
                      (some true)))))))))))))))))))))))))))

noncomputable def e_laws_FnExactBlindWires (a : (Int × Int × Int × List (Int × Int × Int)) × Unit) : Option Bool := r_laws_FnExactBlindWires e_laws_szNet e_laws_toNet e_spec_BlindWires e_impl_BlindWires e_laws_eqIntS e_laws_eqNet e_laws_markNet e_laws_markIntS e_laws_heldIntS N0 a.1
end Go.Sx.R
