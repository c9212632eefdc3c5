/- The law in plain words. Conditions: none. -/
import Derived.Test.YtjjhhgieolobjaaRes
namespace Go.Sx.R
open Go Go.Sx
def r_spec_l01In (_N : Nat) (a0 : Int) (a1 : Int) (a2 : Int) : Option Bool :=
  (cond (decide (a0 ≥ a1))
    (some (decide (a0 ≤ a2)))
    (some false))
noncomputable def e_spec_l01In (a : Int × Int × Int × Unit) : Option Bool := r_spec_l01In N0 a.1 a.2.1 a.2.2.1
def r_spec_l03Has_L0 (_N : Nat) (s : (Int × ((List Int) × (Int × (Int × Unit))))) (kc ke : (Int × ((List Int) × (Int × (Int × Unit)))) → Option Bool) : Option Bool :=
  (cond (decide (s.2.2.2.1 < s.2.2.1))
    (Option.bind (getI s.2.1 s.2.2.2.1) fun (x1 : Int) =>
    (cond (decide (x1 = s.1))
      (some true)
      (kc (s.1, (s.2.1, (s.2.2.1, ((wr (s.2.2.2.1 + (1 : Int))), ())))))))
    (ke (s.1, (s.2.1, (s.2.2.1, (s.2.2.2.1, ()))))))
def r_spec_l03Has (N : Nat) (a0 : (List Int)) (a1 : Int) : Option Bool :=
  (iterK (r_spec_l03Has_L0 N) N (a1, (a0, ((((List.length a0) : Nat) : Int), ((0 : Int), ())))) fun (_s1 : (Int × ((List Int) × (Int × (Int × Unit))))) =>
  (some false))
noncomputable def e_spec_l03Has (a : (List Int) × Int × Unit) : Option Bool := r_spec_l03Has N0 a.1 a.2.1
def r_spec_l03Reach_L2 (c_spec_l03Has : ((List Int) × Int × Unit → Option Bool)) (_N : Nat) (s : ((List (Int × (Int × Int))) × ((List Int) × (Int × ((List (Int × (Int × Int))) × (Int × (Int × Unit))))))) (kc ke : ((List (Int × (Int × Int))) × ((List Int) × (Int × ((List (Int × (Int × Int))) × (Int × (Int × Unit)))))) → Option (List Int)) : Option (List Int) :=
  (cond (decide (s.2.2.2.2.2.1 < s.2.2.2.2.1))
    (Option.bind (getI s.2.2.2.1 s.2.2.2.2.2.1) fun (x1 : (Int × (Int × Int))) =>
    (Option.bind (getI s.2.1 s.2.2.1) fun (x2 : Int) =>
    (cond (decide (x1.1 = x2))
      (Option.bind (c_spec_l03Has (s.2.1, (x1.2.1, ()))) fun (x3 : Bool) =>
      (cond (!x3)
        (cond (Nat.ble ((List.length s.2.1) + (List.length (x1.2.1 :: ([] : List Int)))) 17179869184)
          (Option.bind (getI (s.2.1 ++ (x1.2.1 :: ([] : List Int))) s.2.2.1) fun (x4 : Int) =>
          (cond (decide (x1.2.1 = x4))
            (Option.bind (c_spec_l03Has ((s.2.1 ++ (x1.2.1 :: ([] : List Int))), (x1.1, ()))) fun (x5 : Bool) =>
            (cond (!x5)
              (cond (Nat.ble ((List.length (s.2.1 ++ (x1.2.1 :: ([] : List Int)))) + (List.length (x1.1 :: ([] : List Int)))) 17179869184)
                (kc (s.1, (((s.2.1 ++ (x1.2.1 :: ([] : List Int))) ++ (x1.1 :: ([] : List Int))), (s.2.2.1, (s.2.2.2.1, (s.2.2.2.2.1, ((wr (s.2.2.2.2.2.1 + (1 : Int))), ())))))))
                none)
              (kc (s.1, ((s.2.1 ++ (x1.2.1 :: ([] : List Int))), (s.2.2.1, (s.2.2.2.1, (s.2.2.2.2.1, ((wr (s.2.2.2.2.2.1 + (1 : Int))), ())))))))))
            (kc (s.1, ((s.2.1 ++ (x1.2.1 :: ([] : List Int))), (s.2.2.1, (s.2.2.2.1, (s.2.2.2.2.1, ((wr (s.2.2.2.2.2.1 + (1 : Int))), ())))))))))
          none)
        (Option.bind (getI s.2.1 s.2.2.1) fun (x6 : Int) =>
        (cond (decide (x1.2.1 = x6))
          (Option.bind (c_spec_l03Has (s.2.1, (x1.1, ()))) fun (x7 : Bool) =>
          (cond (!x7)
            (cond (Nat.ble ((List.length s.2.1) + (List.length (x1.1 :: ([] : List Int)))) 17179869184)
              (kc (s.1, ((s.2.1 ++ (x1.1 :: ([] : List Int))), (s.2.2.1, (s.2.2.2.1, (s.2.2.2.2.1, ((wr (s.2.2.2.2.2.1 + (1 : Int))), ())))))))
              none)
            (kc (s.1, (s.2.1, (s.2.2.1, (s.2.2.2.1, (s.2.2.2.2.1, ((wr (s.2.2.2.2.2.1 + (1 : Int))), ())))))))))
          (kc (s.1, (s.2.1, (s.2.2.1, (s.2.2.2.1, (s.2.2.2.2.1, ((wr (s.2.2.2.2.2.1 + (1 : Int))), ())))))))))))
      (Option.bind (getI s.2.1 s.2.2.1) fun (x8 : Int) =>
      (cond (decide (x1.2.1 = x8))
        (Option.bind (c_spec_l03Has (s.2.1, (x1.1, ()))) fun (x9 : Bool) =>
        (cond (!x9)
          (cond (Nat.ble ((List.length s.2.1) + (List.length (x1.1 :: ([] : List Int)))) 17179869184)
            (kc (s.1, ((s.2.1 ++ (x1.1 :: ([] : List Int))), (s.2.2.1, (s.2.2.2.1, (s.2.2.2.2.1, ((wr (s.2.2.2.2.2.1 + (1 : Int))), ())))))))
            none)
          (kc (s.1, (s.2.1, (s.2.2.1, (s.2.2.2.1, (s.2.2.2.2.1, ((wr (s.2.2.2.2.2.1 + (1 : Int))), ())))))))))
        (kc (s.1, (s.2.1, (s.2.2.1, (s.2.2.2.1, (s.2.2.2.2.1, ((wr (s.2.2.2.2.2.1 + (1 : Int))), ()))))))))))))
    (ke (s.1, (s.2.1, (s.2.2.1, (s.2.2.2.1, (s.2.2.2.2.1, (s.2.2.2.2.2.1, ()))))))))
def r_spec_l03Reach_L0 (c_spec_l03Has : ((List Int) × Int × Unit → Option Bool)) (N : Nat) (s : ((List (Int × (Int × Int))) × ((List Int) × (Int × Unit)))) (kc ke : ((List (Int × (Int × Int))) × ((List Int) × (Int × Unit))) → Option (List Int)) : Option (List Int) :=
  (cond (decide (s.2.2.1 < (((List.length s.2.1) : Nat) : Int)))
    (iterK (r_spec_l03Reach_L2 c_spec_l03Has N) N (s.1, (s.2.1, (s.2.2.1, (s.1, ((((List.length s.1) : Nat) : Int), ((0 : Int), ())))))) fun (s1 : ((List (Int × (Int × Int))) × ((List Int) × (Int × ((List (Int × (Int × Int))) × (Int × (Int × Unit))))))) =>
    (kc (s1.1, (s1.2.1, ((wr (s1.2.2.1 + (1 : Int))), ())))))
    (ke (s.1, (s.2.1, (s.2.2.1, ())))))
def r_spec_l03Reach (c_spec_l03Has : ((List Int) × Int × Unit → Option Bool)) (N : Nat) (a0 : (List (Int × (Int × Int)))) (a1 : Int) : Option (List Int) :=
  (iterK (r_spec_l03Reach_L0 c_spec_l03Has N) N (a0, ((a1 :: ([] : List Int)), ((0 : Int), ()))) fun (s1 : ((List (Int × (Int × Int))) × ((List Int) × (Int × Unit)))) =>
  (some s1.2.1))
noncomputable def e_spec_l03Reach (a : (List (Int × Int × Int)) × Int × Unit) : Option (List Int) := r_spec_l03Reach e_spec_l03Has N0 a.1 a.2.1
def r_spec_NetOk_L0 (c_spec_l01In : (Int × Int × Int × Unit → Option Bool)) (_c_spec_l03Reach : ((List (Int × Int × Int)) × Int × Unit → Option (List Int))) (_N : Nat) (s : ((Int × (Int × (Int × (List (Int × (Int × Int)))))) × ((List (Int × (Int × Int))) × (Int × (Int × Unit))))) (kc ke : ((Int × (Int × (Int × (List (Int × (Int × Int)))))) × ((List (Int × (Int × Int))) × (Int × (Int × Unit)))) → Option Bool) : Option Bool :=
  (cond (decide (s.2.2.2.1 < s.2.2.1))
    (Option.bind (getI s.2.1 s.2.2.2.1) fun (x1 : (Int × (Int × Int))) =>
    (Option.bind (c_spec_l01In (x1.1, ((0 : Int), ((wr (s.1.1 - (1 : Int))), ())))) fun (x2 : Bool) =>
    (cond (!x2)
      (some false)
      (Option.bind (c_spec_l01In (x1.2.1, ((wr (x1.1 + (1 : Int))), ((wr (s.1.1 - (1 : Int))), ())))) fun (x3 : Bool) =>
      (cond (!x3)
        (some false)
        (Option.bind (c_spec_l01In (x1.2.2, ((1 : Int), ((200 : Int), ())))) fun (x4 : Bool) =>
        (cond (!x4)
          (some false)
          (cond (decide (s.2.2.2.1 > (0 : Int)))
            (Option.bind (getI s.1.2.2.2 (wr (s.2.2.2.1 - (1 : Int)))) fun (x5 : (Int × (Int × Int))) =>
            (cond (decide (x1.1 < x5.1))
              (some false)
              (Option.bind (getI s.1.2.2.2 (wr (s.2.2.2.1 - (1 : Int)))) fun (x6 : (Int × (Int × Int))) =>
              (cond (decide (x1.1 = x6.1))
                (Option.bind (getI s.1.2.2.2 (wr (s.2.2.2.1 - (1 : Int)))) fun (x7 : (Int × (Int × Int))) =>
                (cond (decide (x1.2.1 ≤ x7.2.1))
                  (some false)
                  (kc (s.1, (s.2.1, (s.2.2.1, ((wr (s.2.2.2.1 + (1 : Int))), ())))))))
                (kc (s.1, (s.2.1, (s.2.2.1, ((wr (s.2.2.2.1 + (1 : Int))), ())))))))))
            (kc (s.1, (s.2.1, (s.2.2.1, ((wr (s.2.2.2.1 + (1 : Int))), ())))))))))))))
    (ke (s.1, (s.2.1, (s.2.2.1, (s.2.2.2.1, ()))))))
def r_spec_NetOk (c_spec_l01In : (Int × Int × Int × Unit → Option Bool)) (c_spec_l03Reach : ((List (Int × Int × Int)) × Int × Unit → Option (List Int))) (N : Nat) (a0 : (Int × (Int × (Int × (List (Int × (Int × Int))))))) : Option Bool :=
  (Option.bind (c_spec_l01In (a0.1, ((1 : Int), ((5 : Int), ())))) fun (x1 : Bool) =>
  (cond (!x1)
    (some false)
    (Option.bind (c_spec_l01In (a0.2.1, ((1 : Int), (a0.1, ())))) fun (x2 : Bool) =>
    (cond (!x2)
      (some false)
      (Option.bind (c_spec_l01In (a0.2.2.1, ((1 : Int), ((1000 : Int), ())))) fun (x3 : Bool) =>
      (cond (!x3)
        (some false)
        (iterK (r_spec_NetOk_L0 c_spec_l01In c_spec_l03Reach N) N (a0, (a0.2.2.2, ((((List.length a0.2.2.2) : Nat) : Int), ((0 : Int), ())))) fun (s4 : ((Int × (Int × (Int × (List (Int × (Int × Int)))))) × ((List (Int × (Int × Int))) × (Int × (Int × Unit))))) =>
        (Option.bind (c_spec_l03Reach (s4.1.2.2.2, ((0 : Int), ()))) fun (x5 : (List Int)) =>
        (some (decide ((((List.length x5) : Nat) : Int) = s4.1.1)))))))))))
noncomputable def e_spec_NetOk (a : (Int × Int × Int × List (Int × Int × Int)) × Unit) : Option Bool := r_spec_NetOk e_spec_l01In e_spec_l03Reach N0 a.1
def r_spec_l03Find_L0 (_N : Nat) (s : (Int × (Int × ((List (Int × (Int × Int))) × (Int × (Int × Unit)))))) (kc ke : (Int × (Int × ((List (Int × (Int × Int))) × (Int × (Int × Unit))))) → Option Int) : Option Int :=
  (cond (decide (s.2.2.2.2.1 < s.2.2.2.1))
    (Option.bind (getI s.2.2.1 s.2.2.2.2.1) fun (x1 : (Int × (Int × Int))) =>
    (cond (decide (x1.1 = (@ite @Int (s.2.1 < s.1) (@Int.decLt s.2.1 s.1) s.2.1 s.1)))
      (cond (decide (x1.2.1 = (@ite @Int (s.2.1 > s.1) (@Int.decLt s.1 s.2.1) s.2.1 s.1)))
        (some s.2.2.2.2.1)
        (kc (s.1, (s.2.1, (s.2.2.1, (s.2.2.2.1, ((wr (s.2.2.2.2.1 + (1 : Int))), ())))))))
      (kc (s.1, (s.2.1, (s.2.2.1, (s.2.2.2.1, ((wr (s.2.2.2.2.1 + (1 : Int))), ()))))))))
    (ke (s.1, (s.2.1, (s.2.2.1, (s.2.2.2.1, (s.2.2.2.2.1, ())))))))
def r_spec_l03Find (N : Nat) (a0 : (List (Int × (Int × Int)))) (a1 : Int) (a2 : Int) : Option Int :=
  (iterK (r_spec_l03Find_L0 N) N (a1, (a2, (a0, ((((List.length a0) : Nat) : Int), ((0 : Int), ()))))) fun (_s1 : (Int × (Int × ((List (Int × (Int × Int))) × (Int × (Int × Unit)))))) =>
  (some (-(1 : Int))))
noncomputable def e_spec_l03Find (a : (List (Int × Int × Int)) × Int × Int × Unit) : Option Int := r_spec_l03Find N0 a.1 a.2.1 a.2.2.1
def r_spec_WeightBetween (c_spec_l03Find : ((List (Int × Int × Int)) × Int × Int × Unit → Option Int)) (_N : Nat) (a0 : (Int × (Int × (Int × (List (Int × (Int × Int))))))) (a1 : Int) (a2 : Int) : Option Int :=
  (Option.bind (c_spec_l03Find (a0.2.2.2, (a1, (a2, ())))) fun (x1 : Int) =>
  (cond (decide (x1 < (0 : Int)))
    (some (0 : Int))
    (cond (decide (a1 = a2))
      (some (0 : Int))
      (Option.bind (getI a0.2.2.2 x1) fun (x2 : (Int × (Int × Int))) =>
      (some x2.2.2)))))
noncomputable def e_spec_WeightBetween (a : (Int × Int × Int × List (Int × Int × Int)) × Int × Int × Unit) : Option Int := r_spec_WeightBetween e_spec_l03Find N0 a.1 a.2.1 a.2.2.1
def r_spec_WeightAt_L0 (_N : Nat) (s : (Int × (Int × ((List (Int × (Int × Int))) × (Int × (Int × Unit)))))) (kc ke : (Int × (Int × ((List (Int × (Int × Int))) × (Int × (Int × Unit))))) → Option Int) : Option Int :=
  (cond (decide (s.2.2.2.2.1 < s.2.2.2.1))
    (Option.bind (getI s.2.2.1 s.2.2.2.2.1) fun (x1 : (Int × (Int × Int))) =>
    (cond (decide (x1.1 = s.1))
      (kc (s.1, ((wr (s.2.1 + x1.2.2)), (s.2.2.1, (s.2.2.2.1, ((wr (s.2.2.2.2.1 + (1 : Int))), ()))))))
      (cond (decide (x1.2.1 = s.1))
        (kc (s.1, ((wr (s.2.1 + x1.2.2)), (s.2.2.1, (s.2.2.2.1, ((wr (s.2.2.2.2.1 + (1 : Int))), ()))))))
        (kc (s.1, (s.2.1, (s.2.2.1, (s.2.2.2.1, ((wr (s.2.2.2.2.1 + (1 : Int))), ())))))))))
    (ke (s.1, (s.2.1, (s.2.2.1, (s.2.2.2.1, (s.2.2.2.2.1, ())))))))
def r_spec_WeightAt (N : Nat) (a0 : (Int × (Int × (Int × (List (Int × (Int × Int))))))) (a1 : Int) : Option Int :=
  (iterK (r_spec_WeightAt_L0 N) N (a1, ((0 : Int), (a0.2.2.2, ((((List.length a0.2.2.2) : Nat) : Int), ((0 : Int), ()))))) fun (s1 : (Int × (Int × ((List (Int × (Int × Int))) × (Int × (Int × Unit)))))) =>
  (some s1.2.1))
noncomputable def e_spec_WeightAt (a : (Int × Int × Int × List (Int × Int × Int)) × Int × Unit) : Option Int := r_spec_WeightAt N0 a.1 a.2.1
def r_spec_LaplacianOf_L2 (_c_spec_NetOk : ((Int × Int × Int × List (Int × Int × Int)) × Unit → Option Bool)) (c_spec_WeightAt : ((Int × Int × Int × List (Int × Int × Int)) × Int × Unit → Option Int)) (c_spec_WeightBetween : ((Int × Int × Int × List (Int × Int × Int)) × Int × Int × Unit → Option Int)) (_N : Nat) (s : ((Int × (Int × (Int × (List (Int × (Int × Int)))))) × ((List (List Int)) × (Int × ((List Int) × (Int × Unit)))))) (kc ke : ((Int × (Int × (Int × (List (Int × (Int × Int)))))) × ((List (List Int)) × (Int × ((List Int) × (Int × Unit))))) → Option (List (List Int))) : Option (List (List Int)) :=
  (cond (decide (s.2.2.2.2.1 < s.1.1))
    (cond (decide (s.2.2.1 = s.2.2.2.2.1))
      (Option.bind (c_spec_WeightAt (s.1, (s.2.2.1, ()))) fun (x1 : Int) =>
      (cond (Nat.ble ((List.length s.2.2.2.1) + (List.length (x1 :: ([] : List Int)))) 17179869184)
        (kc (s.1, (s.2.1, (s.2.2.1, ((s.2.2.2.1 ++ (x1 :: ([] : List Int))), ((wr (s.2.2.2.2.1 + (1 : Int))), ()))))))
        none))
      (Option.bind (c_spec_WeightBetween (s.1, (s.2.2.1, (s.2.2.2.2.1, ())))) fun (x2 : Int) =>
      (cond (Nat.ble ((List.length s.2.2.2.1) + (List.length ((wr ((0 : Int) - x2)) :: ([] : List Int)))) 17179869184)
        (kc (s.1, (s.2.1, (s.2.2.1, ((s.2.2.2.1 ++ ((wr ((0 : Int) - x2)) :: ([] : List Int))), ((wr (s.2.2.2.2.1 + (1 : Int))), ()))))))
        none)))
    (ke (s.1, (s.2.1, (s.2.2.1, (s.2.2.2.1, (s.2.2.2.2.1, ())))))))
def r_spec_LaplacianOf_L0 (c_spec_NetOk : ((Int × Int × Int × List (Int × Int × Int)) × Unit → Option Bool)) (c_spec_WeightAt : ((Int × Int × Int × List (Int × Int × Int)) × Int × Unit → Option Int)) (c_spec_WeightBetween : ((Int × Int × Int × List (Int × Int × Int)) × Int × Int × Unit → Option Int)) (N : Nat) (s : ((Int × (Int × (Int × (List (Int × (Int × Int)))))) × ((List (List Int)) × (Int × Unit)))) (kc ke : ((Int × (Int × (Int × (List (Int × (Int × Int)))))) × ((List (List Int)) × (Int × Unit))) → Option (List (List Int))) : Option (List (List Int)) :=
  (cond (decide (s.2.2.1 < s.1.1))
    (iterK (r_spec_LaplacianOf_L2 c_spec_NetOk c_spec_WeightAt c_spec_WeightBetween N) N (s.1, (s.2.1, (s.2.2.1, (([] : List Int), ((0 : Int), ()))))) fun (s1 : ((Int × (Int × (Int × (List (Int × (Int × Int)))))) × ((List (List Int)) × (Int × ((List Int) × (Int × Unit)))))) =>
    (cond (Nat.ble ((List.length s1.2.1) + (List.length (s1.2.2.2.1 :: ([] : List (List Int))))) 17179869184)
      (kc (s1.1, ((s1.2.1 ++ (s1.2.2.2.1 :: ([] : List (List Int)))), ((wr (s1.2.2.1 + (1 : Int))), ()))))
      none))
    (ke (s.1, (s.2.1, (s.2.2.1, ())))))
def r_spec_LaplacianOf (c_spec_NetOk : ((Int × Int × Int × List (Int × Int × Int)) × Unit → Option Bool)) (c_spec_WeightAt : ((Int × Int × Int × List (Int × Int × Int)) × Int × Unit → Option Int)) (c_spec_WeightBetween : ((Int × Int × Int × List (Int × Int × Int)) × Int × Int × Unit → Option Int)) (N : Nat) (a0 : (Int × (Int × (Int × (List (Int × (Int × Int))))))) : Option (List (List Int)) :=
  (Option.bind (c_spec_NetOk (a0, ())) fun (x1 : Bool) =>
  (cond (!x1)
    (some ([] : List (List Int)))
    (iterK (r_spec_LaplacianOf_L0 c_spec_NetOk c_spec_WeightAt c_spec_WeightBetween N) N (a0, (([] : List (List Int)), ((0 : Int), ()))) fun (s2 : ((Int × (Int × (Int × (List (Int × (Int × Int)))))) × ((List (List Int)) × (Int × Unit)))) =>
    (some s2.2.1))))
noncomputable def e_spec_LaplacianOf (a : (Int × Int × Int × List (Int × Int × Int)) × Unit) : Option (List (List Int)) := r_spec_LaplacianOf e_spec_NetOk e_spec_WeightAt e_spec_WeightBetween N0 a.1
def r_spec_l06Inner_L0 (_N : Nat) (s : ((Int × (Int × (Int × (List (Int × (Int × Int)))))) × ((List Int) × (Int × Unit)))) (kc ke : ((Int × (Int × (Int × (List (Int × (Int × Int)))))) × ((List Int) × (Int × Unit))) → Option (List Int)) : Option (List Int) :=
  (cond (decide (s.2.2.1 < s.1.1))
    (cond (Nat.ble ((List.length s.2.1) + (List.length (s.2.2.1 :: ([] : List Int)))) 17179869184)
      (kc (s.1, ((s.2.1 ++ (s.2.2.1 :: ([] : List Int))), ((wr (s.2.2.1 + (1 : Int))), ()))))
      none)
    (ke (s.1, (s.2.1, (s.2.2.1, ())))))
def r_spec_l06Inner (N : Nat) (a0 : (Int × (Int × (Int × (List (Int × (Int × Int))))))) : Option (List Int) :=
  (iterK (r_spec_l06Inner_L0 N) N (a0, (([] : List Int), (a0.2.1, ()))) fun (s1 : ((Int × (Int × (Int × (List (Int × (Int × Int)))))) × ((List Int) × (Int × Unit)))) =>
  (some s1.2.1))
noncomputable def e_spec_l06Inner (a : (Int × Int × Int × List (Int × Int × Int)) × Unit) : Option (List Int) := r_spec_l06Inner N0 a.1
def r_spec_l04Det_L0 (c_spec_l04Det : ((List (List Int)) × (List Int) × (List Int) × Unit → Option Int)) (_N : Nat) (s : ((List (List Int)) × ((List Int) × ((List Int) × (Int × (Int × ((List Int) × (Int × (Int × Unit))))))))) (kc ke : ((List (List Int)) × ((List Int) × ((List Int) × (Int × (Int × ((List Int) × (Int × (Int × Unit)))))))) → Option Int) : Option Int :=
  (cond (decide (s.2.2.2.2.2.2.2.1 < s.2.2.2.2.2.2.1))
    (Option.bind (getI s.2.2.2.2.2.1 s.2.2.2.2.2.2.2.1) fun (x1 : Int) =>
    (Option.bind (getI s.2.1 (0 : Int)) fun (x2 : Int) =>
    (Option.bind (getI s.1 x2) fun (x3 : (List Int)) =>
    (Option.bind (getI x3 x1) fun (x4 : Int) =>
    (cond (!(decide (x4 = (0 : Int))))
      (cond (decide ((0 : Int) ≤ s.2.2.2.2.2.2.2.1))
        (cond (decide (s.2.2.2.2.2.2.2.1 ≤ (((List.length s.2.2.1) : Nat) : Int)))
          (cond (Nat.ble ((List.length ([] : List Int)) + (List.length (List.take ((Int.toNat s.2.2.2.2.2.2.2.1) - (Int.toNat (0 : Int))) (List.drop (Int.toNat (0 : Int)) s.2.2.1)))) 17179869184)
            (cond (decide ((0 : Int) ≤ (wr (s.2.2.2.2.2.2.2.1 + (1 : Int)))))
              (cond (decide ((wr (s.2.2.2.2.2.2.2.1 + (1 : Int))) ≤ (((List.length s.2.2.1) : Nat) : Int)))
                (cond (decide ((((List.length s.2.2.1) : Nat) : Int) ≤ (((List.length s.2.2.1) : Nat) : Int)))
                  (cond (Nat.ble ((List.length (([] : List Int) ++ (List.take ((Int.toNat s.2.2.2.2.2.2.2.1) - (Int.toNat (0 : Int))) (List.drop (Int.toNat (0 : Int)) s.2.2.1)))) + (List.length (List.take ((Int.toNat (((List.length s.2.2.1) : Nat) : Int)) - (Int.toNat (wr (s.2.2.2.2.2.2.2.1 + (1 : Int))))) (List.drop (Int.toNat (wr (s.2.2.2.2.2.2.2.1 + (1 : Int)))) s.2.2.1)))) 17179869184)
                    (cond (decide ((1 : Int) ≤ (((List.length s.2.1) : Nat) : Int)))
                      (cond (decide ((((List.length s.2.1) : Nat) : Int) ≤ (((List.length s.2.1) : Nat) : Int)))
                        (Option.bind (c_spec_l04Det (s.1, ((List.take ((Int.toNat (((List.length s.2.1) : Nat) : Int)) - (Int.toNat (1 : Int))) (List.drop (Int.toNat (1 : Int)) s.2.1)), (((([] : List Int) ++ (List.take ((Int.toNat s.2.2.2.2.2.2.2.1) - (Int.toNat (0 : Int))) (List.drop (Int.toNat (0 : Int)) s.2.2.1))) ++ (List.take ((Int.toNat (((List.length s.2.2.1) : Nat) : Int)) - (Int.toNat (wr (s.2.2.2.2.2.2.2.1 + (1 : Int))))) (List.drop (Int.toNat (wr (s.2.2.2.2.2.2.2.1 + (1 : Int)))) s.2.2.1))), ())))) fun (x5 : Int) =>
                        (kc (s.1, (s.2.1, (s.2.2.1, ((wr (s.2.2.2.1 + (wr ((wr (s.2.2.2.2.1 * x4)) * x5)))), ((wr ((0 : Int) - s.2.2.2.2.1)), (s.2.2.2.2.2.1, (s.2.2.2.2.2.2.1, ((wr (s.2.2.2.2.2.2.2.1 + (1 : Int))), ()))))))))))
                        none)
                      none)
                    none)
                  none)
                none)
              none)
            none)
          none)
        none)
      (kc (s.1, (s.2.1, (s.2.2.1, (s.2.2.2.1, ((wr ((0 : Int) - s.2.2.2.2.1)), (s.2.2.2.2.2.1, (s.2.2.2.2.2.2.1, ((wr (s.2.2.2.2.2.2.2.1 + (1 : Int))), ()))))))))))))))
    (ke (s.1, (s.2.1, (s.2.2.1, (s.2.2.2.1, (s.2.2.2.2.1, (s.2.2.2.2.2.1, (s.2.2.2.2.2.2.1, (s.2.2.2.2.2.2.2.1, ()))))))))))
def r_spec_l04Det (c_spec_l04Det : ((List (List Int)) × (List Int) × (List Int) × Unit → Option Int)) (N : Nat) (a0 : (List (List Int))) (a1 : (List Int)) (a2 : (List Int)) : Option Int :=
  (cond (decide ((((List.length a1) : Nat) : Int) = (0 : Int)))
    (some (1 : Int))
    (iterK (r_spec_l04Det_L0 c_spec_l04Det N) N (a0, (a1, (a2, ((0 : Int), ((1 : Int), (a2, ((((List.length a2) : Nat) : Int), ((0 : Int), ())))))))) fun (s1 : ((List (List Int)) × ((List Int) × ((List Int) × (Int × (Int × ((List Int) × (Int × (Int × Unit))))))))) =>
    (some s1.2.2.2.1)))
noncomputable def e_spec_l04Det_n : Nat → ((List (List Int)) × (List Int) × (List Int) × Unit) → Option Int
  | 0, _ => none
  | n + 1, a => r_spec_l04Det (e_spec_l04Det_n n) N0 a.1 a.2.1 a.2.2.1
noncomputable def e_spec_l04Det (a : (List (List Int)) × (List Int) × (List Int) × Unit) : Option Int := e_spec_l04Det_n N0 a
def r_spec_l09Rim_L0 (_N : Nat) (s : ((List Int) × ((List Int) × (Int × Unit)))) (kc ke : ((List Int) × ((List Int) × (Int × Unit))) → Option (List Int)) : Option (List Int) :=
  (cond (decide (s.2.2.1 ≥ (0 : Int)))
    (Option.bind (getI s.1 s.2.2.1) fun (x1 : Int) =>
    (cond (Nat.ble ((List.length s.2.1) + (List.length (x1 :: ([] : List Int)))) 17179869184)
      (kc (s.1, ((s.2.1 ++ (x1 :: ([] : List Int))), ((wr (s.2.2.1 - (1 : Int))), ()))))
      none))
    (ke (s.1, (s.2.1, (s.2.2.1, ())))))
def r_spec_l09Rim (N : Nat) (a0 : (List Int)) (a1 : (List Int)) : Option (List Int) :=
  (cond (Nat.ble ((List.length ([] : List Int)) + (List.length a0)) 17179869184)
    (iterK (r_spec_l09Rim_L0 N) N (a1, ((([] : List Int) ++ a0), ((wr ((((List.length a1) : Nat) : Int) - (1 : Int))), ()))) fun (s1 : ((List Int) × ((List Int) × (Int × Unit)))) =>
    (some s1.2.1))
    none)
noncomputable def e_spec_l09Rim (a : (List Int) × (List Int) × Unit) : Option (List Int) := r_spec_l09Rim N0 a.1 a.2.1
def r_spec_IsCircular_L0 (c_spec_l01In : (Int × Int × Int × Unit → Option Bool)) (_c_spec_l09Rim : ((List Int) × (List Int) × Unit → Option (List Int))) (c_spec_l03Has : ((List Int) × Int × Unit → Option Bool)) (_N : Nat) (s : (Int × ((List Int) × (Int × ((List Int) × (Int × (Int × Unit))))))) (kc ke : (Int × ((List Int) × (Int × ((List Int) × (Int × (Int × Unit)))))) → Option Bool) : Option Bool :=
  (cond (decide (s.2.2.2.2.2.1 < s.2.2.2.2.1))
    (Option.bind (getI s.2.2.2.1 s.2.2.2.2.2.1) fun (x1 : Int) =>
    (Option.bind (c_spec_l01In (x1, ((0 : Int), ((wr (s.1 - (1 : Int))), ())))) fun (x2 : Bool) =>
    (cond (!x2)
      (some false)
      (cond (decide ((0 : Int) ≤ s.2.2.2.2.2.1))
        (cond (decide (s.2.2.2.2.2.1 ≤ (((List.length s.2.1) : Nat) : Int)))
          (Option.bind (c_spec_l03Has ((List.take ((Int.toNat s.2.2.2.2.2.1) - (Int.toNat (0 : Int))) (List.drop (Int.toNat (0 : Int)) s.2.1)), (x1, ()))) fun (x3 : Bool) =>
          (cond x3
            (some false)
            (cond (decide ((((List.length s.2.1) : Nat) : Int) = (0 : Int)))
              none
              (Option.bind (getI s.2.1 (Int.tmod (wr (s.2.2.2.2.2.1 + (1 : Int))) (((List.length s.2.1) : Nat) : Int))) fun (x4 : Int) =>
              (cond (decide (x4 < x1))
                (kc (s.1, (s.2.1, ((wr (s.2.2.1 + (1 : Int))), (s.2.2.2.1, (s.2.2.2.2.1, ((wr (s.2.2.2.2.2.1 + (1 : Int))), ())))))))
                (kc (s.1, (s.2.1, (s.2.2.1, (s.2.2.2.1, (s.2.2.2.2.1, ((wr (s.2.2.2.2.2.1 + (1 : Int))), ()))))))))))))
          none)
        none))))
    (ke (s.1, (s.2.1, (s.2.2.1, (s.2.2.2.1, (s.2.2.2.2.1, (s.2.2.2.2.2.1, ()))))))))
def r_spec_IsCircular (c_spec_l01In : (Int × Int × Int × Unit → Option Bool)) (c_spec_l09Rim : ((List Int) × (List Int) × Unit → Option (List Int))) (c_spec_l03Has : ((List Int) × Int × Unit → Option Bool)) (N : Nat) (a0 : Int) (a1 : (List Int)) (a2 : (List Int)) : Option Bool :=
  (Option.bind (c_spec_l01In (a0, ((1 : Int), ((5 : Int), ())))) fun (x1 : Bool) =>
  (cond (!x1)
    (some false)
    (cond (!(decide ((((List.length a1) : Nat) : Int) = (((List.length a2) : Nat) : Int))))
      (some false)
      (cond (decide ((((List.length a1) : Nat) : Int) = (0 : Int)))
        (some false)
        (Option.bind (c_spec_l09Rim (a1, (a2, ()))) fun (x2 : (List Int)) =>
        (iterK (r_spec_IsCircular_L0 c_spec_l01In c_spec_l09Rim c_spec_l03Has N) N (a0, (x2, ((0 : Int), (x2, ((((List.length x2) : Nat) : Int), ((0 : Int), ())))))) fun (s3 : (Int × ((List Int) × (Int × ((List Int) × (Int × (Int × Unit))))))) =>
        (some (decide (s3.2.2.1 = (1 : Int))))))))))
noncomputable def e_spec_IsCircular (a : Int × (List Int) × (List Int) × Unit) : Option Bool := r_spec_IsCircular e_spec_l01In e_spec_l09Rim e_spec_l03Has N0 a.1 a.2.1 a.2.2.1
def r_spec_l09Lists_L4 (c_spec_l03Has : ((List Int) × Int × Unit → Option Bool)) (_N : Nat) (s : (Int × (Int × (Int × ((List (List Int)) × ((List Int) × (Int × ((List (List Int)) × (Int × (Int × Unit)))))))))) (kc ke : (Int × (Int × (Int × ((List (List Int)) × ((List Int) × (Int × ((List (List Int)) × (Int × (Int × Unit))))))))) → Option (List (List Int))) : Option (List (List Int)) :=
  (cond (decide (s.2.2.2.2.2.1 < s.1))
    (Option.bind (c_spec_l03Has (s.2.2.2.2.1, (s.2.2.2.2.2.1, ()))) fun (x1 : Bool) =>
    (cond (!x1)
      (cond (Nat.ble ((List.length ([] : List Int)) + (List.length s.2.2.2.2.1)) 17179869184)
        (cond (Nat.ble ((List.length (([] : List Int) ++ s.2.2.2.2.1)) + (List.length (s.2.2.2.2.2.1 :: ([] : List Int)))) 17179869184)
          (cond (Nat.ble ((List.length s.2.2.2.1) + (List.length (((([] : List Int) ++ s.2.2.2.2.1) ++ (s.2.2.2.2.2.1 :: ([] : List Int))) :: ([] : List (List Int))))) 17179869184)
            (kc (s.1, (s.2.1, (s.2.2.1, ((s.2.2.2.1 ++ (((([] : List Int) ++ s.2.2.2.2.1) ++ (s.2.2.2.2.2.1 :: ([] : List Int))) :: ([] : List (List Int)))), (s.2.2.2.2.1, ((wr (s.2.2.2.2.2.1 + (1 : Int))), (s.2.2.2.2.2.2.1, (s.2.2.2.2.2.2.2.1, (s.2.2.2.2.2.2.2.2.1, ()))))))))))
            none)
          none)
        none)
      (kc (s.1, (s.2.1, (s.2.2.1, (s.2.2.2.1, (s.2.2.2.2.1, ((wr (s.2.2.2.2.2.1 + (1 : Int))), (s.2.2.2.2.2.2.1, (s.2.2.2.2.2.2.2.1, (s.2.2.2.2.2.2.2.2.1, ()))))))))))))
    (ke (s.1, (s.2.1, (s.2.2.1, (s.2.2.2.1, (s.2.2.2.2.1, (s.2.2.2.2.2.1, (s.2.2.2.2.2.2.1, (s.2.2.2.2.2.2.2.1, (s.2.2.2.2.2.2.2.2.1, ())))))))))))
def r_spec_l09Lists_L2 (c_spec_l03Has : ((List Int) × Int × Unit → Option Bool)) (N : Nat) (s : (Int × (Int × (Int × ((List (List Int)) × ((List (List Int)) × (Int × (Int × Unit)))))))) (kc ke : (Int × (Int × (Int × ((List (List Int)) × ((List (List Int)) × (Int × (Int × Unit))))))) → Option (List (List Int))) : Option (List (List Int)) :=
  (cond (decide (s.2.2.2.2.2.2.1 < s.2.2.2.2.2.1))
    (Option.bind (getI s.2.2.2.2.1 s.2.2.2.2.2.2.1) fun (x1 : (List Int)) =>
    (iterK (r_spec_l09Lists_L4 c_spec_l03Has N) N (s.1, (s.2.1, (s.2.2.1, (s.2.2.2.1, (x1, ((0 : Int), (s.2.2.2.2.1, (s.2.2.2.2.2.1, (s.2.2.2.2.2.2.1, ()))))))))) fun (s2 : (Int × (Int × (Int × ((List (List Int)) × ((List Int) × (Int × ((List (List Int)) × (Int × (Int × Unit)))))))))) =>
    (kc (s2.1, (s2.2.1, (s2.2.2.1, (s2.2.2.2.1, (s2.2.2.2.2.2.2.1, (s2.2.2.2.2.2.2.2.1, ((wr (s2.2.2.2.2.2.2.2.2.1 + (1 : Int))), ()))))))))))
    (ke (s.1, (s.2.1, (s.2.2.1, (s.2.2.2.1, (s.2.2.2.2.1, (s.2.2.2.2.2.1, (s.2.2.2.2.2.2.1, ())))))))))
def r_spec_l09Lists_L0 (c_spec_l03Has : ((List Int) × Int × Unit → Option Bool)) (N : Nat) (s : (Int × (Int × ((List (List Int)) × (Int × Unit))))) (kc ke : (Int × (Int × ((List (List Int)) × (Int × Unit)))) → Option (List (List Int))) : Option (List (List Int)) :=
  (cond (decide (s.2.2.2.1 < s.2.1))
    (iterK (r_spec_l09Lists_L2 c_spec_l03Has N) N (s.1, (s.2.1, (s.2.2.2.1, (([] : List (List Int)), (s.2.2.1, ((((List.length s.2.2.1) : Nat) : Int), ((0 : Int), ()))))))) fun (s1 : (Int × (Int × (Int × ((List (List Int)) × ((List (List Int)) × (Int × (Int × Unit)))))))) =>
    (kc (s1.1, (s1.2.1, (s1.2.2.2.1, ((wr (s1.2.2.1 + (1 : Int))), ()))))))
    (ke (s.1, (s.2.1, (s.2.2.1, (s.2.2.2.1, ()))))))
def r_spec_l09Lists (c_spec_l03Has : ((List Int) × Int × Unit → Option Bool)) (N : Nat) (a0 : Int) (a1 : Int) : Option (List (List Int)) :=
  (iterK (r_spec_l09Lists_L0 c_spec_l03Has N) N (a0, (a1, ((([] : List Int) :: ([] : List (List Int))), ((0 : Int), ())))) fun (s1 : (Int × (Int × ((List (List Int)) × (Int × Unit))))) =>
  (some s1.2.2.1))
noncomputable def e_spec_l09Lists (a : Int × Int × Unit) : Option (List (List Int)) := r_spec_l09Lists e_spec_l03Has N0 a.1 a.2.1
end Go.Sx.R
namespace Go.Sx.R
open Go Go.Sx

theorem beqB_self (b : Bool) : beqB b b = true := by cases b <;> rfl

theorem sm_up {α : Type} [Sm α] (up : ∀ {B B' : Nat} {x : α}, B ≤ B' → Sm.sm B x → Sm.sm B' x) {B B' : Nat} {x : List α} (h : B ≤ B') (hx : Sm.sm B x) : Sm.sm B' x := ⟨Nat.le_trans hx.1 h, fun y hy => up h (hx.2 y hy)⟩
theorem up_wire {B B' : Nat} {x : Int × Int × Int} (h : B ≤ B') (hx : Sm.sm B x) : Sm.sm B' x := hx
theorem up_wireS {B B' : Nat} {x : List (Int × Int × Int)} (h : B ≤ B') (hx : Sm.sm B x) : Sm.sm B' x := sm_up up_wire h hx
abbrev TNet := Int × Int × Int × List (Int × Int × Int)
theorem up_net {B B' : Nat} {x : TNet} (h : B ≤ B') (hx : Sm.sm B x) : Sm.sm B' x := ⟨hx.1, hx.2.1, hx.2.2.1, up_wireS h hx.2.2.2⟩
abbrev B0 : Nat := 1048576
theorem B01 : B0 ≤ B1 := by decide

end Go.Sx.R
namespace Go.Sx.R
open Go Go.Sx

def n_l01In (a : Int × Int × Int × Unit) : Bool := decide (a.2.1 ≤ a.1) && decide (a.1 ≤ a.2.2.1)

theorem p_l01In (a : Int × Int × Int × Unit) : e_spec_l01In a = some (n_l01In a) := by
  obtain ⟨a0, a1, a2, _⟩ := a
  simp only [e_spec_l01In, r_spec_l01In, n_l01In]
  by_cases h : a1 ≤ a0 <;> simp [h]

end Go.Sx.R
namespace Go.Sx.R
open Go Go.Sx

-- lists without doubles
theorem nodup_len {α : Type} [DecidableEq α] : ∀ {l m : List α}, l.Nodup → (∀ x ∈ l, x ∈ m) → l.length ≤ m.length
  | [], m, _, _ => Nat.zero_le _
  | x :: l, m, h, hs => by
    have hx : x ∈ m := hs x (by simp)
    have hd := List.nodup_cons.1 h
    have := nodup_len (l := l) (m := m.erase x) hd.2 fun y hy => (List.mem_erase_of_ne (by rintro rfl; exact hd.1 hy)).2 (hs y (by simp [hy]))
    rw [List.length_erase_of_mem hx] at this
    have hp : 0 < m.length := List.length_pos_of_mem hx
    simp only [List.length_cons]; omega

theorem nodup_all {α : Type} [DecidableEq α] {l m : List α} (h : l.Nodup) (hs : ∀ x ∈ l, x ∈ m) (hl : m.length ≤ l.length) : ∀ x ∈ m, x ∈ l := by
  intro x hx
  by_cases hxl : x ∈ l
  · exact hxl
  · have := nodup_len (l := x :: l) (m := m) (List.nodup_cons.2 ⟨hxl, h⟩) (by
      intro y hy
      rcases List.mem_cons.1 hy with rfl | hy
      · exact hx
      · exact hs y hy)
    simp at this; omega

/-- The numbers below n. -/
def ints (n : Nat) : List Int := (List.range n).map Int.ofNat
theorem mem_ints {n : Nat} {x : Int} : x ∈ ints n ↔ 0 ≤ x ∧ x < n := by
  simp only [ints, List.mem_map, List.mem_range]
  constructor
  · rintro ⟨i, hi, rfl⟩
    simp only [Int.ofNat_eq_natCast]; omega
  · intro h; exact ⟨x.toNat, by omega, by simp only [Int.ofNat_eq_natCast]; omega⟩
theorem len_ints {n : Nat} : (ints n).length = n := by simp [ints]
theorem nodup_ints {n : Nat} : (ints n).Nodup := by
  refine List.Pairwise.map Int.ofNat (fun (a b : Nat) (h : a ≠ b) => ?_) (List.nodup_range (n := n))
  intro e
  simp only [Int.ofNat_eq_natCast] at e
  exact h (by omega)

abbrev W3 := Int × Int × Int

-- looking in lists
theorem p_Has (xs : List Int) (v : Int) (hl : xs.length ≤ BB) : e_spec_l03Has (xs, v, ()) = some (decide (v ∈ xs)) := by
  simp only [e_spec_l03Has, r_spec_l03Has]
  rw [iter_range (R := Bool) xs (fun (_ : Unit) i => (v, xs, (xs.length : Int), i, ())) (fun _ i x k => cond (decide (x = v)) (some true) (k ())) ?_ ?_ (by have := N0_gt; omega) ()]
  · rw [rangeK_stop' (fun x => decide (x = v)) (some true) _ _ _ (fun _ _ _ _ => rfl)]
    have : xs.any (fun x => decide (x = v)) = decide (v ∈ xs) := by
      rw [Bool.eq_iff_iff]; simp
    rw [this]; cases decide (v ∈ xs) <;> rfl
  · intro st i x kc ke hx hi
    simp only [r_spec_l03Has_L0, lt_len, hi, decide_true, cond_true, getI_nat, hx, Option.bind_some]
    rw [wr_succ hi hl]
  · intro st kc ke
    simp only [r_spec_l03Has_L0, not_lt_self, cond_false]

theorem p_ContainsB (xs : List Bool) (v : Bool) (hl : xs.length ≤ BB) : e_slices_Contains_bool (xs, v, ()) = some (decide (v ∈ xs)) := by
  simp only [e_slices_Contains_bool, r_slices_Contains_bool, e_slices_Index_bool, r_slices_Index_bool]
  rw [iter_range (R := Int) xs (fun (_ : Unit) i => (xs, v, (xs.length : Int), i, ())) (fun _ i x k => cond (beqB v x) (some (i : Int)) (k ())) ?_ ?_ (by have := N0_gt; omega) ()]
  · have key : ∀ (l : List Bool) (i : Nat), (rangeK l i () (fun _ i x k => cond (beqB v x) (some (i : Int)) (k ())) fun _ => some (-1 : Int)).bind (fun r => some (decide (r ≥ 0))) = some (decide (v ∈ l)) := by
      intro l
      induction l with
      | nil => intro i; simp [rangeK]
      | cons x l ih =>
        intro i
        simp only [rangeK]
        by_cases e : v = x
        · subst e; rw [beqB_self]; simp
        · have : beqB v x = false := by revert e; cases v <;> cases x <;> simp [beqB]
          rw [this, cond_false, ih (i + 1)]
          simp [e]
    exact key xs 0
  · intro st i x kc ke hx hi
    simp only [r_slices_Index_bool_L0, lt_len, hi, decide_true, cond_true, getI_nat, hx, Option.bind_some]
    rw [wr_succ hi hl]
  · intro st kc ke
    simp only [r_slices_Index_bool_L0, not_lt_self, cond_false]

-- the order of wires
def n_cmp (x y : Int) : Int := if x < y then -1 else if x > y then 1 else 0
theorem p_Compare (x y : Int) : e_cmp_Compare_int (x, y, ()) = some (n_cmp x y) := by
  simp only [e_cmp_Compare_int, r_cmp_Compare_int, e_cmp_isNaN_int, r_cmp_isNaN_int, Option.bind_some, decide_true, Bool.not_true, cond_false, n_cmp]
  by_cases h1 : x < y
  · simp [h1]
  · by_cases h2 : x > y <;> simp [h1, h2]

theorem N0_big : 9223372036854775807 < N0 := N0_gt
theorem N0_succ : ∃ m, N0 = m + 5 := ⟨N0 - 5, by have := N0_big; omega⟩

def n_byEnds (x y : W3) : Int := if n_cmp x.1 y.1 = 0 then n_cmp x.2.1 y.2.1 else n_cmp x.1 y.1
theorem p_byEnds (x y : W3) : e_impl_byEnds (x, y, ()) = some (n_byEnds x y) := by
  simp only [e_impl_byEnds, r_impl_byEnds, p_Compare, Option.bind_some, e_cmp_Or_int, r_cmp_Or_int, n_byEnds]
  obtain ⟨m, hm⟩ := N0_succ
  rw [hm]
  by_cases h1 : n_cmp x.1 y.1 = 0
  · by_cases h2 : n_cmp x.2.1 y.2.1 = 0
    · simp [iterK, r_cmp_Or_int_L0, h1, h2, getI_zero, wr_id, getI]
    · simp [iterK, r_cmp_Or_int_L0, h1, h2, getI_zero, wr_id, getI]
  · simp [iterK, r_cmp_Or_int_L0, h1, getI_zero]

/-- Strictly before. -/
def lex (x y : W3) : Bool := decide (x.1 < y.1) || (decide (x.1 = y.1) && decide (x.2.1 < y.2.1))
theorem byEnds_lex (x y : W3) : decide (n_byEnds x y ≥ 0) = !lex x y := by
  rw [Bool.eq_iff_iff]
  by_cases a : x.1 < y.1
  · have a2 : ¬ x.1 > y.1 := by omega
    simp [n_byEnds, n_cmp, lex, a]
  · by_cases b : x.1 > y.1
    · have e : ¬ x.1 = y.1 := by omega
      simp [n_byEnds, n_cmp, lex, a, b, e]
    · have e : x.1 = y.1 := by omega
      by_cases c : x.2.1 < y.2.1
      · simp [n_byEnds, n_cmp, lex, e, c]
      · by_cases d : x.2.1 > y.2.1 <;> simp [n_byEnds, n_cmp, lex, e, c, d]

/-- A wire at place i that does not fit. -/
def badW (nodes : Int) (ws : List W3) (i : Nat) (x : W3) : Bool :=
  !(decide (0 ≤ x.1) && decide (x.1 < x.2.1) && decide (x.2.1 < nodes) && decide (1 ≤ x.2.2) && decide (x.2.2 ≤ 200)) || (match i with | 0 => false | j + 1 => match ws[j]? with | some y => !lex y x | none => false)

def wiresBad (n : TNet) : Bool := (n.2.2.2.zipIdx 0).any fun p => badW n.1 n.2.2.2 p.2 p.1
def hdrOk (n : TNet) : Bool := decide (1 ≤ n.1) && decide (n.1 ≤ 5) && decide (1 ≤ n.2.1) && decide (n.2.1 ≤ n.1) && decide (1 ≤ n.2.2.1) && decide (n.2.2.1 ≤ 1000)

theorem netL0_impl (n : TNet) (hn : Sm.sm B1 n) (k : _ → Option Bool) :
    iterK (r_impl_NetOk_L0 e_slices_Contains_bool e_impl_byEnds N0) N0 (n, n.2.2.2, (n.2.2.2.length : Int), 0, ()) k = cond (wiresBad n) (some false) (k (n, n.2.2.2, (n.2.2.2.length : Int), (n.2.2.2.length : Int), ())) := by
  have hw : Sm.sm B1 n.2.2.2 := hn.2.2.2
  rw [iter_range (R := Bool) n.2.2.2 (fun (_ : Unit) i => (n, n.2.2.2, (n.2.2.2.length : Int), i, ())) (fun _ i x k => cond (badW n.1 n.2.2.2 i x) (some false) (k ())) ?_ ?_ (len_lt hw N0_gt) ()]
  · rw [rangeK_stop (fun i x => badW n.1 n.2.2.2 i x) (some false) _ _ _ (fun j x k _ => rfl)]
    rfl
  · intro st i x kc ke hx hi
    simp only [r_impl_NetOk_L0, lt_len, hi, decide_true, cond_true, getI_nat, hx, Option.bind_some, wr_len hi hw]
    have hb : ∀ b : Bool, (decide (x.1 < 0) = true → b = true) → True := fun _ _ => trivial
    by_cases h1 : x.1 < 0
    · have : badW n.1 n.2.2.2 i x = true := by simp only [badW, Bool.or_eq_true, Bool.not_eq_true', Bool.and_eq_false_iff, decide_eq_false_iff_not]; left; omega
      simp [h1, this]
    by_cases h2 : x.1 ≥ x.2.1
    · have : badW n.1 n.2.2.2 i x = true := by simp only [badW, Bool.or_eq_true, Bool.not_eq_true', Bool.and_eq_false_iff, decide_eq_false_iff_not]; left; omega
      simp [h1, h2, this]
    by_cases h3 : x.2.1 ≥ n.1
    · have : badW n.1 n.2.2.2 i x = true := by simp only [badW, Bool.or_eq_true, Bool.not_eq_true', Bool.and_eq_false_iff, decide_eq_false_iff_not]; left; omega
      simp [h1, h2, h3, this]
    by_cases h4 : x.2.2 < 1
    · have : badW n.1 n.2.2.2 i x = true := by simp only [badW, Bool.or_eq_true, Bool.not_eq_true', Bool.and_eq_false_iff, decide_eq_false_iff_not]; left; omega
      simp [h1, h2, h3, h4, this]
    by_cases h5 : x.2.2 > 200
    · have : badW n.1 n.2.2.2 i x = true := by simp only [badW, Bool.or_eq_true, Bool.not_eq_true', Bool.and_eq_false_iff, decide_eq_false_iff_not]; left; omega
      simp [h1, h2, h3, h4, h5, this]
    have hg : (!(decide (0 ≤ x.1) && decide (x.1 < x.2.1) && decide (x.2.1 < n.1) && decide (1 ≤ x.2.2) && decide (x.2.2 ≤ 200))) = false := by
      simp only [Bool.not_eq_false', Bool.and_eq_true, decide_eq_true_eq]; omega
    cases i with
    | zero =>
      have hbad : badW n.1 n.2.2.2 0 x = false := by simp only [badW, hg, Bool.or_false]
      simp [h1, h2, h3, h4, h5, hbad]
    | succ j =>
      have hj : n.2.2.2[j]? = some n.2.2.2[j] := List.getElem?_eq_getElem (by omega)
      have hbad : badW n.1 n.2.2.2 (j + 1) x = !lex n.2.2.2[j] x := by simp only [badW, hg, Bool.false_or, hj]
      have hwr : wr (((j + 1 : Nat) : Int) - 1) = (j : Int) := by
        rw [wr_id (by omega) (by have := hw.1; simp only [B1] at this; omega)]; omega
      have hpos : decide (((j + 1 : Nat) : Int) > 0) = true := by rw [decide_eq_true_eq]; omega
      rw [hbad, hpos, hwr, getI_nat, hj]
      simp only [cond_true, Option.bind_some, p_byEnds, byEnds_lex]
      simp [h1, h2, h3, h4, h5]
  · intro st kc ke
    simp only [r_impl_NetOk_L0, not_lt_self, cond_false]

theorem netL0_spec (n : TNet) (hn : Sm.sm B1 n) (k : _ → Option Bool) (hn1 : 1 ≤ n.1) (hn5 : n.1 ≤ 5) :
    iterK (r_spec_NetOk_L0 e_spec_l01In e_spec_l03Reach N0) N0 (n, n.2.2.2, (n.2.2.2.length : Int), 0, ()) k = cond (wiresBad n) (some false) (k (n, n.2.2.2, (n.2.2.2.length : Int), (n.2.2.2.length : Int), ())) := by
  have hw : Sm.sm B1 n.2.2.2 := hn.2.2.2
  rw [iter_range (R := Bool) n.2.2.2 (fun (_ : Unit) i => (n, n.2.2.2, (n.2.2.2.length : Int), i, ())) (fun _ i x k => cond (badW n.1 n.2.2.2 i x) (some false) (k ())) ?_ ?_ (len_lt hw N0_gt) ()]
  · rw [rangeK_stop (fun i x => badW n.1 n.2.2.2 i x) (some false) _ _ _ (fun j x k _ => rfl)]
    rfl
  · intro st i x kc ke hx hi
    simp only [r_spec_NetOk_L0, lt_len, hi, decide_true, cond_true, getI_nat, hx, Option.bind_some, wr_len hi hw, p_l01In, n_l01In]
    have hw1 : wr (n.1 - 1) = n.1 - 1 := wr_id (by omega) (by omega)
    rw [hw1]
    by_cases h1 : 0 ≤ x.1 ∧ x.1 ≤ n.1 - 1
    · have hw2 : wr (x.1 + 1) = x.1 + 1 := wr_id (by omega) (by omega)
      rw [hw2]
      by_cases h2 : x.1 + 1 ≤ x.2.1 ∧ x.2.1 ≤ n.1 - 1
      · by_cases h3 : 1 ≤ x.2.2 ∧ x.2.2 ≤ 200
        · have hg : (!(decide (0 ≤ x.1) && decide (x.1 < x.2.1) && decide (x.2.1 < n.1) && decide (1 ≤ x.2.2) && decide (x.2.2 ≤ 200))) = false := by
            simp only [Bool.not_eq_false', Bool.and_eq_true, decide_eq_true_eq]; omega
          cases i with
          | zero =>
            have hbad : badW n.1 n.2.2.2 0 x = false := by simp only [badW, hg, Bool.or_false]
            simp [h1, h2, h3, hbad]
          | succ j =>
            have hj : n.2.2.2[j]? = some n.2.2.2[j] := List.getElem?_eq_getElem (by omega)
            have hbad : badW n.1 n.2.2.2 (j + 1) x = !lex n.2.2.2[j] x := by simp only [badW, hg, Bool.false_or, hj]
            have hwr : wr (((j + 1 : Nat) : Int) - 1) = (j : Int) := by
              rw [wr_id (by omega) (by have := hw.1; simp only [B1] at this; omega)]; omega
            have hpos : decide (((j + 1 : Nat) : Int) > 0) = true := by rw [decide_eq_true_eq]; omega
            rw [hbad, hpos, hwr, getI_nat, hj]
            simp only [cond_true, Option.bind_some, h1, h2, h3, decide_true, Bool.and_self, Bool.not_true, cond_false, lex]
            by_cases e1 : x.1 < n.2.2.2[j].1
            · have a1 : ¬ n.2.2.2[j].1 < x.1 := by omega
              have a2 : ¬ n.2.2.2[j].1 = x.1 := by omega
              simp [e1, a1, a2]
            · by_cases e2 : x.1 = n.2.2.2[j].1
              · by_cases e3 : x.2.1 ≤ n.2.2.2[j].2.1
                · have a3 : ¬ n.2.2.2[j].2.1 < x.2.1 := by omega
                  simp [e2, e3, a3]
                · have a3 : n.2.2.2[j].2.1 < x.2.1 := by omega
                  simp [e2, e3, a3]
              · have a1 : n.2.2.2[j].1 < x.1 := by omega
                simp [e1, e2, a1]
        · have : badW n.1 n.2.2.2 i x = true := by simp only [badW, Bool.or_eq_true, Bool.not_eq_true', Bool.and_eq_false_iff, decide_eq_false_iff_not]; left; omega
          have h3' : (decide (1 ≤ x.2.2) && decide (x.2.2 ≤ 200)) = false := by simp only [Bool.and_eq_false_iff, decide_eq_false_iff_not]; omega
          simp [h1, h2, h3', this]
      · have : badW n.1 n.2.2.2 i x = true := by simp only [badW, Bool.or_eq_true, Bool.not_eq_true', Bool.and_eq_false_iff, decide_eq_false_iff_not]; left; omega
        have h2' : (decide (x.1 + 1 ≤ x.2.1) && decide (x.2.1 ≤ n.1 - 1)) = false := by simp only [Bool.and_eq_false_iff, decide_eq_false_iff_not]; omega
        simp [h1, h2', this]
    · have : badW n.1 n.2.2.2 i x = true := by simp only [badW, Bool.or_eq_true, Bool.not_eq_true', Bool.and_eq_false_iff, decide_eq_false_iff_not]; left; omega
      have h1' : (decide (0 ≤ x.1) && decide (x.1 ≤ n.1 - 1)) = false := by simp only [Bool.and_eq_false_iff, decide_eq_false_iff_not]; omega
      simp [h1', this]
  · intro st kc ke
    simp only [r_spec_NetOk_L0, not_lt_self, cond_false]
-- what can be reached
inductive Rc (ws : List W3) : Int → Prop
  | zero : Rc ws 0
  | ab {e : W3} : e ∈ ws → Rc ws e.1 → Rc ws e.2.1
  | ba {e : W3} : e ∈ ws → Rc ws e.2.1 → Rc ws e.1

/-- The wires lie among the nodes. -/
def InW (nodes : Nat) (ws : List W3) : Prop := ∀ e ∈ ws, 0 ≤ e.1 ∧ e.1 < e.2.1 ∧ e.2.1 < nodes

theorem Rc.inn {nodes : Nat} {ws : List W3} (h0 : 0 < nodes) (hw : InW nodes ws) {v : Int} (h : Rc ws v) : 0 ≤ v ∧ v < nodes := by
  cases h with
  | zero => omega
  | ab he _ => have := hw _ he; omega
  | ba he _ => have := hw _ he; omega

-- the program's marks
def gt (st : List Bool) (v : Int) : Bool := (st[v.toNat]?).getD false
def upd (st : List Bool) (e : W3) : List Bool := if gt st e.1 = true ∨ gt st e.2.1 = true then (st.set e.1.toNat true).set e.2.1.toNat true else st
def cnt (st : List Bool) : Nat := (st.filter id).length

theorem cnt_le (st : List Bool) : cnt st ≤ st.length := List.length_filter_le _ _

theorem cnt_set : ∀ (st : List Bool) (i : Nat), cnt st ≤ cnt (st.set i true) ∧ (st[i]? = some false → cnt st + 1 ≤ cnt (st.set i true))
  | [], i => by simp [cnt]
  | b :: st, 0 => by cases b <;> simp [cnt]
  | b :: st, i + 1 => by
    have := cnt_set st i
    cases b <;> simp_all [cnt]

theorem gt_set (st : List Bool) (i : Nat) (v : Int) : gt (st.set i true) v = (gt st v || (decide (i = v.toNat) && decide (i < st.length))) := by
  simp only [gt, List.getElem?_set]
  by_cases e : i = v.toNat
  · subst e
    by_cases h : v.toNat < st.length
    · simp [h]
    · simp [h]
  · simp [e]

theorem upd_len (st : List Bool) (e : W3) : (upd st e).length = st.length := by
  unfold upd; split <;> simp

theorem upd_mono {st : List Bool} {e : W3} {v : Int} (h : gt st v = true) : gt (upd st e) v = true := by
  unfold upd; split
  · simp [gt_set, h]
  · exact h

theorem upd_sound {ws : List W3} {st : List Bool} {e : W3} {nodes : Nat} (hl : st.length = nodes) (hw : InW nodes ws) (he : e ∈ ws) (h : ∀ v, 0 ≤ v → gt st v = true → Rc ws v) : ∀ v, 0 ≤ v → gt (upd st e) v = true → Rc ws v := by
  intro v hv hg
  obtain ⟨h1, h2, h3⟩ := hw e he
  unfold upd at hg
  split at hg
  · rename_i hor
    have ha : Rc ws e.1 ∧ Rc ws e.2.1 := by
      rcases hor with hor | hor
      · have := h _ h1 hor; exact ⟨this, .ab he this⟩
      · have := h _ (by omega) hor; exact ⟨.ba he this, this⟩
    simp only [gt_set, Bool.or_eq_true, Bool.and_eq_true, decide_eq_true_eq] at hg
    rcases hg with (hg | hg) | hg
    · exact h v hv hg
    · have : e.1 = v := by omega
      rw [← this]; exact ha.1
    · have : e.2.1 = v := by omega
      rw [← this]; exact ha.2
  · exact h v hv hg

theorem gt_false {st : List Bool} {v : Int} (h : gt st v = false) (hl : v.toNat < st.length) : st[v.toNat]? = some false := by
  have : st[v.toNat]? = some st[v.toNat] := List.getElem?_eq_getElem hl
  unfold gt at h
  rw [this] at h ⊢
  simpa using h

theorem upd_cnt (st : List Bool) (e : W3) : cnt st ≤ cnt (upd st e) := by
  unfold upd; split
  · exact Nat.le_trans (cnt_set st _).1 (cnt_set _ _).1
  · exact Nat.le_refl _

theorem upd_grow {st : List Bool} {e : W3} {nodes : Nat} (hl : st.length = nodes) (hi : 0 ≤ e.1 ∧ e.1 < e.2.1 ∧ e.2.1 < nodes) (h : gt st e.1 ≠ gt st e.2.1) : cnt st + 1 ≤ cnt (upd st e) := by
  have hor : gt st e.1 = true ∨ gt st e.2.1 = true := by
    revert h; cases gt st e.1 <;> cases gt st e.2.1 <;> simp
  unfold upd
  rw [if_pos hor]
  by_cases h1 : gt st e.1 = true
  · have h2 : gt st e.2.1 = false := by
      revert h; rw [h1]; cases gt st e.2.1 <;> simp
    have : gt (st.set e.1.toNat true) e.2.1 = false := by
      rw [gt_set, h2]; simp; omega
    have hs := gt_false this (by simp; omega)
    exact Nat.le_trans (Nat.add_le_add_right (cnt_set st _).1 1) ((cnt_set _ _).2 hs)
  · have h1' : gt st e.1 = false := by simpa using h1
    have hs := gt_false h1' (by omega)
    exact Nat.le_trans ((cnt_set st _).2 hs) (cnt_set _ _).1

theorem upd_fix {st : List Bool} {e : W3} {nodes : Nat} (hl : st.length = nodes) (hi : 0 ≤ e.1 ∧ e.1 < e.2.1 ∧ e.2.1 < nodes) (h : gt st e.1 = gt st e.2.1) : upd st e = st := by
  unfold upd
  split
  · rename_i hor
    have hb : gt st e.1 = true ∧ gt st e.2.1 = true := by
      rw [h] at hor ⊢; rcases hor with hor | hor <;> exact ⟨hor, hor⟩
    have one : ∀ (v : Int), gt st v = true → st.set v.toNat true = st := by
      intro v hv
      apply List.ext_getElem?; intro j
      rw [List.getElem?_set]
      split
      · rename_i ej; subst ej
        unfold gt at hv
        split
        · rename_i hlt
          rw [List.getElem?_eq_getElem hlt] at hv ⊢
          simp at hv; rw [hv]
        · rename_i hlt
          rw [List.getElem?_eq_none (by omega)]
      · rfl
    rw [one _ hb.1, one _ hb.2]
  · rfl

def Closed (ws : List W3) (st : List Bool) : Prop := ∀ e ∈ ws, gt st e.1 = gt st e.2.1

theorem round_fix {nodes : Nat} : ∀ {ws : List W3} {st : List Bool}, st.length = nodes → InW nodes ws → Closed ws st → ws.foldl upd st = st
  | [], _, _, _, _ => rfl
  | e :: ws, st, hl, hw, hc => by
    simp only [List.foldl_cons]
    rw [upd_fix hl (hw e (by simp)) (hc e (by simp))]
    exact round_fix hl (fun x hx => hw x (by simp [hx])) fun x hx => hc x (by simp [hx])

theorem round_mono {nodes : Nat} : ∀ {ws : List W3} {st : List Bool}, cnt st ≤ cnt (ws.foldl upd st)
  | [], _ => Nat.le_refl _
  | e :: ws, st => Nat.le_trans (upd_cnt st e) (round_mono (nodes := nodes) (ws := ws))

theorem round_grow {nodes : Nat} : ∀ {ws : List W3} {st : List Bool}, st.length = nodes → InW nodes ws → Closed ws st ∨ cnt st + 1 ≤ cnt (ws.foldl upd st)
  | [], _, _, _ => .inl fun _ h => by simp at h
  | e :: ws, st, hl, hw => by
    by_cases h : gt st e.1 = gt st e.2.1
    · simp only [List.foldl_cons, upd_fix hl (hw e (by simp)) h]
      rcases round_grow (ws := ws) hl (fun x hx => hw x (by simp [hx])) with hc | hg
      · refine .inl fun x hx => ?_
        rcases List.mem_cons.1 hx with rfl | hx
        · exact h
        · exact hc x hx
      · exact .inr hg
    · refine .inr ?_
      simp only [List.foldl_cons]
      exact Nat.le_trans (upd_grow hl (hw e (by simp)) h) (round_mono (nodes := nodes))

theorem round_len : ∀ {ws : List W3} {st : List Bool}, (ws.foldl upd st).length = st.length
  | [], _ => rfl
  | e :: ws, st => by simp only [List.foldl_cons]; rw [round_len, upd_len]

theorem round_keep {v : Int} : ∀ {ws : List W3} {st : List Bool}, gt st v = true → gt (ws.foldl upd st) v = true
  | [], _, h => h
  | e :: ws, st, h => by simp only [List.foldl_cons]; exact round_keep (upd_mono h)

theorem round_sound {ws0 : List W3} {nodes : Nat} (hw : InW nodes ws0) : ∀ {ws : List W3} {st : List Bool}, (∀ e ∈ ws, e ∈ ws0) → st.length = nodes → (∀ v, 0 ≤ v → gt st v = true → Rc ws0 v) → ∀ v, 0 ≤ v → gt (ws.foldl upd st) v = true → Rc ws0 v
  | [], _, _, _, h => h
  | e :: ws, st, hs, hl, h => by
    simp only [List.foldl_cons]
    exact round_sound hw (fun x hx => hs x (by simp [hx])) ((upd_len st e).trans hl) (upd_sound hl hw (hs e (by simp)) h)

/-- All nodes can be reached. -/
noncomputable def conn (n : TNet) : Bool := open Classical in decide (∀ v : Int, 0 ≤ v → v < n.1 → Rc n.2.2.2 v)

theorem closed_all {ws : List W3} {st : List Bool} (hc : Closed ws st) (h0 : gt st 0 = true) : ∀ v, Rc ws v → gt st v = true := by
  intro v h
  induction h with
  | zero => exact h0
  | ab he _ ih => rw [← hc _ he]; exact ih
  | ba he _ ih => rw [hc _ he]; exact ih

theorem all_true {st : List Bool} {nodes : Nat} (hl : st.length = nodes) : decide (false ∈ st) = false ↔ ∀ v : Int, 0 ≤ v → v < nodes → gt st v = true := by
  constructor
  · intro h v h0 h1
    simp only [decide_eq_false_iff_not] at h
    cases hg : gt st v with
    | true => rfl
    | false => exact absurd (List.mem_of_getElem? (gt_false hg (by omega))) h
  · intro h
    simp only [decide_eq_false_iff_not]
    intro hm
    obtain ⟨i, hi⟩ := List.getElem?_of_mem hm
    have := h (i : Int) (by omega) (by have := get_lt hi; omega)
    simp [gt, hi] at this

end Go.Sx.R
namespace Go.Sx

/-- The rule of loops, with a measure. -/
theorem iter_while {S R : Type} {body : S → (S → Option R) → (S → Option R) → Option R} {ke : S → Option R} (Q : Option R → Prop) (p : S → Prop) (mu : S → Nat)
    (h : ∀ s kc, p s → (∀ s', p s' → mu s' < mu s → Q (kc s')) → Q (body s kc ke)) : ∀ (N : Nat) (s : S), p s → mu s < N → Q (iterK body N s ke)
  | 0, _, _, hN => absurd hN (Nat.not_lt_zero _)
  | N + 1, s, hp, hN => by
    simp only [iterK]
    exact h s _ hp fun s' hp' hlt => iter_while Q p mu h N s' hp' (by omega)

/-- A loop over a list that ends with a fold's state. -/
theorem iter_fold {β σ S R : Type} {body : S → (S → Option R) → (S → Option R) → Option R} (l : List β) (mk : σ → Int → S) (p : Nat → σ → Prop) (g : σ → Nat → β → σ)
    (h : ∀ st (i : Nat) x kc ke, p i st → l[i]? = some x → i < l.length → body (mk st i) kc ke = kc (mk (g st i x) ((i + 1 : Nat) : Int)) ∧ p (i + 1) (g st i x))
    (h2 : ∀ st kc ke, p l.length st → body (mk st l.length) kc ke = ke (mk st l.length)) {N : Nat} (hN : l.length < N) (st : σ) (hp : p 0 st) (ke : S → Option R) :
    iterK body N (mk st 0) ke = ke (mk (foldI g l 0 st) l.length) ∧ p l.length (foldI g l 0 st) := by
  have gen : ∀ (r : List β) (i N : Nat) (st : σ), i + r.length = l.length → l.drop i = r → r.length < N → p i st → iterK body N (mk st i) ke = ke (mk (foldI g r i st) l.length) ∧ p l.length (foldI g r i st) := by
    intro r
    induction r with
    | nil =>
      intro i N st hi hd hN hp
      obtain ⟨m, rfl⟩ : ∃ m, N = m + 1 := ⟨N - 1, by omega⟩
      simp only [iterK, foldI]
      have e : i = l.length := by simpa using hi
      subst e
      exact ⟨h2 _ _ _ hp, hp⟩
    | cons x r ih =>
      intro i N st hi hd hN hp
      obtain ⟨m, rfl⟩ : ∃ m, N = m + 1 := ⟨N - 1, by omega⟩
      simp only [List.length_cons] at hi hN
      have hx : l[i]? = some x := by
        have := congrArg (fun l => l[0]?) hd
        simpa using this
      have q := h st i x (fun s' => iterK body m s' ke) ke hp hx (by omega)
      simp only [iterK, foldI]
      rw [q.1]
      exact ih (i + 1) m _ (by omega) (by rw [← List.drop_drop, hd]; simp) (by omega) q.2
  exact gen l 0 N st (by simp) (by simp) hN hp

/-- A loop over a list: the rule. -/
theorem iter_rule {β σ S R : Type} {body : S → (S → Option R) → (S → Option R) → Option R} {ke : S → Option R} (Q : Option R → Prop) (l : List β) (mk : σ → Int → S) (p : Nat → σ → Prop)
    (h : ∀ st (i : Nat) x kc, p i st → l[i]? = some x → i < l.length → (∀ st', p (i + 1) st' → Q (kc (mk st' ((i + 1 : Nat) : Int)))) → Q (body (mk st i) kc ke))
    (h2 : ∀ st kc, p l.length st → Q (body (mk st l.length) kc ke)) {N : Nat} (hN : l.length < N) (st : σ) (hp : p 0 st) : Q (iterK body N (mk st 0) ke) := by
  have gen : ∀ (d i N : Nat) (st : σ), i + d = l.length → d < N → p i st → Q (iterK body N (mk st i) ke) := by
    intro d
    induction d with
    | zero =>
      intro i N st hi hN hp
      obtain ⟨m, rfl⟩ : ∃ m, N = m + 1 := ⟨N - 1, by omega⟩
      have e : i = l.length := by omega
      subst e
      exact h2 _ _ hp
    | succ d ih =>
      intro i N st hi hN hp
      obtain ⟨m, rfl⟩ : ∃ m, N = m + 1 := ⟨N - 1, by omega⟩
      have hlt : i < l.length := by omega
      exact h st i l[i] _ hp (List.getElem?_eq_getElem hlt) hlt fun st' hp' => ih (i + 1) m st' (by omega) (by omega) hp'
  exact gen l.length 0 N st (by omega) hN hp

end Go.Sx
namespace Go.Sx.R
open Go Go.Sx

theorem getI_gt {st : List Bool} {v : Int} (h0 : 0 ≤ v) (h1 : v < st.length) : getI st v = some (gt st v) := by
  have e : v = ((v.toNat : Nat) : Int) := by omega
  have hl : v.toNat < st.length := by omega
  rw [e, getI_nat, gt, Int.toNat_natCast, List.getElem?_eq_getElem hl]; rfl

def met4 (st : List Bool) (_ : Nat) (x : W3) (k : List Bool → Option Bool) : Option Bool :=
  Option.bind (getI st x.1) fun b => cond b (Option.bind (getI st x.1) fun _ => Option.bind (getI (st.set x.1.toNat true) x.2.1) fun _ => k ((st.set x.1.toNat true).set x.2.1.toNat true))
    (Option.bind (getI st x.2.1) fun b2 => cond b2 (Option.bind (getI st x.1) fun _ => Option.bind (getI (st.set x.1.toNat true) x.2.1) fun _ => k ((st.set x.1.toNat true).set x.2.1.toNat true)) (k st))

theorem met4_upd {st : List Bool} {j : Nat} {x : W3} {k : List Bool → Option Bool} (hi : 0 ≤ x.1 ∧ x.1 < x.2.1 ∧ x.2.1 < st.length) : met4 st j x k = k (upd st x) := by
  have g1 := getI_gt (st := st) (v := x.1) (by omega) (by omega)
  have g2 := getI_gt (st := st) (v := x.2.1) (by omega) (by omega)
  have g3 := getI_gt (st := st.set x.1.toNat true) (v := x.2.1) (by omega) (by simp; omega)
  simp only [met4, g1, g2, g3, Option.bind_some, upd]
  cases h1 : gt st x.1 <;> cases h2 : gt st x.2.1 <;> simp

theorem met_inner (n : TNet) (hn : Sm.sm B1 n) (i : Int) (st : List Bool) (hl : InW st.length n.2.2.2) (k : _ → Option Bool) :
    iterK (r_impl_NetOk_L4 e_slices_Contains_bool e_impl_byEnds N0) N0 (n, st, n.1, i, n.2.2.2, (n.2.2.2.length : Int), 0, ()) k =
      k (n, n.2.2.2.foldl upd st, n.1, i, n.2.2.2, (n.2.2.2.length : Int), (n.2.2.2.length : Int), ()) := by
  have hw : Sm.sm B1 n.2.2.2 := hn.2.2.2
  rw [iter_range (R := Bool) n.2.2.2 (fun (st : List Bool) j => (n, st, n.1, i, n.2.2.2, (n.2.2.2.length : Int), j, ())) met4 ?_ ?_ (len_lt hw N0_gt)]
  · have := (rangeK_foldP (step := met4) (fun _ s => s.length = st.length) (fun s _ x => upd s x) (fun st' => k (n, st', n.1, i, n.2.2.2, (n.2.2.2.length : Int), (n.2.2.2.length : Int), ())) n.2.2.2 0 st rfl
      (fun s j x k hs hx => ⟨met4_upd (by rw [hs]; exact hl x (List.mem_of_getElem? hx)), by rw [upd_len, hs]⟩)).1
    rw [this]
    have key : ∀ (l : List W3) (i : Nat) (s : List Bool), foldI (fun s _ x => upd s x) l i s = l.foldl upd s := by
      intro l
      induction l with
      | nil => intros; rfl
      | cons x l ih => intro i s; simp only [foldI, List.foldl_cons, ih]
    rw [key]
  · intro st j x kc ke hx hj
    simp only [r_impl_NetOk_L4, lt_len, hj, decide_true, cond_true, getI_nat, hx, Option.bind_some, wr_len hj hw, met4]
  · intro st kc ke
    simp only [r_impl_NetOk_L4, not_lt_self, cond_false]

/-- The marks at the end. -/
theorem met_outer (n : TNet) (hn : Sm.sm B1 n) (m : Nat) (hm : n.1 = m) (h1 : 1 ≤ m) (hw : InW m n.2.2.2) (st : List Bool) (hl : st.length = m) (hs : ∀ v, 0 ≤ v → gt st v = true → Rc n.2.2.2 v) (h0 : gt st 0 = true) (hc : 1 ≤ cnt st) (k : _ → Option Bool) :
    ∃ st', st'.length = m ∧ Closed n.2.2.2 st' ∧ (∀ v, 0 ≤ v → gt st' v = true → Rc n.2.2.2 v) ∧ gt st' 0 = true ∧
      iterK (r_impl_NetOk_L2 e_slices_Contains_bool e_impl_byEnds N0) N0 (n, st, n.1, 0, ()) k = k (n, st', n.1, n.1, ()) := by
  have hb : m ≤ 9223372036854775807 := by have := hn.1.2; omega
  have hlen : (List.range m).length = m := by simp
  have hnm : n.1 = ((List.range m).length : Int) := by simp [hm]
  have fp := iter_fold (R := Bool) (body := r_impl_NetOk_L2 e_slices_Contains_bool e_impl_byEnds N0) (List.range m) (fun (st : List Bool) i => (n, st, n.1, i, ()))
    (fun i st => st.length = m ∧ (∀ v, 0 ≤ v → gt st v = true → Rc n.2.2.2 v) ∧ gt st 0 = true ∧ (Closed n.2.2.2 st ∨ i + 1 ≤ cnt st)) (fun st _ _ => n.2.2.2.foldl upd st)
    (fun st j x kc ke ⟨p1, p2, p3, p4⟩ hx hj => by
      refine ⟨?_, round_len.trans p1, round_sound hw (fun e he => he) p1 p2, round_keep p3, ?_⟩
      · have hlt : decide ((j : Int) < n.1) = true := by rw [decide_eq_true_eq, hnm]; exact Int.ofNat_lt.2 hj
        simp only [r_impl_NetOk_L2, hlt, cond_true]
        rw [met_inner n hn _ st (by rw [p1]; exact hw)]
        rw [wr_succ hj (by omega)]
      · rcases p4 with p4 | p4
        · left; rw [round_fix p1 hw p4]; exact p4
        · rcases round_grow p1 hw with q | q
          · left; rw [round_fix p1 hw q]; exact q
          · right; omega)
    (fun st kc ke _ => by
      have hlt : decide ((((List.range m).length : Nat) : Int) < n.1) = false := by rw [decide_eq_false_iff_not, hnm]; omega
      simp only [r_impl_NetOk_L2, hlt, cond_false]) (N := N0) (by have := N0_big; omega) st ⟨hl, hs, h0, .inr hc⟩ k
  refine ⟨foldI (fun st _ _ => n.2.2.2.foldl upd st) (List.range m) 0 st, fp.2.1, ?_, fp.2.2.1, fp.2.2.2.1, ?_⟩
  · rcases fp.2.2.2.2 with q | q
    · exact q
    · have := cnt_le (foldI (fun st _ _ => n.2.2.2.foldl upd st) (List.range m) 0 st)
      rw [fp.2.1] at this
      simp only [hlen] at q; omega
  · rw [fp.1, hlen, hm]

theorem wiresOk {n : TNet} {m : Nat} (hm : n.1 = m) (h : wiresBad n = false) : InW m n.2.2.2 := by
  intro e he
  obtain ⟨i, hi⟩ := List.getElem?_of_mem he
  simp only [wiresBad, List.any_eq_false] at h
  have := h (e, i) (by rw [List.mem_zipIdx_iff_getElem?]; exact hi)
  simp only [badW, Bool.not_eq_true, Bool.or_eq_false_iff, Bool.not_eq_false', Bool.and_eq_true, decide_eq_true_eq] at this
  omega

noncomputable def netok (n : TNet) : Bool := hdrOk n && !wiresBad n && conn n

theorem p_NetOk (n : TNet) (hn : Sm.sm B1 n) : e_impl_NetOk (n, ()) = some (netok n) := by
  simp only [e_impl_NetOk, r_impl_NetOk, netL0_impl n hn]
  by_cases hh : hdrOk n = true
  · have hh' := hh
    simp only [hdrOk, Bool.and_eq_true, decide_eq_true_eq] at hh'
    obtain ⟨⟨⟨⟨⟨q1, q2⟩, q3⟩, q4⟩, q5⟩, q6⟩ := hh'
    have d1 : decide (n.1 < 1) = false := by rw [decide_eq_false_iff_not]; omega
    have d2 : decide (n.1 > 5) = false := by rw [decide_eq_false_iff_not]; omega
    have d3 : decide (n.2.1 < 1) = false := by rw [decide_eq_false_iff_not]; omega
    have d4 : decide (n.2.1 > n.1) = false := by rw [decide_eq_false_iff_not]; omega
    have d5 : decide (n.2.2.1 < 1) = false := by rw [decide_eq_false_iff_not]; omega
    have d6 : decide (n.2.2.1 > 1000) = false := by rw [decide_eq_false_iff_not]; omega
    simp only [d1, d2, d3, d4, d5, d6, cond_false]
    cases hb : wiresBad n with
    | true => simp [netok, hh, hb]
    | false =>
      simp only [cond_false]
      obtain ⟨m, hm⟩ : ∃ m : Nat, n.1 = m := ⟨n.1.toNat, by omega⟩
      have hw := wiresOk hm hb
      have d7 : decide (0 ≤ n.1) = true := by rw [decide_eq_true_eq]; omega
      have hm' : n.1.toNat = m := by omega
      simp only [d7, cond_true, hm', ble_true (show m ≤ 17179869184 by omega)]
      have g0 : getI (List.replicate m false) 0 = some false := by
        rw [getI_zero, List.getElem?_replicate, if_pos (by omega)]
      simp only [g0, Option.bind_some, Int.toNat_zero]
      obtain ⟨st', p1, p2, p3, p4, p5⟩ := met_outer n hn m hm (by omega) hw ((List.replicate m false).set 0 true) (by simp)
        (fun v hv hg => by
          rw [gt_set] at hg
          have hz : gt (List.replicate m false) v = false := by
            simp only [gt, List.getElem?_replicate]; split <;> rfl
          rw [hz] at hg
          simp at hg
          have : v = 0 := by omega
          subst this; exact .zero)
        (by rw [gt_set]; simp; omega)
        (by have := (cnt_set (List.replicate m false) 0).2 (by rw [List.getElem?_replicate, if_pos (by omega)]); omega)
        (fun s3 => Option.bind (e_slices_Contains_bool (s3.2.1, false, ())) fun x4 => some (!x4))
      rw [p5]
      simp only [p_ContainsB st' false (show st'.length ≤ BB by rw [p1]; exact Nat.le_trans (show m ≤ 5 by omega) (by decide)), Option.bind_some, netok, hh, hb, Bool.not_false, Bool.true_and, Option.some.injEq]
      have hall := all_true p1
      by_cases hc : ∀ v : Int, 0 ≤ v → v < n.1 → Rc n.2.2.2 v
      · have e1 : conn n = true := by simp only [conn, decide_eq_true_eq]; exact hc
        rw [e1, hall.2 fun v h0 h1 => closed_all p2 p4 v (hc v h0 (by omega))]; rfl
      · have e1 : conn n = false := by simp only [conn, decide_eq_false_iff_not]; exact hc
        have : decide (false ∈ st') = true := by
          cases hd : decide (false ∈ st') with
          | true => rfl
          | false => exact absurd (fun v h0 h1 => p3 v h0 (hall.1 hd v h0 (by omega))) hc
        rw [e1, this]; rfl
  · simp only [Bool.not_eq_true] at hh
    have e : netok n = false := by simp [netok, hh]
    rw [e]
    have hh' := hh
    simp only [hdrOk, Bool.and_eq_false_iff, decide_eq_false_iff_not] at hh'
    by_cases d1 : n.1 < 1
    · simp [d1]
    by_cases d2 : n.1 > 5
    · simp [d1, d2]
    by_cases d3 : n.2.1 < 1
    · simp [d1, d2, d3]
    by_cases d4 : n.2.1 > n.1
    · simp [d1, d2, d3, d4]
    by_cases d5 : n.2.2.1 < 1
    · simp [d1, d2, d3, d4, d5]
    by_cases d6 : n.2.2.1 > 1000
    · simp [d1, d2, d3, d4, d5, d6]
    omega

end Go.Sx.R
namespace Go.Sx.R
open Go Go.Sx

def addIf (c : Bool) (v : Int) (q : List Int) : List Int := if c = true ∧ v ∉ q then q ++ [v] else q

theorem addIf_mem {c : Bool} {v u : Int} {q : List Int} (h : u ∈ q) : u ∈ addIf c v q := by
  unfold addIf; split
  · simp [h]
  · exact h
theorem addIf_in {v : Int} {q : List Int} : v ∈ addIf true v q := by
  unfold addIf; split
  · simp
  · rename_i h; simpa using h
theorem addIf_get {c : Bool} {v u : Int} {q : List Int} {i : Nat} (h : q[i]? = some u) : (addIf c v q)[i]? = some u := by
  unfold addIf; split
  · rw [List.getElem?_append_left (get_lt h)]; exact h
  · exact h
theorem addIf_len {c : Bool} {v : Int} {q : List Int} : q.length ≤ (addIf c v q).length := by
  unfold addIf; split <;> simp

/-- What holds of the queue. -/
structure QOk (ws : List W3) (q : List Int) : Prop where
  nodup : q.Nodup
  rc : ∀ v ∈ q, Rc ws v
  zero : (0 : Int) ∈ q

theorem QOk.add {ws : List W3} {q : List Int} (h : QOk ws q) {c : Bool} {v : Int} (hv : c = true → Rc ws v) : QOk ws (addIf c v q) := by
  unfold addIf; split
  · rename_i hc
    refine ⟨?_, fun u hu => ?_, by simp [h.zero]⟩
    · rw [List.nodup_append]
      refine ⟨h.nodup, by simp, fun a ha b hb e => ?_⟩
      simp at hb; subst hb; subst e; exact hc.2 ha
    · rcases List.mem_append.1 hu with hu | hu
      · exact h.rc u hu
      · simp at hu; subst hu; exact hv hc.1
  · exact h

theorem QOk.len {ws : List W3} {q : List Int} {m : Nat} (h : QOk ws q) (h0 : 0 < m) (hw : InW m ws) : q.length ≤ m := by
  have := nodup_len (m := ints m) h.nodup fun v hv => mem_ints.2 ((h.rc v hv).inn h0 hw)
  rwa [len_ints] at this

def Done (ws : List W3) (v : Int) (q : List Int) : Prop := ∀ e ∈ ws, (e.1 = v → e.2.1 ∈ q) ∧ (e.2.1 = v → e.1 ∈ q)

def reachG (x : Int) (q : List Int) (_ : Nat) (e : W3) : List Int := addIf (decide (e.2.1 = x)) e.1 (addIf (decide (e.1 = x)) e.2.1 q)

theorem addT {v : Int} {q : List Int} (h : v ∉ q) : addIf true v q = q ++ [v] := by simp [addIf, h]
theorem addN {c : Bool} {v : Int} {q : List Int} (h : v ∈ q) : addIf c v q = q := by simp [addIf, h]
theorem addF {v : Int} {q : List Int} : addIf false v q = q := by simp [addIf]

theorem reach_step (ws : List W3) (hws : Sm.sm B1 ws) (m : Nat) (h0 : 0 < m) (h5 : m ≤ 5) (hw : InW m ws) (i : Nat) (x : Int) (q : List Int) (hq : QOk ws q) (hx : q[i]? = some x) (j : Nat) (e : W3) (he : ws[j]? = some e) (hj : j < ws.length) (kc ke : _ → Option (List Int)) :
    r_spec_l03Reach_L2 e_spec_l03Has N0 (ws, q, (i : Int), ws, (ws.length : Int), (j : Int), ()) kc ke = kc (ws, reachG x q j e, (i : Int), ws, (ws.length : Int), ((j + 1 : Nat) : Int), ()) := by
  have hxq : x ∈ q := List.mem_of_getElem? hx
  have hl := hq.len h0 hw
  have hbb : ∀ k : Nat, k ≤ 7 → k ≤ BB := fun k hk => Nat.le_trans hk (by decide)
  simp only [r_spec_l03Reach_L2, lt_len, hj, decide_true, cond_true, getI_nat, he, hx, Option.bind_some, wr_len hj hws]
  rw [p_Has q e.2.1 (hbb _ (by omega)), p_Has q e.1 (hbb _ (by omega))]
  have hx2 : ∀ v : Int, (q ++ [v])[i]? = some x := fun v => by rw [List.getElem?_append_left (get_lt hx)]; exact hx
  have room : Nat.ble (q.length + 1) 17179869184 = true := ble_true (by omega)
  have room2 : Nat.ble (q.length + 1 + 1) 17179869184 = true := ble_true (by omega)
  rw [p_Has (q ++ [e.2.1]) e.1 (hbb _ (by simp; omega))]
  simp only [List.length_cons, List.length_nil, List.length_append, Nat.zero_add, room, room2, hx2, Option.bind_some, cond_true, reachG]
  by_cases a1 : e.1 = x
  · rw [a1]
    simp only [decide_true, cond_true]
    by_cases a2 : e.2.1 ∈ q
    · simp only [a2, decide_true, Bool.not_true, cond_false, addN a2]
      by_cases a3 : e.2.1 = x
      · simp only [a3, decide_true, cond_true, hxq, Bool.not_true, cond_false, addN hxq]
      · simp only [a3, decide_false, cond_false, addF]
    · simp only [a2, decide_false, Bool.not_false, cond_true, addT a2]
      by_cases a3 : e.2.1 = x
      · exact absurd (a3 ▸ hxq) a2
      · simp only [a3, decide_false, cond_false, addF]
  · simp only [a1, decide_false, cond_false, addF]
    by_cases a3 : e.2.1 = x
    · simp only [a3, decide_true, cond_true]
      by_cases a4 : e.1 ∈ q
      · simp only [a4, decide_true, Bool.not_true, cond_false, addN a4]
      · simp only [a4, decide_false, Bool.not_false, cond_true, addT a4]
    · simp only [a3, decide_false, cond_false, addF]

theorem reach_inner (ws : List W3) (hws : Sm.sm B1 ws) (m : Nat) (h0 : 0 < m) (h5 : m ≤ 5) (hw : InW m ws) (i : Nat) (x : Int) (q : List Int) (hq : QOk ws q) (hx : q[i]? = some x) (ke : _ → Option (List Int)) :
    ∃ q', iterK (r_spec_l03Reach_L2 e_spec_l03Has N0) N0 (ws, q, (i : Int), ws, (ws.length : Int), 0, ()) ke = ke (ws, q', (i : Int), ws, (ws.length : Int), (ws.length : Int), ()) ∧
      QOk ws q' ∧ q'[i]? = some x ∧ (∀ u ∈ q, u ∈ q') ∧ q.length ≤ q'.length ∧ Done ws x q' ∧ ∀ (j : Nat) (u : Int), q[j]? = some u → q'[j]? = some u := by
  have hxr : Rc ws x := hq.rc x (List.mem_of_getElem? hx)
  have := iter_fold (R := List Int) (body := r_spec_l03Reach_L2 e_spec_l03Has N0) ws (fun (q : List Int) j => (ws, q, (i : Int), ws, (ws.length : Int), j, ()))
    (fun j q' => QOk ws q' ∧ q'[i]? = some x ∧ (∀ u ∈ q, u ∈ q') ∧ q.length ≤ q'.length ∧ (∀ (k : Nat) (e : W3), k < j → ws[k]? = some e → (e.1 = x → e.2.1 ∈ q') ∧ (e.2.1 = x → e.1 ∈ q')) ∧ ∀ (k : Nat) (u : Int), q[k]? = some u → q'[k]? = some u) (reachG x)
    (fun q' j e kc ke ⟨p1, p2, p3, p4, p5, p6⟩ he hj => by
      refine ⟨reach_step ws hws m h0 h5 hw i x q' p1 p2 j e he hj kc ke, ?_, ?_, ?_, ?_, ?_, ?_⟩
      · have hem := List.mem_of_getElem? he
        refine (p1.add fun hc => ?_).add fun hc => ?_
        · have : e.1 = x := by simpa using hc
          exact .ab hem (this ▸ hxr)
        · have : e.2.1 = x := by simpa using hc
          exact .ba hem (this ▸ hxr)
      · exact addIf_get (addIf_get p2)
      · exact fun u hu => addIf_mem (addIf_mem (p3 u hu))
      · exact Nat.le_trans p4 (Nat.le_trans addIf_len addIf_len)
      · intro k e' hk hek
        by_cases ek : k = j
        · subst ek
          rw [he] at hek; simp only [Option.some.injEq] at hek; subst hek
          refine ⟨fun h1 => ?_, fun h2 => ?_⟩
          · refine addIf_mem ?_
            rw [decide_eq_true h1]; exact addIf_in
          · simp only [reachG]
            rw [decide_eq_true h2]; exact addIf_in
        · have := p5 k e' (by omega) hek
          exact ⟨fun h => addIf_mem (addIf_mem (this.1 h)), fun h => addIf_mem (addIf_mem (this.2 h))⟩
      · exact fun k u hk => addIf_get (addIf_get (p6 k u hk)))
    (fun q' kc ke _ => by simp only [r_spec_l03Reach_L2, not_lt_self, cond_false]) (N := N0) (len_lt hws N0_gt) q ⟨hq, hx, fun _ h => h, Nat.le_refl _, by simp, fun _ _ h => h⟩ ke
  obtain ⟨e1, p1, p2, p3, p4, p5, p6⟩ := this
  refine ⟨_, e1, p1, p2, p3, p4, fun e he => ?_, p6⟩
  obtain ⟨k, hk⟩ := List.getElem?_of_mem he
  exact p5 k e (get_lt hk) hk

theorem p_Reach (ws : List W3) (hws : Sm.sm B1 ws) (m : Nat) (h0 : 0 < m) (h5 : m ≤ 5) (hw : InW m ws) :
    ∃ q, e_spec_l03Reach (ws, 0, ()) = some q ∧ QOk ws q ∧ ∀ v ∈ q, Done ws v q := by
  simp only [e_spec_l03Reach, r_spec_l03Reach]
  refine iter_while (fun o => ∃ q, o = some q ∧ QOk ws q ∧ ∀ v ∈ q, Done ws v q)
    (fun s : List W3 × List Int × Int × Unit => s.1 = ws ∧ QOk ws s.2.1 ∧ ∃ i : Nat, s.2.2.1 = i ∧ i ≤ s.2.1.length ∧ ∀ (j : Nat) (u : Int), j < i → s.2.1[j]? = some u → Done ws u s.2.1) (fun s => m - s.2.2.1.toNat) ?_ N0 _ ⟨rfl, ⟨by simp, fun v hv => ?_, by simp⟩, 0, rfl, by simp, by simp⟩ (by have := N0_big; simp only [Int.toNat_zero]; omega)
  · rintro ⟨ws', q, at', u⟩ kc ⟨rfl, hq, i, rfl, hi, hd⟩ hk
    simp only [r_spec_l03Reach_L0]
    simp only at hq hi hd
    by_cases hlt : i < q.length
    · simp only [lt_len, hlt, decide_true, cond_true]
      have hx : q[i]? = some q[i] := List.getElem?_eq_getElem hlt
      obtain ⟨q', e1, p1, p2, p3, p4, p5, p6⟩ := reach_inner ws' hws m h0 h5 hw i q[i] q hq hx (fun s1 => kc (s1.1, s1.2.1, wr (s1.2.2.1 + 1), ()))
      rw [e1]
      have hl := hq.len h0 hw
      simp only [wr_succ hlt (by omega)]
      refine hk _ ⟨rfl, p1, i + 1, rfl, by simp only; omega, fun j u hj hu => ?_⟩ (by simp only [Int.toNat_natCast]; omega)
      simp only at hu ⊢
      by_cases ej : j = i
      · subst ej; rw [p2] at hu; simp only [Option.some.injEq] at hu; rw [← hu]; exact p5
      · have hj' : j < q.length := by omega
        have h1 : q[j]? = some q[j] := List.getElem?_eq_getElem hj'
        have h2 := p6 j _ h1
        rw [hu] at h2; simp only [Option.some.injEq] at h2; subst h2
        intro e he
        exact ⟨fun h => p3 _ ((hd j _ (by omega) h1 e he).1 h), fun h => p3 _ ((hd j _ (by omega) h1 e he).2 h)⟩
    · have hd' : decide ((i : Int) < (q.length : Int)) = false := by simp; omega
      simp only [hd', cond_false]
      refine ⟨q, rfl, hq, fun v hv => ?_⟩
      obtain ⟨j, hj⟩ := List.getElem?_of_mem hv
      exact hd j v (by have := get_lt hj; omega) hj
  · simp at hv; subst hv; exact .zero

theorem reach_all {ws : List W3} {q : List Int} (hq : QOk ws q) (hd : ∀ v ∈ q, Done ws v q) : ∀ v, Rc ws v → v ∈ q := by
  intro v h
  induction h with
  | zero => exact hq.zero
  | ab he _ ih => exact (hd _ ih _ he).1 rfl
  | ba he _ ih => exact (hd _ ih _ he).2 rfl

theorem s_NetOk (n : TNet) (hn : Sm.sm B1 n) : e_spec_NetOk (n, ()) = some (netok n) := by
  simp only [e_spec_NetOk, r_spec_NetOk, p_l01In, n_l01In, Option.bind_some]
  by_cases hh : hdrOk n = true
  · have hh' := hh
    simp only [hdrOk, Bool.and_eq_true, decide_eq_true_eq] at hh'
    obtain ⟨⟨⟨⟨⟨q1, q2⟩, q3⟩, q4⟩, q5⟩, q6⟩ := hh'
    simp only [q1, q2, q3, q4, q5, q6, decide_true, Bool.and_self, Bool.not_true, cond_false]
    rw [netL0_spec n hn _ q1 q2]
    cases hb : wiresBad n with
    | true => simp [netok, hh, hb]
    | false =>
      simp only [cond_false]
      obtain ⟨m, hm⟩ : ∃ m : Nat, n.1 = m := ⟨n.1.toNat, by omega⟩
      have hw := wiresOk hm hb
      obtain ⟨q, e1, hq, hd⟩ := p_Reach n.2.2.2 hn.2.2.2 m (by omega) (by omega) hw
      rw [e1]
      simp only [Option.bind_some, netok, hh, hb, Bool.not_false, Bool.true_and, Option.some.injEq]
      have hl := hq.len (by omega) hw
      by_cases hc : ∀ v : Int, 0 ≤ v → v < n.1 → Rc n.2.2.2 v
      · have e2 : conn n = true := by simp only [conn, decide_eq_true_eq]; exact hc
        rw [e2, decide_eq_true_eq]
        have := nodup_len (l := ints m) (m := q) nodup_ints fun v hv => reach_all hq hd v (hc v (mem_ints.1 hv).1 (by have := (mem_ints.1 hv).2; omega))
        rw [len_ints] at this; omega
      · have e2 : conn n = false := by simp only [conn, decide_eq_false_iff_not]; exact hc
        rw [e2, decide_eq_false_iff_not]
        intro hlen
        have hall := nodup_all (m := ints m) hq.nodup (fun v hv => mem_ints.2 ((hq.rc v hv).inn (by omega) hw)) (by rw [len_ints]; omega)
        exact hc fun v h0 h1 => hq.rc v (hall v (mem_ints.2 ⟨h0, by omega⟩))
  · simp only [Bool.not_eq_true] at hh
    have e : netok n = false := by simp [netok, hh]
    rw [e]
    have hh' := hh
    simp only [hdrOk, Bool.and_eq_false_iff, decide_eq_false_iff_not] at hh'
    by_cases d1 : 1 ≤ n.1 ∧ n.1 ≤ 5
    · by_cases d3 : 1 ≤ n.2.1 ∧ n.2.1 ≤ n.1
      · have d5 : (decide (1 ≤ n.2.2.1) && decide (n.2.2.1 ≤ 1000)) = false := by simp only [Bool.and_eq_false_iff, decide_eq_false_iff_not]; omega
        simp [d1, d3, d5]
      · have d3' : (decide (1 ≤ n.2.1) && decide (n.2.1 ≤ n.1)) = false := by simp only [Bool.and_eq_false_iff, decide_eq_false_iff_not]; omega
        simp [d1, d3']
    · have d1' : (decide (1 ≤ n.1) && decide (n.1 ≤ 5)) = false := by simp only [Bool.and_eq_false_iff, decide_eq_false_iff_not]; omega
      simp [d1']
end Go.Sx.R
namespace Go.Sx.R
open Go Go.Sx

theorem find_first {β : Type} (p : β → Bool) : ∀ (l : List β) (i : Nat) (x : β), (∀ (j : Nat) (y : β), j < i → l[j]? = some y → p y = false) → l[i]? = some x → p x = true → l.find? p = some x
  | [], i, x, _, hx, _ => by simp at hx
  | y :: l, 0, x, _, hx, hp => by
    simp at hx; subst hx; simp [hp]
  | y :: l, i + 1, x, h, hx, hp => by
    have h0 := h 0 y (by omega) (by simp)
    simp only [List.find?_cons, h0]
    exact find_first p l i x (fun j z hj hz => h (j + 1) z (by omega) (by simpa using hz)) (by simpa using hx) hp

theorem find_none {β : Type} (p : β → Bool) (l : List β) (h : ∀ (j : Nat) (y : β), l[j]? = some y → p y = false) : l.find? p = none := by
  rw [List.find?_eq_none]
  intro x hx
  obtain ⟨j, hj⟩ := List.getElem?_of_mem hx
  simp [h j x hj]

/-- A wire between two nodes. -/
def isW (a b : Int) (x : W3) : Bool := decide (x.1 = if b < a then b else a) && decide (x.2.1 = if b > a then b else a)
def wbt (ws : List W3) (a b : Int) : Int := if a = b then 0 else match ws.find? (isW a b) with
  | some x => x.2.2
  | none => 0

theorem p_WB (n : TNet) (m : Nat) (hn : Sm.sm B1 n) (hw : InW m n.2.2.2) (a b : Int) : e_impl_WeightBetween (n, a, b, ()) = some (wbt n.2.2.2 a b) := by
  have hws : Sm.sm B1 n.2.2.2 := hn.2.2.2
  simp only [e_impl_WeightBetween, r_impl_WeightBetween]
  refine iter_rule (fun o => o = some (wbt n.2.2.2 a b)) n.2.2.2 (fun (_ : Unit) i => (a, b, n.2.2.2, (n.2.2.2.length : Int), i, ())) (fun i _ => a = b ∨ ∀ (j : Nat) (y : W3), j < i → n.2.2.2[j]? = some y → isW a b y = false)
    (fun st i x kc hp hx hi hk => ?_) (fun st kc hp => ?_) (len_lt hws N0_gt) () (.inr (by simp))
  · simp only [r_impl_WeightBetween_L0, lt_len, hi, decide_true, cond_true, getI_nat, hx, Option.bind_some, wr_len hi hws]
    have hk' := hk ()
    by_cases hab : a = b
    · simp only [hab, decide_true, Bool.not_true, cond_false] at hk' ⊢
      exact hk' (.inl trivial)
    · have hp := hp.resolve_left hab
      simp only [hab, decide_false, Bool.not_false, cond_true]
      have hx3 := hw x (List.mem_of_getElem? hx)
      have next : isW a b x = false → some (wbt n.2.2.2 a b) = some (wbt n.2.2.2 a b) → kc (a, b, n.2.2.2, (n.2.2.2.length : Int), ((i + 1 : Nat) : Int), ()) = some (wbt n.2.2.2 a b) := fun hf _ => hk' (.inr fun j y hj hy => by
        by_cases e : j = i
        · subst e; rw [hx] at hy; simp only [Option.some.injEq] at hy; subst hy; exact hf
        · exact hp j y (by omega) hy)
      have hit : isW a b x = true → some x.2.2 = some (wbt n.2.2.2 a b) := fun ht => by
        rw [wbt, if_neg hab, find_first (isW a b) _ i x hp hx ht]
      by_cases a1 : x.1 = a
      · by_cases a2 : x.2.1 = b
        · simp only [a1, a2, decide_true, cond_true]
          refine hit ?_
          simp only [isW, Bool.and_eq_true, decide_eq_true_eq]
          rw [if_neg (by omega), if_pos (by omega)]; exact ⟨a1, a2⟩
        · have hf : isW a b x = false := by
            simp only [isW, Bool.and_eq_false_iff, decide_eq_false_iff_not]
            by_cases c : b < a
            · left; rw [if_pos c]; omega
            · right; rw [if_pos (by omega)]; exact a2
          have a3 : ¬ (x.1 = b) := by omega
          have a3' : ¬ (a = b) := by omega
          simp only [a1, a2, decide_true, cond_true, decide_false, cond_false, a3']
          exact next hf rfl
      · by_cases a3 : x.1 = b
        · by_cases a4 : x.2.1 = a
          · simp only [a1, a3, a4, decide_true, cond_true, decide_false, cond_false]
            have : ¬ b = a := by omega
            simp only [this, decide_false, cond_false]
            refine hit ?_
            simp only [isW, Bool.and_eq_true, decide_eq_true_eq]
            rw [if_pos (by omega), if_neg (by omega)]; exact ⟨a3, a4⟩
          · have hf : isW a b x = false := by
              simp only [isW, Bool.and_eq_false_iff, decide_eq_false_iff_not]
              by_cases c : b < a
              · right; rw [if_neg (by omega)]; exact a4
              · left; rw [if_neg c]; exact a1
            have : ¬ b = a := by omega
            simp only [a3, a4, decide_true, cond_true, decide_false, cond_false, this]
            exact next hf rfl
        · have hf : isW a b x = false := by
            simp only [isW, Bool.and_eq_false_iff, decide_eq_false_iff_not]
            left; split <;> assumption
          simp only [a1, a3, decide_false, cond_false]
          exact next hf rfl
  · simp only [r_impl_WeightBetween_L0, not_lt_self, cond_false]
    by_cases hab : a = b
    · simp [wbt, hab]
    · rw [wbt, if_neg hab, find_none (isW a b) _ fun j y hy => (hp.resolve_left hab) j y (get_lt hy) hy]

theorem s_Find (ws : List W3) (hws : Sm.sm B1 ws) (a b : Int) : ∃ r, e_spec_l03Find (ws, a, b, ()) = some r ∧ ((r = -1 ∧ ws.find? (isW a b) = none) ∨ ∃ (j : Nat) (x : W3), r = j ∧ ws[j]? = some x ∧ ws.find? (isW a b) = some x) := by
  simp only [e_spec_l03Find, r_spec_l03Find]
  refine iter_rule (fun o => ∃ r : Int, o = some r ∧ ((r = -1 ∧ ws.find? (isW a b) = none) ∨ ∃ (j : Nat) (x : W3), r = j ∧ ws[j]? = some x ∧ ws.find? (isW a b) = some x)) ws (fun (_ : Unit) i => (a, b, ws, (ws.length : Int), i, ())) (fun i _ => ∀ (j : Nat) (y : W3), j < i → ws[j]? = some y → isW a b y = false)
    (fun st i x kc hp hx hi hk => ?_) (fun st kc hp => ?_) (len_lt hws N0_gt) () (by simp)
  · simp only [r_spec_l03Find_L0, lt_len, hi, decide_true, cond_true, getI_nat, hx, Option.bind_some, wr_len hi hws]
    have next : isW a b x = false → _ := fun hf => hk () fun j y hj hy => by
        by_cases e : j = i
        · subst e; rw [hx] at hy; simp only [Option.some.injEq] at hy; subst hy; exact hf
        · exact hp j y (by omega) hy
    by_cases c1 : x.1 = if b < a then b else a
    · by_cases c2 : x.2.1 = if b > a then b else a
      · have d1 := decide_eq_true c1
        have d2 := decide_eq_true c2
        refine ⟨i, ?_, .inr ⟨i, x, rfl, hx, find_first (isW a b) _ i x hp hx (by simp only [isW, d1, d2, Bool.and_self])⟩⟩
        rw [d1, cond_true, d2, cond_true]
      · have d1 := decide_eq_true c1
        have d2 := decide_eq_false c2
        rw [d1, cond_true, d2, cond_false]
        exact next (by simp only [isW, d2, Bool.and_false])
    · have d1 := decide_eq_false c1
      rw [d1, cond_false]
      exact next (by simp only [isW, d1, Bool.false_and])
  · simp only [r_spec_l03Find_L0, not_lt_self, cond_false]
    exact ⟨-1, rfl, .inl ⟨rfl, find_none (isW a b) _ fun j y hy => hp j y (get_lt hy) hy⟩⟩

theorem s_WB (n : TNet) (hn : Sm.sm B1 n) (a b : Int) : e_spec_WeightBetween (n, a, b, ()) = some (wbt n.2.2.2 a b) := by
  simp only [e_spec_WeightBetween, r_spec_WeightBetween]
  obtain ⟨r, e1, h⟩ := s_Find n.2.2.2 hn.2.2.2 a b
  rw [e1, Option.bind_some]
  rcases h with ⟨rfl, h⟩ | ⟨j, x, rfl, hx, h⟩
  · simp [wbt, h]
  · have : decide ((j : Int) < 0) = false := by simp
    rw [this, cond_false, getI_nat, hx]
    by_cases hab : a = b
    · simp [hab, wbt]
    · simp [hab, wbt, h]

/-- What a good network is. -/
theorem netok_facts {n : TNet} (h : netok n = true) : ∃ m : Nat, n.1 = m ∧ 1 ≤ m ∧ m ≤ 5 ∧ InW m n.2.2.2 ∧ 1 ≤ n.2.1 ∧ n.2.1 ≤ m := by
  have hh : hdrOk n = true := by revert h; simp only [netok]; cases hdrOk n <;> simp
  have hb : wiresBad n = false := by revert h; simp only [netok]; cases wiresBad n <;> simp
  simp only [hdrOk, Bool.and_eq_true, decide_eq_true_eq] at hh
  obtain ⟨m, hm⟩ : ∃ m : Nat, n.1 = m := ⟨n.1.toNat, by omega⟩
  exact ⟨m, hm, by omega, by omega, wiresOk hm hb, by omega, by omega⟩

end Go.Sx.R
namespace Go.Sx.R
open Go Go.Sx

/-- The nodes that are no terminals. -/
def rng (lo : Int) (d : Nat) : List Int := (List.range d).map fun i => lo + Int.ofNat i

theorem rng_len {lo : Int} {d : Nat} : (rng lo d).length = d := by simp [rng]

theorem rng_succ (lo : Int) (d : Nat) : rng lo (d + 1) = rng lo d ++ [lo + d] := by
  simp [rng, List.range_succ]

theorem p_inner (n : TNet) (m : Nat) (hm : n.1 = m) (hmB : m ≤ 5) (h1 : 1 ≤ n.2.1) (h2 : n.2.1 ≤ m) : e_impl_inner (n, ()) = some (rng n.2.1 (m - n.2.1.toNat)) := by
  simp only [e_impl_inner, r_impl_inner]
  have hd : (List.range (m - n.2.1.toNat)).length = m - n.2.1.toNat := by simp
  have := iter_fold (R := List Int) (body := r_impl_inner_L0 N0) (List.range (m - n.2.1.toNat)) (fun (q : List Int) i => (n, q, n.2.1 + i, ())) (fun i q => q = rng n.2.1 i) (fun q i _ => q ++ [n.2.1 + (i : Int)])
    (fun q i x kc ke hq hx hi => by
      rw [hd] at hi
      have hlt : decide (n.2.1 + (i : Int) < n.1) = true := by rw [decide_eq_true_eq]; omega
      subst hq
      have hw : wr (n.2.1 + (i : Int) + 1) = n.2.1 + ((i + 1 : Nat) : Int) := by rw [wr_id (by omega) (by omega)]; omega
      simp only [r_impl_inner_L0, hlt, cond_true, List.length_cons, List.length_nil, Nat.zero_add, rng_len, ble_true (show i + 1 ≤ 17179869184 by omega), hw]
      exact ⟨trivial, (rng_succ _ _).symm⟩)
    (fun q kc ke _ => by
      have hlt : decide (n.2.1 + (((List.range (m - n.2.1.toNat)).length : Nat) : Int) < n.1) = false := by rw [decide_eq_false_iff_not, hd]; omega
      simp only [r_impl_inner_L0, hlt, cond_false]) (N := N0) (by have := N0_big; omega) [] (by simp [rng]) (fun s1 => some s1.2.1)
  have e0 : n.2.1 + (0 : Int) = n.2.1 := by omega
  simp only [e0] at this
  rw [this.1, this.2, hd]

end Go.Sx.R
namespace Go.Sx.R
open Go Go.Sx

theorem u64_id {x : Int} (h0 : 0 ≤ x) (h1 : x ≤ 18446744073709551615) : Go.IntKind.wrap Go.IntKind.u64 x = x := by
  simp only [IntKind.wrap, IntKind.bits, IntKind.signed]
  simp
  omega

theorem common_loop (a b : Nat) (hb : b ≤ 9223372036854775807) : (iterK (r_impl_common_L0 N0) N0 ((a : Int), (b : Int), ()) fun s1 => some s1.1) = some ((Nat.gcd a b : Nat) : Int) := by
  refine iter_while (fun o => o = some ((Nat.gcd a b : Nat) : Int)) (fun s : Int × Int × Unit => ∃ x y : Nat, s = ((x : Int), (y : Int), ()) ∧ Nat.gcd x y = Nat.gcd a b) (fun s => s.2.1.toNat) ?_ N0 _ ⟨a, b, rfl, rfl⟩ (by have := N0_big; simp only [Int.toNat_natCast]; omega)
  rintro _ kc ⟨x, y, rfl, hg⟩ hk
  simp only [r_impl_common_L0]
  by_cases hy : y = 0
  · subst hy
    simp at hg
    simp [hg]
  · have d : decide ((y : Int) = 0) = false := by rw [decide_eq_false_iff_not]; omega
    simp only [d, Bool.not_false, cond_true, cond_false]
    have e : Int.tmod (x : Int) (y : Int) = ((x % y : Nat) : Int) := by rw [Int.tmod_eq_emod_of_nonneg (by omega)]; simp
    rw [e]
    refine hk _ ⟨y, x % y, rfl, ?_⟩ ?_
    · rw [← hg, Nat.gcd_comm y, ← Nat.gcd_rec, Nat.gcd_comm]
    · simp only [Int.toNat_natCast]
      exact Nat.mod_lt _ (by omega)

theorem p_common (a b : Nat) (hb : b ≤ 9223372036854775807) : e_impl_common ((a : Int), (b : Int), ()) = some ((Nat.gcd a b : Nat) : Int) := by
  simp only [e_impl_common, r_impl_common]
  exact common_loop a b hb

-- weights at nodes
def touch (v : Int) (e : W3) : Int := if e.1 = v ∨ e.2.1 = v then e.2.2 else 0
def wAt (ws : List W3) (v : Int) : Int := (ws.map (touch v)).sum
/-- Sums of numbers that are small and not negative. -/
theorem sum_bounds {β : Type} (h : β → Int) (M : Int) : ∀ (l : List β), (∀ x ∈ l, 0 ≤ h x ∧ h x ≤ M) → 0 ≤ (l.map h).sum ∧ (l.map h).sum ≤ M * l.length
  | [], _ => by simp
  | x :: l, hx => by
    have h1 := sum_bounds h M l fun y hy => hx y (by simp [hy])
    have h2 := hx x (by simp)
    simp only [List.map_cons, List.sum_cons, List.length_cons]
    have : M * ((l.length + 1 : Nat) : Int) = M * l.length + M := by rw [Int.natCast_add, Int.mul_add]; simp
    rw [this]; omega

theorem take_sum {β : Type} (h : β → Int) (M : Int) (l : List β) (hx : ∀ x ∈ l, 0 ≤ h x ∧ h x ≤ M) (i : Nat) : 0 ≤ ((l.take i).map h).sum ∧ ((l.take i).map h).sum ≤ M * l.length := by
  have h1 := sum_bounds h M (l.take i) fun y hy => hx y (List.mem_of_mem_take hy)
  refine ⟨h1.1, Int.le_trans h1.2 ?_⟩
  cases l with
  | nil => simp
  | cons x l =>
    have hM : 0 ≤ M := by have := hx x (by simp); omega
    refine Int.mul_le_mul_of_nonneg_left ?_ hM
    have : ((x :: l).take i).length ≤ (x :: l).length := by simp; omega
    omega

theorem take_succ_sum {β : Type} (h : β → Int) (l : List β) (i : Nat) (x : β) (hx : l[i]? = some x) : ((l.take (i + 1)).map h).sum = ((l.take i).map h).sum + h x := by
  rw [List.take_add_one, hx]
  simp

end Go.Sx.R
namespace Go.Sx.R
open Go Go.Sx

theorem wiresW {n : TNet} (h : netok n = true) : ∀ e ∈ n.2.2.2, 1 ≤ e.2.2 ∧ e.2.2 ≤ 200 := by
  intro e he
  have hb : wiresBad n = false := by revert h; simp only [netok]; cases wiresBad n <;> simp
  obtain ⟨i, hi⟩ := List.getElem?_of_mem he
  simp only [wiresBad, List.any_eq_false] at hb
  have := hb (e, i) (by rw [List.mem_zipIdx_iff_getElem?]; exact hi)
  simp only [badW, Bool.not_eq_true, Bool.or_eq_false_iff, Bool.not_eq_false', Bool.and_eq_true, decide_eq_true_eq] at this
  omega

theorem touch_le {ws : List W3} (hW : ∀ e ∈ ws, 1 ≤ e.2.2 ∧ e.2.2 ≤ 200) (v : Int) : ∀ e ∈ ws, 0 ≤ touch v e ∧ touch v e ≤ 200 := by
  intro e he
  have := hW e he
  unfold touch; split <;> omega

theorem p_WeightAt (n : TNet) (hn : Sm.sm B1 n) (hW : ∀ e ∈ n.2.2.2, 1 ≤ e.2.2 ∧ e.2.2 ≤ 200) (v : Int) : e_impl_WeightAt (n, v, ()) = some (wAt n.2.2.2 v) := by
  have hws : Sm.sm B1 n.2.2.2 := hn.2.2.2
  have hlen : n.2.2.2.length ≤ 1073741824 := hws.1
  simp only [e_impl_WeightAt, r_impl_WeightAt]
  have m := iter_fold (R := Int) (body := r_impl_WeightAt_L0 N0) n.2.2.2 (fun (s : Int) i => (v, s, n.2.2.2, (n.2.2.2.length : Int), i, ())) (fun i s => s = ((n.2.2.2.take i).map (touch v)).sum) (fun s _ x => s + touch v x)
    (fun s i x kc ke hs hx hi => by
      have b1 := take_sum (touch v) 200 n.2.2.2 (touch_le hW v) i
      have b2 := touch_le hW v x (List.mem_of_getElem? hx)
      refine ⟨?_, by rw [take_succ_sum _ _ _ _ hx, hs]⟩
      simp only [r_impl_WeightAt_L0, lt_len, hi, decide_true, cond_true, getI_nat, hx, Option.bind_some, wr_len hi hws]
      by_cases c1 : x.1 = v
      · have ht : touch v x = x.2.2 := by simp [touch, c1]
        have w1 : wr (s + x.2.2) = s + x.2.2 := wr_id (by omega) (by omega)
        simp only [c1, decide_true, cond_true, w1, ht]
      · by_cases c2 : x.2.1 = v
        · have ht : touch v x = x.2.2 := by simp [touch, c2]
          have w1 : wr (s + x.2.2) = s + x.2.2 := wr_id (by omega) (by omega)
          simp only [c1, c2, decide_true, decide_false, cond_true, cond_false, w1, ht]
        · have ht : touch v x = 0 := by simp [touch, c1, c2]
          simp only [c1, c2, decide_false, cond_false, ht, Int.add_zero])
    (fun s kc ke _ => by simp only [r_impl_WeightAt_L0, not_lt_self, cond_false]) (N := N0) (len_lt hws N0_gt) 0 (by simp) (fun s1 => some s1.2.1)
  have e := m.1
  rw [m.2, List.take_length] at e
  exact e

theorem e_WeightAt : e_spec_WeightAt = e_impl_WeightAt := rfl

end Go.Sx.R
namespace Go.Sx.R
open Go Go.Sx

-- lists in strict order
theorem lex_trans {x y z : W3} (h1 : lex x y = true) (h2 : lex y z = true) : lex x z = true := by
  simp only [lex, Bool.or_eq_true, Bool.and_eq_true, decide_eq_true_eq] at *; omega
abbrev Srt (l : List W3) : Prop := l.Pairwise fun x y => lex x y = true

theorem srt_of_adj : ∀ {l : List W3}, (∀ (i : Nat) (x y : W3), l[i]? = some x → l[i + 1]? = some y → lex x y = true) → Srt l
  | [], _ => List.Pairwise.nil
  | [x], _ => by simp [Srt]
  | x :: y :: l, h => by
    have ih : Srt (y :: l) := srt_of_adj fun i a b ha hb => h (i + 1) a b (by simpa using ha) (by simpa using hb)
    have hxy := h 0 x y (by simp) (by simp)
    refine List.pairwise_cons.2 ⟨fun z hz => ?_, ih⟩
    rcases List.mem_cons.1 hz with rfl | hz
    · exact hxy
    · exact lex_trans hxy ((List.pairwise_cons.1 ih).1 z hz)

theorem netok_srt {n : TNet} (h : netok n = true) : Srt n.2.2.2 := by
  have hb : wiresBad n = false := by revert h; simp only [netok]; cases wiresBad n <;> simp
  refine srt_of_adj fun i x y hx hy => ?_
  simp only [wiresBad, List.any_eq_false] at hb
  have := hb (y, i + 1) (by rw [List.mem_zipIdx_iff_getElem?]; exact hy)
  simp only [badW, Bool.not_eq_true, Bool.or_eq_false_iff, hx] at this
  simpa using this.2

/-- In a sorted list a pair of ends stands once. -/
theorem srt_uniq {l : List W3} (h : Srt l) {x y : W3} (hx : x ∈ l) (hy : y ∈ l) (h1 : x.1 = y.1) (h2 : x.2.1 = y.2.1) : x = y := by
  induction l with
  | nil => simp at hx
  | cons z l ih =>
    obtain ⟨hz, hl⟩ := List.pairwise_cons.1 h
    rcases List.mem_cons.1 hx with rfl | hx' <;> rcases List.mem_cons.1 hy with e | hy'
    · exact e.symm
    · have := hz y hy'
      simp only [lex, Bool.or_eq_true, Bool.and_eq_true, decide_eq_true_eq] at this; omega
    · subst e
      have := hz x hx'
      simp only [lex, Bool.or_eq_true, Bool.and_eq_true, decide_eq_true_eq] at this; omega
    · exact ih hl hx' hy'

/-- The weights between, and the wires. -/
theorem wbt_mem {ws : List W3} (hs : Srt ws) {a b : Int} (hab : a < b) {w : Int} (hw : w ≠ 0) : wbt ws a b = w ↔ (a, b, w) ∈ ws := by
  have hp : ∀ x : W3, isW a b x = true ↔ x.1 = a ∧ x.2.1 = b := by
    intro x
    simp only [isW, Bool.and_eq_true, decide_eq_true_eq]
    rw [if_neg (by omega), if_pos (by omega)]
  rw [wbt, if_neg (by omega)]
  constructor
  · intro h
    split at h
    · rename_i x hx
      have h1 := (hp x).1 (List.find?_some hx)
      have h2 := List.mem_of_find?_eq_some hx
      obtain ⟨x1, x2, x3⟩ := x
      simp only at h1 h
      rw [h1.1, h1.2, h] at h2
      exact h2
    · exact absurd h.symm hw
  · intro h
    cases hf : ws.find? (isW a b) with
    | none =>
      rw [List.find?_eq_none] at hf
      exact absurd ((hp (a, b, w)).2 ⟨rfl, rfl⟩) (by simpa using hf _ h)
    | some x =>
      have h1 := (hp x).1 (List.find?_some hf)
      have h2 := List.mem_of_find?_eq_some hf
      have := srt_uniq hs h2 h h1.1 h1.2
      simp only
      rw [this]

-- tables
def IsTab (T : List (List Int)) (m : Nat) (f : Nat → Nat → Int) : Prop := T.length = m ∧ ∀ i, i < m → ∃ row : List Int, T[i]? = some row ∧ row.length = m ∧ ∀ j, j < m → row[j]? = some (f i j)

theorem p_table (n : TNet) (m : Nat) (hn : Sm.sm B1 n) (hm : n.1 = m) (hm5 : m ≤ 5) (hw : InW m n.2.2.2) : ∃ T, e_impl_table (n, ()) = some T ∧ IsTab T m (fun i j => wbt n.2.2.2 (i : Int) (j : Int)) := by
  have hmB : m ≤ 9223372036854775807 := by omega
  have d0 : decide ((0 : Int) ≤ n.1) = true := by rw [decide_eq_true_eq]; omega
  have hmt : n.1.toNat = m := by omega
  have rm : Nat.ble m 17179869184 = true := ble_true (by omega)
  simp only [e_impl_table, r_impl_table, d0, cond_true, hmt, rm, List.length_replicate]
  have hd : (List.range m).length = m := by simp
  have hlm : ((m : Nat) : Int) = ((List.range m).length : Int) := by rw [hd]
  refine iter_rule (R := List (List Int)) (fun o => ∃ T, o = some T ∧ IsTab T m (fun i j => wbt n.2.2.2 (i : Int) (j : Int))) (List.range m) (fun (T : List (List Int)) i => (n, T, (m : Int), i, ()))
    (fun i T => T.length = m ∧ ∀ i', i' < i → ∃ row : List Int, T[i']? = some row ∧ row.length = m ∧ ∀ j, j < m → row[j]? = some (wbt n.2.2.2 (i' : Int) (j : Int)))
    (fun T i x kc ⟨p1, p2⟩ hx hi hk => ?_) (fun T kc ⟨p1, p2⟩ => ?_) (by have := N0_big; omega) _ ⟨by simp, by simp⟩
  · have him : i < m := by rw [hd] at hi; exact hi
    have d1 : decide ((i : Int) < (m : Int)) = true := by rw [decide_eq_true_eq]; omega
    obtain ⟨r0, hr0⟩ := getI_has p1 him
    have hset : (T.set i (List.replicate m (0 : Int)))[i]? = some (List.replicate m (0 : Int)) := by rw [List.getElem?_set_self (by omega)]
    simp only [r_impl_table_L0, d1, cond_true, d0, hmt, rm, hr0, Option.bind_some, Int.toNat_natCast, getI_nat, hset, List.length_replicate]
    refine iter_rule (R := List (List Int)) (fun o => ∃ T, o = some T ∧ IsTab T m (fun i j => wbt n.2.2.2 (i : Int) (j : Int))) (List.range m) (fun (T : List (List Int)) j => (n, T, (i : Int), (m : Int), (i : Int), (m : Int), j, ()))
      (fun j T => T.length = m ∧ (∀ i', i' < i → ∃ row : List Int, T[i']? = some row ∧ row.length = m ∧ ∀ j, j < m → row[j]? = some (wbt n.2.2.2 (i' : Int) (j : Int))) ∧ ∃ row : List Int, T[i]? = some row ∧ row.length = m ∧ ∀ j', j' < j → row[j']? = some (wbt n.2.2.2 (i : Int) (j' : Int)))
      (fun T j y kc2 ⟨q1, q2, row, q3, q4, q5⟩ hy hj hk2 => ?_) (fun T kc2 ⟨q1, q2, row, q3, q4, q5⟩ => ?_) (by have := N0_big; omega) _ ⟨by simpa using p1, fun i' hi' => ?_, List.replicate m 0, hset, by simp, by simp⟩
    · have hjm : j < m := by rw [hd] at hj; exact hj
      have d2 : decide ((j : Int) < (m : Int)) = true := by rw [decide_eq_true_eq]; omega
      obtain ⟨v0, hv0⟩ := getI_has q4 hjm
      simp only [r_impl_table_L2, d2, cond_true, getI_nat, q3, Option.bind_some, p_WB n m hn hw, Int.toNat_natCast]
      rw [← getI_nat row j, hv0, Option.bind_some, wr_succ hjm hmB]
      refine hk2 _ ⟨by simpa using q1, fun i' hi' => ?_, row.set j (wbt n.2.2.2 (i : Int) (j : Int)), by rw [List.getElem?_set_self (by omega)], by simpa using q4, fun j' hj' => ?_⟩
      · rw [List.getElem?_set_ne (by omega)]; exact q2 i' hi'
      · rw [List.getElem?_set]
        by_cases e : j = j'
        · subst e; rw [if_pos rfl, if_pos (by omega)]
        · rw [if_neg e]; exact q5 j' (by omega)
    · have d2 : decide ((((List.range m).length : Nat) : Int) < (m : Int)) = false := by rw [decide_eq_false_iff_not, hd]; omega
      simp only [r_impl_table_L2, d2, cond_false, wr_succ him hmB]
      refine hk _ ⟨q1, fun i' hi' => ?_⟩
      by_cases e : i' = i
      · subst e; exact ⟨row, q3, q4, fun j hj => q5 j (by rw [hd]; exact hj)⟩
      · exact q2 i' (by omega)
    · rw [List.getElem?_set_ne (by omega)]; exact p2 i' hi'
  · have d2 : decide ((((List.range m).length : Nat) : Int) < (m : Int)) = false := by rw [decide_eq_false_iff_not, hd]; omega
    simp only [r_impl_table_L0, d2, cond_false]
    exact ⟨T, rfl, p1, fun i hi => p2 i (by rw [hd]; exact hi)⟩

theorem IsTab.put {T : List (List Int)} {m : Nat} {f : Nat → Nat → Int} (h : IsTab T m f) {a b : Nat} {v : Int} (ha : a < m) {row : List Int} (hr : T[a]? = some row) : IsTab (T.set a (row.set b v)) m (fun i j => if i = a ∧ j = b then v else f i j) := by
  obtain ⟨h1, h2⟩ := h
  refine ⟨by simpa using h1, fun i hi => ?_⟩
  rw [List.getElem?_set]
  by_cases e : a = i
  · subst e
    obtain ⟨row', r1, r2, r3⟩ := h2 a hi
    rw [hr] at r1; simp only [Option.some.injEq] at r1; subst r1
    rw [if_pos rfl, if_pos (by omega)]
    refine ⟨_, rfl, by simpa using r2, fun j hj => ?_⟩
    rw [List.getElem?_set]
    by_cases e2 : b = j
    · subst e2; rw [if_pos rfl, if_pos (by omega)]; simp
    · rw [if_neg e2, r3 j hj]
      have : ¬ (True ∧ j = b) := by simp; omega
      simp; omega
  · rw [if_neg e]
    obtain ⟨row', r1, r2, r3⟩ := h2 i hi
    refine ⟨row', r1, r2, fun j hj => ?_⟩
    rw [r3 j hj]
    have : ¬ (i = a ∧ j = b) := by omega
    simp [this]

end Go.Sx.R
namespace Go.Sx.R
open Go Go.Sx

theorem p_ContainsI (xs : List Int) (v : Int) (hl : xs.length ≤ BB) : e_slices_Contains_int (xs, v, ()) = some (decide (v ∈ xs)) := by
  simp only [e_slices_Contains_int, r_slices_Contains_int, e_slices_Index_int, r_slices_Index_int]
  rw [iter_range (R := Int) xs (fun (_ : Unit) i => (xs, v, (xs.length : Int), i, ())) (fun _ i x k => cond (decide (v = x)) (some (i : Int)) (k ())) ?_ ?_ (by have := N0_gt; omega) ()]
  · have key : ∀ (l : List Int) (i : Nat), (rangeK l i () (fun _ i x k => cond (decide (v = x)) (some (i : Int)) (k ())) fun _ => some (-1 : Int)).bind (fun r => some (decide (r ≥ 0))) = some (decide (v ∈ l)) := by
      intro l
      induction l with
      | nil => intro i; simp [rangeK]
      | cons x l ih =>
        intro i
        simp only [rangeK]
        by_cases e : v = x
        · subst e; simp
        · simp only [e, decide_false, cond_false, ih (i + 1)]
          simp [e]
    exact key xs 0
  · intro st i x kc ke hx hi
    simp only [r_slices_Index_int_L0, lt_len, hi, decide_true, cond_true, getI_nat, hx, Option.bind_some]
    rw [wr_succ hi hl]
  · intro st kc ke
    simp only [r_slices_Index_int_L0, not_lt_self, cond_false]


theorem p_Clone (x : List Int) (hl : x.length ≤ 17179869184) : e_slices_Clone_int (x, ()) = some x := by
  have h : Nat.ble (List.length ([] : List Int) + x.length) 17179869184 = true := ble_true (by simp; omega)
  simp only [e_slices_Clone_int, r_slices_Clone_int, h, cond_true, List.nil_append]
  cases x with
  | nil => exact agree_same
  | cons a l => rfl

theorem p_Reverse (x : List Int) (hl : x.length ≤ 9223372036854775807) : e_slices_Reverse_int x () = some (x.reverse, ()) := by
  simp [e_slices_Reverse_int, revFn, hl]

def badR (k : Int) (rim : List Int) (i : Nat) (x : Int) : Bool := decide (x < 0) || decide (x ≥ k) || decide (x ∈ rim.take i)

theorem p_indicesOk (rim : List Int) (k : Int) (hl : rim.length ≤ BB) : e_impl_indicesOk (rim, k, ()) = some (!(rim.zipIdx 0).any fun p => badR k rim p.2 p.1) := by
  simp only [e_impl_indicesOk, r_impl_indicesOk]
  rw [iter_range (R := Bool) rim (fun (_ : Unit) i => (rim, k, rim, (rim.length : Int), i, ())) (fun _ i x kk => cond (badR k rim i x) (some false) (kk ())) ?_ ?_ (by have := N0_gt; omega) ()]
  · rw [rangeK_stop (fun i x => badR k rim i x) (some false) _ _ _ (fun j x k _ => rfl)]
    cases (rim.zipIdx 0).any _ <;> rfl
  · intro st i x kc ke hx hi
    have d1 : decide ((0 : Int) ≤ (i : Int)) = true := by simp
    have d2 : decide ((i : Int) ≤ (rim.length : Int)) = true := by rw [decide_eq_true_eq]; omega
    simp only [r_impl_indicesOk_L0, lt_len, hi, decide_true, cond_true, getI_nat, hx, Option.bind_some, wr_succ hi hl, d1, d2, Int.toNat_natCast, Int.toNat_zero, Nat.sub_zero, List.drop_zero, badR]
    rw [p_ContainsI (rim.take i) x (by have : (rim.take i).length ≤ rim.length := by simp; omega
                                       omega)]
    by_cases h1 : x < 0
    · simp [h1]
    · by_cases h2 : x ≥ k
      · simp [h1, h2]
      · simp only [h1, h2, decide_false, cond_false, Bool.false_or, Option.bind_some]
  · intro st kc ke
    simp only [r_impl_indicesOk_L0, not_lt_self, cond_false]

def dn (rim : List Int) (i : Nat) (x : Int) : Int := if (rim[(i + 1) % rim.length]?).getD 0 < x then 1 else 0
def falls (rim : List Int) : Int := foldI (fun s i x => s + dn rim i x) rim 0 0

theorem next_get {rim : List Int} {i : Nat} (hi : i < rim.length) (hl : rim.length ≤ 9223372036854775807) : getI rim (Int.tmod (wr ((i : Int) + 1)) (rim.length : Int)) = some ((rim[(i + 1) % rim.length]?).getD 0) := by
  rw [wr_succ hi hl, Int.tmod_eq_emod_of_nonneg (by omega)]
  have e : ((i + 1 : Nat) : Int) % (rim.length : Int) = (((i + 1) % rim.length : Nat) : Int) := by simp
  have hlt : (i + 1) % rim.length < rim.length := Nat.mod_lt _ (by omega)
  rw [e, getI_nat, List.getElem?_eq_getElem hlt]; rfl

theorem impl_falls (rim : List Int) (hl : rim.length ≤ 9223372036854775807) (k : _ → Option Bool) : ∃ j, iterK (r_impl_IsCircular_L0 e_slices_Clone_int e_slices_Reverse_int e_impl_indicesOk N0) N0 (rim, 0, rim, (rim.length : Int), 0, ()) k = k (rim, falls rim, rim, (rim.length : Int), j, ()) := by
  have m := iter_fold (R := Bool) (body := r_impl_IsCircular_L0 e_slices_Clone_int e_slices_Reverse_int e_impl_indicesOk N0) rim (fun (s : Int) i => (rim, s, rim, (rim.length : Int), i, ())) (fun i s => 0 ≤ s ∧ s ≤ i) (fun s i x => s + dn rim i x)
    (fun s i x kc ke ⟨h0, h1⟩ hx hi => by
      refine ⟨?_, ?_⟩
      · have d : decide ((rim.length : Int) = 0) = false := by rw [decide_eq_false_iff_not]; omega
        simp only [r_impl_IsCircular_L0, lt_len, hi, decide_true, cond_true, getI_nat, hx, Option.bind_some, d, cond_false, next_get hi hl]
        have w1 : wr (s + 1) = s + 1 := wr_id (by omega) (by omega)
        by_cases c : (rim[(i + 1) % rim.length]?).getD 0 < x
        · simp only [c, decide_true, cond_true, w1, dn, if_true, wr_succ hi hl]
        · simp only [c, decide_false, cond_false, dn, if_false, wr_succ hi hl, Int.add_zero]
      · simp only [dn]; split <;> omega)
    (fun s kc ke _ => by simp only [r_impl_IsCircular_L0, not_lt_self, cond_false]) (N := N0) (by have := N0_big; omega) 0 (by simp) k
  exact ⟨_, m.1⟩

theorem foldI_snoc {β σ : Type} (g : σ → Nat → β → σ) : ∀ (l : List β) (x : β) (i : Nat) (s : σ), foldI g (l ++ [x]) i s = g (foldI g l i s) (i + l.length) x
  | [], x, i, s => rfl
  | y :: l, x, i, s => by
    simp only [List.cons_append, foldI, foldI_snoc g l x (i + 1), List.length_cons]
    congr 1; omega

theorem dn_bounds (rim : List Int) : ∀ (l : List Int) (i : Nat) (s : Int), s ≤ foldI (fun s i x => s + dn rim i x) l i s ∧ foldI (fun s i x => s + dn rim i x) l i s ≤ s + l.length
  | [], i, s => by simp [foldI]
  | x :: l, i, s => by
    have h := dn_bounds rim l (i + 1) (s + dn rim i x)
    have : 0 ≤ dn rim i x ∧ dn rim i x ≤ 1 := by simp only [dn]; split <;> omega
    simp only [foldI, List.length_cons]; omega

theorem spec_falls (k : Int) (hk1 : 1 ≤ k) (hk5 : k ≤ 5) (rim : List Int) (hl : rim.length ≤ 9223372036854775807) :
    (iterK (r_spec_IsCircular_L0 e_spec_l01In e_spec_l09Rim e_spec_l03Has N0) N0 (k, rim, 0, rim, (rim.length : Int), 0, ()) fun s => some (decide (s.2.2.1 = 1))) =
      cond ((rim.zipIdx 0).any fun p => badR k rim p.2 p.1) (some false) (some (decide (falls rim = 1))) := by
  refine iter_rule (R := Bool) (fun o => o = cond ((rim.zipIdx 0).any fun p => badR k rim p.2 p.1) (some false) (some (decide (falls rim = 1)))) rim (fun (s : Int) i => (k, rim, s, rim, (rim.length : Int), i, ()))
    (fun i s => s = foldI (fun s i x => s + dn rim i x) (rim.take i) 0 0 ∧ ∀ (j : Nat) (y : Int), j < i → rim[j]? = some y → badR k rim j y = false) (fun s i x kc ⟨hs, hp⟩ hx hi hk => ?_) (fun s kc ⟨hs, hp⟩ => ?_) (by have := N0_big; omega) 0 ⟨by simp [foldI], by simp⟩
  · have d : decide ((rim.length : Int) = 0) = false := by rw [decide_eq_false_iff_not]; omega
    have d1 : decide ((0 : Int) ≤ (i : Int)) = true := by simp
    have d2 : decide ((i : Int) ≤ (rim.length : Int)) = true := by rw [decide_eq_true_eq]; omega
    have wk : wr (k - 1) = k - 1 := wr_id (by omega) (by omega)
    have tl : (rim.take i).length ≤ 9223372036854775807 := by simp; omega
    simp only [r_spec_IsCircular_L0, lt_len, hi, decide_true, cond_true, getI_nat, hx, Option.bind_some, d, d1, d2, cond_false, next_get hi hl, wk, p_l01In, n_l01In, Int.toNat_natCast, Int.toNat_zero, Nat.sub_zero, List.drop_zero, p_Has (rim.take i) x tl]
    cases hb : badR k rim i x with
    | true =>
      have hany : ((rim.zipIdx 0).any fun p => badR k rim p.2 p.1) = true := by
        rw [List.any_eq_true]
        exact ⟨(x, i), by rw [List.mem_zipIdx_iff_getElem?]; exact hx, hb⟩
      rw [hany, cond_true]
      by_cases hr : 0 ≤ x ∧ x ≤ k - 1
      · have hm : decide (x ∈ rim.take i) = true := by
          simp only [badR, Bool.or_eq_true, decide_eq_true_eq] at hb
          rw [decide_eq_true_eq]
          rcases hb with (hb | hb) | hb
          · omega
          · omega
          · exact hb
        have r1 : (decide (0 ≤ x) && decide (x ≤ k - 1)) = true := by simp only [Bool.and_eq_true, decide_eq_true_eq]; exact hr
        simp only [r1, hm, Bool.not_true, cond_false, cond_true]
      · have r1 : (decide (0 ≤ x) && decide (x ≤ k - 1)) = false := by simp only [Bool.and_eq_false_iff, decide_eq_false_iff_not]; omega
        simp only [r1, Bool.not_false, cond_true]
    | false =>
      have hb' := hb
      simp only [badR, Bool.or_eq_false_iff, decide_eq_false_iff_not] at hb'
      have r1 : (decide (0 ≤ x) && decide (x ≤ k - 1)) = true := by simp only [Bool.and_eq_true, decide_eq_true_eq]; omega
      have hm : decide (x ∈ rim.take i) = false := by rw [decide_eq_false_iff_not]; exact hb'.2
      simp only [r1, hm, Bool.not_true, cond_false]
      have bd := dn_bounds rim (rim.take i) 0 0
      have tll : ((rim.take i).length : Int) ≤ i := by simp; omega
      have w1 : wr (s + 1) = s + 1 := wr_id (by omega) (by omega)
      have htake : rim.take (i + 1) = rim.take i ++ [x] := by rw [List.take_add_one, hx]; rfl
      have hlen : (rim.take i).length = i := by simp; omega
      have nx : foldI (fun s i x => s + dn rim i x) (rim.take (i + 1)) 0 0 = s + dn rim i x := by
        rw [htake, foldI_snoc, ← hs, hlen, Nat.zero_add]
      have nb : ∀ (j : Nat) (y : Int), j < i + 1 → rim[j]? = some y → badR k rim j y = false := fun j y hj hy => by
        by_cases e : j = i
        · subst e; rw [hx] at hy; simp only [Option.some.injEq] at hy; subst hy; exact hb
        · exact hp j y (by omega) hy
      by_cases c : (rim[(i + 1) % rim.length]?).getD 0 < x
      · simp only [c, decide_true, cond_true, w1, wr_succ hi hl]
        exact hk (s + 1) ⟨by rw [nx]; simp [dn, c], nb⟩
      · simp only [c, decide_false, cond_false, wr_succ hi hl]
        exact hk s ⟨by rw [nx]; simp [dn, c], nb⟩
  · simp only [r_spec_IsCircular_L0, not_lt_self, cond_false]
    have hany : ((rim.zipIdx 0).any fun p => badR k rim p.2 p.1) = false := by
      rw [List.any_eq_false]
      rintro ⟨x, i⟩ hm
      have := hp i x (get_lt (List.mem_zipIdx_iff_getElem?.1 hm)) (List.mem_zipIdx_iff_getElem?.1 hm)
      simp [this]
    rw [hany, cond_false, hs, List.take_length]; rfl

theorem s_Rim (p q : List Int) (hp : p.length ≤ 1048576) (hq : q.length ≤ 1048576) : e_spec_l09Rim (p, q, ()) = some (p ++ q.reverse) := by
  simp only [e_spec_l09Rim, r_spec_l09Rim, List.nil_append]
  rw [ble_true (by simp; omega), cond_true]
  have w0 : wr ((q.length : Int) - 1) = (q.length : Int) - 1 := wr_id (by omega) (by omega)
  rw [w0]
  refine iter_while (fun o => o = some (p ++ q.reverse)) (fun s : List Int × List Int × Int × Unit => ∃ m : Nat, m ≤ q.length ∧ s = (q, p ++ (q.drop m).reverse, (m : Int) - 1, ())) (fun s => (s.2.2.1 + 1).toNat) ?_ N0 _ ⟨q.length, Nat.le_refl _, by simp⟩ (by have := N0_big; simp only; omega)
  rintro _ kc ⟨m, hm, rfl⟩ hk
  simp only [r_spec_l09Rim_L0]
  cases m with
  | zero =>
    have d : decide (((0 : Nat) : Int) - 1 ≥ 0) = false := by simp
    simp only [d, cond_false, List.drop_zero]
  | succ m =>
    have d : decide (((m + 1 : Nat) : Int) - 1 ≥ 0) = true := by rw [decide_eq_true_eq]; omega
    have e : ((m + 1 : Nat) : Int) - 1 = (m : Int) := by omega
    have hx : q[m]? = some q[m] := List.getElem?_eq_getElem (by omega)
    have wm : wr ((m : Int) - 1) = (m : Int) - 1 := wr_id (by omega) (by omega)
    have hdrop : q.drop m = q[m] :: q.drop (m + 1) := List.drop_eq_getElem_cons (by omega)
    have hroom : (p ++ (q.drop (m + 1)).reverse).length + 1 ≤ 17179869184 := by simp; omega
    rw [d, e, getI_nat, hx]
    simp only [cond_true, Option.bind_some, List.length_cons, List.length_nil, Nat.zero_add, ble_true hroom, wm]
    refine hk _ ⟨m, by omega, ?_⟩ (by simp only; omega)
    rw [hdrop, List.reverse_cons, List.append_assoc]

theorem circular_both (k : Int) (p q : List Int) (hk : Sm.sm B1 k) (hp : p.length ≤ 1048576) (hq : q.length ≤ 1048576) : ∃ r, e_impl_IsCircular (k, p, q, ()) = some r ∧ e_spec_IsCircular (k, p, q, ()) = some r ∧ (r = true → p.length = q.length ∧ (∀ x ∈ p, 0 ≤ x ∧ x < k) ∧ ∀ x ∈ q, 0 ≤ x ∧ x < k) := by
  simp only [e_impl_IsCircular, r_impl_IsCircular, e_spec_IsCircular, r_spec_IsCircular, p_l01In, n_l01In, Option.bind_some, dec_eq]
  by_cases h1 : k < 1
  · have d : (decide (1 ≤ k) && decide (k ≤ 5)) = false := by simp only [Bool.and_eq_false_iff, decide_eq_false_iff_not]; omega
    exact ⟨false, by simp [h1], by simp [d], by simp⟩
  by_cases h2 : k > 5
  · have d : (decide (1 ≤ k) && decide (k ≤ 5)) = false := by simp only [Bool.and_eq_false_iff, decide_eq_false_iff_not]; omega
    exact ⟨false, by simp [h1, h2], by simp [d], by simp⟩
  have d : (decide (1 ≤ k) && decide (k ≤ 5)) = true := by simp only [Bool.and_eq_true, decide_eq_true_eq]; omega
  simp only [h1, h2, decide_false, cond_false, d, Bool.not_true]
  by_cases h3 : p.length = q.length
  · simp only [h3, decide_true, Bool.not_true, cond_false]
    by_cases h4 : q.length = 0
    · have d4 : decide ((q.length : Int) < 1) = true := by rw [decide_eq_true_eq]; omega
      have d5 : decide ((q.length : Int) = 0) = true := by rw [decide_eq_true_eq]; omega
      exact ⟨false, by rw [d4]; rfl, by rw [d5]; rfl, by simp⟩
    · have d4 : decide ((q.length : Int) < 1) = false := by rw [decide_eq_false_iff_not]; omega
      have d5 : decide ((q.length : Int) = 0) = false := by rw [decide_eq_false_iff_not]; omega
      have hroom : p.length + q.reverse.length ≤ 17179869184 := by simp; omega
      have hrl : (p ++ q.reverse).length ≤ 9223372036854775807 := by simp; omega
      simp only [d4, d5, cond_false, p_Clone q (by omega), p_Clone p (by omega), p_Reverse q (by omega), Option.bind_some, ble_true hroom, cond_true, p_indicesOk (p ++ q.reverse) k hrl, s_Rim p q hp hq]
      rw [spec_falls k (by omega) (by omega) (p ++ q.reverse) hrl]
      cases hb : ((p ++ q.reverse).zipIdx 0).any fun x => badR k (p ++ q.reverse) x.2 x.1 with
      | true => exact ⟨false, rfl, rfl, by simp⟩
      | false =>
        obtain ⟨j, hj⟩ := impl_falls (p ++ q.reverse) hrl (fun s5 => some (decide (s5.2.1 = 1)))
        have hin : ∀ x ∈ p ++ q.reverse, 0 ≤ x ∧ x < k := fun x hx => by
          obtain ⟨i, hi⟩ := List.getElem?_of_mem hx
          have := List.any_eq_false.1 hb (x, i) (List.mem_zipIdx_iff_getElem?.2 hi)
          simp only [badR, Bool.not_eq_true, Bool.or_eq_false_iff, decide_eq_false_iff_not] at this
          omega
        refine ⟨decide (falls (p ++ q.reverse) = 1), ?_, rfl, fun _ => ⟨trivial, fun x hx => hin x (by simp [hx]), fun x hx => hin x (by simp [hx])⟩⟩
        simp only [Bool.not_false, Bool.not_true, cond_false]
        exact hj
  · exact ⟨false, by simp [h3], by simp [h3], by simp⟩

end Go.Sx.R
namespace Go.Sx.R
open Go Go.Sx

theorem wr_def (x : Int) : wr x = if 9223372036854775808 ≤ x % 18446744073709551616 then x % 18446744073709551616 - 18446744073709551616 else x % 18446744073709551616 := by
  show IntKind.i64.wrap x = _
  unfold IntKind.wrap
  have h1 : ((2 : Int) ^ IntKind.i64.bits) = 18446744073709551616 := by decide
  have h2 : ((2 : Int) ^ (IntKind.i64.bits - 1)) = 9223372036854775808 := by decide
  have h3 : IntKind.i64.signed = true := rfl
  simp only [h1, h2, h3, Bool.true_and, ge_iff_le, decide_eq_true_eq]

theorem wr_congr {x y : Int} (h : (x - y) % 18446744073709551616 = 0) : wr x = wr y := by
  have : x % 18446744073709551616 = y % 18446744073709551616 := by omega
  rw [wr_def, wr_def, this]

theorem wr_off (x : Int) : ∃ k, wr x = x + 18446744073709551616 * k := by
  have h : (wr x - x) % 18446744073709551616 = 0 := by rw [wr_def]; split <;> omega
  exact ⟨(wr x - x) / 18446744073709551616, by omega⟩

theorem wr_addM (x k : Int) : wr (x + 18446744073709551616 * k) = wr x := wr_congr (by omega)
theorem wr_wr (x : Int) : wr (wr x) = wr x := by obtain ⟨k, e⟩ := wr_off x; rw [e, wr_addM]; exact e
theorem wr_addl (x y : Int) : wr (wr x + y) = wr (x + y) := by
  obtain ⟨k, e⟩ := wr_off x
  exact wr_congr (by rw [e]; omega)
theorem wr_addr (x y : Int) : wr (x + wr y) = wr (x + y) := by rw [Int.add_comm, wr_addl, Int.add_comm]
theorem wr_mull (x y : Int) : wr (wr x * y) = wr (x * y) := by
  obtain ⟨k, e⟩ := wr_off x
  rw [e, Int.add_mul, Int.mul_assoc, wr_addM]
theorem wr_mulr (x y : Int) : wr (x * wr y) = wr (x * y) := by rw [Int.mul_comm, wr_mull, Int.mul_comm]

def at2 (m : List (List Int)) (r c : Int) : Int := (getI ((getI m r).getD []) c).getD 0

def dsum (m : List (List Int)) (r : Int) (D : Nat → Int) : List Int → Nat → Int → Int
  | [], _, _ => 0
  | c :: cs, j, sg => sg * at2 m r c * D j + dsum m r D cs (j + 1) (-sg)

/-- The determinant of some rows and columns, along the first row. -/
def detZ (m : List (List Int)) : List Int → List Int → Int
  | [], _ => 1
  | r :: rows, cols => dsum m r (fun j => detZ m rows (cols.eraseIdx j)) cols 0 1

def stepD (m : List (List Int)) (r : Int) (D : Nat → Int) (st : Int × Int) (j : Nat) (c : Int) : Int × Int :=
  (if at2 m r c = 0 then st.1 else wr (st.1 + wr (wr (st.2 * at2 m r c) * wr (D j))), wr (0 - st.2))

theorem fold_det (m : List (List Int)) (r : Int) (D : Nat → Int) : ∀ (cs : List Int) (j : Nat) (s sg : Int), (sg = 1 ∨ sg = -1) → wr s = s → (foldI (stepD m r D) cs j (s, sg)).1 = wr (s + dsum m r D cs j sg)
  | [], _, s, _, _, hs => by simp only [foldI, dsum, Int.add_zero, hs]
  | c :: cs, j, s, sg, hg, hs => by
    have hsg : wr (0 - sg) = -sg := by rcases hg with rfl | rfl <;> rfl
    have h1 : (stepD m r D (s, sg) j c) = (wr (s + sg * at2 m r c * D j), -sg) := by
      simp only [stepD, hsg, Prod.mk.injEq, and_true]
      split
      · rename_i h; rw [h, Int.mul_zero, Int.zero_mul, Int.add_zero, hs]
      · rw [wr_addr, ← wr_addr s, wr_mull, wr_mulr, wr_addr]
    simp only [foldI, dsum, h1]
    rw [fold_det m r D cs (j + 1) _ _ (by rcases hg with rfl | rfl <;> simp) (wr_wr _), wr_addl, Int.add_assoc]

/-- All entries are there. -/
def Ent (m : List (List Int)) (rows cols : List Int) : Prop := ∀ r ∈ rows, ∃ row, getI m r = some row ∧ ∀ c ∈ cols, ∃ x, getI row c = some x

theorem Ent.at {m : List (List Int)} {rows cols : List Int} (h : Ent m rows cols) {r c : Int} (hr : r ∈ rows) (hc : c ∈ cols) : ∃ row, getI m r = some row ∧ getI row c = some (at2 m r c) := by
  obtain ⟨row, e1, h1⟩ := h r hr
  obtain ⟨x, e2⟩ := h1 c hc
  exact ⟨row, e1, by simp only [at2, e1, Option.getD_some, e2]⟩

theorem sgn_next {sg : Int} (hg : sg = 1 ∨ sg = -1) : wr (0 - sg) = 1 ∨ wr (0 - sg) = -1 := by rcases hg with rfl | rfl <;> decide

theorem p_det (m : List (List Int)) : ∀ (rows : List Int) (n : Nat) (cols : List Int), rows.length < n → rows.length ≤ 1073741824 → cols.length ≤ 1073741824 → Ent m rows cols → e_impl_det_n n (m, rows, cols, ()) = some (wr (detZ m rows cols))
  | [], n + 1, cols, _, _, _, _ => by simp [e_impl_det_n, r_impl_det, detZ]; rfl
  | r :: rows, n + 1, cols, hn, hrl, hl, he => by
    simp only [List.length_cons] at hn hrl
    have hd : decide ((((r :: rows).length : Nat) : Int) = 0) = false := by rw [decide_eq_false_iff_not]; simp; omega
    simp only [e_impl_det_n, r_impl_det, hd, cond_false, detZ]
    have q := iter_fold (R := Int) (body := r_impl_det_L0 e_slices_Clone_int e_slices_Delete_int (e_impl_det_n n) N0) cols (fun (st : Int × Int) i => (m, r :: rows, cols, st.1, st.2, cols, (cols.length : Int), i, ()))
      (fun _ st => st.2 = 1 ∨ st.2 = -1) (stepD m r (fun j => detZ m rows (cols.eraseIdx j)))
      (fun st i x kc ke hp hx hi => by
        refine ⟨?_, sgn_next hp⟩
        have hxm := List.mem_of_getElem? hx
        obtain ⟨row, e1, e2⟩ := he.at List.mem_cons_self hxm
        have g0 : getI (r :: rows) 0 = some r := rfl
        have w1 : wr ((i : Int) + 1) = ((i + 1 : Nat) : Int) := wr_succ hi (by omega)
        simp only [r_impl_det_L0, lt_len, hi, decide_true, cond_true, getI_nat, hx, Option.bind_some, g0, e1, e2, w1]
        by_cases hz : at2 m r x = 0
        · simp only [hz, decide_true, Bool.not_true, cond_false, stepD, if_true]
        · have d1 : decide ((1 : Int) ≤ (((r :: rows).length : Nat) : Int)) = true := by rw [decide_eq_true_eq]; simp; omega
          have hdel : e_slices_Delete_int cols ((i : Int), (((i + 1 : Nat) : Int), ())) = some (cols, cols.eraseIdx i) := by
            have hc : decide ((0 : Int) ≤ (i : Int) ∧ (i : Int) ≤ ((i + 1 : Nat) : Int) ∧ ((i + 1 : Nat) : Int) ≤ (cols.length : Int)) = true := by rw [decide_eq_true_eq]; omega
            simp only [e_slices_Delete_int, delFn, hc, cond_true, Int.toNat_natCast, List.eraseIdx_eq_take_drop_succ]
          have hrows : List.take ((((r :: rows).length : Nat) : Int).toNat - Int.toNat 1) (List.drop (Int.toNat 1) (r :: rows)) = rows := by
            show List.take ((((r :: rows).length : Nat) : Int).toNat - 1) (List.drop 1 (r :: rows)) = rows
            rw [Int.toNat_natCast]; simp
          have hrec := p_det m rows n (cols.eraseIdx i) (by omega) (by omega) (by rw [List.length_eraseIdx]; split <;> omega) (fun r' hr' => by
            obtain ⟨row', a1, a2⟩ := he r' (List.mem_cons_of_mem _ hr')
            exact ⟨row', a1, fun c hc => a2 c (List.mem_of_mem_eraseIdx hc)⟩)
          simp only [hz, decide_false, Bool.not_false, cond_true, d1, Int.le_refl, decide_true, p_Clone cols (by omega), Option.bind_some, hdel, hrows, hrec, stepD, if_false])
      (fun st kc ke _ => by simp only [r_impl_det_L0, not_lt_self, cond_false]) (N := N0) (by have := N0_big; omega) (0, 1) (.inl rfl) (fun s1 => some s1.2.2.2.1)
    rw [q.1, fold_det m r _ cols 0 0 1 (.inl rfl) rfl, Int.zero_add]

theorem s_det (m : List (List Int)) : ∀ (rows : List Int) (n : Nat) (cols : List Int), rows.length < n → rows.length ≤ 1073741824 → cols.length ≤ 1073741824 → Ent m rows cols → e_spec_l04Det_n n (m, rows, cols, ()) = some (wr (detZ m rows cols))
  | [], n + 1, cols, _, _, _, _ => by simp [e_spec_l04Det_n, r_spec_l04Det, detZ]; rfl
  | r :: rows, n + 1, cols, hn, hrl, hl, he => by
    simp only [List.length_cons] at hn hrl
    have hd : decide ((((r :: rows).length : Nat) : Int) = 0) = false := by rw [decide_eq_false_iff_not]; simp; omega
    simp only [e_spec_l04Det_n, r_spec_l04Det, hd, cond_false, detZ]
    have q := iter_fold (R := Int) (body := r_spec_l04Det_L0 (e_spec_l04Det_n n) N0) cols (fun (st : Int × Int) i => (m, r :: rows, cols, st.1, st.2, cols, (cols.length : Int), i, ()))
      (fun _ st => st.2 = 1 ∨ st.2 = -1) (stepD m r (fun j => detZ m rows (cols.eraseIdx j)))
      (fun st i x kc ke hp hx hi => by
        refine ⟨?_, sgn_next hp⟩
        have hxm := List.mem_of_getElem? hx
        obtain ⟨row, e1, e2⟩ := he.at List.mem_cons_self hxm
        have g0 : getI (r :: rows) 0 = some r := rfl
        have w1 : wr ((i : Int) + 1) = ((i + 1 : Nat) : Int) := wr_succ hi (by omega)
        simp only [r_spec_l04Det_L0, lt_len, hi, decide_true, cond_true, getI_nat, hx, Option.bind_some, g0, e1, e2, w1]
        by_cases hz : at2 m r x = 0
        · simp only [hz, decide_true, Bool.not_true, cond_false, stepD, if_true]
        · have d1 : decide ((1 : Int) ≤ (((r :: rows).length : Nat) : Int)) = true := by rw [decide_eq_true_eq]; simp; omega
          have d2 : decide ((0 : Int) ≤ (i : Int)) = true := by rw [decide_eq_true_eq]; omega
          have d3 : decide ((i : Int) ≤ (cols.length : Int)) = true := by rw [decide_eq_true_eq]; omega
          have d4 : decide ((0 : Int) ≤ ((i + 1 : Nat) : Int)) = true := by rw [decide_eq_true_eq]; omega
          have d5 : decide (((i + 1 : Nat) : Int) ≤ (cols.length : Int)) = true := by rw [decide_eq_true_eq]; omega
          have t1 : List.take ((i : Int).toNat - Int.toNat 0) (List.drop (Int.toNat 0) cols) = cols.take i := by
            show List.take ((i : Int).toNat - 0) (List.drop 0 cols) = _
            rw [Int.toNat_natCast]; simp
          have t2 : List.take ((cols.length : Int).toNat - (((i + 1 : Nat) : Int)).toNat) (List.drop (((i + 1 : Nat) : Int)).toNat cols) = cols.drop (i + 1) := by
            rw [Int.toNat_natCast, Int.toNat_natCast]
            exact List.take_of_length_le (by simp)
          have b1 : Nat.ble (List.length ([] : List Int) + (cols.take i).length) 17179869184 = true := ble_true (by simp; omega)
          have b2 : Nat.ble ((([] : List Int) ++ cols.take i).length + (cols.drop (i + 1)).length) 17179869184 = true := ble_true (by simp; omega)
          have t3 : ([] : List Int) ++ cols.take i ++ cols.drop (i + 1) = cols.eraseIdx i := by rw [List.eraseIdx_eq_take_drop_succ]; rfl
          have hrows : List.take ((((r :: rows).length : Nat) : Int).toNat - Int.toNat 1) (List.drop (Int.toNat 1) (r :: rows)) = rows := by
            show List.take ((((r :: rows).length : Nat) : Int).toNat - 1) (List.drop 1 (r :: rows)) = rows
            rw [Int.toNat_natCast]; simp
          have hrec := s_det m rows n (cols.eraseIdx i) (by omega) (by omega) (by rw [List.length_eraseIdx]; split <;> omega) (fun r' hr' => by
            obtain ⟨row', a1, a2⟩ := he r' (List.mem_cons_of_mem _ hr')
            exact ⟨row', a1, fun c hc => a2 c (List.mem_of_mem_eraseIdx hc)⟩)
          simp only [hz, decide_false, Bool.not_false, cond_true, d1, d2, d3, d4, d5, t1, t2, b1, b2, t3, Int.le_refl, decide_true, Option.bind_some, hrows, hrec, stepD, if_false])
      (fun st kc ke _ => by simp only [r_spec_l04Det_L0, not_lt_self, cond_false]) (N := N0) (by have := N0_big; omega) (0, 1) (.inl rfl) (fun s1 => some s1.2.2.2.1)
    rw [q.1, fold_det m r _ cols 0 0 1 (.inl rfl) rfl, Int.zero_add]

theorem p_det0 (m : List (List Int)) (rows cols : List Int) (h1 : rows.length ≤ 1073741824) (h2 : cols.length ≤ 1073741824) (he : Ent m rows cols) : e_impl_det (m, rows, cols, ()) = some (wr (detZ m rows cols)) :=
  p_det m rows N0 cols (by have := N0_big; omega) h1 h2 he
theorem s_det0 (m : List (List Int)) (rows cols : List Int) (h1 : rows.length ≤ 1073741824) (h2 : cols.length ≤ 1073741824) (he : Ent m rows cols) : e_spec_l04Det (m, rows, cols, ()) = some (wr (detZ m rows cols)) :=
  s_det m rows N0 cols (by have := N0_big; omega) h1 h2 he

end Go.Sx.R
namespace Go.Sx.R
open Go Go.Sx

theorem IsTab.congr {T : List (List Int)} {m : Nat} {f g : Nat → Nat → Int} (h : IsTab T m f) (e : ∀ i j, i < m → j < m → f i j = g i j) : IsTab T m g :=
  ⟨h.1, fun i hi => by obtain ⟨row, r1, r2, r3⟩ := h.2 i hi; exact ⟨row, r1, r2, fun j hj => by rw [r3 j hj, e i j hi hj]⟩⟩

theorem IsTab.uniq {T U : List (List Int)} {m : Nat} {f : Nat → Nat → Int} (h : IsTab T m f) (h' : IsTab U m f) : T = U := by
  apply List.ext_getElem?; intro i
  by_cases hi : i < m
  · obtain ⟨r, r1, r2, r3⟩ := h.2 i hi
    obtain ⟨s, s1, s2, s3⟩ := h'.2 i hi
    rw [r1, s1]
    congr 1
    apply List.ext_getElem?; intro j
    by_cases hj : j < m
    · rw [r3 j hj, s3 j hj]
    · rw [List.getElem?_eq_none (by omega), List.getElem?_eq_none (by omega)]
  · rw [List.getElem?_eq_none (by have := h.1; omega), List.getElem?_eq_none (by have := h'.1; omega)]

theorem foldI_ixmap {β γ : Type} (f : Nat → γ) : ∀ (l : List β) (i : Nat) (st : List γ), foldI (fun st i _ => st ++ [f i]) l i st = st ++ (List.range' i l.length).map f
  | [], _, st => by simp [foldI]
  | x :: l, i, st => by simp only [foldI, foldI_ixmap f l (i + 1), List.length_cons, List.range'_succ, List.map_cons, List.append_assoc, List.singleton_append]

def lapF (ws : List W3) (i j : Nat) : Int := if i = j then wAt ws (i : Int) else - wbt ws (i : Int) (j : Int)

theorem wbt_bd {ws : List W3} (hW : ∀ e ∈ ws, 1 ≤ e.2.2 ∧ e.2.2 ≤ 200) (a b : Int) : 0 ≤ wbt ws a b ∧ wbt ws a b ≤ 200 := by
  unfold wbt
  split
  · omega
  · split
    · rename_i x hx
      have := hW x (List.mem_of_find?_eq_some hx); omega
    · omega

theorem s_Lap (n : TNet) (m : Nat) (hn : Sm.sm B1 n) (hok : netok n = true) (hm : n.1 = m) (hm5 : m ≤ 5) (hW : ∀ e ∈ n.2.2.2, 1 ≤ e.2.2 ∧ e.2.2 ≤ 200) : ∃ L, e_spec_LaplacianOf (n, ()) = some L ∧ IsTab L m (lapF n.2.2.2) := by
  have hd : (List.range m).length = m := by simp
  simp only [e_spec_LaplacianOf, r_spec_LaplacianOf, s_NetOk n hn, hok, Option.bind_some, Bool.not_true, cond_false]
  have a := iter_fold (R := List (List Int)) (body := r_spec_LaplacianOf_L0 e_spec_NetOk e_spec_WeightAt e_spec_WeightBetween N0) (List.range m) (fun (st : List (List Int)) i => (n, st, i, ())) (fun i st => st.length = i) (fun st i _ => st ++ [(List.range' 0 m).map (lapF n.2.2.2 i)])
    (fun st i x kc ke hs hx hi => by
      rw [hd] at hi
      refine ⟨?_, by simp [hs]⟩
      have d1 : decide ((i : Int) < n.1) = true := by rw [decide_eq_true_eq]; omega
      have b := iter_fold (R := List (List Int)) (body := r_spec_LaplacianOf_L2 e_spec_NetOk e_spec_WeightAt e_spec_WeightBetween N0) (List.range m) (fun (row : List Int) j => (n, st, (i : Int), row, j, ())) (fun j row => row.length = j) (fun row j _ => row ++ [lapF n.2.2.2 i j])
        (fun row j y kc ke hl hy hj => by
          rw [hd] at hj
          refine ⟨?_, by simp [hl]⟩
          have d2 : decide ((j : Int) < n.1) = true := by rw [decide_eq_true_eq]; omega
          have bd := wbt_bd hW (i : Int) (j : Int)
          have w : wr (0 - wbt n.2.2.2 (i : Int) (j : Int)) = - wbt n.2.2.2 (i : Int) (j : Int) := by rw [wr_id (by omega) (by omega)]; omega
          have bl : ∀ v : Int, Nat.ble (row.length + List.length (v :: ([] : List Int))) 17179869184 = true := fun v => ble_true (by simp; omega)
          simp only [r_spec_LaplacianOf_L2, d2, cond_true, e_WeightAt, p_WeightAt n hn hW, s_WB n hn, Option.bind_some, bl, w, wr_succ hj (show m ≤ 9223372036854775807 by omega)]
          by_cases e : i = j
          · subst e; simp only [decide_true, cond_true, lapF, if_true]
          · have d3 : decide ((i : Int) = (j : Int)) = false := by rw [decide_eq_false_iff_not]; omega
            simp only [d3, cond_false, lapF, if_neg e])
        (fun row kc ke _ => by
          have d2 : decide ((((List.range m).length : Nat) : Int) < n.1) = false := by rw [decide_eq_false_iff_not, hd]; omega
          simp only [r_spec_LaplacianOf_L2, d2, cond_false]) (N := N0) (by have := N0_big; omega) [] rfl
      have bl : Nat.ble (st.length + List.length (((List.range' 0 m).map (lapF n.2.2.2 i)) :: ([] : List (List Int)))) 17179869184 = true := ble_true (by simp; omega)
      simp only [r_spec_LaplacianOf_L0, d1, cond_true]
      rw [(b _).1]
      simp only [foldI_ixmap (lapF n.2.2.2 i), List.nil_append, hd, bl, cond_true, wr_succ hi (show m ≤ 9223372036854775807 by omega)])
    (fun st kc ke _ => by
      have d2 : decide ((((List.range m).length : Nat) : Int) < n.1) = false := by rw [decide_eq_false_iff_not, hd]; omega
      simp only [r_spec_LaplacianOf_L0, d2, cond_false]) (N := N0) (by have := N0_big; omega) [] rfl (fun s2 => some s2.2.1)
  refine ⟨_, a.1, ?_⟩
  simp only [foldI_ixmap (fun i => (List.range' 0 m).map (lapF n.2.2.2 i)), List.nil_append, hd]
  refine ⟨by simp, fun i hi => ⟨(List.range' 0 m).map (lapF n.2.2.2 i), ?_, by simp, fun j hj => ?_⟩⟩
  · rw [List.getElem?_map, List.getElem?_range' hi]; simp
  · rw [List.getElem?_map, List.getElem?_range' hj]; simp

theorem p_Lap (n : TNet) (m : Nat) (hn : Sm.sm B1 n) (hok : netok n = true) (hm : n.1 = m) (hm5 : m ≤ 5) (hin : InW m n.2.2.2) (hW : ∀ e ∈ n.2.2.2, 1 ≤ e.2.2 ∧ e.2.2 ≤ 200) : ∃ L, e_impl_LaplacianOf (n, ()) = some L ∧ IsTab L m (lapF n.2.2.2) := by
  have hd : (List.range m).length = m := by simp
  have hmB : m ≤ 9223372036854775807 := by omega
  obtain ⟨T, hT, hTab⟩ := p_table n m hn hm hm5 hin
  simp only [e_impl_LaplacianOf, r_impl_LaplacianOf, p_NetOk n hn, hok, Option.bind_some, Bool.not_true, cond_false, hT]
  have hlm : ((T.length : Nat) : Int) = (m : Int) := by rw [hTab.1]
  rw [hlm]
  refine iter_rule (R := List (List Int)) (fun o => ∃ L, o = some L ∧ IsTab L m (lapF n.2.2.2)) (List.range m) (fun (T : List (List Int)) i => (n, T, (m : Int), i, ()))
    (fun i T => IsTab T m (fun a b => if a < i then lapF n.2.2.2 a b else wbt n.2.2.2 (a : Int) (b : Int))) (fun T i x kc hp hx hi hk => ?_) (fun T kc hp => ?_) (by have := N0_big; omega) T (by simpa using hTab)
  · rw [hd] at hi
    have d1 : decide ((i : Int) < (m : Int)) = true := by rw [decide_eq_true_eq]; omega
    have hlT : ((T.length : Nat) : Int) = (m : Int) := by rw [hp.1]
    simp only [r_impl_LaplacianOf_L0, d1, cond_true, hlT]
    refine iter_rule (R := List (List Int)) (fun o => ∃ L, o = some L ∧ IsTab L m (lapF n.2.2.2)) (List.range m) (fun (T : List (List Int)) j => (n, T, (i : Int), (m : Int), (i : Int), (m : Int), j, ()))
      (fun j T => IsTab T m (fun a b => if a < i then lapF n.2.2.2 a b else if a = i ∧ b < j then - wbt n.2.2.2 (a : Int) (b : Int) else wbt n.2.2.2 (a : Int) (b : Int))) (fun T j y kc2 hq hy hj hk2 => ?_) (fun T kc2 hq => ?_) (by have := N0_big; omega) T (hp.congr fun a b _ _ => by simp)
    · rw [hd] at hj
      have d2 : decide ((j : Int) < (m : Int)) = true := by rw [decide_eq_true_eq]; omega
      obtain ⟨row, r1, r2, r3⟩ := hq.2 i hi
      have g := r3 j hj
      simp only [Nat.lt_irrefl, if_false, and_false] at g
      have bd := wbt_bd hW (i : Int) (j : Int)
      have w : wr (0 - wbt n.2.2.2 (i : Int) (j : Int)) = - wbt n.2.2.2 (i : Int) (j : Int) := by rw [wr_id (by omega) (by omega)]; omega
      simp only [r_impl_LaplacianOf_L2, d2, cond_true, getI_nat, r1, Option.bind_some, g, w, Int.toNat_natCast, wr_succ hj hmB]
      refine hk2 _ ((hq.put (v := - wbt n.2.2.2 (i : Int) (j : Int)) (b := j) hi r1).congr fun a b _ _ => ?_)
      by_cases e : a = i ∧ b = j
      · rw [if_pos e, e.1, e.2, if_neg (by omega), if_pos (by omega)]
      · rw [if_neg e]
        by_cases e1 : a < i
        · rw [if_pos e1, if_pos e1]
        · rw [if_neg e1, if_neg e1]
          by_cases e2 : a = i ∧ b < j
          · rw [if_pos e2, if_pos (by omega)]
          · rw [if_neg e2, if_neg (by omega)]
    · have d2 : decide ((((List.range m).length : Nat) : Int) < (m : Int)) = false := by rw [decide_eq_false_iff_not, hd]; omega
      obtain ⟨row, r1, r2, r3⟩ := hq.2 i hi
      have g := r3 i hi
      simp only [r_impl_LaplacianOf_L2, d2, cond_false, getI_nat, r1, Option.bind_some, p_WeightAt n hn hW, g, Int.toNat_natCast, wr_succ hi hmB]
      refine hk _ ((hq.put (v := wAt n.2.2.2 (i : Int)) (b := i) hi r1).congr fun a b ha hb => ?_)
      rw [hd]
      by_cases e : a = i ∧ b = i
      · rw [if_pos e, e.1, e.2, if_pos (by omega)]; simp [lapF]
      · rw [if_neg e]
        by_cases e1 : a < i
        · rw [if_pos e1, if_pos (by omega)]
        · rw [if_neg e1]
          by_cases e2 : a = i
          · rw [if_pos ⟨e2, hb⟩, if_pos (by omega), lapF, if_neg (by omega)]
          · rw [if_neg (by omega), if_neg (by omega)]
  · have d2 : decide ((((List.range m).length : Nat) : Int) < (m : Int)) = false := by rw [decide_eq_false_iff_not, hd]; omega
    simp only [r_impl_LaplacianOf_L0, d2, cond_false]
    exact ⟨T, rfl, hp.congr fun a b ha _ => by rw [hd, if_pos ha]⟩

theorem lap_both (n : TNet) (m : Nat) (hn : Sm.sm B1 n) (hok : netok n = true) (hm : n.1 = m) (hm5 : m ≤ 5) (hin : InW m n.2.2.2) (hW : ∀ e ∈ n.2.2.2, 1 ≤ e.2.2 ∧ e.2.2 ≤ 200) : ∃ L, e_impl_LaplacianOf (n, ()) = some L ∧ e_spec_LaplacianOf (n, ()) = some L ∧ IsTab L m (lapF n.2.2.2) := by
  obtain ⟨L, h1, h2⟩ := p_Lap n m hn hok hm hm5 hin hW
  obtain ⟨L', h3, h4⟩ := s_Lap n m hn hok hm hm5 hW
  exact ⟨L, h1, by rw [h3, h2.uniq h4], h2⟩

end Go.Sx.R
namespace Go.Sx.R
open Go Go.Sx

theorem p_sizeI (n : Int) (h1 : -9223372036854775807 ≤ n) (h2 : n ≤ 9223372036854775807) : e_impl_size (n, ()) = some (n.natAbs : Int) := by
  simp only [e_impl_size, r_impl_size]
  by_cases h : n < 0
  · have e : Go.IntKind.wrap Go.IntKind.u64 (0 - Go.IntKind.wrap Go.IntKind.u64 n) = (n.natAbs : Int) := by
      simp only [IntKind.wrap, IntKind.bits, IntKind.signed]
      simp
      omega
    simp only [h, decide_true, cond_true, e]
  · simp only [h, decide_false, cond_false]
    rw [u64_id (by omega) (by omega)]
    congr 1; omega

theorem tdiv_abs (n : Int) (g : Nat) : (0 ≤ n → Int.tdiv n (g : Int) = ((n.natAbs / g : Nat) : Int)) ∧ (n < 0 → Int.tdiv n (g : Int) = -((n.natAbs / g : Nat) : Int)) := by
  refine ⟨fun h => ?_, fun h => ?_⟩
  · have e : n = ((n.natAbs : Nat) : Int) := by omega
    rw [e, Int.tdiv_eq_ediv_of_nonneg (by omega)]; simp
  · have e : n = -((n.natAbs : Nat) : Int) := by omega
    have : Int.tdiv (-((n.natAbs : Nat) : Int)) (g : Int) = -((n.natAbs / g : Nat) : Int) := by
      rw [Int.neg_tdiv, Int.tdiv_eq_ediv_of_nonneg (by omega)]; simp
    rw [← e] at this; exact this

end Go.Sx.R
namespace Go.Sx.R
open Go Go.Sx

-- bounds of determinants
def l1 (m : List (List Int)) (r : Int) (cols : List Int) : Nat := (cols.map fun c => (at2 m r c).natAbs).sum

theorem dsum_le {m : List (List Int)} {r : Int} {D : Nat → Int} {X : Nat} : ∀ (cs : List Int) (j : Nat) (s : Int), (s = 1 ∨ s = -1) → (∀ i, (D i).natAbs ≤ X) → (dsum m r D cs j s).natAbs ≤ l1 m r cs * X
  | [], _, _, _, _ => by simp [dsum, l1]
  | c :: cs, j, s, hs, hD => by
    have ih := dsum_le (m := m) (r := r) (D := D) (X := X) cs (j + 1) (-s) (by rcases hs with rfl | rfl <;> simp) hD
    have hs1 : s.natAbs = 1 := by rcases hs with rfl | rfl <;> rfl
    have t : (s * at2 m r c * D j).natAbs ≤ (at2 m r c).natAbs * X := by
      rw [Int.natAbs_mul, Int.natAbs_mul, hs1, Nat.one_mul]
      exact Nat.mul_le_mul_left _ (hD j)
    have e : l1 m r (c :: cs) = (at2 m r c).natAbs + l1 m r cs := by simp [l1]
    simp only [dsum]
    rw [e, Nat.add_mul]
    exact Nat.le_trans (Int.natAbs_add_le _ _) (Nat.add_le_add t ih)

theorem l1_erase {m : List (List Int)} {r : Int} : ∀ (cols : List Int) (i : Nat), l1 m r (cols.eraseIdx i) ≤ l1 m r cols
  | [], _ => by simp [l1]
  | c :: cs, 0 => by simp [l1]
  | c :: cs, i + 1 => by
    have := l1_erase (m := m) (r := r) cs i
    simp only [l1, List.eraseIdx_cons_succ, List.map_cons, List.sum_cons] at *; omega

theorem detZ_le {m : List (List Int)} {X : Nat} : ∀ (rows cols : List Int), (∀ r ∈ rows, l1 m r cols ≤ X) → (detZ m rows cols).natAbs ≤ X ^ rows.length
  | [], _, _ => by simp [detZ]
  | r :: rows, cols, h => by
    have hD : ∀ i, (detZ m rows (cols.eraseIdx i)).natAbs ≤ X ^ rows.length := fun i => detZ_le rows (cols.eraseIdx i) fun r' hr' => Nat.le_trans (l1_erase cols i) (h r' (List.mem_cons_of_mem _ hr'))
    have := dsum_le (m := m) (r := r) cols 0 1 (.inl rfl) hD
    simp only [detZ, List.length_cons]
    refine Nat.le_trans this ?_
    rw [Nat.pow_succ, Nat.mul_comm]
    exact Nat.mul_le_mul_left _ (h r List.mem_cons_self)

-- weights at a node
def oth (v : Int) (e : W3) : Int := e.1 + e.2.1 - v
def tch (v : Int) (e : W3) : Bool := decide (e.1 = v ∨ e.2.1 = v)

theorem touch_sum (v : Int) : ∀ (ws : List W3), wAt ws v = ((ws.filter (tch v)).map (touch v)).sum
  | [] => rfl
  | e :: ws => by
    have ih := touch_sum v ws
    simp only [wAt] at *
    by_cases c : e.1 = v ∨ e.2.1 = v
    · rw [List.filter_cons_of_pos (by simp [tch, c])]; simp [ih]
    · rw [List.filter_cons_of_neg (by simp [tch, c])]; simp [ih, touch, c]

theorem wAt_le {ws : List W3} {m : Nat} (hs : Srt ws) (hin : InW m ws) (hm5 : m ≤ 5) (hW : ∀ e ∈ ws, 1 ≤ e.2.2 ∧ e.2.2 ≤ 200) (v : Int) : 0 ≤ wAt ws v ∧ wAt ws v ≤ 1000 := by
  rw [touch_sum]
  have hb := sum_bounds (touch v) 200 (ws.filter (tch v)) fun e he => touch_le hW v e (List.mem_filter.1 he).1
  have hn : ((ws.filter (tch v)).map (oth v)).Nodup := by
    rw [List.Nodup, List.pairwise_map]
    refine (List.Pairwise.filter _ hs).imp_of_mem fun {a b} ha hb hl => ?_
    have ta := (List.mem_filter.1 ha).2
    have tb := (List.mem_filter.1 hb).2
    have ia := hin a (List.mem_filter.1 ha).1
    have ib := hin b (List.mem_filter.1 hb).1
    simp only [tch, decide_eq_true_eq] at ta tb
    simp only [lex, Bool.or_eq_true, Bool.and_eq_true, decide_eq_true_eq] at hl
    simp only [oth]
    omega
  have hl := nodup_len (m := ints 5) hn fun x hx => by
    obtain ⟨e, he, rfl⟩ := List.mem_map.1 hx
    have te := (List.mem_filter.1 he).2
    have ie := hin e (List.mem_filter.1 he).1
    simp only [tch, decide_eq_true_eq] at te
    rw [mem_ints]; simp only [oth]; omega
  rw [len_ints, List.length_map] at hl
  omega

theorem lapF_le {ws : List W3} {m : Nat} (hs : Srt ws) (hin : InW m ws) (hm5 : m ≤ 5) (hW : ∀ e ∈ ws, 1 ≤ e.2.2 ∧ e.2.2 ≤ 200) (i j : Nat) : (lapF ws i j).natAbs ≤ if i = j then 1000 else 200 := by
  simp only [lapF]
  split
  · have := wAt_le hs hin hm5 hW (i : Int); omega
  · have := wbt_bd hW (i : Int) (j : Int); omega

theorem tab_at2 {L : List (List Int)} {m : Nat} {f : Nat → Nat → Int} (h : IsTab L m f) {i j : Nat} (hi : i < m) (hj : j < m) : at2 L (i : Int) (j : Int) = f i j := by
  obtain ⟨row, r1, r2, r3⟩ := h.2 i hi
  simp only [at2, getI_nat, r1, Option.getD_some, r3 j hj]

theorem tab_ent {L : List (List Int)} {m : Nat} {f : Nat → Nat → Int} (h : IsTab L m f) {rows cols : List Int} (hr : ∀ r ∈ rows, 0 ≤ r ∧ r < m) (hc : ∀ c ∈ cols, 0 ≤ c ∧ c < m) : Ent L rows cols := by
  intro r hrm
  obtain ⟨i, rfl⟩ : ∃ i : Nat, r = i := ⟨r.toNat, by have := hr r hrm; omega⟩
  obtain ⟨row, r1, r2, r3⟩ := h.2 i (by have := hr _ hrm; omega)
  refine ⟨row, by rw [getI_nat]; exact r1, fun c hcm => ?_⟩
  obtain ⟨j, rfl⟩ : ∃ j : Nat, c = j := ⟨c.toNat, by have := hc c hcm; omega⟩
  exact ⟨_, by rw [getI_nat]; exact r3 j (by have := hc _ hcm; omega)⟩

theorem l1_lap {ws : List W3} {m : Nat} {L : List (List Int)} (hs : Srt ws) (hin : InW m ws) (hm5 : m ≤ 5) (hW : ∀ e ∈ ws, 1 ≤ e.2.2 ∧ e.2.2 ≤ 200) (h : IsTab L m (lapF ws)) {r : Int} (hr : 0 ≤ r ∧ r < m) :
    ∀ (cols : List Int), cols.Nodup → (∀ c ∈ cols, 0 ≤ c ∧ c < m) → (r ∉ cols → l1 L r cols ≤ 200 * cols.length) ∧ l1 L r cols ≤ 800 + 200 * cols.length
  | [], _, _ => by simp [l1]
  | c :: cs, hn, hc => by
    obtain ⟨n1, n2⟩ := List.nodup_cons.1 hn
    obtain ⟨q1, q2⟩ := l1_lap hs hin hm5 hW h hr cs n2 fun c hcm => hc c (List.mem_cons_of_mem _ hcm)
    obtain ⟨i, rfl⟩ : ∃ i : Nat, r = i := ⟨r.toNat, by omega⟩
    have hcc := hc c List.mem_cons_self
    obtain ⟨j, rfl⟩ : ∃ j : Nat, c = j := ⟨c.toNat, by omega⟩
    have b := lapF_le hs hin hm5 hW i j
    have e : l1 L (i : Int) ((j : Int) :: cs) = (lapF ws i j).natAbs + l1 L (i : Int) cs := by
      simp only [l1, List.map_cons, List.sum_cons, tab_at2 h (show i < m by omega) (show j < m by omega)]
    rw [e]
    simp only [List.length_cons, List.mem_cons, not_or]
    by_cases ij : i = j
    · subst ij
      have := q1 n1
      simp only [if_true] at b
      exact ⟨fun hh => absurd rfl hh.1, by omega⟩
    · rw [if_neg ij] at b
      exact ⟨fun hh => by have := q1 hh.2; omega, by omega⟩

theorem det_lap {ws : List W3} {m : Nat} {L : List (List Int)} (hs : Srt ws) (hin : InW m ws) (hm5 : m ≤ 5) (hW : ∀ e ∈ ws, 1 ≤ e.2.2 ∧ e.2.2 ≤ 200) (h : IsTab L m (lapF ws)) {rows cols : List Int} (hr : ∀ r ∈ rows, 0 ≤ r ∧ r < m) (hc : ∀ c ∈ cols, 0 ≤ c ∧ c < m) (hn : cols.Nodup) : (detZ L rows cols).natAbs ≤ 1800 ^ rows.length := by
  refine detZ_le rows cols fun r hrm => ?_
  have hl : cols.length ≤ 5 := by
    have := nodup_len (m := ints m) hn fun c hcm => by rw [mem_ints]; exact hc c hcm
    rw [len_ints] at this; omega
  have := (l1_lap hs hin hm5 hW h (hr r hrm) cols hn hc).2
  omega

end Go.Sx.R
namespace Go.Sx.R
open Go Go.Sx

/-- A square of lists, filled row by row. -/
def GI {α : Type} (E : Nat) (g : Nat → Nat → α) (i j : Nat) (R : List (List α)) : Prop :=
  R.length = E ∧ ∀ a, a < E → R[a]? = some (if a < i then (List.range' 0 E).map (g a) else if a = i then (List.range' 0 j).map (g a) else [])

section
variable {α : Type} {E : Nat} {g : Nat → Nat → α} {i j : Nat} {R : List (List α)}
theorem GI.get (h : GI E g i j R) (hi : i < E) : R[i]? = some ((List.range' 0 j).map (g i)) := by
  rw [h.2 i hi, if_neg (Nat.lt_irrefl i), if_pos rfl]
theorem GI.step (h : GI E g i j R) (hi : i < E) : GI E g i (j + 1) (R.set i ((List.range' 0 j).map (g i) ++ [g i j])) := by
  refine ⟨by simpa using h.1, fun a ha => ?_⟩
  rw [List.getElem?_set]
  by_cases e : i = a
  · subst e
    rw [if_pos rfl, if_pos (by rw [h.1]; exact hi), if_neg (Nat.lt_irrefl i), if_pos rfl, List.range'_concat, List.map_append]
    simp
  · rw [if_neg e, h.2 a ha]
    by_cases e1 : a < i
    · rw [if_pos e1, if_pos e1]
    · rw [if_neg e1, if_neg e1, if_neg (fun e' => e e'.symm), if_neg (fun e' => e e'.symm)]
theorem GI.row (h : GI E g i E R) : GI E g (i + 1) 0 R := by
  refine ⟨h.1, fun a ha => ?_⟩
  rw [h.2 a ha]
  by_cases e1 : a < i
  · rw [if_pos e1, if_pos (by omega)]
  · rw [if_neg e1]
    by_cases e2 : a = i
    · rw [if_pos e2, if_pos (by omega)]
    · rw [if_neg e2, if_neg (by omega)]
      split <;> rfl
theorem GI.init : GI E g 0 0 (List.replicate E []) := by
  refine ⟨by simp, fun a ha => ?_⟩
  rw [List.getElem?_replicate, if_pos ha, if_neg (by omega)]
  split <;> rfl
theorem GI.done (h : GI E g E 0 R) : R = (List.range' 0 E).map fun a => (List.range' 0 E).map (g a) := by
  apply List.ext_getElem?; intro a
  by_cases ha : a < E
  · rw [h.2 a ha, if_pos ha, List.getElem?_map, List.getElem?_range' ha]; simp
  · rw [List.getElem?_eq_none (by have := h.1; omega), List.getElem?_eq_none (by simp; omega)]
end

theorem same_idx (a : Nat) : samePath (([] : List PS) ++ (PS.idx a :: ([] : List PS))) (([] : List PS) ++ (PS.idx a :: ([] : List PS))) = true := by
  simp [samePath]

/-- What is known of a network that is in order. -/
structure Nk (n : TNet) (m E : Nat) (L : List (List Int)) (inn : List Int) : Prop where
  hn : Sm.sm B1 n
  ok : netok n = true
  hm : n.1 = m
  m1 : 1 ≤ m
  m5 : m ≤ 5
  he : n.2.1 = E
  e1 : 1 ≤ E
  em : E ≤ m
  sc : 1 ≤ n.2.2.1 ∧ n.2.2.1 ≤ 1000
  lp : e_impl_LaplacianOf (n, ()) = some L
  ls : e_spec_LaplacianOf (n, ()) = some L
  tab : IsTab L m (lapF n.2.2.2)
  ip : e_impl_inner (n, ()) = some inn
  is : e_spec_l06Inner (n, ()) = some inn
  inn : inn = rng n.2.1 (m - E)
  srt : Srt n.2.2.2
  inw : InW m n.2.2.2
  hw : ∀ e ∈ n.2.2.2, 1 ≤ e.2.2 ∧ e.2.2 ≤ 200

theorem e_Inner : e_spec_l06Inner = e_impl_inner := rfl

theorem nk_of (n : TNet) (hn : Sm.sm B1 n) (ok : netok n = true) : ∃ m E L inn, Nk n m E L inn := by
  obtain ⟨m, hm, hm1, hm5, hin, he1, he2⟩ := netok_facts ok
  obtain ⟨E, hE⟩ : ∃ E : Nat, n.2.1 = E := ⟨n.2.1.toNat, by omega⟩
  have hW := wiresW ok
  obtain ⟨L, h1, h2, h3⟩ := lap_both n m hn ok hm hm5 hin hW
  have hp := p_inner n m hm hm5 he1 he2
  have et : n.2.1.toNat = E := by omega
  rw [et] at hp
  have hh : hdrOk n = true := by revert ok; simp only [netok]; cases hdrOk n <;> simp
  simp only [hdrOk, Bool.and_eq_true, decide_eq_true_eq] at hh
  exact ⟨m, E, L, _, hn, ok, hm, hm1, hm5, hE, by omega, by omega, by omega, h1, h2, h3, hp, by rw [e_Inner]; exact hp, rfl, netok_srt ok, hin, hW⟩

section
variable {n : TNet} {m E : Nat} {L : List (List Int)} {inn : List Int}

theorem Nk.mem_inn (h : Nk n m E L inn) {c : Int} : c ∈ inn ↔ (E : Int) ≤ c ∧ c < m := by
  have h1 := h.inn; have h2 := h.he; have h3 := h.em
  subst h1
  simp only [rng, List.mem_map, List.mem_range]
  constructor
  · rintro ⟨k, hk, rfl⟩
    have : Int.ofNat k = (k : Int) := rfl
    omega
  · intro hc
    refine ⟨(c - E).toNat, by omega, ?_⟩
    have : Int.ofNat (c - E).toNat = ((c - E).toNat : Int) := rfl
    omega

theorem Nk.nd_inn (h : Nk n m E L inn) : inn.Nodup := by
  have h1 := h.inn
  subst h1
  rw [rng, List.Nodup, List.pairwise_map]
  refine List.nodup_range.imp fun {a b} hab hh => hab ?_
  have e1 : Int.ofNat a = (a : Int) := rfl
  have e2 : Int.ofNat b = (b : Int) := rfl
  omega

theorem Nk.len_inn (h : Nk n m E L inn) : inn.length = m - E := by have h1 := h.inn; subst h1; exact rng_len

theorem Nk.with (h : Nk n m E L inn) {i : Nat} (hi : i < E) : (∀ c ∈ (i : Int) :: inn, 0 ≤ c ∧ c < m) ∧ ((i : Int) :: inn).Nodup ∧ ((i : Int) :: inn).length ≤ 5 := by
  have hem := h.em; have hm5 := h.m5
  refine ⟨fun c hc => ?_, List.nodup_cons.2 ⟨fun hc => ?_, h.nd_inn⟩, ?_⟩
  · rcases List.mem_cons.1 hc with rfl | hc
    · omega
    · have := h.mem_inn.1 hc; omega
  · have := h.mem_inn.1 hc; omega
  · rw [List.length_cons, h.len_inn]; omega

theorem Nk.inn_in (h : Nk n m E L inn) : ∀ c ∈ inn, 0 ≤ c ∧ c < m := fun c hc => by have := h.mem_inn.1 hc; omega

theorem pow1800 {k : Nat} (h : k ≤ 5) : 1800 ^ k ≤ 18895680000000000 := Nat.le_trans (Nat.pow_le_pow_right (by omega) h) (by decide)
theorem pow1800' {k : Nat} (h : k ≤ 4) : 1800 ^ k ≤ 10497600000000 := Nat.le_trans (Nat.pow_le_pow_right (by omega) h) (by decide)

theorem Nk.top_le (h : Nk n m E L inn) {i j : Nat} (hi : i < E) (hj : j < E) : (detZ L ((i : Int) :: inn) ((j : Int) :: inn)).natAbs ≤ 18895680000000000 :=
  Nat.le_trans (det_lap h.srt h.inw h.m5 h.hw h.tab (h.with hi).1 (h.with hj).1 (h.with hj).2.1) (pow1800 (h.with hi).2.2)
theorem Nk.down_le (h : Nk n m E L inn) : (detZ L inn inn).natAbs ≤ 10497600000000 :=
  Nat.le_trans (det_lap h.srt h.inw h.m5 h.hw h.tab h.inn_in h.inn_in h.nd_inn) (pow1800' (by have := h.len_inn; have := h.e1; have := h.m5; omega))

theorem Nk.top (h : Nk n m E L inn) {i j : Nat} (hi : i < E) (hj : j < E) :
    e_impl_det (L, (i : Int) :: inn, (j : Int) :: inn, ()) = some (detZ L ((i : Int) :: inn) ((j : Int) :: inn)) ∧ e_spec_l04Det (L, (i : Int) :: inn, (j : Int) :: inn, ()) = some (detZ L ((i : Int) :: inn) ((j : Int) :: inn)) := by
  have hE := tab_ent h.tab (h.with hi).1 (h.with hj).1
  have b := h.top_le hi hj
  have w : wr (detZ L ((i : Int) :: inn) ((j : Int) :: inn)) = detZ L ((i : Int) :: inn) ((j : Int) :: inn) := wr_id (by omega) (by omega)
  have li := (h.with hi).2.2
  have lj := (h.with hj).2.2
  exact ⟨by rw [p_det0 L _ _ (by omega) (by omega) hE, w], by rw [s_det0 L _ _ (by omega) (by omega) hE, w]⟩

theorem Nk.down (h : Nk n m E L inn) : e_impl_det (L, inn, inn, ()) = some (detZ L inn inn) ∧ e_spec_l04Det (L, inn, inn, ()) = some (detZ L inn inn) := by
  have hE := tab_ent h.tab h.inn_in h.inn_in
  have b := h.down_le
  have w : wr (detZ L inn inn) = detZ L inn inn := wr_id (by omega) (by omega)
  have l := h.len_inn
  have hm5 := h.m5
  exact ⟨by rw [p_det0 L _ _ (by omega) (by omega) hE, w], by rw [s_det0 L _ _ (by omega) (by omega) hE, w]⟩

def dOf (n : TNet) (L : List (List Int)) (inn : List Int) : Int := n.2.2.1 * detZ L inn inn

theorem Nk.d_le (h : Nk n m E L inn) : (dOf n L inn).natAbs ≤ 10497600000000000 := by
  have b := h.down_le
  have s := h.sc
  rw [dOf, Int.natAbs_mul]
  have : n.2.2.1.natAbs ≤ 1000 := by omega
  exact Nat.le_trans (Nat.mul_le_mul this b) (by decide)

theorem Nk.resp (h : Nk n m E L inn) : e_impl_response (n, ()) = some ((List.range' 0 E).map fun (i : Nat) => (List.range' 0 E).map fun (j : Nat) => detZ L ((i : Int) :: inn) ((j : Int) :: inn), dOf n L inn) := by
  have l := h.len_inn
  have hm5 := h.m5
  have hem := h.em
  have hd : (List.range E).length = E := by simp
  have hEt : n.2.1.toNat = E := by have := h.he; omega
  have d0 : decide ((0 : Int) ≤ n.2.1) = true := by have := h.he; rw [decide_eq_true_eq]; omega
  have hEB : E ≤ 9223372036854775807 := by omega
  have bd := h.d_le
  simp only [e_impl_response, r_impl_response, h.lp, h.ip, Option.bind_some, d0, cond_true, hEt, ble_true (show E ≤ 17179869184 by omega), List.length_replicate]
  refine iter_rule (R := List (List Int) × Int) (fun o => o = some ((List.range' 0 E).map fun (i : Nat) => (List.range' 0 E).map fun (j : Nat) => detZ L ((i : Int) :: inn) ((j : Int) :: inn), dOf n L inn)) (List.range E) (fun (R : List (List Int)) i => (n, L, inn, R, (E : Int), i, ()))
    (fun i R => GI E (fun i j => detZ L ((i : Int) :: inn) ((j : Int) :: inn)) i 0 R) (fun R i x kc hp hx hi hk => ?_) (fun R kc hp => ?_) (by have := N0_big; omega) _ GI.init
  · rw [hd] at hi
    have d1 : decide ((i : Int) < (E : Int)) = true := by rw [decide_eq_true_eq]; omega
    have hlR : ((R.length : Nat) : Int) = (E : Int) := by rw [hp.1]
    simp only [r_impl_response_L0, d1, cond_true, hlR]
    refine iter_rule (R := List (List Int) × Int) (fun o => o = some ((List.range' 0 E).map fun (i : Nat) => (List.range' 0 E).map fun (j : Nat) => detZ L ((i : Int) :: inn) ((j : Int) :: inn), dOf n L inn)) (List.range E) (fun (R : List (List Int)) j => (n, L, inn, R, (i : Int), (E : Int), (i : Int), (E : Int), j, ()))
      (fun j R => GI E (fun i j => detZ L ((i : Int) :: inn) ((j : Int) :: inn)) i j R) (fun R j y kc2 hq hy hj hk2 => ?_) (fun R kc2 hq => ?_) (by have := N0_big; omega) R hp
    · rw [hd] at hj
      have d2 : decide ((j : Int) < (E : Int)) = true := by rw [decide_eq_true_eq]; omega
      have g := hq.get hi
      have b : ∀ k : Nat, Nat.ble (List.length ((k : Int) :: ([] : List Int)) + inn.length) 17179869184 = true := fun k => ble_true (by simp; omega)
      have b2 : ∀ v : Int, Nat.ble (((List.range' 0 j).map fun (j : Nat) => detZ L ((i : Int) :: inn) ((j : Int) :: inn)).length + List.length (v :: ([] : List Int))) 17179869184 = true := fun v => ble_true (by simp; omega)
      simp only [r_impl_response_L2, d2, cond_true, getI_nat, g, Option.bind_some, b, List.cons_append, List.nil_append, (h.top hi hj).1, b2, Int.toNat_natCast, wr_succ hj hEB]
      have hsp := same_idx i
      simp only [List.nil_append] at hsp
      rw [hsp, cond_true]
      exact hk2 _ (hq.step hi)
    · have d2 : decide ((((List.range E).length : Nat) : Int) < (E : Int)) = false := by rw [decide_eq_false_iff_not, hd]; omega
      rw [hd] at hq
      simp only [r_impl_response_L2, d2, cond_false, wr_succ hi hEB]
      exact hk _ hq.row
  · have d2 : decide ((((List.range E).length : Nat) : Int) < (E : Int)) = false := by rw [decide_eq_false_iff_not, hd]; omega
    rw [hd] at hp
    have w : wr (n.2.2.1 * detZ L inn inn) = dOf n L inn := by
      show wr (dOf n L inn) = _
      exact wr_id (by omega) (by omega)
    simp only [r_impl_response_L0, d2, cond_false, h.down.1, Option.bind_some, w, hp.done]
end

end Go.Sx.R
namespace Go.Sx.R
open Go Go.Sx

section
variable {n : TNet} {m E : Nat} {L : List (List Int)} {inn : List Int}

theorem range'_get0 {E i : Nat} (hi : i < E) : (List.range' 0 E)[i]? = some i := by rw [List.getElem?_range' hi]; simp

end

end Go.Sx.R
namespace Go.Sx.R
open Go Go.Sx

theorem sum_mem' {β : Type} (h : β → Int) : ∀ (l : List β), (∀ x ∈ l, 0 ≤ h x) → ∀ x ∈ l, h x ≤ (l.map h).sum
  | [], _, x, hx => by simp at hx
  | y :: l, h0, x, hx => by
    have ih := sum_mem' h l fun z hz => h0 z (by simp [hz])
    have hs : 0 ≤ (l.map h).sum := by
      have : ∀ (l : List β), (∀ x ∈ l, 0 ≤ h x) → 0 ≤ (l.map h).sum := by
        intro l
        induction l with
        | nil => simp
        | cons z l ih2 => intro hz; have := ih2 fun y hy => hz y (by simp [hy]); have := hz z (by simp); simp; omega
      exact this l fun z hz => h0 z (by simp [hz])
    have hy := h0 y (by simp)
    simp only [List.map_cons, List.sum_cons]
    rcases List.mem_cons.1 hx with rfl | hx
    · omega
    · have := ih x hx; omega

theorem netok_rc' {n : TNet} (h : netok n = true) {v : Int} (h0 : 0 ≤ v) (h1 : v < n.1) : Rc n.2.2.2 v := by
  revert h
  simp only [netok, Bool.and_eq_true]
  intro h
  have := h.2
  simp only [conn, decide_eq_true_eq] at this
  exact this v h0 h1

theorem wAt_pos' {n : TNet} (h : netok n = true) {v : Int} (h0 : 1 ≤ v) (h1 : v < n.1) : 1 ≤ wAt n.2.2.2 v := by
  have hW := wiresW h
  have hc := netok_rc' h (by omega) h1
  obtain ⟨e, he, ht⟩ : ∃ e ∈ n.2.2.2, e.1 = v ∨ e.2.1 = v := by
    cases hc with
    | zero => omega
    | ab he _ => exact ⟨_, he, .inr rfl⟩
    | ba he _ => exact ⟨_, he, .inl rfl⟩
  have := sum_mem' (touch v) n.2.2.2 (fun x hx => by have := hW x hx; simp only [touch]; split <;> omega) e he
  have ht' : touch v e = e.2.2 := by simp only [touch]; rw [if_pos ht]
  have := hW e he
  simp only [wAt]; omega

theorem at2_map (E : Nat) (f : Nat → Nat → Int) {i j : Nat} (hi : i < E) (hj : j < E) : at2 ((List.range' 0 E).map fun (i : Nat) => (List.range' 0 E).map fun (j : Nat) => f i j) (i : Int) (j : Int) = f i j := by
  have e1 : ((List.range' 0 E).map fun (i : Nat) => (List.range' 0 E).map fun (j : Nat) => f i j)[i]? = some ((List.range' 0 E).map fun (j : Nat) => f i j) := by rw [List.getElem?_map, range'_get0 hi]; rfl
  have e2 : ((List.range' 0 E).map fun (j : Nat) => f i j)[j]? = some (f i j) := by rw [List.getElem?_map, range'_get0 hj]; rfl
  simp only [at2, getI_nat, e1, Option.getD_some, e2]

theorem ent_map (E : Nat) (f : Nat → Nat → Int) {p q : List Int} (hp : ∀ x ∈ p, 0 ≤ x ∧ x < E) (hq : ∀ x ∈ q, 0 ≤ x ∧ x < E) : Ent ((List.range' 0 E).map fun (i : Nat) => (List.range' 0 E).map fun (j : Nat) => f i j) p q := fun r hr => by
  obtain ⟨i, rfl⟩ : ∃ i : Nat, r = i := ⟨r.toNat, by have := hp r hr; omega⟩
  have hi := hp _ hr
  refine ⟨(List.range' 0 E).map fun (j : Nat) => f i j, by rw [getI_nat, List.getElem?_map, range'_get0 (show i < E by omega)]; rfl, fun c hc => ?_⟩
  obtain ⟨j, rfl⟩ : ∃ j : Nat, c = j := ⟨c.toNat, by have := hq c hc; omega⟩
  have hj := hq _ hc
  exact ⟨f i j, by rw [getI_nat, List.getElem?_map, range'_get0 (show j < E by omega)]; rfl⟩

theorem mulC {x y A B : Int} (hx : 0 ≤ x ∧ x ≤ A) (hy : 0 ≤ y ∧ y ≤ B) : 0 ≤ x * y ∧ x * y ≤ A * B :=
  ⟨Int.mul_nonneg hx.1 hy.1, Int.mul_le_mul hx.2 hy.2 hy.1 (Int.le_trans hx.1 hx.2)⟩

theorem detZ1 (M : List (List Int)) (r c : Int) : detZ M [r] [c] = at2 M r c := by simp [detZ, dsum]
theorem detZ2 (M : List (List Int)) (r s c d : Int) : detZ M [r, s] [c, d] = at2 M r c * at2 M s d - at2 M r d * at2 M s c := by
  simp [detZ, dsum, List.eraseIdx]; grind
theorem detZ3 (M : List (List Int)) (r s t c d e : Int) : detZ M [r, s, t] [c, d, e] = at2 M r c * (at2 M s d * at2 M t e - at2 M s e * at2 M t d) - at2 M r d * (at2 M s c * at2 M t e - at2 M s e * at2 M t c) + at2 M r e * (at2 M s c * at2 M t d - at2 M s d * at2 M t c) := by
  simp [detZ, dsum, List.eraseIdx]; grind

section
variable {n : TNet} {m E : Nat} {L : List (List Int)} {inn : List Int}

theorem Nk.down_pos (h : Nk n m E L inn) (hE : m ≤ E + 1) : 1 ≤ detZ L inn inn ∧ detZ L inn inn ≤ 1000 := by
  have hl := h.len_inn
  have hem := h.em
  have he1 := h.e1
  have hin := h.mem_inn (c := (E : Int))
  have hall := h.inn_in
  match inn, hl with
  | [], _ => exact ⟨by show (1 : Int) ≤ 1; omega, by show (1 : Int) ≤ 1000; omega⟩
  | [z], hl =>
    have hl' : 1 = m - E := hl
    have hz : z = (E : Int) := by
      have := hin.2 ⟨by omega, by omega⟩
      exact (List.mem_singleton.1 this).symm
    subst hz
    rw [detZ1, tab_at2 h.tab (by omega) (by omega), lapF, if_pos rfl]
    have hm := h.hm
    have h1 := wAt_le h.srt h.inw h.m5 h.hw (E : Int)
    have h2 := wAt_pos' h.ok (v := (E : Int)) (by omega) (by omega)
    exact ⟨h2, h1.2⟩
  | _ :: _ :: _, hl => simp at hl; omega
end


end Go.Sx.R
namespace Go.Sx.R
open Go Go.Sx

theorem detZ4 (M : List (List Int)) (r s t u c d e g : Int) : detZ M [r, s, t, u] [c, d, e, g] =
    at2 M r c * (at2 M s d * (at2 M t e * at2 M u g - at2 M t g * at2 M u e) - at2 M s e * (at2 M t d * at2 M u g - at2 M t g * at2 M u d) + at2 M s g * (at2 M t d * at2 M u e - at2 M t e * at2 M u d))
    - at2 M r d * (at2 M s c * (at2 M t e * at2 M u g - at2 M t g * at2 M u e) - at2 M s e * (at2 M t c * at2 M u g - at2 M t g * at2 M u c) + at2 M s g * (at2 M t c * at2 M u e - at2 M t e * at2 M u c))
    + at2 M r e * (at2 M s c * (at2 M t d * at2 M u g - at2 M t g * at2 M u d) - at2 M s d * (at2 M t c * at2 M u g - at2 M t g * at2 M u c) + at2 M s g * (at2 M t c * at2 M u d - at2 M t d * at2 M u c))
    - at2 M r g * (at2 M s c * (at2 M t d * at2 M u e - at2 M t e * at2 M u d) - at2 M s d * (at2 M t c * at2 M u e - at2 M t e * at2 M u c) + at2 M s e * (at2 M t c * at2 M u d - at2 M t d * at2 M u c)) := by
  simp only [detZ, dsum, List.eraseIdx_cons_zero, List.eraseIdx_cons_succ, List.eraseIdx_nil]
  grind

theorem detZ_permP {M : List (List Int)} {l l' : List Int} (h : l.Perm l') : ∀ pre : List Int, (pre ++ l).length ≤ 4 → detZ M (pre ++ l) (pre ++ l) = detZ M (pre ++ l') (pre ++ l') := by
  induction h with
  | nil => intro pre _; rfl
  | cons x _ ih =>
    intro pre hl
    have := ih (pre ++ [x]) (by simpa using hl)
    simpa using this
  | swap x y l =>
    intro pre hl
    simp only [List.length_append, List.length_cons] at hl
    match pre, l, hl with
    | [], [], _ => simp only [List.nil_append, detZ2] <;> grind
    | [], [a], _ => simp only [List.nil_append, detZ3] <;> grind
    | [], [a, b], _ => simp only [List.nil_append, detZ4] <;> grind
    | [p], [], _ => simp only [List.cons_append, List.nil_append, detZ3] <;> grind
    | [p], [a], _ => simp only [List.cons_append, List.nil_append, detZ4] <;> grind
    | [p, q], [], _ => simp only [List.cons_append, List.nil_append, detZ4] <;> grind
    | [], _ :: _ :: _ :: _, hl => simp at hl <;> omega
    | [_], _ :: _ :: _, hl => simp at hl <;> omega
    | [_, _], _ :: _, hl => simp at hl <;> omega
    | _ :: _ :: _ :: _, _, hl => simp at hl <;> omega
  | trans h1 _ ih1 ih2 =>
    intro pre hl
    rw [ih1 pre hl, ih2 pre (by rw [List.length_append, ← h1.length_eq, ← List.length_append]; exact hl)]

theorem detZ_perm {M : List (List Int)} {l l' : List Int} (h : l.Perm l') (hl : l.length ≤ 4) : detZ M l l = detZ M l' l' := detZ_permP h [] hl

/-- A Laplacian on some nodes. -/
structure LapZ (M : List (List Int)) (V : List Int) : Prop where
  sym : ∀ x ∈ V, ∀ y ∈ V, at2 M x y = at2 M y x
  off : ∀ x ∈ V, ∀ y ∈ V, x ≠ y → at2 M x y ≤ 0
  sum : ∀ x ∈ V, (V.map (at2 M x)).sum = 0
  nd : V.Nodup

theorem perm_sum {l l' : List Int} (h : l.Perm l') : l.sum = l'.sum := by
  induction h with
  | nil => rfl
  | cons x _ ih => simp only [List.sum_cons, ih]
  | swap x y l => simp only [List.sum_cons]; omega
  | trans _ _ h1 h2 => rw [h1, h2]

-- signs
theorem mul_nn {a b : Int} (ha : 0 ≤ a) (hb : 0 ≤ b) : 0 ≤ a * b := Int.mul_nonneg ha hb

theorem nn2 {s t w : Int} (hw : 0 ≤ w) (h1 : w ≤ s) (h2 : w ≤ t) : 0 ≤ s * t - w * w := by
  have a : 0 ≤ (s - w) * t := mul_nn (by omega) (by omega)
  have b : 0 ≤ w * (t - w) := mul_nn (by omega) (by omega)
  have e : s * t - w * w = (s - w) * t + w * (t - w) := by grind
  omega

theorem nn3 {s t u p q r : Int} (hp : 0 ≤ p) (hq : 0 ≤ q) (hr : 0 ≤ r) (h1 : p + q ≤ s) (h2 : p + r ≤ t) (h3 : q + r ≤ u) :
    0 ≤ s * (t * u - r * r) - p * (p * u + r * q) - q * (p * r + t * q) := by
  have hs : 0 ≤ s := by omega
  by_cases h0 : s = 0
  · have e1 : p = 0 := by omega
    have e2 : q = 0 := by omega
    subst h0; subst e1; subst e2; simp
  · have k1 : 0 ≤ s * t - p * p - (s * r + p * q) := by
      have a : 0 ≤ s * (t - r - p) := mul_nn hs (by omega)
      have b : 0 ≤ p * (s - p - q) := mul_nn hp (by omega)
      have e : s * t - p * p - (s * r + p * q) = s * (t - r - p) + p * (s - p - q) := by grind
      omega
    have k2 : 0 ≤ s * u - q * q - (s * r + p * q) := by
      have a : 0 ≤ s * (u - r - q) := mul_nn hs (by omega)
      have b : 0 ≤ q * (s - p - q) := mul_nn hq (by omega)
      have e : s * u - q * q - (s * r + p * q) = s * (u - r - q) + q * (s - p - q) := by grind
      omega
    have k3 : 0 ≤ s * r + p * q := by have := mul_nn hs hr; have := mul_nn hp hq; omega
    have key := nn2 k3 (s := s * t - p * p) (t := s * u - q * q) (by omega) (by omega)
    have e : (s * t - p * p) * (s * u - q * q) - (s * r + p * q) * (s * r + p * q) = s * (s * (t * u - r * r) - p * (p * u + r * q) - q * (p * r + t * q)) := by grind
    rw [e] at key
    exact Int.nonneg_of_mul_nonneg_right key (by omega)

end Go.Sx.R
namespace Go.Sx.R
open Go Go.Sx

def keyB (A B : Int) (e : W3) : Bool := decide (e.1 = A) && decide (e.2.1 = B)
theorem keyB_iff {A B : Int} {e : W3} : keyB A B e = true ↔ e.1 = A ∧ e.2.1 = B := by simp [keyB]

theorem lex_iff {x y : W3} : lex x y = true ↔ x.1 < y.1 ∨ (x.1 = y.1 ∧ x.2.1 < y.2.1) := by
  simp only [lex, Bool.or_eq_true, Bool.and_eq_true, decide_eq_true_eq]

def ins (x : W3) : List W3 → List W3
  | [] => [x]
  | e :: l => if lex x e = true then x :: e :: l else e :: ins x l

theorem mem_ins (x y : W3) : ∀ l, y ∈ ins x l ↔ y = x ∨ y ∈ l
  | [] => by simp [ins]
  | e :: l => by
    rw [ins]
    split
    · simp
    · simp only [List.mem_cons, mem_ins x y l]
      constructor
      · rintro (h | h | h) <;> simp [h]
      · rintro (h | h | h) <;> simp [h]

theorem srt_ins (x : W3) : ∀ l, Srt l → (∀ e ∈ l, ¬ (e.1 = x.1 ∧ e.2.1 = x.2.1)) → Srt (ins x l)
  | [], _, _ => by simp [ins]
  | e :: l, h, hx => by
    have h1 := List.pairwise_cons.1 h
    rw [ins]
    split
    · rename_i hl
      refine List.pairwise_cons.2 ⟨fun y hy => ?_, h⟩
      rcases List.mem_cons.1 hy with rfl | hy
      · exact hl
      · exact lex_trans hl (h1.1 y hy)
    · rename_i hl
      have hex := hx e (by simp)
      refine List.pairwise_cons.2 ⟨fun y hy => ?_, srt_ins x l h1.2 fun y hy => hx y (by simp [hy])⟩
      rcases (mem_ins x y l).1 hy with rfl | hy
      · rw [lex_iff] at hl ⊢; omega
      · exact h1.1 y hy

end Go.Sx.R
namespace Go.Sx.R
open Go Go.Sx

/-- The nodes that are not in a list. -/
def woG (l : List Int) (q : List Int) (i : Nat) (_ : Nat) : List Int := if (i : Int) ∈ l then q else q ++ [(i : Int)]
def wo (m : Nat) (l : List Int) : List Int := foldI (woG l) (List.range m) 0 []

theorem foldI_ind {β σ : Type} (p : Nat → σ → Prop) (g : σ → Nat → β → σ) (hg : ∀ s i x, p i s → p (i + 1) (g s i x)) : ∀ (l : List β) (i : Nat) (s : σ), p i s → p (i + l.length) (foldI g l i s)
  | [], i, s, h => by simpa [foldI] using h
  | x :: l, i, s, h => by
    have := foldI_ind p g hg l (i + 1) (g s i x) (hg s i x h)
    have e : i + (x :: l).length = i + 1 + l.length := by simp; omega
    rw [e]; exact this

theorem wo_facts' (m : Nat) (l : List Int) : (wo m l).length ≤ m ∧ (∀ c ∈ wo m l, 0 ≤ c ∧ c < m ∧ c ∉ l) ∧ (wo m l).Nodup := by
  have := foldI_ind (β := Nat) (fun i (q : List Int) => q.length ≤ i ∧ (∀ c ∈ q, 0 ≤ c ∧ c < i ∧ c ∉ l) ∧ q.Nodup) (woG l) (fun s i x ⟨h1, h2, h3⟩ => by
    simp only [woG]
    split
    · exact ⟨by omega, fun c hc => by have := h2 c hc; exact ⟨this.1, by omega, this.2.2⟩, h3⟩
    · rename_i hni
      refine ⟨by simp; omega, fun c hc => ?_, ?_⟩
      · rcases List.mem_append.1 hc with hc | hc
        · have := h2 c hc; exact ⟨this.1, by omega, this.2.2⟩
        · simp at hc; subst hc; exact ⟨by omega, by omega, hni⟩
      · refine List.nodup_append.2 ⟨h3, by simp, fun a ha b hb => ?_⟩
        simp at hb
        have := h2 a ha
        omega) (List.range m) 0 [] ⟨by simp, by simp, by simp⟩
  simpa [wo] using this

/-- A network that is in order, with its Laplacian. -/
structure Lk (n : TNet) (m : Nat) (L : List (List Int)) : Prop where
  hn : Sm.sm B1 n
  ok : netok n = true
  hm : n.1 = m
  m1 : 1 ≤ m
  m5 : m ≤ 5
  sc : 1 ≤ n.2.2.1 ∧ n.2.2.1 ≤ 1000
  lp : e_impl_LaplacianOf (n, ()) = some L
  ls : e_spec_LaplacianOf (n, ()) = some L
  tab : IsTab L m (lapF n.2.2.2)
  srt : Srt n.2.2.2
  inw : InW m n.2.2.2
  hw : ∀ e ∈ n.2.2.2, 1 ≤ e.2.2 ∧ e.2.2 ≤ 200

section
variable {n : TNet} {m : Nat} {L : List (List Int)}

end

end Go.Sx.R
namespace Go.Sx.R
open Go Go.Sx

def insG (x : W3) (st : List W3 × Bool) (_ : Nat) (e : W3) : List W3 × Bool := if st.2 = false ∧ lex x e = true then (st.1 ++ [x] ++ [e], true) else (st.1 ++ [e], st.2)
theorem foldI_ins1 (x : W3) : ∀ (l : List W3) (i : Nat) (out : List W3), foldI (insG x) l i (out, true) = (out ++ l, true)
  | [], _, out => by simp [foldI]
  | e :: l, i, out => by simp [foldI, insG, foldI_ins1 x l (i + 1)]
theorem foldI_ins0 (x : W3) : ∀ (l : List W3) (i : Nat) (out : List W3), (if (foldI (insG x) l i (out, false)).2 = true then (foldI (insG x) l i (out, false)).1 else (foldI (insG x) l i (out, false)).1 ++ [x]) = out ++ ins x l
  | [], _, out => by simp [foldI, ins]
  | e :: l, i, out => by
    simp only [foldI, insG, ins]
    by_cases h : lex x e = true
    · simp [h, foldI_ins1]
    · simp only [h, Bool.false_eq_true, and_false, if_false]
      have := foldI_ins0 x l (i + 1) (out ++ [e])
      rw [this]; simp

theorem foldI_inslen (x : W3) (l : List W3) : (foldI (insG x) l 0 (([] : List W3), false)).1.length ≤ l.length + 1 := by
  have := foldI_ind (fun i (st : List W3 × Bool) => st.1.length ≤ i + (if st.2 = true then 1 else 0)) (insG x) (fun s i e h => by
    simp only [insG]
    split
    · rename_i hc
      have h2 := hc.1
      rw [h2] at h; simp at h ⊢; omega
    · simp; omega) l 0 ([], false) (by simp)
  simp only [Nat.zero_add] at this
  split at this <;> omega

end Go.Sx.R
namespace Go.Sx.R
open Go Go.Sx

abbrev CurV := Option (Value × Int × Int)

/-- A cursor in order. -/
def CurGood (A : Option (Nat × Obj)) (y : CurV) : Prop := ∃ v i h, y = some (v, i, h) ∧ CodeOk A v ∧ 0 ≤ i ∧ i ≤ 9223372036854775807

theorem and255 (x : Int) : 0 ≤ wr (((BitVec.toNat ((BitVec.ofInt (@Go.IntKind.bits @Go.IntKind.i64) x) &&& (BitVec.ofInt (@Go.IntKind.bits @Go.IntKind.i64) (255 : Int)))) : Nat) : Int) ∧
    wr (((BitVec.toNat ((BitVec.ofInt (@Go.IntKind.bits @Go.IntKind.i64) x) &&& (BitVec.ofInt (@Go.IntKind.bits @Go.IntKind.i64) (255 : Int)))) : Nat) : Int) ≤ 255 := by
  have h : (BitVec.toNat ((BitVec.ofInt (@Go.IntKind.bits @Go.IntKind.i64) x) &&& (BitVec.ofInt (@Go.IntKind.bits @Go.IntKind.i64) (255 : Int)))) ≤ 255 := by
    rw [BitVec.toNat_and]
    have e : (BitVec.ofInt (@Go.IntKind.bits @Go.IntKind.i64) (255 : Int)).toNat = 255 := by decide
    rw [e]
    exact Nat.and_le_right
  rw [wr_id (by omega) (by omega)]
  omega

theorem byte_ok {A : Option (Nat × Obj)} {y : CurV} (h : CurGood A y) : ∃ y' x, e_spec_l01Byte A y () = some (y', x) ∧ CurGood A y' ∧ 0 ≤ x ∧ x ≤ 255 := by
  obtain ⟨v, i, k, rfl, hc, h0, h1⟩ := h
  obtain ⟨p, n, c, rfl, hnc, hn, hrd⟩ := id hc
  simp only [e_spec_l01Byte, Option.bind_some, r_spec_l01Byte, rawLen]
  by_cases hi : i < (n : Int)
  · obtain ⟨x, hx, hx0, hx1⟩ := hrd i.toNat (by omega)
    have e : ((i.toNat : Nat) : Int) = i := by omega
    rw [e] at hx
    simp only [hi, decide_true, cond_true, hx, Option.bind_some]
    have hw : wr (i + 1) = i + 1 := wr_id (by omega) (by omega)
    exact ⟨_, _, rfl, ⟨_, _, _, rfl, hc, by omega, by omega⟩, (and255 _).1, (and255 _).2⟩
  · simp only [hi, decide_false, cond_false]
    exact ⟨_, _, rfl, ⟨_, _, _, rfl, hc, h0, h1⟩, (and255 _).1, (and255 _).2⟩

theorem below_ok {A : Option (Nat × Obj)} {y : CurV} (h : CurGood A y) {n : Int} (h1 : 1 ≤ n) (h2 : n ≤ 256) : ∃ y' x, e_spec_l01Below A y (n, ()) = some (y', x) ∧ CurGood A y' ∧ 0 ≤ x ∧ x < n := by
  obtain ⟨y', x, hb, hg, hx0, hx1⟩ := byte_ok h
  have d1 : decide (n ≤ 0) = false := by rw [decide_eq_false_iff_not]; omega
  have d2 : decide (n ≤ 256) = true := by rw [decide_eq_true_eq]; omega
  have d3 : decide (n = 0) = false := by rw [decide_eq_false_iff_not]; omega
  simp only [e_spec_l01Below, r_spec_l01Below, d1, d2, d3, cond_true, cond_false, hb, Option.bind_some]
  refine ⟨_, _, rfl, hg, ?_, ?_⟩
  · rw [Int.tmod_eq_emod_of_nonneg hx0]; exact Int.emod_nonneg _ (by omega)
  · rw [Int.tmod_eq_emod_of_nonneg hx0]; exact Int.emod_lt_of_pos _ (by omega)

theorem once_ok {A : Option (Nat × Obj)} {y : CurV} (h : CurGood A y) {n : Int} (h1 : 1 ≤ n) (h2 : n ≤ 256) : ∃ y' b, e_spec_l01Once A y (n, ()) = some (y', b) ∧ CurGood A y' := by
  obtain ⟨y', x, hb, hg, _⟩ := below_ok h h1 h2
  simp only [e_spec_l01Once, r_spec_l01Once, hb, Option.bind_some]
  exact ⟨_, _, rfl, hg⟩

theorem new_ok {A : Option (Nat × Obj)} {v : Value} (hc : CodeOk A v) : ∃ y, e_spec_l01New A (v, ()) = some y ∧ CurGood A y := by
  obtain ⟨p, n, c, rfl, hnc, hn, hrd⟩ := id hc
  simp only [e_spec_l01New, r_spec_l01New, rawLen, Option.bind_some]
  refine iter_while (Q := fun (r : Option CurV) => ∃ y, r = some y ∧ CurGood A y) (p := fun s => s.1 = Value.slice p n c ∧ 0 ≤ s.2.2.1 ∧ s.2.2.1 ≤ 4000) (mu := fun s => (4001 - s.2.2.1).toNat) ?_ N0 _ ⟨rfl, by simp, by simp⟩ (by have := N0_big; show (4001 - (0 : Int)).toNat < N0; omega)
  rintro ⟨v, h, i, u⟩ kc ⟨h1, h2, h3⟩ hk
  simp only at h1 h2 h3
  subst h1
  have fin : ∃ y, (some (some (Value.slice p n c, (0 : Int), h)) : Option CurV) = some y ∧ CurGood A y := ⟨_, rfl, _, _, _, rfl, hc, by omega, by omega⟩
  simp only [r_spec_l01New_L0, rawLen, Option.bind_some]
  by_cases hi : i < (n : Int)
  · simp only [hi, decide_true, cond_true]
    by_cases hi2 : i < 4000
    · obtain ⟨x, hx, _⟩ := hrd i.toNat (by omega)
      have e : ((i.toNat : Nat) : Int) = i := by omega
      rw [e] at hx
      have hw : wr (i + 1) = i + 1 := wr_id (by omega) (by omega)
      simp only [hi2, decide_true, cond_true, hx, Option.bind_some, hw]
      exact hk _ ⟨rfl, by show (0 : Int) ≤ i + 1; omega, by show i + 1 ≤ 4000; omega⟩ (by show (4001 - (i + 1)).toNat < (4001 - i).toNat; omega)
    · simp only [hi2, decide_false, cond_false]; exact fin
  · simp only [hi, decide_false, cond_false]; exact fin

-- wires put in order, the old one dropped
def setL (l : List W3) (A B w : Int) : List W3 := ins (A, B, w) (l.filter fun e => !keyB A B e)
def dropG (A B : Int) (st : List W3) (_ : Nat) (e : W3) : List W3 := if keyB A B e = true then st else st ++ [e]
theorem foldI_drop (A B : Int) : ∀ (l : List W3) (i : Nat) (st : List W3), foldI (dropG A B) l i st = st ++ l.filter fun e => !keyB A B e
  | [], _, st => by simp [foldI]
  | x :: l, i, st => by
    simp only [foldI, foldI_drop A B l (i + 1), dropG, List.filter_cons]
    by_cases h : keyB A B x = true
    · simp [h]
    · simp [h]

def loI (a b : Int) : Int := if b < a then b else a
def hiI (a b : Int) : Int := if b > a then b else a
theorem s_PutR (l : List W3) (a b w : Int) (hlen : l.length ≤ 1000) : e_spec_l03Put (l, a, b, w, false, ()) = some (setL l (loI a b) (hiI a b) w) := by
  simp only [e_spec_l03Put, r_spec_l03Put]
  have e1 : (@ite Int (b < a) (Int.decLt b a) b a) = loI a b := rfl
  have e2 : (@ite Int (b > a) (Int.decLt a b) b a) = hiI a b := rfl
  rw [e1, e2]
  generalize loI a b = A
  generalize hiI a b = B
  have a := iter_fold (R := List W3) (body := r_spec_l03Put_L0 N0) l (fun (st : List W3) i => (false, st, (A, B, w), false, l, (l.length : Int), i, ())) (fun i st => st.length ≤ i) (dropG A B)
    (fun st i x kc ke p3 hx hi => by
      have bl : ∀ v : W3, Nat.ble (st.length + List.length (v :: ([] : List W3))) 17179869184 = true := fun v => ble_true (by simp; omega)
      refine ⟨?_, ?_⟩
      · simp only [r_spec_l03Put_L0, lt_len, hi, decide_true, cond_true, cond_false, getI_nat, hx, Option.bind_some, bl, wr_succ hi (show l.length ≤ 9223372036854775807 by omega), dropG, keyB]
        by_cases h1 : x.1 = A
        · by_cases h2 : x.2.1 = B
          · simp [h1, h2]
          · simp [h1, h2]
        · simp [h1]
      · simp only [dropG]
        split
        · omega
        · simp; omega)
    (fun st kc ke _ => by simp only [r_spec_l03Put_L0, not_lt_self, cond_false]) (N := N0) (by have := N0_big; omega) [] (by simp)
  rw [(a _).1, foldI_drop]
  simp only [List.nil_append]
  have hlf : (l.filter fun e => !keyB A B e).length ≤ 1000 := Nat.le_trans (List.length_filter_le _ _) hlen
  generalize hr : (l.filter fun e => !keyB A B e) = r at hlf
  generalize hX : ((A, B, w) : W3) = X
  have b := iter_fold (R := List W3) (body := r_spec_l03Put_L2 N0) r (fun (st : List W3 × Bool) i => (st.1, X, st.2, r, (r.length : Int), i, ())) (fun i st => st.1.length ≤ i + 1 ∧ (st.2 = false → st.1.length ≤ i)) (insG X)
    (fun st i x kc ke ⟨p1, p2⟩ hx hi => by
      have bl : ∀ v : W3, Nat.ble (st.1.length + List.length (v :: ([] : List W3))) 17179869184 = true := fun v => ble_true (by simp; omega)
      have bl2 : ∀ u v : W3, Nat.ble ((st.1 ++ [u]).length + List.length (v :: ([] : List W3))) 17179869184 = true := fun u v => ble_true (by simp; omega)
      refine ⟨?_, ?_⟩
      · simp only [r_spec_l03Put_L2, lt_len, hi, decide_true, cond_true, getI_nat, hx, Option.bind_some, bl, bl2, wr_succ hi (show r.length ≤ 9223372036854775807 by omega), insG]
        cases h0 : st.2 with
        | true => simp
        | false =>
          simp only [Bool.not_false, cond_true, true_and]
          by_cases h1 : X.1 < x.1
          · have hx1 : lex X x = true := by rw [lex_iff]; omega
            have d : decide (x.1 > X.1) = true := by rw [decide_eq_true_eq]; omega
            simp only [hx1, d, cond_true, if_true]
          · have d : decide (x.1 > X.1) = false := by rw [decide_eq_false_iff_not]; omega
            simp only [d, cond_false]
            by_cases h2 : x.1 = X.1
            · simp only [h2, decide_true, cond_true]
              by_cases h3 : x.2.1 > X.2.1
              · have hx1 : lex X x = true := by rw [lex_iff]; omega
                simp only [h3, hx1, decide_true, cond_true, if_true]
              · have hx1 : lex X x = false := by
                  have : ¬ lex X x = true := by rw [lex_iff]; omega
                  simpa using this
                simp only [h3, hx1, decide_false, cond_false, Bool.false_eq_true, if_false]
            · have hx1 : lex X x = false := by
                have : ¬ lex X x = true := by rw [lex_iff]; omega
                simpa using this
              simp only [h2, hx1, decide_false, cond_false, Bool.false_eq_true, if_false]
      · simp only [insG]
        split
        · rename_i hc
          have := p2 hc.1
          exact ⟨by simp; omega, by simp⟩
        · exact ⟨by simp; omega, fun hc => by have := p2 hc; simp; omega⟩)
    (fun st kc ke _ => by simp only [r_spec_l03Put_L2, not_lt_self, cond_false]) (N := N0) (by have := N0_big; omega) ([], false) ⟨by simp, fun _ => by simp⟩
  rw [(b _).1]
  have hpl : setL l A B w = ins X r := by rw [setL, hr, hX]
  have key := foldI_ins0 X r 0 []
  have bnd := foldI_inslen X r
  rw [List.nil_append] at key
  rw [hpl, ← key]
  have bl : Nat.ble ((foldI (insG X) r 0 (([] : List W3), false)).1.length + List.length (X :: ([] : List W3))) 17179869184 = true := ble_true (by simp; omega)
  cases h0 : (foldI (insG X) r 0 (([] : List W3), false)).2 with
  | true => simp only [h0, Bool.not_true, cond_false, if_true]
  | false => simp only [h0, Bool.not_false, cond_true, bl, Bool.false_eq_true, if_false]

theorem ins_len (x : W3) : ∀ l : List W3, (ins x l).length = l.length + 1
  | [] => rfl
  | e :: l => by
    rw [ins]; split
    · rfl
    · simp [ins_len x l]

/-- Wires in order, of nodes below m, of weights up to K. -/
structure Wok (m : Nat) (K : Int) (l : List W3) : Prop where
  srt : Srt l
  inw : InW m l
  w : ∀ e ∈ l, 1 ≤ e.2.2 ∧ e.2.2 ≤ K

theorem Wok.nil {m : Nat} {K : Int} : Wok m K [] := ⟨List.Pairwise.nil, fun e h => by simp at h, fun e h => by simp at h⟩

theorem mem_setL {l : List W3} {A B w : Int} {e : W3} : e ∈ setL l A B w ↔ e = (A, B, w) ∨ (e ∈ l ∧ ¬ (e.1 = A ∧ e.2.1 = B)) := by
  rw [setL, mem_ins, List.mem_filter]
  have : (!keyB A B e) = true ↔ ¬ (e.1 = A ∧ e.2.1 = B) := by rw [← keyB_iff]; simp
  rw [this]

theorem Wok.set {m : Nat} {K : Int} {l : List W3} (h : Wok m K l) {A B w : Int} (h0 : 0 ≤ A) (h1 : A < B) (h2 : B < m) (hw : 1 ≤ w ∧ w ≤ K) : Wok m K (setL l A B w) := by
  refine ⟨?_, fun e he => ?_, fun e he => ?_⟩
  · rw [setL]
    refine srt_ins _ _ (List.Pairwise.filter _ h.srt) fun e he => ?_
    have := (List.mem_filter.1 he).2
    rw [← keyB_iff]; simpa using this
  · rcases mem_setL.1 he with rfl | ⟨he, _⟩
    · exact ⟨h0, h1, h2⟩
    · exact h.inw e he
  · rcases mem_setL.1 he with rfl | ⟨he, _⟩
    · exact hw
    · exact h.w e he

theorem setL_len (l : List W3) (A B w : Int) : (setL l A B w).length ≤ l.length + 1 := by
  rw [setL, ins_len]
  have := List.length_filter_le (fun e => !keyB A B e) l
  omega

end Go.Sx.R
namespace Go.Sx.R
open Go Go.Sx

/-- A network in order, by its parts. -/
theorem netok_of {n : TNet} {m : Nat} (hm : n.1 = m) (h1 : 1 ≤ m) (h5 : m ≤ 5) (he : 1 ≤ n.2.1) (hem : n.2.1 ≤ n.1) (hs : 1 ≤ n.2.2.1) (hs2 : n.2.2.1 ≤ 1000) (hw : Wok m 200 n.2.2.2) (hc : ∀ v : Int, 0 ≤ v → v < n.1 → Rc n.2.2.2 v) : netok n = true := by
  have hh : hdrOk n = true := by
    simp only [hdrOk, Bool.and_eq_true, decide_eq_true_eq]
    omega
  have hb : wiresBad n = false := by
    simp only [wiresBad, List.any_eq_false]
    rintro ⟨x, i⟩ hp
    have hx : n.2.2.2[i]? = some x := by simpa using List.mem_zipIdx_iff_getElem?.1 hp
    have hxm := List.mem_of_getElem? hx
    have a := hw.inw x hxm
    have b := hw.w x hxm
    have d1 : decide (0 ≤ x.1) = true := by rw [decide_eq_true_eq]; omega
    have d2 : decide (x.1 < x.2.1) = true := by rw [decide_eq_true_eq]; omega
    have d3 : decide (x.2.1 < n.1) = true := by rw [decide_eq_true_eq]; omega
    have d4 : decide (1 ≤ x.2.2) = true := by rw [decide_eq_true_eq]; omega
    have d5 : decide (x.2.2 ≤ 200) = true := by rw [decide_eq_true_eq]; omega
    simp only [badW, d1, d2, d3, d4, d5, Bool.and_self, Bool.not_true, Bool.false_or]
    cases i with
    | zero => simp
    | succ j =>
      simp only
      cases hj : n.2.2.2[j]? with
      | none => simp
      | some y =>
        have hlt : j + 1 < n.2.2.2.length := (List.getElem?_eq_some_iff.1 hx).1
        have := List.pairwise_iff_getElem.1 hw.srt j (j + 1) (by omega) hlt (by omega)
        have e1 : n.2.2.2[j] = y := by rw [List.getElem?_eq_getElem (by omega)] at hj; simpa using hj
        have e2 : n.2.2.2[j + 1] = x := by rw [List.getElem?_eq_getElem hlt] at hx; simpa using hx
        rw [e1, e2] at this
        simp [this]
  have hcn : conn n = true := by
    unfold conn
    simp only [decide_eq_true_eq]; exact hc
  simp only [netok, hh, hb, hcn, Bool.not_false, Bool.and_self]

theorem Wok.up {m : Nat} {K K' : Int} {l : List W3} (h : Wok m K l) (hk : K ≤ K') : Wok m K' l := ⟨h.srt, h.inw, fun e he => by have := h.w e he; omega⟩

theorem Wok.sm {m : Nat} (hm : m ≤ 5) {K : Int} (hK : K ≤ 1000000) {l : List W3} (h : Wok m K l) (hl : l.length ≤ 1000) : Sm.sm B0 l :=
  ⟨by simp only [B0]; omega, fun e he => by
    have a := h.inw e he
    have b := h.w e he
    exact ⟨(⟨by omega, by omega⟩ : Sm.sm B0 e.1), (⟨by omega, by omega⟩ : Sm.sm B0 e.2.1), (⟨by omega, by omega⟩ : Sm.sm B0 e.2.2)⟩⟩

end Go.Sx.R
namespace Go.Sx.R
open Go Go.Sx

theorem nn4 {s t u v p q r a b c : Int} (hp : 0 ≤ p) (hq : 0 ≤ q) (hr : 0 ≤ r) (ha : 0 ≤ a) (hb : 0 ≤ b) (hc : 0 ≤ c) (h1 : p + q + r ≤ s) (h2 : p + a + b ≤ t) (h3 : q + a + c ≤ u) (h4 : r + b + c ≤ v) :
    0 ≤ s * (t * (u * v - c * c) - a * (a * v + c * b) - b * (a * c + u * b)) - p * (p * (u * v - c * c) + a * (q * v + c * r) + b * (q * c + u * r))
      - q * (p * (a * v + c * b) + t * (q * v + c * r) - b * (q * b - a * r)) - r * (p * (a * c + u * b) + t * (q * c + u * r) + a * (q * b - a * r)) := by
  have hs : 0 ≤ s := by omega
  by_cases h0 : s = 0
  · have e1 : p = 0 := by omega
    have e2 : q = 0 := by omega
    have e3 : r = 0 := by omega
    subst h0; subst e1; subst e2; subst e3; simp
  · have A : 0 ≤ s * a + p * q := by have := mul_nn hs ha; have := mul_nn hp hq; omega
    have B : 0 ≤ s * b + p * r := by have := mul_nn hs hb; have := mul_nn hp hr; omega
    have C : 0 ≤ s * c + q * r := by have := mul_nn hs hc; have := mul_nn hq hr; omega
    have k1 : (s * a + p * q) + (s * b + p * r) ≤ s * t - p * p := by
      have x : 0 ≤ s * (t - p - a - b) := mul_nn hs (by omega)
      have y : 0 ≤ p * (s - p - q - r) := mul_nn hp (by omega)
      have e : s * t - p * p - ((s * a + p * q) + (s * b + p * r)) = s * (t - p - a - b) + p * (s - p - q - r) := by grind
      omega
    have k2 : (s * a + p * q) + (s * c + q * r) ≤ s * u - q * q := by
      have x : 0 ≤ s * (u - q - a - c) := mul_nn hs (by omega)
      have y : 0 ≤ q * (s - p - q - r) := mul_nn hq (by omega)
      have e : s * u - q * q - ((s * a + p * q) + (s * c + q * r)) = s * (u - q - a - c) + q * (s - p - q - r) := by grind
      omega
    have k3 : (s * b + p * r) + (s * c + q * r) ≤ s * v - r * r := by
      have x : 0 ≤ s * (v - r - b - c) := mul_nn hs (by omega)
      have y : 0 ≤ r * (s - p - q - r) := mul_nn hr (by omega)
      have e : s * v - r * r - ((s * b + p * r) + (s * c + q * r)) = s * (v - r - b - c) + r * (s - p - q - r) := by grind
      omega
    have key := nn3 A B C k1 k2 k3
    have e : (s * t - p * p) * ((s * u - q * q) * (s * v - r * r) - (s * c + q * r) * (s * c + q * r)) - (s * a + p * q) * ((s * a + p * q) * (s * v - r * r) + (s * c + q * r) * (s * b + p * r)) - (s * b + p * r) * ((s * a + p * q) * (s * c + q * r) + (s * u - q * q) * (s * b + p * r))
      = s * s * (s * (t * (u * v - c * c) - a * (a * v + c * b) - b * (a * c + u * b)) - p * (p * (u * v - c * c) + a * (q * v + c * r) + b * (q * c + u * r))
      - q * (p * (a * v + c * b) + t * (q * v + c * r) - b * (q * b - a * r)) - r * (p * (a * c + u * b) + t * (q * c + u * r) + a * (q * b - a * r))) := by grind
    rw [e] at key
    have hs1 : 0 < s := by omega
    exact Int.nonneg_of_mul_nonneg_right key (Int.mul_pos hs1 hs1)

theorem sum_sub {g : Int → Int} : ∀ {l V : List Int}, l.Nodup → V.Nodup → (∀ i ∈ l, i ∈ V) → (∀ i ∈ V, i ∉ l → g i ≤ 0) → (V.map g).sum ≤ (l.map g).sum
  | [], V, _, _, _, h => by
    have : ∀ V : List Int, (∀ i ∈ V, g i ≤ 0) → (V.map g).sum ≤ 0 := by
      intro V
      induction V with
      | nil => intro _; simp
      | cons x V ih => intro h; simp only [List.map_cons, List.sum_cons]; have := h x (by simp); have := ih fun i hi => h i (by simp [hi]); omega
    simpa using this V fun i hi => h i hi (by simp)
  | x :: l, V, hl, hV, hs, h => by
    have hx := hs x (by simp)
    have hp := List.perm_cons_erase hx
    have hn := List.nodup_cons.1 hl
    have ih := sum_sub (g := g) (l := l) (V := V.erase x) hn.2 (hV.erase x) (fun i hi => (List.mem_erase_of_ne (by rintro rfl; exact hn.1 hi)).2 (hs i (by simp [hi]))) (fun i hi hil => by
      have := (hV.mem_erase_iff).1 hi
      exact h i this.2 (by simp [this.1, hil]))
    rw [perm_sum (hp.map g)]
    simp only [List.map_cons, List.sum_cons]
    omega

/-- A node's sum of weights is no less than that over some others. -/
theorem LapZ.diag {M : List (List Int)} {V : List Int} (h : LapZ M V) {x : Int} {l : List Int} (hx : x ∈ V) (hl : (x :: l).Nodup) (hs : ∀ i ∈ l, i ∈ V) : 0 ≤ at2 M x x + (l.map (at2 M x)).sum := by
  have := sum_sub (g := at2 M x) hl h.nd (fun i hi => by rcases List.mem_cons.1 hi with rfl | hi; exact hx; exact hs i hi) (fun i hi hn => h.off x hx i hi (by rintro rfl; exact hn (by simp)))
  rw [h.sum x hx] at this
  simpa using this

/-- One node more: no less than its weight to somewhere else allows. -/
theorem LapZ.step {M : List (List Int)} {V : List Int} (h : LapZ M V) {x y : Int} {r : List Int} (hl : (x :: r).Nodup) (hs : ∀ i ∈ x :: r, i ∈ V) (hy : y ∈ V) (hyl : y ∉ x :: r) (h3 : r.length ≤ 3) : -at2 M x y * detZ M r r ≤ detZ M (x :: r) (x :: r) := by
  have hx := hs x (by simp)
  have hyx : x ≠ y := by rintro rfl; exact hyl (by simp)
  have off : ∀ i ∈ x :: r, ∀ j ∈ x :: r, i ≠ j → 0 ≤ -at2 M i j := fun i hi j hj hij => by have := h.off i (hs i hi) j (hs j hj) hij; omega
  have dx : 0 ≤ at2 M x x + ((y :: r).map (at2 M x)).sum := h.diag hx (by
    have := List.nodup_cons.1 hl
    refine List.nodup_cons.2 ⟨?_, List.nodup_cons.2 ⟨fun hm => hyl (by simp [hm]), this.2⟩⟩
    intro hm
    rcases List.mem_cons.1 hm with e | hm
    · exact hyx e
    · exact this.1 hm) (fun i hi => by rcases List.mem_cons.1 hi with rfl | hi; exact hy; exact hs i (by simp [hi]))
  match r, h3 with
  | [], _ =>
    simp only [List.map_cons, List.map_nil, List.sum_cons, List.sum_nil] at dx
    rw [detZ1]
    have e1 : detZ M [] [] = 1 := by simp [detZ]
    rw [e1]
    omega
  | [a], _ =>
    have d1 := h.diag (x := a) (l := [x]) (hs a (by simp)) (by simp at hl ⊢; exact fun e => hl e.symm) (by simpa using hx)
    simp only [List.map_cons, List.map_nil, List.sum_cons, List.sum_nil] at dx d1
    have s1 := h.sym a (hs a (by simp)) x hx
    have hxa : x ≠ a := by simp at hl; exact hl
    have o1 := off x (by simp) a (by simp) hxa
    have key := nn2 (s := at2 M x x + at2 M x y) (t := at2 M a a) (w := -at2 M x a) o1 (by omega) (by omega)
    simp only [detZ1, detZ2, s1]
    have e : at2 M x x * at2 M a a - at2 M x a * at2 M x a - -at2 M x y * at2 M a a = (at2 M x x + at2 M x y) * at2 M a a - -at2 M x a * -at2 M x a := by grind
    omega
  | [a, b], _ =>
    simp only [List.nodup_cons, List.mem_cons, List.not_mem_nil, or_false, not_or, List.nodup_nil, and_true, not_false_eq_true] at hl
    obtain ⟨⟨n1, n2⟩, n3⟩ := hl
    have d1 := h.diag (x := a) (l := [x, b]) (hs a (by simp)) (by simp; exact ⟨⟨fun e => n1 e.symm, n3⟩, n2⟩) (by simp; exact ⟨hx, hs b (by simp)⟩)
    have d2 := h.diag (x := b) (l := [x, a]) (hs b (by simp)) (by simp; exact ⟨⟨fun e => n2 e.symm, fun e => n3 e.symm⟩, n1⟩) (by simp; exact ⟨hx, hs a (by simp)⟩)
    simp only [List.map_cons, List.map_nil, List.sum_cons, List.sum_nil] at dx d1 d2
    have s1 := h.sym a (hs a (by simp)) x hx
    have s2 := h.sym b (hs b (by simp)) x hx
    have s3 := h.sym b (hs b (by simp)) a (hs a (by simp))
    have key := nn3 (s := at2 M x x + at2 M x y) (t := at2 M a a) (u := at2 M b b) (p := -at2 M x a) (q := -at2 M x b) (r := -at2 M a b) (off _ (by simp) _ (by simp) n1) (off _ (by simp) _ (by simp) n2) (off _ (by simp) _ (by simp) n3) (by omega) (by omega) (by omega)
    simp only [detZ2, detZ3, s1, s2, s3]
    generalize at2 M x x = X at *
    generalize at2 M a a = A at *
    generalize at2 M b b = B at *
    generalize at2 M x y = Y at *
    generalize at2 M x a = P at *
    generalize at2 M x b = Q at *
    generalize at2 M a b = R at *
    have e : X * (A * B - R * R) - P * (P * B - R * Q) + Q * (P * R - A * Q) - -Y * (A * B - R * R) = (X + Y) * (A * B - -R * -R) - -P * (-P * B + -R * -Q) - -Q * (-P * -R + A * -Q) := by grind
    omega
  | [a, b, c], _ =>
    simp only [List.nodup_cons, List.mem_cons, List.not_mem_nil, or_false, not_or, List.nodup_nil, and_true, not_false_eq_true] at hl
    obtain ⟨⟨n1, n2, n3⟩, ⟨n4, n5⟩, n6⟩ := hl
    have d1 := h.diag (x := a) (l := [x, b, c]) (hs a (by simp)) (by simp; exact ⟨⟨fun e => n1 e.symm, n4, n5⟩, ⟨n2, n3⟩, n6⟩) (by simp; exact ⟨hx, hs b (by simp), hs c (by simp)⟩)
    have d2 := h.diag (x := b) (l := [x, a, c]) (hs b (by simp)) (by simp; exact ⟨⟨fun e => n2 e.symm, fun e => n4 e.symm, n6⟩, ⟨n1, n3⟩, n5⟩) (by simp; exact ⟨hx, hs a (by simp), hs c (by simp)⟩)
    have d3 := h.diag (x := c) (l := [x, a, b]) (hs c (by simp)) (by simp; exact ⟨⟨fun e => n3 e.symm, fun e => n5 e.symm, fun e => n6 e.symm⟩, ⟨n1, n2⟩, n4⟩) (by simp; exact ⟨hx, hs a (by simp), hs b (by simp)⟩)
    simp only [List.map_cons, List.map_nil, List.sum_cons, List.sum_nil] at dx d1 d2 d3
    have s1 := h.sym a (hs a (by simp)) x hx
    have s2 := h.sym b (hs b (by simp)) x hx
    have s3 := h.sym c (hs c (by simp)) x hx
    have s4 := h.sym b (hs b (by simp)) a (hs a (by simp))
    have s5 := h.sym c (hs c (by simp)) a (hs a (by simp))
    have s6 := h.sym c (hs c (by simp)) b (hs b (by simp))
    have key := nn4 (s := at2 M x x + at2 M x y) (t := at2 M a a) (u := at2 M b b) (v := at2 M c c) (p := -at2 M x a) (q := -at2 M x b) (r := -at2 M x c) (a := -at2 M a b) (b := -at2 M a c) (c := -at2 M b c)
      (off _ (by simp) _ (by simp) n1) (off _ (by simp) _ (by simp) n2) (off _ (by simp) _ (by simp) n3) (off _ (by simp) _ (by simp) n4) (off _ (by simp) _ (by simp) n5) (off _ (by simp) _ (by simp) n6) (by omega) (by omega) (by omega) (by omega)
    simp only [detZ3, detZ4, s1, s2, s3, s4, s5, s6]
    generalize at2 M x x = X at *
    generalize at2 M a a = A at *
    generalize at2 M b b = B at *
    generalize at2 M c c = C at *
    generalize at2 M x y = Y at *
    generalize at2 M x a = P at *
    generalize at2 M x b = Q at *
    generalize at2 M x c = R at *
    generalize at2 M a b = S at *
    generalize at2 M a c = T at *
    generalize at2 M b c = U at *
    clear d1 d2 d3 dx off
    have e : (X * (A * (B * C - U * U) - S * (S * C - U * T) + T * (S * U - B * T)) - P * (P * (B * C - U * U) - S * (Q * C - U * R) + T * (Q * U - B * R)) + Q * (P * (S * C - U * T) - A * (Q * C - U * R) + T * (Q * T - S * R)) - R * (P * (S * U - B * T) - A * (Q * U - B * R) + S * (Q * T - S * R))) - -Y * (A * (B * C - U * U) - S * (S * C - U * T) + T * (S * U - B * T))
      = (X + Y) * (A * (B * C - -U * -U) - -S * (-S * C + -U * -T) - -T * (-S * -U + B * -T)) - -P * (-P * (B * C - -U * -U) + -S * (-Q * C + -U * -R) + -T * (-Q * -U + B * -R)) - -Q * (-P * (-S * C + -U * -T) + A * (-Q * C + -U * -R) - -T * (-Q * -T - -S * -R)) - -R * (-P * (-S * -U + B * -T) + A * (-Q * -U + B * -R) + -S * (-Q * -T - -S * -R)) := by grind
    omega

/-- Hangs together: every part has a wire that leads out of it. -/
def Hang (M : List (List Int)) (V : List Int) : Prop := ∀ l : List Int, l ≠ [] → (∀ i ∈ l, i ∈ V) → (∃ y ∈ V, y ∉ l) → ∃ x ∈ l, ∃ y ∈ V, y ∉ l ∧ at2 M x y ≤ -1

/-- Principal minors of a network that hangs together. -/
theorem LapZ.pos {M : List (List Int)} {V : List Int} (h : LapZ M V) (hh : Hang M V) : ∀ (k : Nat) (l : List Int), l.length = k → k ≤ 4 → l.Nodup → (∀ i ∈ l, i ∈ V) → (∃ y ∈ V, y ∉ l) → 1 ≤ detZ M l l
  | 0, l, hk, _, _, _, _ => by
    have : l = [] := List.length_eq_zero_iff.1 hk
    subst this; simp [detZ]
  | k + 1, l, hk, h4, hn, hs, hy => by
    have hne : l ≠ [] := by rintro rfl; simp at hk
    obtain ⟨x, hx, y, hyV, hyl, hxy⟩ := hh l hne hs hy
    have hp := List.perm_cons_erase hx
    have hlen : (l.erase x).length = k := by rw [List.length_erase_of_mem hx, hk]; rfl
    have hn' : (x :: l.erase x).Nodup := hp.nodup_iff.1 hn
    have hm : ∀ i, i ∈ x :: l.erase x ↔ i ∈ l := fun i => hp.symm.mem_iff
    have ih := LapZ.pos h hh k (l.erase x) hlen (by omega) (List.nodup_cons.1 hn').2 (fun i hi => hs i (List.mem_of_mem_erase hi)) ⟨x, hs x hx, (List.nodup_cons.1 hn').1⟩
    have st := h.step (x := x) (y := y) (r := l.erase x) hn' (fun i hi => hs i ((hm i).1 hi)) hyV (fun hi => hyl ((hm y).1 hi)) (by omega)
    rw [detZ_perm hp (by omega)]
    have : 1 * 1 ≤ -at2 M x y * detZ M (l.erase x) (l.erase x) := Int.mul_le_mul (by omega) ih (by omega) (by omega)
    omega

/-- A cofactor off the diagonal has a sign. -/
theorem LapZ.cof {M : List (List Int)} {V : List Int} (h : LapZ M V) {a b : Int} {r : List Int} (hl : (a :: b :: r).Nodup) (hs : ∀ i ∈ a :: b :: r, i ∈ V) (h2 : r.length ≤ 2) : detZ M (a :: r) (b :: r) ≤ 0 := by
  have off : ∀ i ∈ a :: b :: r, ∀ j ∈ a :: b :: r, i ≠ j → 0 ≤ -at2 M i j := fun i hi j hj hij => by have := h.off i (hs i hi) j (hs j hj) hij; omega
  match r, h2 with
  | [], _ =>
    have hab : a ≠ b := by simp at hl; exact hl
    have := off a (by simp) b (by simp) hab
    simp only [detZ1]; omega
  | [d], _ =>
    simp only [List.nodup_cons, List.mem_cons, List.not_mem_nil, or_false, not_or, List.nodup_nil, and_true, not_false_eq_true] at hl
    obtain ⟨⟨n1, n2⟩, n3⟩ := hl
    have d1 := h.diag (x := d) (l := [a]) (hs d (by simp)) (by simp; exact fun e => n2 e.symm) (by simp; exact hs a (by simp))
    simp only [List.map_cons, List.map_nil, List.sum_cons, List.sum_nil] at d1
    have o1 := off a (by simp) b (by simp) n1
    have o2 := off a (by simp) d (by simp) n2
    have o3 := off d (by simp) b (by simp) fun e => n3 e.symm
    have o4 := off d (by simp) a (by simp) fun e => n2 e.symm
    have k1 := mul_nn o1 (show 0 ≤ at2 M d d by omega)
    have k2 := mul_nn o2 o3
    simp only [detZ2]
    have e : at2 M a b * at2 M d d - at2 M a d * at2 M d b = -(-at2 M a b * at2 M d d + -at2 M a d * -at2 M d b) := by grind
    omega
  | [d, f], _ =>
    simp only [List.nodup_cons, List.mem_cons, List.not_mem_nil, or_false, not_or, List.nodup_nil, and_true, not_false_eq_true] at hl
    obtain ⟨⟨n1, n2, n3⟩, ⟨n4, n5⟩, n6⟩ := hl
    have d1 := h.diag (x := d) (l := [f]) (hs d (by simp)) (by simp; exact n6) (by simp; exact hs f (by simp))
    have d2 := h.diag (x := f) (l := [d]) (hs f (by simp)) (by simp; exact fun e => n6 e.symm) (by simp; exact hs d (by simp))
    simp only [List.map_cons, List.map_nil, List.sum_cons, List.sum_nil] at d1 d2
    have s1 := h.sym f (hs f (by simp)) d (hs d (by simp))
    have o1 := off a (by simp) b (by simp) n1
    have o2 := off a (by simp) d (by simp) n2
    have o3 := off a (by simp) f (by simp) n3
    have o4 := off d (by simp) b (by simp) fun e => n4 e.symm
    have o5 := off f (by simp) b (by simp) fun e => n5 e.symm
    have o6 := off d (by simp) f (by simp) n6
    have k0 := nn2 (s := at2 M d d) (t := at2 M f f) o6 (by omega) (by omega)
    have k1 := mul_nn o1 k0
    have k2 := mul_nn o2 (show 0 ≤ -at2 M d b * at2 M f f + -at2 M d f * -at2 M f b by have := mul_nn o4 (show 0 ≤ at2 M f f by omega); have := mul_nn o6 o5; omega)
    have k3 := mul_nn o3 (show 0 ≤ -at2 M d b * -at2 M d f + at2 M d d * -at2 M f b by have := mul_nn o4 o6; have := mul_nn (show 0 ≤ at2 M d d by omega) o5; omega)
    simp only [detZ3, s1]
    generalize at2 M d d = D at *
    generalize at2 M f f = F at *
    generalize at2 M a b = P at *
    generalize at2 M a d = Q at *
    generalize at2 M a f = R at *
    generalize at2 M d b = S at *
    generalize at2 M f b = T at *
    generalize at2 M d f = U at *
    have e : P * (D * F - U * U) - Q * (S * F - U * T) + R * (S * U - D * T) = -(-P * (D * F - -U * -U) + -Q * (-S * F + -U * -T) + -R * (-S * -U + D * -T)) := by grind
    omega

end Go.Sx.R
namespace Go.Sx.R
open Go Go.Sx

theorem wbt_comm (ws : List W3) (a b : Int) : wbt ws a b = wbt ws b a := by
  by_cases h : a = b
  · rw [h]
  · have e : isW a b = isW b a := by
      funext x
      have e1 : (if b < a then b else a) = (if a < b then a else b) := by split <;> split <;> omega
      have e2 : (if b > a then b else a) = (if a > b then a else b) := by split <;> split <;> omega
      simp only [isW, e1, e2]
    simp only [wbt, e, h, if_false, Ne.symm h]

theorem netok_rc {n : TNet} (h : netok n = true) {v : Int} (h0 : 0 ≤ v) (h1 : v < n.1) : Rc n.2.2.2 v := by
  revert h
  simp only [netok, Bool.and_eq_true]
  intro h
  have := h.2
  simp only [conn, decide_eq_true_eq] at this
  exact this v h0 h1

end Go.Sx.R
namespace Go.Sx.R
open Go Go.Sx

def sg : Nat → Int
  | 0 => 1
  | n + 1 => - sg n

end Go.Sx.R
namespace Go.Sx.R
open Go Go.Sx

theorem map_sum_add {β : Type} (f g : β → Int) : ∀ (l : List β), (l.map fun c => f c + g c).sum = (l.map f).sum + (l.map g).sum
  | [] => rfl
  | x :: l => by simp only [List.map_cons, List.sum_cons, map_sum_add f g l]; omega

theorem sum_at (o w : Int) : ∀ (l : List Int), l.Nodup → ((l.map fun c => if c = o then w else 0).sum = if o ∈ l then w else 0)
  | [], _ => rfl
  | x :: l, h => by
    obtain ⟨h1, h2⟩ := List.nodup_cons.1 h
    simp only [List.map_cons, List.sum_cons, sum_at o w l h2, List.mem_cons]
    by_cases e : x = o
    · subst e; simp [h1]
    · have : ¬ o = x := fun h => e h.symm
      simp [e, this]

theorem wbt_cons (e : W3) (ws : List W3) (a c : Int) : wbt (e :: ws) a c = if a = c then 0 else if isW a c e = true then e.2.2 else wbt ws a c := by
  unfold wbt
  by_cases h : a = c
  · rw [if_pos h, if_pos h]
  · rw [if_neg h, if_neg h, if_neg h, List.find?_cons]
    cases isW a c e <;> rfl

theorem wbt_sum (a : Int) (l : List Int) (hl : l.Nodup) : ∀ (ws : List W3), Srt ws → (∀ e ∈ ws, e.1 < e.2.1) → (∀ e ∈ ws, e.1 ∈ l ∧ e.2.1 ∈ l) → (l.map fun c => wbt ws a c).sum = wAt ws a
  | [], _, _, _ => by
    have : ∀ c, wbt [] a c = 0 := fun c => by unfold wbt; split <;> rfl
    simp only [this, wAt, List.map_nil, List.sum_nil]
    induction l with
    | nil => rfl
    | cons x l ih => simpa using ih (List.nodup_cons.1 hl).2
  | e :: ws, hs, hi, hm => by
    obtain ⟨s1, s2⟩ := List.pairwise_cons.1 hs
    have ih := wbt_sum a l hl ws s2 (fun e he => hi e (List.mem_cons_of_mem _ he)) (fun e he => hm e (List.mem_cons_of_mem _ he))
    have he := hi e List.mem_cons_self
    have hme := hm e List.mem_cons_self
    have hw : wAt (e :: ws) a = touch a e + wAt ws a := by simp [wAt]
    rw [hw]
    by_cases t : e.1 = a ∨ e.2.1 = a
    · have ht : touch a e = e.2.2 := by simp [touch, t]
      -- the other end
      obtain ⟨o, ho, hol, hoa⟩ : ∃ o, (∀ c, (isW a c e = true) ↔ c = o) ∧ o ∈ l ∧ a ≠ o := by
        rcases t with t | t
        · refine ⟨e.2.1, fun c => ?_, hme.2, by omega⟩
          simp only [isW, Bool.or_eq_true, Bool.and_eq_true, decide_eq_true_eq]; omega
        · refine ⟨e.1, fun c => ?_, hme.1, by omega⟩
          simp only [isW, Bool.or_eq_true, Bool.and_eq_true, decide_eq_true_eq]; omega
      have h0 : wbt ws a o = 0 := by
        unfold wbt
        rw [if_neg hoa]
        split
        · rename_i x hx
          exfalso
          have h1 := List.find?_some hx
          have h2 := s1 x (List.mem_of_find?_eq_some hx)
          have h3 := (ho o).2 rfl
          have h4 := hi x (List.mem_cons_of_mem _ (List.mem_of_find?_eq_some hx))
          simp only [isW, Bool.or_eq_true, Bool.and_eq_true, decide_eq_true_eq] at h1 h3
          simp only [lex, Bool.or_eq_true, Bool.and_eq_true, decide_eq_true_eq] at h2
          omega
        · rfl
      have hc : ∀ c, wbt (e :: ws) a c = wbt ws a c + if c = o then e.2.2 else 0 := fun c => by
        rw [wbt_cons]
        by_cases ac : a = c
        · subst ac
          have : wbt ws a a = 0 := by unfold wbt; rw [if_pos rfl]
          rw [if_pos rfl, this, if_neg hoa]; rfl
        · rw [if_neg ac]
          by_cases co : c = o
          · rw [if_pos ((ho c).2 co), if_pos co, co, h0]; omega
          · rw [if_neg (fun h => co ((ho c).1 h)), if_neg co]; omega
      simp only [hc, map_sum_add, ih, sum_at o e.2.2 l hl, if_pos hol, ht]
      omega
    · have ht : touch a e = 0 := by simp [touch, t]
      have hc : ∀ c, wbt (e :: ws) a c = wbt ws a c := fun c => by
        rw [wbt_cons]
        by_cases ac : a = c
        · subst ac
          have : wbt ws a a = 0 := by unfold wbt; rw [if_pos rfl]
          rw [if_pos rfl, this]
        · rw [if_neg ac, if_neg]
          simp only [isW, Bool.or_eq_true, Bool.and_eq_true, decide_eq_true_eq]; omega
      simp only [hc, ih, ht]
      omega

theorem lap_zero {ws : List W3} {m : Nat} (hs : Srt ws) (hin : InW m ws) {L : List (List Int)} (h : IsTab L m (lapF ws)) {cols : List Int} (hn : cols.Nodup) (hc : ∀ c, c ∈ cols ↔ 0 ≤ c ∧ c < m) {r : Int} (hr : 0 ≤ r ∧ r < m) : (cols.map fun c => at2 L r c).sum = 0 := by
  obtain ⟨i, rfl⟩ : ∃ i : Nat, r = i := ⟨r.toNat, by omega⟩
  have e : cols.map (fun c => at2 L (i : Int) c) = cols.map fun c => (if c = (i : Int) then wAt ws (i : Int) else 0) + -(wbt ws (i : Int) c) := by
    refine List.map_congr_left fun c hcm => ?_
    have hcc := (hc c).1 hcm
    obtain ⟨j, rfl⟩ : ∃ j : Nat, c = j := ⟨c.toNat, by omega⟩
    rw [tab_at2 h (by omega) (by omega), lapF]
    by_cases ij : i = j
    · subst ij
      have : wbt ws (i : Int) (i : Int) = 0 := by unfold wbt; rw [if_pos rfl]
      rw [if_pos rfl, if_pos rfl, this]; omega
    · rw [if_neg ij, if_neg (by omega)]; omega
  have neg : ∀ (l : List Int), (l.map fun c => -(wbt ws (i : Int) c)).sum = -(l.map fun c => wbt ws (i : Int) c).sum := by
    intro l
    induction l with
    | nil => rfl
    | cons x l ih => simp only [List.map_cons, List.sum_cons, ih]; omega
  rw [e, map_sum_add, sum_at _ _ _ hn, if_pos ((hc (i : Int)).2 ⟨by omega, hr.2⟩), neg, wbt_sum (i : Int) cols hn ws hs (fun e he => (hin e he).2.1) (fun e he => ⟨(hc _).2 (by have := hin e he; omega), (hc _).2 (by have := hin e he; omega)⟩)]
  omega

end Go.Sx.R
namespace Go.Sx.R
open Go Go.Sx

theorem wo_all (m : Nat) (l : List Int) : ∀ c : Int, 0 ≤ c → c < m → c ∉ l → c ∈ wo m l := by
  have := foldI_ind (β := Nat) (fun i (q : List Int) => ∀ c : Int, 0 ≤ c → c < i → c ∉ l → c ∈ q) (woG l) (fun s i x h c h0 h1 h2 => by
    simp only [woG]
    by_cases hi : c = i
    · subst hi; rw [if_neg h2]; simp
    · have := h c h0 (by omega) h2
      split
      · exact this
      · simp [this]) (List.range m) 0 [] (by intro c h0 h1; omega)
  simpa [wo] using this

theorem mem_wo {m : Nat} {l : List Int} {c : Int} : c ∈ wo m l ↔ 0 ≤ c ∧ c < m ∧ c ∉ l :=
  ⟨fun h => (wo_facts' m l).2.1 c h, fun h => wo_all m l c h.1 h.2.1 h.2.2⟩

theorem wo_nd (m : Nat) (l : List Int) : (wo m l).Nodup := (wo_facts' m l).2.2

theorem perm_of {l l' : List Int} (h : l.Nodup) (h' : l'.Nodup) (he : ∀ c, c ∈ l ↔ c ∈ l') : l.Perm l' :=
  (List.perm_ext_iff_of_nodup h h').2 he

theorem wo_cons {m : Nat} {x : Int} {l : List Int} (h0 : 0 ≤ x) (h1 : x < m) (hx : x ∉ l) : (wo m l).Perm (x :: wo m (x :: l)) := by
  refine perm_of (wo_nd _ _) (List.nodup_cons.2 ⟨fun h => (mem_wo.1 h).2.2 (by simp), wo_nd _ _⟩) fun c => ?_
  simp only [mem_wo, List.mem_cons, not_or]
  by_cases hc : c = x
  · subst hc; simp [h0, h1, hx]
  · simp [hc]

section
variable {n : TNet} {m : Nat} {L : List (List Int)}

theorem Lk.a2 (h : Lk n m L) {i j : Int} (hi : 0 ≤ i ∧ i < m) (hj : 0 ≤ j ∧ j < m) : at2 L i j = if i = j then wAt n.2.2.2 i else -wbt n.2.2.2 i j := by
  obtain ⟨a, rfl⟩ : ∃ a : Nat, i = a := ⟨i.toNat, by omega⟩
  obtain ⟨b, rfl⟩ : ∃ b : Nat, j = b := ⟨j.toNat, by omega⟩
  rw [tab_at2 h.tab (by omega) (by omega), lapF]
  by_cases e : a = b
  · subst e; rw [if_pos rfl, if_pos rfl]
  · rw [if_neg e, if_neg (by omega)]

theorem Lk.lapZ (h : Lk n m L) : LapZ L (wo m []) where
  sym x hx y hy := by
    have hx := mem_wo.1 hx
    have hy := mem_wo.1 hy
    rw [h.a2 ⟨hx.1, hx.2.1⟩ ⟨hy.1, hy.2.1⟩, h.a2 ⟨hy.1, hy.2.1⟩ ⟨hx.1, hx.2.1⟩]
    by_cases e : x = y
    · subst e; rfl
    · rw [if_neg e, if_neg (Ne.symm e), wbt_comm]
  off x hx y hy hxy := by
    have hx := mem_wo.1 hx
    have hy := mem_wo.1 hy
    rw [h.a2 ⟨hx.1, hx.2.1⟩ ⟨hy.1, hy.2.1⟩, if_neg hxy]
    have := wbt_bd h.hw x y
    omega
  sum x hx := by
    have hx := mem_wo.1 hx
    exact lap_zero h.srt h.inw h.tab (wo_nd m []) (fun c => by simp [mem_wo]) ⟨hx.1, hx.2.1⟩
  nd := wo_nd m []

theorem Lk.wire (h : Lk n m L) {e : W3} (he : e ∈ n.2.2.2) : at2 L e.1 e.2.1 ≤ -1 ∧ at2 L e.2.1 e.1 ≤ -1 := by
  have hi := h.inw e he
  have hw := h.hw e he
  have hb : wbt n.2.2.2 e.1 e.2.1 = e.2.2 := (wbt_mem h.srt hi.2.1 (by omega)).2 he
  have hb' : wbt n.2.2.2 e.2.1 e.1 = e.2.2 := by rw [wbt_comm]; exact hb
  rw [h.a2 (by omega) (by omega), h.a2 (by omega) (by omega), if_neg (by omega), if_neg (by omega), hb, hb']
  omega

theorem rc_side {ws : List W3} {l : List Int} (h : ∀ e ∈ ws, (e.1 ∈ l ↔ e.2.1 ∈ l)) : ∀ v, Rc ws v → (v ∈ l ↔ (0 : Int) ∈ l) := by
  intro v hv
  induction hv with
  | zero => exact Iff.rfl
  | ab he _ ih => exact (h _ he).symm.trans ih
  | ba he _ ih => exact (h _ he).trans ih

theorem Lk.hang (h : Lk n m L) : Hang L (wo m []) := by
  intro l hl hs ⟨y, hy, hyl⟩
  apply Classical.byContradiction
  intro hno
  have side : ∀ e ∈ n.2.2.2, (e.1 ∈ l ↔ e.2.1 ∈ l) := by
    intro e he
    have hi := h.inw e he
    have hw := h.wire he
    constructor
    · intro h1
      apply Classical.byContradiction
      intro h2
      exact hno ⟨_, h1, _, mem_wo.2 ⟨by omega, hi.2.2, by simp⟩, h2, hw.1⟩
    · intro h1
      apply Classical.byContradiction
      intro h2
      exact hno ⟨_, h1, _, mem_wo.2 ⟨hi.1, by omega, by simp⟩, h2, hw.2⟩
  have all : ∀ v, 0 ≤ v → v < n.1 → (v ∈ l ↔ (0 : Int) ∈ l) := fun v h0 h1 => rc_side side v (netok_rc h.ok h0 h1)
  have hm := h.hm
  obtain ⟨x, hx⟩ := List.exists_mem_of_ne_nil l hl
  have hx' := mem_wo.1 (hs x hx)
  have hy' := mem_wo.1 hy
  exact hyl ((all y hy'.1 (by omega)).2 ((all x hx'.1 (by omega)).1 hx))

end

/-- A ratio in lowest terms. -/
def ratZ (a b : Int) : Int × Int := (Int.tdiv a (Nat.gcd a.natAbs b.natAbs : Nat), Int.tdiv b (Nat.gcd a.natAbs b.natAbs : Nat))

theorem ratZ_spec {a b : Int} (hb : 1 ≤ b) : ∃ g : Nat, 1 ≤ g ∧ a = (ratZ a b).1 * g ∧ b = (ratZ a b).2 * g ∧ 1 ≤ (ratZ a b).2 ∧ Nat.gcd (ratZ a b).1.natAbs (ratZ a b).2.natAbs = 1 := by
  have hg : 0 < Nat.gcd a.natAbs b.natAbs := Nat.gcd_pos_of_pos_right _ (by omega)
  have d1 : ((Nat.gcd a.natAbs b.natAbs : Nat) : Int) ∣ a := Int.ofNat_dvd_left.2 (Nat.gcd_dvd_left _ _)
  have d2 : ((Nat.gcd a.natAbs b.natAbs : Nat) : Int) ∣ b := Int.ofNat_dvd_left.2 (Nat.gcd_dvd_right _ _)
  have e1 : a = (ratZ a b).1 * (Nat.gcd a.natAbs b.natAbs : Nat) := (Int.tdiv_mul_cancel d1).symm
  have e2 : b = (ratZ a b).2 * (Nat.gcd a.natAbs b.natAbs : Nat) := (Int.tdiv_mul_cancel d2).symm
  have p2 : 1 ≤ (ratZ a b).2 := by
    apply Classical.byContradiction
    intro hn
    have : (ratZ a b).2 * ((Nat.gcd a.natAbs b.natAbs : Nat) : Int) ≤ 0 := Int.mul_nonpos_of_nonpos_of_nonneg (by omega) (by omega)
    omega
  refine ⟨_, hg, e1, e2, p2, ?_⟩
  have a1 : (ratZ a b).1.natAbs = a.natAbs / Nat.gcd a.natAbs b.natAbs := by
    show (Int.tdiv a _).natAbs = _
    rw [Int.natAbs_tdiv]; rfl
  have a2 : (ratZ a b).2.natAbs = b.natAbs / Nat.gcd a.natAbs b.natAbs := by
    show (Int.tdiv b _).natAbs = _
    rw [Int.natAbs_tdiv]; rfl
  rw [a1, a2, Nat.gcd_div (Nat.gcd_dvd_left _ _) (Nat.gcd_dvd_right _ _), Nat.div_self hg]

theorem ratZ_neg {a b : Int} (hb : 1 ≤ b) : (ratZ a b).1 < 0 ↔ a < 0 := by
  obtain ⟨g, hg, e1, e2, e3, _⟩ := ratZ_spec (a := a) hb
  constructor
  · intro h; rw [e1]; exact Int.mul_neg_of_neg_of_pos h (by omega)
  · intro h
    apply Classical.byContradiction
    intro hn
    have : 0 ≤ (ratZ a b).1 * (g : Int) := Int.mul_nonneg (by omega) (by omega)
    omega

theorem p_Ratio {a b : Int} (ha : a.natAbs ≤ 1000000000000000000) (hb : 1 ≤ b) (hb2 : b ≤ 1000000000000000) : e_impl_RatioOf (a, b, ()) = some (ratZ a b) := by
  simp only [e_impl_RatioOf, r_impl_RatioOf, p_sizeI a (by omega) (by omega), p_sizeI b (by omega) (by omega), p_common a.natAbs b.natAbs (by omega), Option.bind_some]
  have hg : 0 < Nat.gcd a.natAbs b.natAbs := Nat.gcd_pos_of_pos_right _ (by omega)
  have tn := tdiv_abs a (Nat.gcd a.natAbs b.natAbs)
  have td := tdiv_abs b (Nat.gcd a.natAbs b.natAbs)
  have la : a.natAbs / Nat.gcd a.natAbs b.natAbs ≤ a.natAbs := Nat.div_le_self _ _
  have lb : b.natAbs / Nat.gcd a.natAbs b.natAbs ≤ b.natAbs := Nat.div_le_self _ _
  have ta : Int.tdiv (a.natAbs : Int) ((Nat.gcd a.natAbs b.natAbs : Nat) : Int) = ((a.natAbs / Nat.gcd a.natAbs b.natAbs : Nat) : Int) := by rw [Int.tdiv_eq_ediv_of_nonneg (by omega)]; simp
  have tb : Int.tdiv (b.natAbs : Int) ((Nat.gcd a.natAbs b.natAbs : Nat) : Int) = ((b.natAbs / Nat.gcd a.natAbs b.natAbs : Nat) : Int) := by rw [Int.tdiv_eq_ediv_of_nonneg (by omega)]; simp
  rw [ta, tb]
  unfold ratZ
  rw [td.1 (by omega)]
  generalize hG : Nat.gcd a.natAbs b.natAbs = g at *
  generalize hP : a.natAbs / g = p at *
  generalize hQ : b.natAbs / g = q at *
  have d1 : decide (b = 0) = false := by rw [decide_eq_false_iff_not]; omega
  have d2 : decide ((g : Int) = 0) = false := by rw [decide_eq_false_iff_not]; omega
  have ua : Go.IntKind.wrap Go.IntKind.u64 ((p : Nat) : Int) = ((p : Nat) : Int) := u64_id (by omega) (by omega)
  have ub : Go.IntKind.wrap Go.IntKind.u64 ((q : Nat) : Int) = ((q : Nat) : Int) := u64_id (by omega) (by omega)
  have wa : wr ((p : Nat) : Int) = ((p : Nat) : Int) := wr_id (by omega) (by omega)
  have wb : wr ((q : Nat) : Int) = ((q : Nat) : Int) := wr_id (by omega) (by omega)
  have wn : wr (0 - ((p : Nat) : Int)) = -((p : Nat) : Int) := by rw [wr_id (by omega) (by omega)]; omega
  have k1 : decide ((p : Int) > 1000000000000000000) = false := by rw [decide_eq_false_iff_not]; omega
  have k2 : decide ((q : Int) > 1000000000000000) = false := by rw [decide_eq_false_iff_not]; omega
  have sb : decide (b < 0) = false := by rw [decide_eq_false_iff_not]; omega
  simp only [d1, d2, cond_false, ua, ub, wa, wb, wn, k1, k2, sb]
  by_cases sa : a < 0
  · simp only [sa, decide_true, beqB, Bool.not_false, cond_true, tn.2 sa]
  · simp only [sa, decide_false, beqB_self, Bool.not_true, cond_false, tn.1 (by omega)]

end Go.Sx.R
namespace Go.Sx.R
open Go Go.Sx

section
variable {n : TNet} {m : Nat} {L : List (List Int)} {a b : Nat}

theorem nodup_map_on {β γ : Type} (g : β → γ) : ∀ {l : List β}, l.Nodup → (∀ x ∈ l, ∀ y ∈ l, g x = g y → x = y) → (l.map g).Nodup
  | [], _, _ => by simp
  | x :: l, hn, h => by
    have hn := List.nodup_cons.1 hn
    rw [List.map_cons, List.nodup_cons]
    refine ⟨fun hm => ?_, nodup_map_on g hn.2 fun a ha b hb => h a (by simp [ha]) b (by simp [hb])⟩
    obtain ⟨y, hy, e⟩ := List.mem_map.1 hm
    have := h y (by simp [hy]) x (by simp) e
    subst this
    exact hn.1 hy

end
end Go.Sx.R
namespace Go.Sx.R
open Go Go.Sx

section
variable {n : TNet} {m E : Nat} {L : List (List Int)} {inn : List Int}

theorem Nk.lk (h : Nk n m E L inn) : Lk n m L := ⟨h.hn, h.ok, h.hm, h.m1, h.m5, h.sc, h.lp, h.ls, h.tab, h.srt, h.inw, h.hw⟩

theorem Nk.down1 (h : Nk n m E L inn) (hE : 2 ≤ E) : 1 ≤ detZ L inn inn ∧ detZ L inn inn ≤ 5832000000 := by
  have lk := h.lk
  have l := h.len_inn
  have hm5 := h.m5
  have hem := h.em
  refine ⟨lk.lapZ.pos lk.hang _ inn rfl (by omega) h.nd_inn (fun i hi => mem_wo.2 ⟨(h.inn_in i hi).1, (h.inn_in i hi).2, by simp⟩) ⟨0, mem_wo.2 ⟨by omega, by omega, by simp⟩, fun hh => by have := h.mem_inn.1 hh; omega⟩, ?_⟩
  have := det_lap h.srt h.inw h.m5 h.hw h.tab h.inn_in h.inn_in h.nd_inn
  have p : 1800 ^ inn.length ≤ 5832000000 := Nat.le_trans (Nat.pow_le_pow_right (by omega) (show inn.length ≤ 3 by omega)) (by decide)
  omega

theorem Nk.dOf1 (h : Nk n m E L inn) (hE : 2 ≤ E) : 1 ≤ dOf n L inn ∧ dOf n L inn ≤ 5832000000000 := by
  have d := h.down1 hE
  have s := h.sc
  simp only [dOf]
  constructor
  · have : 1 * 1 ≤ n.2.2.1 * detZ L inn inn := Int.mul_le_mul s.1 d.1 (by omega) (by omega)
    omega
  · have : n.2.2.1 * detZ L inn inn ≤ 1000 * 5832000000 := Int.mul_le_mul s.2 d.2 (by omega) (by omega)
    omega

end
end Go.Sx.R
namespace Go.Sx.R
open Go Go.Sx

section
variable {n : TNet} {m E : Nat} {L : List (List Int)} {inn : List Int}

theorem Nk.top_le' (h : Nk n m E L inn) {i j : Nat} (hi : i < E) (hj : j < E) : (detZ L ((i : Int) :: inn) ((j : Int) :: inn)).natAbs ≤ 1800 ^ (inn.length + 1) :=
  det_lap h.srt h.inw h.m5 h.hw h.tab (h.with hi).1 (h.with hj).1 (h.with hj).2.1

end

end Go.Sx.R
namespace Go.Sx.R
open Go Go.Sx

section
variable {n : TNet} {m E : Nat} {L : List (List Int)} {inn : List Int}

def topF (L : List (List Int)) (inn : List Int) (i j : Nat) : Int := detZ L ((i : Int) :: inn) ((j : Int) :: inn)

end

end Go.Sx.R
namespace Go.Sx.R
open Go Go.Sx

section
variable {n : TNet} {m E : Nat} {L : List (List Int)} {inn : List Int}

theorem Nk.topB (h : Nk n m E L inn) (hE : 2 ≤ E) {i j : Nat} (hi : i < E) (hj : j < E) : (topF L inn i j).natAbs ≤ 10497600000000 := by
  have l := h.len_inn
  have hm5 := h.m5
  have hem := h.em
  refine Nat.le_trans (h.top_le' hi hj) (Nat.le_trans (Nat.pow_le_pow_right (by omega) (show inn.length + 1 ≤ 4 by omega)) (by decide))

end

end Go.Sx.R
namespace Go.Sx.R
open Go Go.Sx

theorem sum_lin2 (a b : Int) (F G : Int → Int) : ∀ l : List Int, (l.map fun y => a * F y + b * G y).sum = a * (l.map F).sum + b * (l.map G).sum
  | [] => by simp
  | y :: l => by simp only [List.map_cons, List.sum_cons, sum_lin2 a b F G l, Int.mul_add]; omega

/-- The rows of the response add up to nothing, all nodes as columns. -/
theorem col_all {M : List (List Int)} {V : List Int} : ∀ (R inn : List Int), R.length = inn.length + 1 → R.length ≤ 4 → (∀ r ∈ R, (V.map (at2 M r)).sum = 0) → (V.map fun j => detZ M R (j :: inn)).sum = 0 := by
  intro R inn hl h4 hs
  match R, inn, hl, h4 with
  | [r], [], _, _ =>
    have e : (fun j => detZ M [r] [j]) = at2 M r := by funext j; rw [detZ1]
    rw [e]; exact hs r (by simp)
  | [r, s], [c], _, _ =>
    have e : (fun j => detZ M [r, s] [j, c]) = fun j => at2 M s c * at2 M r j + -at2 M r c * at2 M s j := by funext j; rw [detZ2]; grind
    rw [e, sum_lin2, hs r (by simp), hs s (by simp)]; simp
  | [r, s, t], [c, d], _, _ =>
    have e : (fun j => detZ M [r, s, t] [j, c, d]) = fun j => 1 * ((fun j => (at2 M s c * at2 M t d - at2 M s d * at2 M t c) * at2 M r j + -(at2 M r c * at2 M t d - at2 M r d * at2 M t c) * at2 M s j) j) + (at2 M r c * at2 M s d - at2 M r d * at2 M s c) * at2 M t j := by
      funext j; rw [detZ3]; grind
    rw [e, sum_lin2, sum_lin2, hs r (by simp), hs s (by simp), hs t (by simp)]; simp
  | [r, s, t, u], [c, d, e], _, _ =>
    have e' : (fun j => detZ M [r, s, t, u] [j, c, d, e]) = fun j => 1 * ((fun j => (at2 M s c * (at2 M t d * at2 M u e - at2 M t e * at2 M u d) - at2 M s d * (at2 M t c * at2 M u e - at2 M t e * at2 M u c) + at2 M s e * (at2 M t c * at2 M u d - at2 M t d * at2 M u c)) * at2 M r j
        + -(at2 M r c * (at2 M t d * at2 M u e - at2 M t e * at2 M u d) - at2 M r d * (at2 M t c * at2 M u e - at2 M t e * at2 M u c) + at2 M r e * (at2 M t c * at2 M u d - at2 M t d * at2 M u c)) * at2 M s j) j)
        + 1 * ((fun j => (at2 M r c * (at2 M s d * at2 M u e - at2 M s e * at2 M u d) - at2 M r d * (at2 M s c * at2 M u e - at2 M s e * at2 M u c) + at2 M r e * (at2 M s c * at2 M u d - at2 M s d * at2 M u c)) * at2 M t j
        + -(at2 M r c * (at2 M s d * at2 M t e - at2 M s e * at2 M t d) - at2 M r d * (at2 M s c * at2 M t e - at2 M s e * at2 M t c) + at2 M r e * (at2 M s c * at2 M t d - at2 M s d * at2 M t c)) * at2 M u j) j) := by
      funext j; rw [detZ4]; grind
    rw [e', sum_lin2, sum_lin2, sum_lin2, hs r (by simp), hs s (by simp), hs t (by simp), hs u (by simp)]; simp
  | [], _, hl, _ => simp at hl
  | [_], _ :: _, hl, _ => simp at hl
  | [_, _], [], hl, _ => simp at hl
  | [_, _], _ :: _ :: _, hl, _ => simp at hl
  | [_, _, _], [], hl, _ => simp at hl
  | [_, _, _], [_], hl, _ => simp at hl
  | [_, _, _], _ :: _ :: _ :: _, hl, _ => simp at hl
  | [_, _, _, _], [], hl, _ => simp at hl
  | [_, _, _, _], [_], hl, _ => simp at hl
  | [_, _, _, _], [_, _], hl, _ => simp at hl
  | [_, _, _, _], _ :: _ :: _ :: _ :: _, hl, _ => simp at hl
  | _ :: _ :: _ :: _ :: _ :: _, _, _, h4 => simp at h4 <;> omega

/-- A column twice. -/
theorem col_twice {M : List (List Int)} : ∀ (R inn : List Int), R.length = inn.length + 1 → R.length ≤ 4 → ∀ c ∈ inn, detZ M R (c :: inn) = 0 := by
  intro R inn hl h4 c hc
  match R, inn, hl, h4 with
  | [r], [], _, _ => simp at hc
  | [r, s], [x], _, _ =>
    simp only [List.mem_cons, List.not_mem_nil, or_false] at hc
    subst hc; rw [detZ2]; grind
  | [r, s, t], [x, y], _, _ =>
    simp only [List.mem_cons, List.not_mem_nil, or_false] at hc
    rcases hc with rfl | rfl <;> rw [detZ3] <;> grind
  | [r, s, t, u], [x, y, z], _, _ =>
    simp only [List.mem_cons, List.not_mem_nil, or_false] at hc
    rcases hc with rfl | rfl | rfl <;> rw [detZ4] <;> grind
  | [], _, hl, _ => simp at hl
  | [_], _ :: _, hl, _ => simp at hl
  | [_, _], [], hl, _ => simp at hl
  | [_, _], _ :: _ :: _, hl, _ => simp at hl
  | [_, _, _], [], hl, _ => simp at hl
  | [_, _, _], [_], hl, _ => simp at hl
  | [_, _, _], _ :: _ :: _ :: _, hl, _ => simp at hl
  | [_, _, _, _], [], hl, _ => simp at hl
  | [_, _, _, _], [_], hl, _ => simp at hl
  | [_, _, _, _], [_, _], hl, _ => simp at hl
  | [_, _, _, _], _ :: _ :: _ :: _ :: _, hl, _ => simp at hl
  | _ :: _ :: _ :: _ :: _ :: _, _, _, h4 => simp at h4 <;> omega

section
variable {n : TNet} {m E : Nat} {L : List (List Int)} {inn : List Int}

/-- The ends, in order. -/
def endsL (E : Nat) : List Int := (List.range' 0 E).map fun (i : Nat) => (i : Int)

theorem mem_endsL {E : Nat} {c : Int} : c ∈ endsL E ↔ 0 ≤ c ∧ c < E := by
  simp only [endsL, List.mem_map, List.mem_range'_1]
  constructor
  · rintro ⟨k, hk, rfl⟩; omega
  · intro h; exact ⟨c.toNat, by omega, by omega⟩

theorem nd_endsL (E : Nat) : (endsL E).Nodup := nodup_map_on _ (List.nodup_range') fun x _ y _ e => by omega

theorem Nk.rows (h : Nk n m E L inn) (hE : 2 ≤ E) {i : Nat} (hi : i < E) : ((endsL E).map fun j => detZ L ((i : Int) :: inn) (j :: inn)).sum = 0 := by
  have lk := h.lk
  have l := h.len_inn
  have hm5 := h.m5
  have hem := h.em
  have pV : (wo m []).Perm (endsL E ++ inn) := by
    refine perm_of (wo_nd _ _) ?_ fun c => ?_
    · rw [List.nodup_append]
      exact ⟨nd_endsL E, h.nd_inn, fun a ha b hb => by have := mem_endsL.1 ha; have := h.mem_inn.1 hb; omega⟩
    · rw [List.mem_append, mem_endsL, h.mem_inn, mem_wo]
      simp only [List.not_mem_nil, not_false_eq_true, and_true]; omega
  have s := col_all (M := L) (V := wo m []) ((i : Int) :: inn) inn (by simp) (by simp; omega) fun r hr => lk.lapZ.sum r (mem_wo.2 (by
    have := (h.with hi).1 r hr
    exact ⟨this.1, this.2, by simp⟩))
  rw [perm_sum (pV.map fun j => detZ L ((i : Int) :: inn) (j :: inn)), List.map_append, List.sum_append] at s
  have z : (inn.map fun j => detZ L ((i : Int) :: inn) (j :: inn)).sum = 0 := by
    have e : inn.map (fun j => detZ L ((i : Int) :: inn) (j :: inn)) = inn.map fun _ => 0 := List.map_congr_left fun c hc => col_twice _ _ (by simp) (by simp; omega) c hc
    rw [e]
    have : ∀ l : List Int, (l.map fun _ => (0 : Int)).sum = 0 := by
      intro l
      induction l with
      | nil => rfl
      | cons x l ih => simp only [List.map_cons, List.sum_cons, ih]; rfl
    exact this inn
  omega

/-- Off its diagonal the response is not positive. -/
theorem Nk.offT (h : Nk n m E L inn) (hE : 2 ≤ E) {i j : Nat} (hi : i < E) (hj : j < E) (hij : i ≠ j) : topF L inn i j ≤ 0 := by
  have lk := h.lk
  have l := h.len_inn
  have hm5 := h.m5
  have hem := h.em
  by_cases h3 : 3 ≤ E
  · refine lk.lapZ.cof (a := (i : Int)) (b := (j : Int)) (r := inn) ?_ ?_ (by omega)
    · refine List.nodup_cons.2 ⟨fun hh => ?_, List.nodup_cons.2 ⟨fun hh => by have := h.mem_inn.1 hh; omega, h.nd_inn⟩⟩
      rcases List.mem_cons.1 hh with hh | hh
      · omega
      · have := h.mem_inn.1 hh; omega
    · intro c hc
      refine mem_wo.2 ?_
      rcases List.mem_cons.1 hc with rfl | hc
      · exact ⟨by omega, by omega, by simp⟩
      · rcases List.mem_cons.1 hc with rfl | hc
        · exact ⟨by omega, by omega, by simp⟩
        · have := h.mem_inn.1 hc; exact ⟨by omega, by omega, by simp⟩
  · have e2 : E = 2 := by omega
    subst e2
    have r := h.rows (by omega) hi
    have p : 1 ≤ topF L inn i i := by
      refine lk.lapZ.pos lk.hang _ ((i : Int) :: inn) rfl (by simp; omega) (h.with hi).2.1 (fun c hc => mem_wo.2 (by have := (h.with hi).1 c hc; exact ⟨this.1, this.2, by simp⟩)) ⟨(j : Int), mem_wo.2 ⟨by omega, by omega, by simp⟩, fun hh => ?_⟩
      rcases List.mem_cons.1 hh with hh | hh
      · omega
      · have := h.mem_inn.1 hh; omega
    have e : endsL 2 = [0, 1] := rfl
    rw [e] at r
    simp only [List.map_cons, List.map_nil, List.sum_cons, List.sum_nil] at r
    simp only [topF] at p ⊢
    rcases (show (i = 0 ∧ j = 1) ∨ (i = 1 ∧ j = 0) by omega) with ⟨rfl, rfl⟩ | ⟨rfl, rfl⟩ <;> simp only [Int.natCast_zero, Int.natCast_one] at * <;> omega

end

end Go.Sx.R
namespace Go.Sx.R
open Go Go.Sx

def chG (l : List Int) (st : List (List Int)) (_ : Nat) (x : Nat) : List (List Int) := if (x : Int) ∈ l then st else st ++ [l ++ [(x : Int)]]
def chStep (k : Nat) (st : List (List Int)) (_ : Nat) (l : List Int) : List (List Int) := foldI (chG l) (List.range k) 0 st
def chNext (k : Nat) (out : List (List Int)) (_ _ : Nat) : List (List Int) := foldI (chStep k) out 0 []
def chs (k m : Nat) : List (List Int) := foldI (chNext k) (List.range m) 0 [[]]

/-- So many numbers below 5. -/
def Few (n : Nat) (y : List Int) : Prop := y.length ≤ n ∧ ∀ z ∈ y, 0 ≤ z ∧ z < 5

theorem idx_get {k i x : Nat} (h : (List.range k)[i]? = some x) : x = i := by
  have hi : i < k := by have := (List.getElem?_eq_some_iff.1 h).1; simpa using this
  rw [List.getElem?_range hi] at h
  exact (Option.some.inj h).symm

def I4 (l : List Int) (n A : Nat) (i : Nat) (st : List (List Int)) : Prop := st.length ≤ A + i ∧ ∀ y ∈ st, Few (n + 1) y

theorem I4.step {l : List Int} {n A i k : Nat} {st : List (List Int)} (h : I4 l n A i st) (hl : Few n l) (hi : i < k) (hk : k ≤ 5) : I4 l n A (i + 1) (chG l st i i) := by
  unfold chG
  split
  · exact ⟨by have := h.1; omega, h.2⟩
  · refine ⟨by have := h.1; simp; omega, fun y hy => ?_⟩
    rcases List.mem_append.1 hy with hy | hy
    · exact h.2 y hy
    · simp only [List.mem_singleton] at hy
      subst hy
      refine ⟨by have := hl.1; simp; omega, fun z hz => ?_⟩
      rcases List.mem_append.1 hz with hz | hz
      · exact hl.2 z hz
      · simp only [List.mem_singleton] at hz
        subst hz; omega

theorem ch4_impl (k : Nat) (hk : k ≤ 5) (l : List Int) (n : Nat) (hn : n ≤ 2) (hl : Few n l) (cnt ci : Int) (out : List (List Int)) (len i : Int) (A : Nat) (hA : A ≤ 1000) (st : List (List Int)) (hst : I4 l n A 0 st) (K : _ → Option (List (List Int))) :
    iterK (r_impl_choices_L4 e_slices_Contains_int e_slices_Clone_int N0) N0 ((k : Int), st, l, cnt, ci, out, len, i, (k : Int), 0, ()) K = K ((k : Int), chStep k st 0 l, l, cnt, ci, out, len, i, (k : Int), (k : Int), ()) ∧ I4 l n A k (chStep k st 0 l) := by
  have hll := hl.1
  have m := iter_fold (R := List (List Int)) (body := r_impl_choices_L4 e_slices_Contains_int e_slices_Clone_int N0) (List.range k) (fun (st : List (List Int)) x => ((k : Int), st, l, cnt, ci, out, len, i, (k : Int), x, ())) (I4 l n A) (chG l)
    (fun st j x kc ke hp hx hj => by
      have e := idx_get hx
      subst e
      have hj' : x < k := by simpa using hj
      refine ⟨?_, hp.step hl hj' hk⟩
      have d : decide ((x : Int) < (k : Int)) = true := by rw [decide_eq_true_eq]; omega
      have w : wr ((x : Int) + 1) = ((x + 1 : Nat) : Int) := wr_succ (n := 6) (by omega) (by omega)
      have b1 : Nat.ble (l.length + List.length ((x : Int) :: ([] : List Int))) 17179869184 = true := ble_true (by simp; omega)
      have b2 : Nat.ble (st.length + List.length ((l ++ (x : Int) :: ([] : List Int)) :: ([] : List (List Int)))) 17179869184 = true := ble_true (by have := hp.1; simp; omega)
      simp only [r_impl_choices_L4, d, cond_true, p_ContainsI l _ (show l.length ≤ 9223372036854775807 by omega), Option.bind_some, p_Clone l (by omega), b1, b2, w, chG]
      by_cases c : (x : Int) ∈ l
      · simp only [c, decide_true, Bool.not_true, cond_false, if_true]
      · simp only [c, decide_false, Bool.not_false, cond_true, if_false])
    (fun st kc ke _ => by simp only [r_impl_choices_L4, List.length_range, not_lt_self, cond_false]) (N := N0) (by have := N0_big; simp; omega) st hst K
  simpa [chStep] using m

theorem ch4_spec (k : Nat) (hk : k ≤ 5) (l : List Int) (n : Nat) (hn : n ≤ 2) (hl : Few n l) (cnt ci : Int) (out : List (List Int)) (len i : Int) (A : Nat) (hA : A ≤ 1000) (st : List (List Int)) (hst : I4 l n A 0 st) (K : _ → Option (List (List Int))) :
    iterK (r_spec_l09Lists_L4 e_spec_l03Has N0) N0 ((k : Int), cnt, ci, st, l, 0, out, len, i, ()) K = K ((k : Int), cnt, ci, chStep k st 0 l, l, (k : Int), out, len, i, ()) := by
  have hll := hl.1
  have m := iter_fold (R := List (List Int)) (body := r_spec_l09Lists_L4 e_spec_l03Has N0) (List.range k) (fun (st : List (List Int)) x => ((k : Int), cnt, ci, st, l, x, out, len, i, ())) (I4 l n A) (chG l)
    (fun st j x kc ke hp hx hj => by
      have e := idx_get hx
      subst e
      have hj' : x < k := by simpa using hj
      refine ⟨?_, hp.step hl hj' hk⟩
      have d : decide ((x : Int) < (k : Int)) = true := by rw [decide_eq_true_eq]; omega
      have w : wr ((x : Int) + 1) = ((x + 1 : Nat) : Int) := wr_succ (n := 6) (by omega) (by omega)
      have b0 : Nat.ble (List.length ([] : List Int) + l.length) 17179869184 = true := ble_true (by simp; omega)
      have b1 : Nat.ble (l.length + List.length ((x : Int) :: ([] : List Int))) 17179869184 = true := ble_true (by simp; omega)
      have b2 : Nat.ble (st.length + List.length ((l ++ (x : Int) :: ([] : List Int)) :: ([] : List (List Int)))) 17179869184 = true := ble_true (by have := hp.1; simp; omega)
      simp only [r_spec_l09Lists_L4, d, cond_true, p_Has l _ (show l.length ≤ 9223372036854775807 by omega), Option.bind_some, b0, List.nil_append, b1, b2, w, chG]
      by_cases c : (x : Int) ∈ l
      · simp only [c, decide_true, Bool.not_true, cond_false, if_true]
      · simp only [c, decide_false, Bool.not_false, cond_true, if_false])
    (fun st kc ke _ => by simp only [r_spec_l09Lists_L4, List.length_range, not_lt_self, cond_false]) (N := N0) (by have := N0_big; simp; omega) st hst K
  simpa [chStep] using m.1

theorem ch2_both (k : Nat) (hk : k ≤ 5) (n : Nat) (hn : n ≤ 2) (out : List (List Int)) (ho : out.length ≤ 25) (hf : ∀ y ∈ out, Few n y) :
    (∀ (cnt ci : Int) (K : _ → Option (List (List Int))), iterK (r_impl_choices_L2 e_slices_Contains_int e_slices_Clone_int N0) N0 ((k : Int), [], cnt, ci, out, (out.length : Int), 0, ()) K = K ((k : Int), foldI (chStep k) out 0 [], cnt, ci, out, (out.length : Int), (out.length : Int), ())) ∧
    (∀ (cnt ci : Int) (K : _ → Option (List (List Int))), iterK (r_spec_l09Lists_L2 e_spec_l03Has N0) N0 ((k : Int), cnt, ci, [], out, (out.length : Int), 0, ()) K = K ((k : Int), cnt, ci, foldI (chStep k) out 0 [], out, (out.length : Int), (out.length : Int), ())) ∧
    (foldI (chStep k) out 0 []).length ≤ 5 * out.length ∧ ∀ y ∈ foldI (chStep k) out 0 [], Few (n + 1) y := by
  have a := fun (cnt ci : Int) (K : _ → Option (List (List Int))) => iter_fold (R := List (List Int)) (body := r_impl_choices_L2 e_slices_Contains_int e_slices_Clone_int N0) out (fun (st : List (List Int)) i => ((k : Int), st, cnt, ci, out, (out.length : Int), i, ())) (fun i st => I4 [] n (5 * i) 0 st) (chStep k)
    (fun st i l kc ke hp hx hi => by
      have hl := hf l (List.mem_of_getElem? hx)
      have q := ch4_impl k hk l n hn hl cnt ci out (out.length : Int) (i : Int) (5 * i) (by omega) st hp
      refine ⟨?_, by have := (q fun _ => none).2; exact ⟨by have := this.1; show (chStep k st i l).length ≤ _; change (chStep k st 0 l).length ≤ _; omega, this.2⟩⟩
      simp only [r_impl_choices_L2, lt_len, hi, decide_true, cond_true, getI_nat, hx, Option.bind_some]
      rw [(q _).1, wr_succ hi (show out.length ≤ 9223372036854775807 by omega)]
      rfl)
    (fun st kc ke _ => by simp only [r_impl_choices_L2, not_lt_self, cond_false]) (N := N0) (by have := N0_big; omega) [] ⟨by simp, by simp⟩ K
  have b := fun (cnt ci : Int) (K : _ → Option (List (List Int))) => iter_fold (R := List (List Int)) (body := r_spec_l09Lists_L2 e_spec_l03Has N0) out (fun (st : List (List Int)) i => ((k : Int), cnt, ci, st, out, (out.length : Int), i, ())) (fun i st => I4 [] n (5 * i) 0 st) (chStep k)
    (fun st i l kc ke hp hx hi => by
      have hl := hf l (List.mem_of_getElem? hx)
      have q := ch4_impl k hk l n hn hl cnt ci out (out.length : Int) (i : Int) (5 * i) (by omega) st hp
      have q2 := ch4_spec k hk l n hn hl cnt ci out (out.length : Int) (i : Int) (5 * i) (by omega) st hp
      refine ⟨?_, by have := (q fun _ => none).2; exact ⟨by have := this.1; show (chStep k st i l).length ≤ _; change (chStep k st 0 l).length ≤ _; omega, this.2⟩⟩
      simp only [r_spec_l09Lists_L2, lt_len, hi, decide_true, cond_true, getI_nat, hx, Option.bind_some]
      rw [q2 _, wr_succ hi (show out.length ≤ 9223372036854775807 by omega)]
      rfl)
    (fun st kc ke _ => by simp only [r_spec_l09Lists_L2, not_lt_self, cond_false]) (N := N0) (by have := N0_big; omega) [] ⟨by simp, by simp⟩ K
  have p := (a 0 0 fun _ => none).2
  exact ⟨fun cnt ci K => (a cnt ci K).1, fun cnt ci K => (b cnt ci K).1, by have := p.1; omega, p.2⟩

def bnd : Nat → Nat
  | 0 => 1
  | n + 1 => 5 * bnd n

theorem bnd_le {i : Nat} (h : i ≤ 2) : bnd i ≤ 25 := by
  rcases i with _ | _ | _ | i
  · decide
  · decide
  · decide
  · omega

theorem choices_both (k m : Nat) (hk : k ≤ 5) (hm : m ≤ 2) : e_impl_choices ((k : Int), (m : Int), ()) = some (chs k m) ∧ e_spec_l09Lists ((k : Int), (m : Int), ()) = some (chs k m) ∧ (chs k m).length ≤ 25 ∧ ∀ y ∈ chs k m, Few m y := by
  have a := iter_fold (R := List (List Int)) (body := r_impl_choices_L0 e_slices_Contains_int e_slices_Clone_int N0) (List.range m) (fun (out : List (List Int)) i => ((k : Int), out, (m : Int), i, ())) (fun i out => out.length ≤ bnd i ∧ ∀ y ∈ out, Few i y) (chNext k)
    (fun out i x kc ke ⟨p1, p2⟩ hx hi => by
      have hi' : i < m := by simpa using hi
      have hb := bnd_le (i := i) (by omega)
      obtain ⟨q1, _, q3, q4⟩ := ch2_both k hk i (by omega) out (by omega) p2
      refine ⟨?_, by show (foldI (chStep k) out 0 []).length ≤ 5 * bnd i; omega, q4⟩
      have d : decide ((i : Int) < (m : Int)) = true := by rw [decide_eq_true_eq]; omega
      simp only [r_impl_choices_L0, d, cond_true]
      rw [q1, wr_succ hi' (by omega)]
      rfl)
    (fun st kc ke _ => by simp only [r_impl_choices_L0, List.length_range, not_lt_self, cond_false]) (N := N0) (by have := N0_big; simp; omega) [[]] ⟨by simp [bnd], by simp [Few]⟩ (fun s1 => some s1.2.1)
  have b := iter_fold (R := List (List Int)) (body := r_spec_l09Lists_L0 e_spec_l03Has N0) (List.range m) (fun (out : List (List Int)) i => ((k : Int), (m : Int), out, i, ())) (fun i out => out.length ≤ bnd i ∧ ∀ y ∈ out, Few i y) (chNext k)
    (fun out i x kc ke ⟨p1, p2⟩ hx hi => by
      have hi' : i < m := by simpa using hi
      have hb := bnd_le (i := i) (by omega)
      obtain ⟨_, q1, q3, q4⟩ := ch2_both k hk i (by omega) out (by omega) p2
      refine ⟨?_, by show (foldI (chStep k) out 0 []).length ≤ 5 * bnd i; omega, q4⟩
      have d : decide ((i : Int) < (m : Int)) = true := by rw [decide_eq_true_eq]; omega
      simp only [r_spec_l09Lists_L0, d, cond_true]
      rw [q1, wr_succ hi' (by omega)]
      rfl)
    (fun st kc ke _ => by simp only [r_spec_l09Lists_L0, List.length_range, not_lt_self, cond_false]) (N := N0) (by have := N0_big; simp; omega) [[]] ⟨by simp [bnd], by simp [Few]⟩ (fun s1 => some s1.2.2.1)
  have p := a.2
  simp only [List.length_range] at p
  have hb := bnd_le hm
  exact ⟨a.1, b.1, by have := p.1; show (chs k m).length ≤ 25; change (foldI (chNext k) (List.range m) 0 [[]]).length ≤ 25; omega, p.2⟩

-- the pairs

theorem few_len {p : List Int} (h : Few 2 p) : p.length ≤ 1048576 := by have := h.1; omega

theorem circB_both (k : Nat) (hk : k ≤ 5) {p q : List Int} (hp : Few 2 p) (hq : Few 2 q) : e_impl_IsCircular ((k : Int), p, q, ()) = some (circB k p q) ∧ e_spec_IsCircular ((k : Int), p, q, ()) = some (circB k p q) ∧ (circB k p q = true → p.length = q.length ∧ (∀ x ∈ p, 0 ≤ x ∧ x < k) ∧ ∀ x ∈ q, 0 ≤ x ∧ x < k) := by
  obtain ⟨r, r1, r2, r3⟩ := circular_both (k : Int) p q ⟨by omega, by omega⟩ (few_len hp) (few_len hq)
  have : circB (k : Int) p q = r := by simp only [circB, r1, Option.getD_some]
  rw [this]
  exact ⟨r1, r2, r3⟩

theorem few2 {m : Nat} (hm : m ≤ 2) {y : List Int} (h : Few m y) : Few 2 y := ⟨by have := h.1; omega, h.2⟩

theorem cpL_eq (k m : Nat) (hk : k ≤ 5) (hm : m ≤ 2) : cpL (k : Int) m = chs k m := by
  simp only [cpL, (choices_both k m hk hm).1, Option.getD_some]

theorem cpOk_all (k : Nat) (hk : k ≤ 5) : cpOk (k : Int) (k / 2) := by
  intro i hi
  have hm : i + 1 ≤ 2 := by omega
  obtain ⟨c1, _, c3, c4⟩ := choices_both k (i + 1) hk hm
  rw [cpL_eq k (i + 1) hk hm]
  refine ⟨c1, by omega, fun p hp => ⟨p_Clone p (by have := few_len (few2 hm (c4 p hp)); omega), fun q hq => (circB_both k hk (few2 hm (c4 p hp)) (few2 hm (c4 q hq))).1⟩⟩

end Go.Sx.R
namespace Go.Sx.R
open Go Go.Sx

def circF (p q : List Int) : Bool := decide (p.length = q.length) && !decide (q.length = 0) && !((p ++ q.reverse).zipIdx 0).any (fun x => badR 4 (p ++ q.reverse) x.2 x.1) && decide (falls (p ++ q.reverse) = 1)

theorem circF_eq (p q : List Int) (hp : p.length ≤ 1048576) (hq : q.length ≤ 1048576) : e_impl_IsCircular (4, p, q, ()) = some (circF p q) := by
  simp only [e_impl_IsCircular, r_impl_IsCircular, Option.bind_some, dec_eq, circF]
  have h1 : decide ((4 : Int) < 1) = false := by decide
  have h2 : decide ((4 : Int) > 5) = false := by decide
  simp only [h1, h2, cond_false]
  by_cases h3 : p.length = q.length
  · simp only [h3, decide_true, Bool.not_true, cond_false]
    by_cases h4 : q.length = 0
    · have d4 : decide ((q.length : Int) < 1) = true := by rw [decide_eq_true_eq]; omega
      rw [d4]; simp [h4]
    · have d4 : decide ((q.length : Int) < 1) = false := by rw [decide_eq_false_iff_not]; omega
      have hroom : p.length + q.reverse.length ≤ 17179869184 := by simp; omega
      have hrl : (p ++ q.reverse).length ≤ 9223372036854775807 := by simp; omega
      simp only [d4, cond_false, p_Clone q (by omega), p_Clone p (by omega), p_Reverse q (by omega), Option.bind_some, ble_true hroom, cond_true, p_indicesOk (p ++ q.reverse) 4 hrl, h4, decide_false, Bool.not_false, Bool.true_and]
      cases hb : ((p ++ q.reverse).zipIdx 0).any fun x => badR 4 (p ++ q.reverse) x.2 x.1 with
      | true => rfl
      | false =>
        obtain ⟨j, hj⟩ := impl_falls (p ++ q.reverse) hrl (fun s5 => some (decide (s5.2.1 = 1)))
        simp only [Bool.not_false, Bool.not_true, cond_false, Bool.true_and]
        exact hj
  · simp [h3]

def cpF : List (List (List Int)) := (List.range 2).flatMap fun i => (chs 4 (i + 1)).flatMap fun p => ((chs 4 (i + 1)).filter fun q => circF p q).map fun q => [p, q]

theorem cpF_eq : cpAll 4 2 = cpF := by
  have hB : ∀ {p q : List Int}, Few 2 p → Few 2 q → circB 4 p q = circF p q := fun hp hq => by
    simp only [circB, circF_eq _ _ (few_len hp) (few_len hq), Option.getD_some]
  have hL : ∀ i, i < 2 → cpL 4 (i + 1) = chs 4 (i + 1) := fun i hi => cpL_eq 4 (i + 1) (by omega) (by omega)
  have step : ∀ (l : List Nat), (∀ i ∈ l, i < 2) → (l.flatMap fun i => cpSize 4 (cpL 4 (i + 1)) (cpL 4 (i + 1))) = l.flatMap fun i => (chs 4 (i + 1)).flatMap fun p => ((chs 4 (i + 1)).filter fun q => circF p q).map fun q => [p, q] := by
    intro l hl
    induction l with
    | nil => rfl
    | cons i l ih =>
      have hi := hl i (by simp)
      have c4 := (choices_both 4 (i + 1) (by omega) (by omega)).2.2.2
      simp only [List.flatMap_cons, ih fun j hj => hl j (by simp [hj])]
      congr 1
      rw [hL i hi]
      simp only [cpSize]
      have row : ∀ p ∈ chs 4 (i + 1), cpRow 4 p (chs 4 (i + 1)) = ((chs 4 (i + 1)).filter fun q => circF p q).map fun q => [p, q] := by
        intro p hp
        simp only [cpRow]
        congr 1
        exact List.filter_congr fun q hq => hB (few2 (by omega) (c4 p hp)) (few2 (by omega) (c4 q hq))
      generalize chs 4 (i + 1) = Q at *
      have gen : ∀ P : List (List Int), (∀ p ∈ P, cpRow 4 p Q = (Q.filter fun q => circF p q).map fun q => [p, q]) → (P.flatMap fun p => cpRow 4 p Q) = P.flatMap fun p => (Q.filter fun q => circF p q).map fun q => [p, q] := by
        intro P hP
        induction P with
        | nil => rfl
        | cons p P ihP => simp only [List.flatMap_cons, hP p (by simp), ihP fun y hy => hP y (by simp [hy])]
      exact gen Q row
  exact step (List.range 2) fun i hi => List.mem_range.1 hi

theorem cpF_list : cpF = [[[0], [1]], [[0], [2]], [[0], [3]], [[1], [0]], [[1], [2]], [[1], [3]], [[2], [0]], [[2], [1]], [[2], [3]], [[3], [0]], [[3], [1]], [[3], [2]],
    [[0, 1], [3, 2]], [[1, 2], [0, 3]], [[2, 3], [1, 0]], [[3, 0], [2, 1]]] := by decide +kernel

theorem p_Pairs4 : e_impl_CircularPairs (4, ()) = some [[[0], [1]], [[0], [2]], [[0], [3]], [[1], [0]], [[1], [2]], [[1], [3]], [[2], [0]], [[2], [1]], [[2], [3]], [[3], [0]], [[3], [1]], [[3], [2]],
    [[0, 1], [3, 2]], [[1, 2], [0, 3]], [[2, 3], [1, 0]], [[3, 0], [2, 1]]] := by
  have h1 : ¬ ((4 : Int) < 1 ∨ 5 < (4 : Int)) := by omega
  have h2 : cpOk 4 ((4 : Int).toNat / 2) := cpOk_all 4 (by omega)
  have e : (4 : Int).toNat / 2 = 2 := by decide
  rw [e] at h2
  simp only [e_impl_CircularPairs]
  rw [if_neg h1, e, if_pos h2, cpF_eq, cpF_list]

end Go.Sx.R
namespace Go.Sx.R
open Go Go.Sx

section
variable {n : TNet} {m E : Nat} {L : List (List Int)} {inn : List Int}

theorem Nk.p_CM1 (h : Nk n m E L inn) (hE : 2 ≤ E) {a c : Nat} (ha : a < E) (hc : c < E) (hac : a ≠ c) (hci : e_impl_IsCircular (n.2.1, [(a : Int)], [(c : Int)], ()) = some true) :
    ∃ v : Int × Int, e_impl_CircularMinor (n, [(a : Int)], [(c : Int)], ()) = some (v, true) ∧ ¬ v.1 < 0 := by
  have hN := N0_big
  obtain ⟨M, hM⟩ : ∃ M, N0 = M + 3 := ⟨N0 - 3, by omega⟩
  have d := h.dOf1 hE
  have tb := h.topB hE ha hc
  have to := h.offT hE ha hc hac
  have hEm := ent_map E (fun i j => detZ L ((i : Int) :: inn) ((j : Int) :: inn)) (p := [(a : Int)]) (q := [(c : Int)]) (by simp; omega) (by simp; omega)
  have hdm := p_det0 _ [(a : Int)] [(c : Int)] (by simp) (by simp) hEm
  have ht : at2 ((List.range' 0 E).map fun (i : Nat) => (List.range' 0 E).map fun (j : Nat) => detZ L ((i : Int) :: inn) ((j : Int) :: inn)) (a : Int) (c : Int) = topF L inn a c := at2_map E _ ha hc
  rw [detZ1, ht, wr_id (by omega) (by omega)] at hdm
  have w1 : wr (1 * dOf n L inn) = dOf n L inn := by rw [Int.one_mul]; exact wr_id (by omega) (by omega)
  have w2 : wr (0 - topF L inn a c) = -topF L inn a c := by rw [wr_id (by omega) (by omega)]; omega
  have t1 : decide (Int.tmod ((1 : Nat) : Int) 2 = 1) = true := by decide
  refine ⟨ratZ (-topF L inn a c) (dOf n L inn), ?_, fun hn => by have := (ratZ_neg d.1).1 hn; omega⟩
  simp only [e_impl_CircularMinor, r_impl_CircularMinor, p_NetOk n h.hn, h.ok, hci, h.resp, Option.bind_some, Bool.not_true, cond_false]
  generalize hbd : r_impl_CircularMinor_L0 e_impl_NetOk e_impl_IsCircular e_impl_response e_impl_circular e_impl_RatioOf N0 = body
  rw [hM]
  simp only [iterK, ← hbd, r_impl_CircularMinor_L0, List.length_cons, List.length_nil, Nat.zero_add]
  have d1 : decide ((0 : Int) < ((1 : Nat) : Int)) = true := by decide
  have d2 : decide (wr (0 + 1) < ((1 : Nat) : Int)) = false := by decide
  simp only [d1, d2, cond_true, cond_false, w1, e_impl_circular, r_impl_circular, hdm, List.length_cons, List.length_nil, Nat.zero_add, t1, w2, p_Ratio (show (-topF L inn a c).natAbs ≤ 1000000000000000000 by omega) d.1 (by omega), Option.bind_some]

theorem Nk.p_CM2 (h : Nk n m E L inn) (hE : 2 ≤ E) (hE4 : m ≤ E + 1) {a b c e : Nat} (ha : a < E) (hb : b < E) (hc : c < E) (he : e < E) (hci : e_impl_IsCircular (n.2.1, [(a : Int), (b : Int)], [(c : Int), (e : Int)], ()) = some true)
    (hnn : 0 ≤ topF L inn a c * topF L inn b e - topF L inn a e * topF L inn b c) (hle : topF L inn a c * topF L inn b e - topF L inn a e * topF L inn b c ≤ 1000000000000) :
    ∃ v : Int × Int, e_impl_CircularMinor (n, [(a : Int), (b : Int)], [(c : Int), (e : Int)], ()) = some (v, true) ∧ ¬ v.1 < 0 := by
  have hN := N0_big
  obtain ⟨M, hM⟩ : ∃ M, N0 = M + 3 := ⟨N0 - 3, by omega⟩
  have d := h.dOf1 hE
  have hD := h.down_pos hE4
  have hsc := h.sc
  have bs := mulC (x := n.2.2.1) (y := detZ L inn inn) (A := 1000) (B := 1000) (by omega) (by omega)
  have bd : 0 ≤ dOf n L inn ∧ dOf n L inn ≤ 1000000 := by simp only [dOf]; omega
  have bs2 := mulC (x := dOf n L inn) (y := dOf n L inn) (A := 1000000) (B := 1000000) bd bd
  have p2 : 1 * 1 ≤ dOf n L inn * dOf n L inn := Int.mul_le_mul d.1 d.1 (by omega) (by omega)
  have hEm := ent_map E (fun i j => detZ L ((i : Int) :: inn) ((j : Int) :: inn)) (p := [(a : Int), (b : Int)]) (q := [(c : Int), (e : Int)]) (by simp; omega) (by simp; omega)
  have hdm := p_det0 _ [(a : Int), (b : Int)] [(c : Int), (e : Int)] (by simp) (by simp) hEm
  have ht : ∀ i j : Nat, i < E → j < E → at2 ((List.range' 0 E).map fun (i : Nat) => (List.range' 0 E).map fun (j : Nat) => detZ L ((i : Int) :: inn) ((j : Int) :: inn)) (i : Int) (j : Int) = topF L inn i j := fun i j hi hj => at2_map E _ hi hj
  rw [detZ2, ht a c ha hc, ht a e ha he, ht b c hb hc, ht b e hb he] at hdm
  generalize topF L inn a c * topF L inn b e - topF L inn a e * topF L inn b c = Q at *
  rw [wr_id (by omega) (by omega)] at hdm
  have w1 : wr (1 * dOf n L inn) = dOf n L inn := by rw [Int.one_mul]; exact wr_id (by omega) (by omega)
  have w2 : wr (dOf n L inn * dOf n L inn) = dOf n L inn * dOf n L inn := wr_id (by omega) (by omega)
  have t1 : decide (Int.tmod ((2 : Nat) : Int) 2 = 1) = false := by decide
  refine ⟨ratZ Q (dOf n L inn * dOf n L inn), ?_, fun hn => by have := (ratZ_neg (show 1 ≤ dOf n L inn * dOf n L inn by omega)).1 hn; omega⟩
  simp only [e_impl_CircularMinor, r_impl_CircularMinor, p_NetOk n h.hn, h.ok, hci, h.resp, Option.bind_some, Bool.not_true, cond_false]
  generalize hbd : r_impl_CircularMinor_L0 e_impl_NetOk e_impl_IsCircular e_impl_response e_impl_circular e_impl_RatioOf N0 = body
  rw [hM]
  simp only [iterK, ← hbd, r_impl_CircularMinor_L0, List.length_cons, List.length_nil, Nat.zero_add, Nat.reduceAdd]
  have d1 : decide ((0 : Int) < ((2 : Nat) : Int)) = true := by decide
  have d2 : decide (wr (0 + 1) < ((2 : Nat) : Int)) = true := by decide
  have d3 : decide (wr (wr (0 + 1) + 1) < ((2 : Nat) : Int)) = false := by decide
  simp only [d1, d2, d3, cond_true, cond_false, w1, w2, e_impl_circular, r_impl_circular, hdm, List.length_cons, List.length_nil, Nat.zero_add, Nat.reduceAdd, t1, p_Ratio (show Q.natAbs ≤ 1000000000000000000 by omega) (show 1 ≤ dOf n L inn * dOf n L inn by omega) (by omega), Option.bind_some]
end

/-- A disk's wires. -/
structure DiskW (l : List W3) (i : Nat) : Prop where
  wok : Wok 5 6 l
  sp : ∀ j : Nat, j < i → ∃ w, ((j : Int), (4 : Int), w) ∈ l
  only : ∀ e ∈ l, e.2.1 = 4 ∨ (e.1 = 0 ∧ e.2.1 = 1) ∨ (e.1 = 1 ∧ e.2.1 = 2) ∨ (e.1 = 2 ∧ e.2.1 = 3) ∨ (e.1 = 0 ∧ e.2.1 = 3)
  len : l.length ≤ 2 * i

theorem DiskW.spoke {l : List W3} {i : Nat} (h : DiskW l i) (hi : i < 4) {w : Int} (hw : 1 ≤ w ∧ w ≤ 6) : Wok 5 6 (setL l (i : Int) 4 w) ∧ (∀ j : Nat, j < i + 1 → ∃ w', ((j : Int), (4 : Int), w') ∈ setL l (i : Int) 4 w) ∧
    (∀ e ∈ setL l (i : Int) 4 w, e.2.1 = 4 ∨ (e.1 = 0 ∧ e.2.1 = 1) ∨ (e.1 = 1 ∧ e.2.1 = 2) ∨ (e.1 = 2 ∧ e.2.1 = 3) ∨ (e.1 = 0 ∧ e.2.1 = 3)) ∧ (setL l (i : Int) 4 w).length ≤ 2 * i + 1 := by
  refine ⟨h.wok.set (by omega) (by omega) (by omega) hw, fun j hj => ?_, fun e he => ?_, by have := setL_len l (i : Int) 4 w; have := h.len; omega⟩
  · by_cases e : j = i
    · subst e; exact ⟨w, mem_setL.2 (.inl rfl)⟩
    · obtain ⟨w', hw'⟩ := h.sp j (by omega)
      exact ⟨w', mem_setL.2 (.inr ⟨hw', by simp only; omega⟩)⟩
  · rcases mem_setL.1 he with rfl | ⟨he, _⟩
    · exact .inl rfl
    · exact h.only e he

theorem makeDisk_ok {A : Option (Nat × Obj)} {v : Value} (hc : CodeOk A v) : ∃ l, e_spec_MakeDisk A (v, ()) = some (5, 4, 1, l) ∧ DiskW l 4 := by
  obtain ⟨y, e, g⟩ := new_ok hc
  simp only [e_spec_MakeDisk, r_spec_MakeDisk, e, Option.bind_some]
  refine iter_while (Q := fun (o : Option TNet) => ∃ l, o = some (5, 4, 1, l) ∧ DiskW l 4) (p := fun s : TNet × CurV × TNet × Int × Unit => s.1 = (0, 0, 0, []) ∧ CurGood A s.2.1 ∧ ∃ (l : List W3) (i : Nat), i ≤ 4 ∧ s.2.2.2.1 = (i : Int) ∧ s.2.2.1 = (5, 4, 1, l) ∧ DiskW l i) (mu := fun s => 4 - s.2.2.2.1.toNat) ?_ N0 (((0, 0, 0, []) : TNet), y, ((5, 4, 1, []) : TNet), (0 : Int), ())
    ⟨rfl, g, [], 0, by omega, rfl, rfl, ⟨Wok.nil, fun j hj => by omega, fun e he => by simp at he, by simp⟩⟩ (by have := N0_big; show 4 - _ < N0; omega)
  rintro ⟨z, y, q, iz, u⟩ kc ⟨h1, g, l, i, hi4, h2, h3, hD⟩ hk
  simp only at h1 g h2 h3
  subst h1 h2 h3
  simp only [r_spec_MakeDisk_L0]
  by_cases hi : i < 4
  · have l1 : decide ((i : Int) < 4) = true := by rw [decide_eq_true_eq]; omega
    obtain ⟨y1, x, e1, g1, x0, x1⟩ := below_ok g (n := 4) (by omega) (by omega)
    obtain ⟨y2, b, e2, g2⟩ := once_ok g1 (n := 2) (by omega) (by omega)
    obtain ⟨y3, t, e3, g3, t0, t1⟩ := below_ok g2 (n := 4) (by omega) (by omega)
    have w1 : wr (1 + x) = 1 + x := wr_id (by omega) (by omega)
    have w2 : wr (1 + t) = 1 + t := wr_id (by omega) (by omega)
    have w3 : wr ((i : Int) + 1) = ((i + 1 : Nat) : Int) := by rw [wr_id (by omega) (by omega)]; omega
    have hlen := hD.len
    have s1 := s_PutR l (i : Int) 4 (1 + x) (by omega)
    have lo1 : loI (i : Int) 4 = i := by unfold loI; rw [if_neg (by omega)]
    have hi1 : hiI (i : Int) 4 = 4 := by unfold hiI; rw [if_pos (by omega)]
    rw [lo1, hi1] at s1
    obtain ⟨k1, k2, k3, k4⟩ := hD.spoke hi (w := 1 + x) ⟨by omega, by omega⟩
    simp only [l1, cond_true, e1, Option.bind_some, w1, s1, e2, w3]
    cases b with
    | false =>
      simp only [cond_false]
      exact hk (_, y2, (5, 4, 1, setL l (i : Int) 4 (1 + x)), ((i + 1 : Nat) : Int), ()) ⟨rfl, g2, _, i + 1, by omega, rfl, rfl, ⟨k1, k2, k3, by omega⟩⟩ (by show 4 - ((i + 1 : Nat) : Int).toNat < 4 - ((i : Nat) : Int).toNat; omega)
    | true =>
      have s2 := s_PutR (setL l (i : Int) 4 (1 + x)) (i : Int) (Int.tmod ((i + 1 : Nat) : Int) 4) (1 + t) (by omega)
      simp only [cond_true, e3, Option.bind_some, w2, s2]
      -- the rim
      have rim : ∃ a b : Int, loI (i : Int) (Int.tmod ((i + 1 : Nat) : Int) 4) = a ∧ hiI (i : Int) (Int.tmod ((i + 1 : Nat) : Int) 4) = b ∧ ((a = 0 ∧ b = 1) ∨ (a = 1 ∧ b = 2) ∨ (a = 2 ∧ b = 3) ∨ (a = 0 ∧ b = 3)) := by
        rcases (show i = 0 ∨ i = 1 ∨ i = 2 ∨ i = 3 by omega) with rfl | rfl | rfl | rfl
        · exact ⟨0, 1, by decide, by decide, by omega⟩
        · exact ⟨1, 2, by decide, by decide, by omega⟩
        · exact ⟨2, 3, by decide, by decide, by omega⟩
        · exact ⟨0, 3, by decide, by decide, by omega⟩
      obtain ⟨a, b, r1, r2, r3⟩ := rim
      rw [r1, r2]
      have sl := setL_len (setL l (i : Int) 4 (1 + x)) a b (1 + t)
      refine hk (_, y3, (5, 4, 1, setL (setL l (i : Int) 4 (1 + x)) a b (1 + t)), ((i + 1 : Nat) : Int), ()) ⟨rfl, g3, _, i + 1, by omega, rfl, rfl, ⟨k1.set (by omega) (by omega) (by omega) ⟨by omega, by omega⟩, fun j hj => ?_, fun e he => ?_, by omega⟩⟩ (by show 4 - ((i + 1 : Nat) : Int).toNat < 4 - ((i : Nat) : Int).toNat; omega)
      · obtain ⟨w', hw'⟩ := k2 j hj
        exact ⟨w', mem_setL.2 (.inr ⟨hw', by simp only; omega⟩)⟩
      · rcases mem_setL.1 he with rfl | ⟨he, _⟩
        · right; exact r3
        · exact k3 e he
  · have l1 : decide ((i : Int) < 4) = false := by rw [decide_eq_false_iff_not]; omega
    have ei : i = 4 := by omega
    subst ei
    simp only [l1, cond_false]
    exact ⟨l, rfl, hD⟩

/-- A product of four on a rim. -/
theorem rim_nn {c1 c2 W a b c d : Int} (h1 : 0 ≤ c1 ∧ c1 ≤ 6) (h2 : 0 ≤ c2 ∧ c2 ≤ 6) (hW : 1 ≤ W ∧ W ≤ 1000) (ha : 0 ≤ a ∧ a ≤ 6) (hb : 0 ≤ b ∧ b ≤ 6) (hc : 0 ≤ c ∧ c ≤ 6) (hd : 0 ≤ d ∧ d ≤ 6) {T1 T2 T3 T4 : Int}
    (e1 : T1 = -(c1 * W + a * b)) (e2 : T2 = -(c2 * W + c * d)) (e3 : T3 = -(a * c)) (e4 : T4 = -(b * d)) : 0 ≤ T1 * T2 - T3 * T4 ∧ T1 * T2 - T3 * T4 ≤ 1000000000000 := by
  have x1 := mulC (x := c1) (y := W) (A := 6) (B := 1000) h1 (by omega)
  have x2 := mulC (x := c2) (y := W) (A := 6) (B := 1000) h2 (by omega)
  have y1 := mulC (x := a) (y := b) (A := 6) (B := 6) ha hb
  have y2 := mulC (x := c) (y := d) (A := 6) (B := 6) hc hd
  have y3 := mulC (x := a) (y := c) (A := 6) (B := 6) ha hc
  have y4 := mulC (x := b) (y := d) (A := 6) (B := 6) hb hd
  have z1 := mulC (x := c1 * W) (y := c2 * W) (A := 6000) (B := 6000) (by omega) (by omega)
  have z2 := mulC (x := c1 * W) (y := c * d) (A := 6000) (B := 36) (by omega) (by omega)
  have z3 := mulC (x := a * b) (y := c2 * W) (A := 36) (B := 6000) (by omega) (by omega)
  have e : T1 * T2 - T3 * T4 = (c1 * W) * (c2 * W) + (c1 * W) * (c * d) + (a * b) * (c2 * W) := by rw [e1, e2, e3, e4]; grind
  omega

theorem law_FnDisks (A : Option (Nat × Obj)) (v : Value) (hc : CodeOk A v) : e_laws_FnDisks A (v, ()) = some true := by
  obtain ⟨p, len, c, rfl, _⟩ := id hc
  simp only [e_laws_FnDisks, r_laws_FnDisks, rawLen, Option.bind_some]
  by_cases hlen : (len : Int) > 1048576
  · simp only [hlen, decide_true, cond_true]
  simp only [hlen, decide_false, cond_false]
  obtain ⟨l, e1, hD⟩ := makeDisk_ok hc
  have hok : netok ((5, 4, 1, l) : TNet) = true := by
    refine netok_of (m := 5) rfl (by omega) (by omega) (by show (1 : Int) ≤ 4; omega) (by show (4 : Int) ≤ 5; omega) (by show (1 : Int) ≤ 1; omega) (by show (1 : Int) ≤ 1000; omega) (hD.wok.up (by omega)) fun u h0 h1 => ?_
    have h1 : u < 5 := h1
    obtain ⟨w0, m0⟩ := hD.sp 0 (by omega)
    have r4 : Rc l 4 := Rc.ab (e := (((0 : Nat) : Int), 4, w0)) m0 .zero
    by_cases e : u = 4
    · rw [e]; exact r4
    · obtain ⟨j, rfl⟩ : ∃ j : Nat, u = j := ⟨u.toNat, by omega⟩
      obtain ⟨w, mw⟩ := hD.sp j (by omega)
      exact Rc.ba (e := ((j : Int), 4, w)) mw r4
  have hl : Sm.sm B0 l := hD.wok.sm (by omega) (by omega) (by have := hD.len; omega)
  have h0 : Sm.sm B0 ((5, 4, 1, l) : TNet) := ⟨(⟨by omega, by omega⟩ : Sm.sm B0 (5 : Int)), (⟨by omega, by omega⟩ : Sm.sm B0 (4 : Int)), (⟨by omega, by omega⟩ : Sm.sm B0 (1 : Int)), hl⟩
  obtain ⟨m, E, L, inn, h⟩ := nk_of _ (up_net B01 h0) hok
  have em : m = 5 := by have := h.hm; simp only at this; omega
  have eE : E = 4 := by have := h.he; simp only at this; omega
  subst em eE
  have ei : inn = [4] := by
    have l := h.len_inn
    match inn, l with
    | [x], _ =>
      have := h.mem_inn.1 (show x ∈ [x] by simp)
      have : x = 4 := by omega
      rw [this]
    | [], l => simp at l
    | _ :: _ :: _, l => simp at l
  subst ei
  have lk := h.lk
  -- the entries
  have ent : ∀ i j : Int, (0 ≤ i ∧ i < 5) → (0 ≤ j ∧ j < 5) → i ≠ j → at2 L i j = -wbt l i j := fun i j hi hj hij => by rw [lk.a2 (by omega) (by omega), if_neg hij]
  have wb : ∀ i j : Int, 0 ≤ wbt l i j ∧ wbt l i j ≤ 6 := by
    intro i j
    refine ⟨(wbt_bd h.hw i j).1, ?_⟩
    unfold wbt
    split
    · omega
    · split
      · rename_i x hx; exact (hD.wok.w x (List.mem_of_find?_eq_some hx)).2
      · omega
  have dia : ∀ i j : Int, i < j → (i = 0 ∧ j = 2) ∨ (i = 1 ∧ j = 3) → wbt l i j = 0 := by
    intro i j hij hd
    apply Classical.byContradiction
    intro hz
    have := hD.only _ ((wbt_mem hD.wok.srt hij hz).1 rfl)
    simp only at this; omega
  have W : 1 ≤ at2 L 4 4 ∧ at2 L 4 4 ≤ 1000 := by
    have a := lk.a2 (i := 4) (j := 4) (by omega) (by omega)
    rw [if_pos rfl] at a
    rw [a]
    have := wAt_le h.srt h.inw h.m5 h.hw (4 : Int)
    have q := wAt_pos' h.ok (v := (4 : Int)) (by omega) (by show (4 : Int) < 5; omega)
    exact ⟨q, this.2⟩
  have T : ∀ i j : Nat, i < 4 → j < 4 → i ≠ j → topF L [4] i j = -(wbt l (i : Int) (j : Int) * at2 L 4 4 + wbt l (i : Int) 4 * wbt l (j : Int) 4) := by
    intro i j hi hj hij
    simp only [topF, detZ2]
    rw [ent (i : Int) (j : Int) (by omega) (by omega) (by omega), ent (i : Int) 4 (by omega) (by omega) (by omega), ent 4 (j : Int) (by omega) (by omega) (by omega), wbt_comm l 4 (j : Int)]
    grind
  have D02 : topF L [4] 0 2 = -(wbt l 0 4 * wbt l 2 4) ∧ topF L [4] 2 0 = -(wbt l 2 4 * wbt l 0 4) := by
    have a := T 0 2 (by omega) (by omega) (by omega)
    have b := T 2 0 (by omega) (by omega) (by omega)
    have z := dia 0 2 (by omega) (.inl ⟨rfl, rfl⟩)
    have z' : wbt l 2 0 = 0 := by rw [wbt_comm]; exact z
    rw [a, b]
    show -(wbt l 0 2 * at2 L 4 4 + wbt l 0 4 * wbt l 2 4) = _ ∧ -(wbt l 2 0 * at2 L 4 4 + wbt l 2 4 * wbt l 0 4) = _
    rw [z, z']; simp
  have D13 : topF L [4] 1 3 = -(wbt l 1 4 * wbt l 3 4) ∧ topF L [4] 3 1 = -(wbt l 3 4 * wbt l 1 4) := by
    have a := T 1 3 (by omega) (by omega) (by omega)
    have b := T 3 1 (by omega) (by omega) (by omega)
    have z := dia 1 3 (by omega) (.inr ⟨rfl, rfl⟩)
    have z' : wbt l 3 1 = 0 := by rw [wbt_comm]; exact z
    rw [a, b]
    show -(wbt l 1 3 * at2 L 4 4 + wbt l 1 4 * wbt l 3 4) = _ ∧ -(wbt l 3 1 * at2 L 4 4 + wbt l 3 4 * wbt l 1 4) = _
    rw [z, z']; simp
  have one : ∀ i j : Nat, i < 4 → j < 4 → i ≠ j → circF [(i : Int)] [(j : Int)] = true → ∃ v : Int × Int, e_impl_IsCircular (4, [(i : Int)], [(j : Int)], ()) = some true ∧ e_impl_CircularMinor ((5, 4, 1, l), [(i : Int)], [(j : Int)], ()) = some (v, true) ∧ ¬ v.1 < 0 := by
    intro i j hi hj hij hcf
    have hci : e_impl_IsCircular (4, [(i : Int)], [(j : Int)], ()) = some true := by rw [circF_eq _ _ (by simp) (by simp), hcf]
    obtain ⟨v, v1, v2⟩ := h.p_CM1 (by omega) hi hj hij hci
    exact ⟨v, hci, v1, v2⟩
  have two : ∀ a b c e : Nat, a < 4 → b < 4 → c < 4 → e < 4 → circF [(a : Int), (b : Int)] [(c : Int), (e : Int)] = true → (0 ≤ topF L [4] a c * topF L [4] b e - topF L [4] a e * topF L [4] b c ∧ topF L [4] a c * topF L [4] b e - topF L [4] a e * topF L [4] b c ≤ 1000000000000) →
      ∃ v : Int × Int, e_impl_IsCircular (4, [(a : Int), (b : Int)], [(c : Int), (e : Int)], ()) = some true ∧ e_impl_CircularMinor ((5, 4, 1, l), [(a : Int), (b : Int)], [(c : Int), (e : Int)], ()) = some (v, true) ∧ ¬ v.1 < 0 := by
    intro a b c e ha hb hc he hcf hq
    have hci : e_impl_IsCircular (4, [(a : Int), (b : Int)], [(c : Int), (e : Int)], ()) = some true := by rw [circF_eq _ _ (by simp) (by simp), hcf]
    obtain ⟨v, v1, v2⟩ := h.p_CM2 (by omega) (by omega) ha hb hc he hci hq.1 hq.2
    exact ⟨v, hci, v1, v2⟩
  have good : ∀ x ∈ ([[[0], [1]], [[0], [2]], [[0], [3]], [[1], [0]], [[1], [2]], [[1], [3]], [[2], [0]], [[2], [1]], [[2], [3]], [[3], [0]], [[3], [1]], [[3], [2]], [[0, 1], [3, 2]], [[1, 2], [0, 3]], [[2, 3], [1, 0]], [[3, 0], [2, 1]]] : List (List (List Int))),
      ∃ (p q : List Int) (v : Int × Int), x = [p, q] ∧ e_impl_IsCircular (4, p, q, ()) = some true ∧ e_impl_CircularMinor ((5, 4, 1, l), p, q, ()) = some (v, true) ∧ ¬ v.1 < 0 := by
    intro x hx
    simp only [List.mem_cons, List.not_mem_nil, or_false] at hx
    rcases hx with rfl | rfl | rfl | rfl | rfl | rfl | rfl | rfl | rfl | rfl | rfl | rfl | rfl | rfl | rfl | rfl
    · exact ⟨_, _, _, rfl, (one 0 1 (by omega) (by omega) (by omega) (by decide +kernel)).choose_spec⟩
    · exact ⟨_, _, _, rfl, (one 0 2 (by omega) (by omega) (by omega) (by decide +kernel)).choose_spec⟩
    · exact ⟨_, _, _, rfl, (one 0 3 (by omega) (by omega) (by omega) (by decide +kernel)).choose_spec⟩
    · exact ⟨_, _, _, rfl, (one 1 0 (by omega) (by omega) (by omega) (by decide +kernel)).choose_spec⟩
    · exact ⟨_, _, _, rfl, (one 1 2 (by omega) (by omega) (by omega) (by decide +kernel)).choose_spec⟩
    · exact ⟨_, _, _, rfl, (one 1 3 (by omega) (by omega) (by omega) (by decide +kernel)).choose_spec⟩
    · exact ⟨_, _, _, rfl, (one 2 0 (by omega) (by omega) (by omega) (by decide +kernel)).choose_spec⟩
    · exact ⟨_, _, _, rfl, (one 2 1 (by omega) (by omega) (by omega) (by decide +kernel)).choose_spec⟩
    · exact ⟨_, _, _, rfl, (one 2 3 (by omega) (by omega) (by omega) (by decide +kernel)).choose_spec⟩
    · exact ⟨_, _, _, rfl, (one 3 0 (by omega) (by omega) (by omega) (by decide +kernel)).choose_spec⟩
    · exact ⟨_, _, _, rfl, (one 3 1 (by omega) (by omega) (by omega) (by decide +kernel)).choose_spec⟩
    · exact ⟨_, _, _, rfl, (one 3 2 (by omega) (by omega) (by omega) (by decide +kernel)).choose_spec⟩
    · refine ⟨_, _, _, rfl, (two 0 1 3 2 (by omega) (by omega) (by omega) (by omega) (by decide +kernel) ?_).choose_spec⟩
      exact rim_nn (wb 0 3) (wb 1 2) W (wb 0 4) (wb 3 4) (wb 2 4) (wb 1 4) (T 0 3 (by omega) (by omega) (by omega)) ((T 1 2 (by omega) (by omega) (by omega)).trans (by grind)) (D02.1.trans (by grind)) (D13.1.trans (by grind))
    · refine ⟨_, _, _, rfl, (two 1 2 0 3 (by omega) (by omega) (by omega) (by omega) (by decide +kernel) ?_).choose_spec⟩
      exact rim_nn (wb 1 0) (wb 2 3) W (wb 1 4) (wb 0 4) (wb 3 4) (wb 2 4) (T 1 0 (by omega) (by omega) (by omega)) ((T 2 3 (by omega) (by omega) (by omega)).trans (by grind)) (D13.1.trans (by grind)) (D02.2.trans (by grind))
    · refine ⟨_, _, _, rfl, (two 2 3 1 0 (by omega) (by omega) (by omega) (by omega) (by decide +kernel) ?_).choose_spec⟩
      exact rim_nn (wb 2 1) (wb 3 0) W (wb 2 4) (wb 1 4) (wb 0 4) (wb 3 4) (T 2 1 (by omega) (by omega) (by omega)) ((T 3 0 (by omega) (by omega) (by omega)).trans (by grind)) (D02.2.trans (by grind)) (D13.2.trans (by grind))
    · refine ⟨_, _, _, rfl, (two 3 0 2 1 (by omega) (by omega) (by omega) (by omega) (by decide +kernel) ?_).choose_spec⟩
      exact rim_nn (wb 3 2) (wb 0 1) W (wb 3 4) (wb 2 4) (wb 1 4) (wb 0 4) (T 3 2 (by omega) (by omega) (by omega)) ((T 0 1 (by omega) (by omega) (by omega)).trans (by grind)) (D13.2.trans (by grind)) (D02.1.trans (by grind))
  simp only [e1, p_Pairs4, Option.bind_some]
  generalize hX : ([[[0], [1]], [[0], [2]], [[0], [3]], [[1], [0]], [[1], [2]], [[1], [3]], [[2], [0]], [[2], [1]], [[2], [3]], [[3], [0]], [[3], [1]], [[3], [2]], [[0, 1], [3, 2]], [[1, 2], [0, 3]], [[2, 3], [1, 0]], [[3, 0], [2, 1]]] : List (List (List Int))) = X at *
  have hXl : X.length = 16 := by rw [← hX]; rfl
  have d16 : decide ((X.length : Int) = 16) = true := by rw [decide_eq_true_eq]; omega
  simp only [d16, Bool.not_true, cond_false]
  refine iter_rule (R := Bool) (fun o => o = some true) X (fun (_ : Unit) i => ((5, 4, 1, l), X, (X.length : Int), i, ())) (fun _ _ => True) (fun st i x kc _ hx hi hk => ?_) (fun st kc _ => ?_) (N := N0) (by have := N0_big; omega) () trivial
  · obtain ⟨p, q, v, rfl, g1, g2, g3⟩ := good x (List.mem_of_getElem? hx)
    have d2 : decide ((([p, q].length : Nat) : Int) = 2) = true := by simp
    have q0 : getI [p, q] 0 = some p := rfl
    have q1 : getI [p, q] 1 = some q := rfl
    have dn : decide (v.1 < 0) = false := by rw [decide_eq_false_iff_not]; exact g3
    simp only [r_laws_FnDisks_L0, lt_len, hi, decide_true, cond_true, getI_nat, hx, Option.bind_some, d2, q0, q1, g1, g2, dn, Bool.not_true, cond_false, wr_succ hi (show X.length ≤ 9223372036854775807 by omega)]
    exact hk () trivial
  · simp only [r_laws_FnDisks_L0, not_lt_self, cond_false]

end Go.Sx.R
namespace Go.Sx.R
open Go Go.Sx

/-- The two nodes beside a node. -/
def fstN (i : Nat) : Nat := if i = 0 then 1 else 0
def sndN (i : Nat) : Nat := if i = 0 then 2 else if i = 1 then 2 else 1

theorem nb {K i : Nat} (hK : 3 ≤ K) (_hi : i < K) : fstN i < K ∧ sndN i < K := by unfold fstN sndN; split <;> (try split) <;> omega

end Go.Sx.R
