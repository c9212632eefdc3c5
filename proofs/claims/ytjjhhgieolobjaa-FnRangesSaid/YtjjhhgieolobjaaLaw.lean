/- The law in plain words. Conditions: none. -/
import Derived.Test.YtjjhhgieolobjaaRes
namespace Go.Sx.R
open Go Go.Sx
def r_spec_l01In (_N : Nat) (a0 : Int) (a1 : Int) (a2 : Int) : Option Bool :=
  (cond (decide (a0 ≥ a1))
    (some (decide (a0 ≤ a2)))
    (some false))
noncomputable def e_spec_l01In (a : Int × Int × Int × Unit) : Option Bool := r_spec_l01In N0 a.1 a.2.1 a.2.2.1
def r_spec_l03Has_L0 (_N : Nat) (s : (Int × ((List Int) × (Int × (Int × Unit))))) (kc ke : (Int × ((List Int) × (Int × (Int × Unit)))) → Option Bool) : Option Bool :=
  (cond (decide (s.2.2.2.1 < s.2.2.1))
    (Option.bind (getI s.2.1 s.2.2.2.1) fun (x1 : Int) =>
    (cond (decide (x1 = s.1))
      (some true)
      (kc (s.1, (s.2.1, (s.2.2.1, ((wr (s.2.2.2.1 + (1 : Int))), ())))))))
    (ke (s.1, (s.2.1, (s.2.2.1, (s.2.2.2.1, ()))))))
def r_spec_l03Has (N : Nat) (a0 : (List Int)) (a1 : Int) : Option Bool :=
  (iterK (r_spec_l03Has_L0 N) N (a1, (a0, ((((List.length a0) : Nat) : Int), ((0 : Int), ())))) fun (_s1 : (Int × ((List Int) × (Int × (Int × Unit))))) =>
  (some false))
noncomputable def e_spec_l03Has (a : (List Int) × Int × Unit) : Option Bool := r_spec_l03Has N0 a.1 a.2.1
def r_spec_l03Reach_L2 (c_spec_l03Has : ((List Int) × Int × Unit → Option Bool)) (_N : Nat) (s : ((List (Int × (Int × Int))) × ((List Int) × (Int × ((List (Int × (Int × Int))) × (Int × (Int × Unit))))))) (kc ke : ((List (Int × (Int × Int))) × ((List Int) × (Int × ((List (Int × (Int × Int))) × (Int × (Int × Unit)))))) → Option (List Int)) : Option (List Int) :=
  (cond (decide (s.2.2.2.2.2.1 < s.2.2.2.2.1))
    (Option.bind (getI s.2.2.2.1 s.2.2.2.2.2.1) fun (x1 : (Int × (Int × Int))) =>
    (Option.bind (getI s.2.1 s.2.2.1) fun (x2 : Int) =>
    (cond (decide (x1.1 = x2))
      (Option.bind (c_spec_l03Has (s.2.1, (x1.2.1, ()))) fun (x3 : Bool) =>
      (cond (!x3)
        (cond (Nat.ble ((List.length s.2.1) + (List.length (x1.2.1 :: ([] : List Int)))) 17179869184)
          (Option.bind (getI (s.2.1 ++ (x1.2.1 :: ([] : List Int))) s.2.2.1) fun (x4 : Int) =>
          (cond (decide (x1.2.1 = x4))
            (Option.bind (c_spec_l03Has ((s.2.1 ++ (x1.2.1 :: ([] : List Int))), (x1.1, ()))) fun (x5 : Bool) =>
            (cond (!x5)
              (cond (Nat.ble ((List.length (s.2.1 ++ (x1.2.1 :: ([] : List Int)))) + (List.length (x1.1 :: ([] : List Int)))) 17179869184)
                (kc (s.1, (((s.2.1 ++ (x1.2.1 :: ([] : List Int))) ++ (x1.1 :: ([] : List Int))), (s.2.2.1, (s.2.2.2.1, (s.2.2.2.2.1, ((wr (s.2.2.2.2.2.1 + (1 : Int))), ())))))))
                none)
              (kc (s.1, ((s.2.1 ++ (x1.2.1 :: ([] : List Int))), (s.2.2.1, (s.2.2.2.1, (s.2.2.2.2.1, ((wr (s.2.2.2.2.2.1 + (1 : Int))), ())))))))))
            (kc (s.1, ((s.2.1 ++ (x1.2.1 :: ([] : List Int))), (s.2.2.1, (s.2.2.2.1, (s.2.2.2.2.1, ((wr (s.2.2.2.2.2.1 + (1 : Int))), ())))))))))
          none)
        (Option.bind (getI s.2.1 s.2.2.1) fun (x6 : Int) =>
        (cond (decide (x1.2.1 = x6))
          (Option.bind (c_spec_l03Has (s.2.1, (x1.1, ()))) fun (x7 : Bool) =>
          (cond (!x7)
            (cond (Nat.ble ((List.length s.2.1) + (List.length (x1.1 :: ([] : List Int)))) 17179869184)
              (kc (s.1, ((s.2.1 ++ (x1.1 :: ([] : List Int))), (s.2.2.1, (s.2.2.2.1, (s.2.2.2.2.1, ((wr (s.2.2.2.2.2.1 + (1 : Int))), ())))))))
              none)
            (kc (s.1, (s.2.1, (s.2.2.1, (s.2.2.2.1, (s.2.2.2.2.1, ((wr (s.2.2.2.2.2.1 + (1 : Int))), ())))))))))
          (kc (s.1, (s.2.1, (s.2.2.1, (s.2.2.2.1, (s.2.2.2.2.1, ((wr (s.2.2.2.2.2.1 + (1 : Int))), ())))))))))))
      (Option.bind (getI s.2.1 s.2.2.1) fun (x8 : Int) =>
      (cond (decide (x1.2.1 = x8))
        (Option.bind (c_spec_l03Has (s.2.1, (x1.1, ()))) fun (x9 : Bool) =>
        (cond (!x9)
          (cond (Nat.ble ((List.length s.2.1) + (List.length (x1.1 :: ([] : List Int)))) 17179869184)
            (kc (s.1, ((s.2.1 ++ (x1.1 :: ([] : List Int))), (s.2.2.1, (s.2.2.2.1, (s.2.2.2.2.1, ((wr (s.2.2.2.2.2.1 + (1 : Int))), ())))))))
            none)
          (kc (s.1, (s.2.1, (s.2.2.1, (s.2.2.2.1, (s.2.2.2.2.1, ((wr (s.2.2.2.2.2.1 + (1 : Int))), ())))))))))
        (kc (s.1, (s.2.1, (s.2.2.1, (s.2.2.2.1, (s.2.2.2.2.1, ((wr (s.2.2.2.2.2.1 + (1 : Int))), ()))))))))))))
    (ke (s.1, (s.2.1, (s.2.2.1, (s.2.2.2.1, (s.2.2.2.2.1, (s.2.2.2.2.2.1, ()))))))))
def r_spec_l03Reach_L0 (c_spec_l03Has : ((List Int) × Int × Unit → Option Bool)) (N : Nat) (s : ((List (Int × (Int × Int))) × ((List Int) × (Int × Unit)))) (kc ke : ((List (Int × (Int × Int))) × ((List Int) × (Int × Unit))) → Option (List Int)) : Option (List Int) :=
  (cond (decide (s.2.2.1 < (((List.length s.2.1) : Nat) : Int)))
    (iterK (r_spec_l03Reach_L2 c_spec_l03Has N) N (s.1, (s.2.1, (s.2.2.1, (s.1, ((((List.length s.1) : Nat) : Int), ((0 : Int), ())))))) fun (s1 : ((List (Int × (Int × Int))) × ((List Int) × (Int × ((List (Int × (Int × Int))) × (Int × (Int × Unit))))))) =>
    (kc (s1.1, (s1.2.1, ((wr (s1.2.2.1 + (1 : Int))), ())))))
    (ke (s.1, (s.2.1, (s.2.2.1, ())))))
def r_spec_l03Reach (c_spec_l03Has : ((List Int) × Int × Unit → Option Bool)) (N : Nat) (a0 : (List (Int × (Int × Int)))) (a1 : Int) : Option (List Int) :=
  (iterK (r_spec_l03Reach_L0 c_spec_l03Has N) N (a0, ((a1 :: ([] : List Int)), ((0 : Int), ()))) fun (s1 : ((List (Int × (Int × Int))) × ((List Int) × (Int × Unit)))) =>
  (some s1.2.1))
noncomputable def e_spec_l03Reach (a : (List (Int × Int × Int)) × Int × Unit) : Option (List Int) := r_spec_l03Reach e_spec_l03Has N0 a.1 a.2.1
def r_spec_NetOk_L0 (c_spec_l01In : (Int × Int × Int × Unit → Option Bool)) (_c_spec_l03Reach : ((List (Int × Int × Int)) × Int × Unit → Option (List Int))) (_N : Nat) (s : ((Int × (Int × (Int × (List (Int × (Int × Int)))))) × ((List (Int × (Int × Int))) × (Int × (Int × Unit))))) (kc ke : ((Int × (Int × (Int × (List (Int × (Int × Int)))))) × ((List (Int × (Int × Int))) × (Int × (Int × Unit)))) → Option Bool) : Option Bool :=
  (cond (decide (s.2.2.2.1 < s.2.2.1))
    (Option.bind (getI s.2.1 s.2.2.2.1) fun (x1 : (Int × (Int × Int))) =>
    (Option.bind (c_spec_l01In (x1.1, ((0 : Int), ((wr (s.1.1 - (1 : Int))), ())))) fun (x2 : Bool) =>
    (cond (!x2)
      (some false)
      (Option.bind (c_spec_l01In (x1.2.1, ((wr (x1.1 + (1 : Int))), ((wr (s.1.1 - (1 : Int))), ())))) fun (x3 : Bool) =>
      (cond (!x3)
        (some false)
        (Option.bind (c_spec_l01In (x1.2.2, ((1 : Int), ((200 : Int), ())))) fun (x4 : Bool) =>
        (cond (!x4)
          (some false)
          (cond (decide (s.2.2.2.1 > (0 : Int)))
            (Option.bind (getI s.1.2.2.2 (wr (s.2.2.2.1 - (1 : Int)))) fun (x5 : (Int × (Int × Int))) =>
            (cond (decide (x1.1 < x5.1))
              (some false)
              (Option.bind (getI s.1.2.2.2 (wr (s.2.2.2.1 - (1 : Int)))) fun (x6 : (Int × (Int × Int))) =>
              (cond (decide (x1.1 = x6.1))
                (Option.bind (getI s.1.2.2.2 (wr (s.2.2.2.1 - (1 : Int)))) fun (x7 : (Int × (Int × Int))) =>
                (cond (decide (x1.2.1 ≤ x7.2.1))
                  (some false)
                  (kc (s.1, (s.2.1, (s.2.2.1, ((wr (s.2.2.2.1 + (1 : Int))), ())))))))
                (kc (s.1, (s.2.1, (s.2.2.1, ((wr (s.2.2.2.1 + (1 : Int))), ())))))))))
            (kc (s.1, (s.2.1, (s.2.2.1, ((wr (s.2.2.2.1 + (1 : Int))), ())))))))))))))
    (ke (s.1, (s.2.1, (s.2.2.1, (s.2.2.2.1, ()))))))
def r_spec_NetOk (c_spec_l01In : (Int × Int × Int × Unit → Option Bool)) (c_spec_l03Reach : ((List (Int × Int × Int)) × Int × Unit → Option (List Int))) (N : Nat) (a0 : (Int × (Int × (Int × (List (Int × (Int × Int))))))) : Option Bool :=
  (Option.bind (c_spec_l01In (a0.1, ((1 : Int), ((5 : Int), ())))) fun (x1 : Bool) =>
  (cond (!x1)
    (some false)
    (Option.bind (c_spec_l01In (a0.2.1, ((1 : Int), (a0.1, ())))) fun (x2 : Bool) =>
    (cond (!x2)
      (some false)
      (Option.bind (c_spec_l01In (a0.2.2.1, ((1 : Int), ((1000 : Int), ())))) fun (x3 : Bool) =>
      (cond (!x3)
        (some false)
        (iterK (r_spec_NetOk_L0 c_spec_l01In c_spec_l03Reach N) N (a0, (a0.2.2.2, ((((List.length a0.2.2.2) : Nat) : Int), ((0 : Int), ())))) fun (s4 : ((Int × (Int × (Int × (List (Int × (Int × Int)))))) × ((List (Int × (Int × Int))) × (Int × (Int × Unit))))) =>
        (Option.bind (c_spec_l03Reach (s4.1.2.2.2, ((0 : Int), ()))) fun (x5 : (List Int)) =>
        (some (decide ((((List.length x5) : Nat) : Int) = s4.1.1)))))))))))
noncomputable def e_spec_NetOk (a : (Int × Int × Int × List (Int × Int × Int)) × Unit) : Option Bool := r_spec_NetOk e_spec_l01In e_spec_l03Reach N0 a.1
def r_spec_l03Find_L0 (_N : Nat) (s : (Int × (Int × ((List (Int × (Int × Int))) × (Int × (Int × Unit)))))) (kc ke : (Int × (Int × ((List (Int × (Int × Int))) × (Int × (Int × Unit))))) → Option Int) : Option Int :=
  (cond (decide (s.2.2.2.2.1 < s.2.2.2.1))
    (Option.bind (getI s.2.2.1 s.2.2.2.2.1) fun (x1 : (Int × (Int × Int))) =>
    (cond (decide (x1.1 = (@ite @Int (s.2.1 < s.1) (@Int.decLt s.2.1 s.1) s.2.1 s.1)))
      (cond (decide (x1.2.1 = (@ite @Int (s.2.1 > s.1) (@Int.decLt s.1 s.2.1) s.2.1 s.1)))
        (some s.2.2.2.2.1)
        (kc (s.1, (s.2.1, (s.2.2.1, (s.2.2.2.1, ((wr (s.2.2.2.2.1 + (1 : Int))), ())))))))
      (kc (s.1, (s.2.1, (s.2.2.1, (s.2.2.2.1, ((wr (s.2.2.2.2.1 + (1 : Int))), ()))))))))
    (ke (s.1, (s.2.1, (s.2.2.1, (s.2.2.2.1, (s.2.2.2.2.1, ())))))))
def r_spec_l03Find (N : Nat) (a0 : (List (Int × (Int × Int)))) (a1 : Int) (a2 : Int) : Option Int :=
  (iterK (r_spec_l03Find_L0 N) N (a1, (a2, (a0, ((((List.length a0) : Nat) : Int), ((0 : Int), ()))))) fun (_s1 : (Int × (Int × ((List (Int × (Int × Int))) × (Int × (Int × Unit)))))) =>
  (some (-(1 : Int))))
noncomputable def e_spec_l03Find (a : (List (Int × Int × Int)) × Int × Int × Unit) : Option Int := r_spec_l03Find N0 a.1 a.2.1 a.2.2.1
def r_spec_WeightBetween (c_spec_l03Find : ((List (Int × Int × Int)) × Int × Int × Unit → Option Int)) (_N : Nat) (a0 : (Int × (Int × (Int × (List (Int × (Int × Int))))))) (a1 : Int) (a2 : Int) : Option Int :=
  (Option.bind (c_spec_l03Find (a0.2.2.2, (a1, (a2, ())))) fun (x1 : Int) =>
  (cond (decide (x1 < (0 : Int)))
    (some (0 : Int))
    (cond (decide (a1 = a2))
      (some (0 : Int))
      (Option.bind (getI a0.2.2.2 x1) fun (x2 : (Int × (Int × Int))) =>
      (some x2.2.2)))))
noncomputable def e_spec_WeightBetween (a : (Int × Int × Int × List (Int × Int × Int)) × Int × Int × Unit) : Option Int := r_spec_WeightBetween e_spec_l03Find N0 a.1 a.2.1 a.2.2.1
def r_spec_WeightAt_L0 (_N : Nat) (s : (Int × (Int × ((List (Int × (Int × Int))) × (Int × (Int × Unit)))))) (kc ke : (Int × (Int × ((List (Int × (Int × Int))) × (Int × (Int × Unit))))) → Option Int) : Option Int :=
  (cond (decide (s.2.2.2.2.1 < s.2.2.2.1))
    (Option.bind (getI s.2.2.1 s.2.2.2.2.1) fun (x1 : (Int × (Int × Int))) =>
    (cond (decide (x1.1 = s.1))
      (kc (s.1, ((wr (s.2.1 + x1.2.2)), (s.2.2.1, (s.2.2.2.1, ((wr (s.2.2.2.2.1 + (1 : Int))), ()))))))
      (cond (decide (x1.2.1 = s.1))
        (kc (s.1, ((wr (s.2.1 + x1.2.2)), (s.2.2.1, (s.2.2.2.1, ((wr (s.2.2.2.2.1 + (1 : Int))), ()))))))
        (kc (s.1, (s.2.1, (s.2.2.1, (s.2.2.2.1, ((wr (s.2.2.2.2.1 + (1 : Int))), ())))))))))
    (ke (s.1, (s.2.1, (s.2.2.1, (s.2.2.2.1, (s.2.2.2.2.1, ())))))))
def r_spec_WeightAt (N : Nat) (a0 : (Int × (Int × (Int × (List (Int × (Int × Int))))))) (a1 : Int) : Option Int :=
  (iterK (r_spec_WeightAt_L0 N) N (a1, ((0 : Int), (a0.2.2.2, ((((List.length a0.2.2.2) : Nat) : Int), ((0 : Int), ()))))) fun (s1 : (Int × (Int × ((List (Int × (Int × Int))) × (Int × (Int × Unit)))))) =>
  (some s1.2.1))
noncomputable def e_spec_WeightAt (a : (Int × Int × Int × List (Int × Int × Int)) × Int × Unit) : Option Int := r_spec_WeightAt N0 a.1 a.2.1
def r_spec_l02Turn (_N : Nat) (a0 : Int) (a1 : Int) : Option (Int × Int) :=
  (cond (decide (a1 = (0 : Int)))
    none
    (some (a1, (Int.tmod a0 a1))))
noncomputable def e_spec_l02Turn (a : Int × Int × Unit) : Option (Int × Int) := r_spec_l02Turn N0 a.1 a.2.1
def r_spec_GcdOf_L0 (c_spec_l02Turn : (Int × Int × Unit → Option (Int × Int))) (_N : Nat) (s : (Int × (Int × Unit))) (kc ke : (Int × (Int × Unit)) → Option Int) : Option Int :=
  (cond (!(decide (s.2.1 = (0 : Int))))
    (Option.bind (c_spec_l02Turn (s.1, (s.2.1, ()))) fun (x1 : (Int × Int)) =>
    (kc (x1.1, (x1.2, ()))))
    (ke (s.1, (s.2.1, ()))))
def r_spec_GcdOf (c_spec_l02Turn : (Int × Int × Unit → Option (Int × Int))) (N : Nat) (a0 : Int) (a1 : Int) : Option Int :=
  (cond (decide (a0 < (-(9223372036854775807 : Int))))
    (some (0 : Int))
    (cond (decide (a1 < (-(9223372036854775807 : Int))))
      (some (0 : Int))
      (iterK (r_spec_GcdOf_L0 c_spec_l02Turn N) N ((@ite @Int ((wr ((0 : Int) - a0)) > a0) (@Int.decLt a0 (wr ((0 : Int) - a0))) (wr ((0 : Int) - a0)) a0), ((@ite @Int ((wr ((0 : Int) - a1)) > a1) (@Int.decLt a1 (wr ((0 : Int) - a1))) (wr ((0 : Int) - a1)) a1), ())) fun (s1 : (Int × (Int × Unit))) =>
      (some s1.1))))
noncomputable def e_spec_GcdOf (a : Int × Int × Unit) : Option Int := r_spec_GcdOf e_spec_l02Turn N0 a.1 a.2.1
def r_spec_LaplacianOf_L2 (_c_spec_NetOk : ((Int × Int × Int × List (Int × Int × Int)) × Unit → Option Bool)) (c_spec_WeightAt : ((Int × Int × Int × List (Int × Int × Int)) × Int × Unit → Option Int)) (c_spec_WeightBetween : ((Int × Int × Int × List (Int × Int × Int)) × Int × Int × Unit → Option Int)) (_N : Nat) (s : ((Int × (Int × (Int × (List (Int × (Int × Int)))))) × ((List (List Int)) × (Int × ((List Int) × (Int × Unit)))))) (kc ke : ((Int × (Int × (Int × (List (Int × (Int × Int)))))) × ((List (List Int)) × (Int × ((List Int) × (Int × Unit))))) → Option (List (List Int))) : Option (List (List Int)) :=
  (cond (decide (s.2.2.2.2.1 < s.1.1))
    (cond (decide (s.2.2.1 = s.2.2.2.2.1))
      (Option.bind (c_spec_WeightAt (s.1, (s.2.2.1, ()))) fun (x1 : Int) =>
      (cond (Nat.ble ((List.length s.2.2.2.1) + (List.length (x1 :: ([] : List Int)))) 17179869184)
        (kc (s.1, (s.2.1, (s.2.2.1, ((s.2.2.2.1 ++ (x1 :: ([] : List Int))), ((wr (s.2.2.2.2.1 + (1 : Int))), ()))))))
        none))
      (Option.bind (c_spec_WeightBetween (s.1, (s.2.2.1, (s.2.2.2.2.1, ())))) fun (x2 : Int) =>
      (cond (Nat.ble ((List.length s.2.2.2.1) + (List.length ((wr ((0 : Int) - x2)) :: ([] : List Int)))) 17179869184)
        (kc (s.1, (s.2.1, (s.2.2.1, ((s.2.2.2.1 ++ ((wr ((0 : Int) - x2)) :: ([] : List Int))), ((wr (s.2.2.2.2.1 + (1 : Int))), ()))))))
        none)))
    (ke (s.1, (s.2.1, (s.2.2.1, (s.2.2.2.1, (s.2.2.2.2.1, ())))))))
def r_spec_LaplacianOf_L0 (c_spec_NetOk : ((Int × Int × Int × List (Int × Int × Int)) × Unit → Option Bool)) (c_spec_WeightAt : ((Int × Int × Int × List (Int × Int × Int)) × Int × Unit → Option Int)) (c_spec_WeightBetween : ((Int × Int × Int × List (Int × Int × Int)) × Int × Int × Unit → Option Int)) (N : Nat) (s : ((Int × (Int × (Int × (List (Int × (Int × Int)))))) × ((List (List Int)) × (Int × Unit)))) (kc ke : ((Int × (Int × (Int × (List (Int × (Int × Int)))))) × ((List (List Int)) × (Int × Unit))) → Option (List (List Int))) : Option (List (List Int)) :=
  (cond (decide (s.2.2.1 < s.1.1))
    (iterK (r_spec_LaplacianOf_L2 c_spec_NetOk c_spec_WeightAt c_spec_WeightBetween N) N (s.1, (s.2.1, (s.2.2.1, (([] : List Int), ((0 : Int), ()))))) fun (s1 : ((Int × (Int × (Int × (List (Int × (Int × Int)))))) × ((List (List Int)) × (Int × ((List Int) × (Int × Unit)))))) =>
    (cond (Nat.ble ((List.length s1.2.1) + (List.length (s1.2.2.2.1 :: ([] : List (List Int))))) 17179869184)
      (kc (s1.1, ((s1.2.1 ++ (s1.2.2.2.1 :: ([] : List (List Int)))), ((wr (s1.2.2.1 + (1 : Int))), ()))))
      none))
    (ke (s.1, (s.2.1, (s.2.2.1, ())))))
def r_spec_LaplacianOf (c_spec_NetOk : ((Int × Int × Int × List (Int × Int × Int)) × Unit → Option Bool)) (c_spec_WeightAt : ((Int × Int × Int × List (Int × Int × Int)) × Int × Unit → Option Int)) (c_spec_WeightBetween : ((Int × Int × Int × List (Int × Int × Int)) × Int × Int × Unit → Option Int)) (N : Nat) (a0 : (Int × (Int × (Int × (List (Int × (Int × Int))))))) : Option (List (List Int)) :=
  (Option.bind (c_spec_NetOk (a0, ())) fun (x1 : Bool) =>
  (cond (!x1)
    (some ([] : List (List Int)))
    (iterK (r_spec_LaplacianOf_L0 c_spec_NetOk c_spec_WeightAt c_spec_WeightBetween N) N (a0, (([] : List (List Int)), ((0 : Int), ()))) fun (s2 : ((Int × (Int × (Int × (List (Int × (Int × Int)))))) × ((List (List Int)) × (Int × Unit)))) =>
    (some s2.2.1))))
noncomputable def e_spec_LaplacianOf (a : (Int × Int × Int × List (Int × Int × Int)) × Unit) : Option (List (List Int)) := r_spec_LaplacianOf e_spec_NetOk e_spec_WeightAt e_spec_WeightBetween N0 a.1
def r_spec_l04Det_L0 (c_spec_l04Det : ((List (List Int)) × (List Int) × (List Int) × Unit → Option Int)) (_N : Nat) (s : ((List (List Int)) × ((List Int) × ((List Int) × (Int × (Int × ((List Int) × (Int × (Int × Unit))))))))) (kc ke : ((List (List Int)) × ((List Int) × ((List Int) × (Int × (Int × ((List Int) × (Int × (Int × Unit)))))))) → Option Int) : Option Int :=
  (cond (decide (s.2.2.2.2.2.2.2.1 < s.2.2.2.2.2.2.1))
    (Option.bind (getI s.2.2.2.2.2.1 s.2.2.2.2.2.2.2.1) fun (x1 : Int) =>
    (Option.bind (getI s.2.1 (0 : Int)) fun (x2 : Int) =>
    (Option.bind (getI s.1 x2) fun (x3 : (List Int)) =>
    (Option.bind (getI x3 x1) fun (x4 : Int) =>
    (cond (!(decide (x4 = (0 : Int))))
      (cond (decide ((0 : Int) ≤ s.2.2.2.2.2.2.2.1))
        (cond (decide (s.2.2.2.2.2.2.2.1 ≤ (((List.length s.2.2.1) : Nat) : Int)))
          (cond (Nat.ble ((List.length ([] : List Int)) + (List.length (List.take ((Int.toNat s.2.2.2.2.2.2.2.1) - (Int.toNat (0 : Int))) (List.drop (Int.toNat (0 : Int)) s.2.2.1)))) 17179869184)
            (cond (decide ((0 : Int) ≤ (wr (s.2.2.2.2.2.2.2.1 + (1 : Int)))))
              (cond (decide ((wr (s.2.2.2.2.2.2.2.1 + (1 : Int))) ≤ (((List.length s.2.2.1) : Nat) : Int)))
                (cond (decide ((((List.length s.2.2.1) : Nat) : Int) ≤ (((List.length s.2.2.1) : Nat) : Int)))
                  (cond (Nat.ble ((List.length (([] : List Int) ++ (List.take ((Int.toNat s.2.2.2.2.2.2.2.1) - (Int.toNat (0 : Int))) (List.drop (Int.toNat (0 : Int)) s.2.2.1)))) + (List.length (List.take ((Int.toNat (((List.length s.2.2.1) : Nat) : Int)) - (Int.toNat (wr (s.2.2.2.2.2.2.2.1 + (1 : Int))))) (List.drop (Int.toNat (wr (s.2.2.2.2.2.2.2.1 + (1 : Int)))) s.2.2.1)))) 17179869184)
                    (cond (decide ((1 : Int) ≤ (((List.length s.2.1) : Nat) : Int)))
                      (cond (decide ((((List.length s.2.1) : Nat) : Int) ≤ (((List.length s.2.1) : Nat) : Int)))
                        (Option.bind (c_spec_l04Det (s.1, ((List.take ((Int.toNat (((List.length s.2.1) : Nat) : Int)) - (Int.toNat (1 : Int))) (List.drop (Int.toNat (1 : Int)) s.2.1)), (((([] : List Int) ++ (List.take ((Int.toNat s.2.2.2.2.2.2.2.1) - (Int.toNat (0 : Int))) (List.drop (Int.toNat (0 : Int)) s.2.2.1))) ++ (List.take ((Int.toNat (((List.length s.2.2.1) : Nat) : Int)) - (Int.toNat (wr (s.2.2.2.2.2.2.2.1 + (1 : Int))))) (List.drop (Int.toNat (wr (s.2.2.2.2.2.2.2.1 + (1 : Int)))) s.2.2.1))), ())))) fun (x5 : Int) =>
                        (kc (s.1, (s.2.1, (s.2.2.1, ((wr (s.2.2.2.1 + (wr ((wr (s.2.2.2.2.1 * x4)) * x5)))), ((wr ((0 : Int) - s.2.2.2.2.1)), (s.2.2.2.2.2.1, (s.2.2.2.2.2.2.1, ((wr (s.2.2.2.2.2.2.2.1 + (1 : Int))), ()))))))))))
                        none)
                      none)
                    none)
                  none)
                none)
              none)
            none)
          none)
        none)
      (kc (s.1, (s.2.1, (s.2.2.1, (s.2.2.2.1, ((wr ((0 : Int) - s.2.2.2.2.1)), (s.2.2.2.2.2.1, (s.2.2.2.2.2.2.1, ((wr (s.2.2.2.2.2.2.2.1 + (1 : Int))), ()))))))))))))))
    (ke (s.1, (s.2.1, (s.2.2.1, (s.2.2.2.1, (s.2.2.2.2.1, (s.2.2.2.2.2.1, (s.2.2.2.2.2.2.1, (s.2.2.2.2.2.2.2.1, ()))))))))))
def r_spec_l04Det (c_spec_l04Det : ((List (List Int)) × (List Int) × (List Int) × Unit → Option Int)) (N : Nat) (a0 : (List (List Int))) (a1 : (List Int)) (a2 : (List Int)) : Option Int :=
  (cond (decide ((((List.length a1) : Nat) : Int) = (0 : Int)))
    (some (1 : Int))
    (iterK (r_spec_l04Det_L0 c_spec_l04Det N) N (a0, (a1, (a2, ((0 : Int), ((1 : Int), (a2, ((((List.length a2) : Nat) : Int), ((0 : Int), ())))))))) fun (s1 : ((List (List Int)) × ((List Int) × ((List Int) × (Int × (Int × ((List Int) × (Int × (Int × Unit))))))))) =>
    (some s1.2.2.2.1)))
noncomputable def e_spec_l04Det_n : Nat → ((List (List Int)) × (List Int) × (List Int) × Unit) → Option Int
  | 0, _ => none
  | n + 1, a => r_spec_l04Det (e_spec_l04Det_n n) N0 a.1 a.2.1 a.2.2.1
noncomputable def e_spec_l04Det (a : (List (List Int)) × (List Int) × (List Int) × Unit) : Option Int := e_spec_l04Det_n N0 a
def r_spec_RatioOk (c_spec_l01In : (Int × Int × Int × Unit → Option Bool)) (c_spec_GcdOf : (Int × Int × Unit → Option Int)) (_N : Nat) (a0 : (Int × Int)) : Option Bool :=
  (Option.bind (c_spec_l01In (a0.2, ((1 : Int), ((1000000000000000 : Int), ())))) fun (x1 : Bool) =>
  (cond x1
    (Option.bind (c_spec_l01In (a0.1, ((-(1000000000000000000 : Int)), ((1000000000000000000 : Int), ())))) fun (x2 : Bool) =>
    (cond x2
      (Option.bind (c_spec_GcdOf (a0.1, (a0.2, ()))) fun (x3 : Int) =>
      (some (decide (x3 = (1 : Int)))))
      (some false)))
    (some false)))
noncomputable def e_spec_RatioOk (a : (Int × Int) × Unit) : Option Bool := r_spec_RatioOk e_spec_l01In e_spec_GcdOf N0 a.1
def r_spec_l04Without_L0 (c_spec_l03Has : ((List Int) × Int × Unit → Option Bool)) (_N : Nat) (s : (Int × ((List Int) × ((List Int) × (Int × Unit))))) (kc ke : (Int × ((List Int) × ((List Int) × (Int × Unit)))) → Option (List Int)) : Option (List Int) :=
  (cond (decide (s.2.2.2.1 < s.1))
    (Option.bind (c_spec_l03Has (s.2.1, (s.2.2.2.1, ()))) fun (x1 : Bool) =>
    (cond (!x1)
      (cond (Nat.ble ((List.length s.2.2.1) + (List.length (s.2.2.2.1 :: ([] : List Int)))) 17179869184)
        (kc (s.1, (s.2.1, ((s.2.2.1 ++ (s.2.2.2.1 :: ([] : List Int))), ((wr (s.2.2.2.1 + (1 : Int))), ())))))
        none)
      (kc (s.1, (s.2.1, (s.2.2.1, ((wr (s.2.2.2.1 + (1 : Int))), ())))))))
    (ke (s.1, (s.2.1, (s.2.2.1, (s.2.2.2.1, ()))))))
def r_spec_l04Without (c_spec_l03Has : ((List Int) × Int × Unit → Option Bool)) (N : Nat) (a0 : Int) (a1 : (List Int)) : Option (List Int) :=
  (iterK (r_spec_l04Without_L0 c_spec_l03Has N) N (a0, (a1, (([] : List Int), ((0 : Int), ())))) fun (s1 : (Int × ((List Int) × ((List Int) × (Int × Unit))))) =>
  (some s1.2.2.1))
noncomputable def e_spec_l04Without (a : Int × (List Int) × Unit) : Option (List Int) := r_spec_l04Without e_spec_l03Has N0 a.1 a.2.1
def r_spec_l04Minor (c_spec_LaplacianOf : ((Int × Int × Int × List (Int × Int × Int)) × Unit → Option (List (List Int)))) (c_spec_l04Without : (Int × (List Int) × Unit → Option (List Int))) (c_spec_l04Det : ((List (List Int)) × (List Int) × (List Int) × Unit → Option Int)) (_N : Nat) (a0 : (Int × (Int × (Int × (List (Int × (Int × Int))))))) (a1 : (List Int)) (a2 : (List Int)) : Option Int :=
  (Option.bind (c_spec_LaplacianOf (a0, ())) fun (x1 : (List (List Int))) =>
  (Option.bind (c_spec_l04Without (a0.1, (a1, ()))) fun (x2 : (List Int)) =>
  (Option.bind (c_spec_l04Without (a0.1, (a2, ()))) fun (x3 : (List Int)) =>
  (Option.bind (c_spec_l04Det (x1, (x2, (x3, ())))) fun (x4 : Int) =>
  (some x4)))))
noncomputable def e_spec_l04Minor (a : (Int × Int × Int × List (Int × Int × Int)) × (List Int) × (List Int) × Unit) : Option Int := r_spec_l04Minor e_spec_LaplacianOf e_spec_l04Without e_spec_l04Det N0 a.1 a.2.1 a.2.2.1
end Go.Sx.R
namespace Go.Sx.R
open Go Go.Sx

theorem beqB_self (b : Bool) : beqB b b = true := by cases b <;> rfl

theorem sm_up {α : Type} [Sm α] (up : ∀ {B B' : Nat} {x : α}, B ≤ B' → Sm.sm B x → Sm.sm B' x) {B B' : Nat} {x : List α} (h : B ≤ B') (hx : Sm.sm B x) : Sm.sm B' x := ⟨Nat.le_trans hx.1 h, fun y hy => up h (hx.2 y hy)⟩
theorem up_wire {B B' : Nat} {x : Int × Int × Int} (h : B ≤ B') (hx : Sm.sm B x) : Sm.sm B' x := hx
theorem up_wireS {B B' : Nat} {x : List (Int × Int × Int)} (h : B ≤ B') (hx : Sm.sm B x) : Sm.sm B' x := sm_up up_wire h hx
abbrev TNet := Int × Int × Int × List (Int × Int × Int)
theorem up_net {B B' : Nat} {x : TNet} (h : B ≤ B') (hx : Sm.sm B x) : Sm.sm B' x := ⟨hx.1, hx.2.1, hx.2.2.1, up_wireS h hx.2.2.2⟩
abbrev B0 : Nat := 1048576
theorem B01 : B0 ≤ B1 := by decide

end Go.Sx.R
namespace Go.Sx.R
open Go Go.Sx

def n_l01In (a : Int × Int × Int × Unit) : Bool := decide (a.2.1 ≤ a.1) && decide (a.1 ≤ a.2.2.1)

theorem p_l01In (a : Int × Int × Int × Unit) : e_spec_l01In a = some (n_l01In a) := by
  obtain ⟨a0, a1, a2, _⟩ := a
  simp only [e_spec_l01In, r_spec_l01In, n_l01In]
  by_cases h : a1 ≤ a0 <;> simp [h]

end Go.Sx.R
namespace Go.Sx.R
open Go Go.Sx

-- lists without doubles
theorem nodup_len {α : Type} [DecidableEq α] : ∀ {l m : List α}, l.Nodup → (∀ x ∈ l, x ∈ m) → l.length ≤ m.length
  | [], m, _, _ => Nat.zero_le _
  | x :: l, m, h, hs => by
    have hx : x ∈ m := hs x (by simp)
    have hd := List.nodup_cons.1 h
    have := nodup_len (l := l) (m := m.erase x) hd.2 fun y hy => (List.mem_erase_of_ne (by rintro rfl; exact hd.1 hy)).2 (hs y (by simp [hy]))
    rw [List.length_erase_of_mem hx] at this
    have hp : 0 < m.length := List.length_pos_of_mem hx
    simp only [List.length_cons]; omega

theorem nodup_all {α : Type} [DecidableEq α] {l m : List α} (h : l.Nodup) (hs : ∀ x ∈ l, x ∈ m) (hl : m.length ≤ l.length) : ∀ x ∈ m, x ∈ l := by
  intro x hx
  by_cases hxl : x ∈ l
  · exact hxl
  · have := nodup_len (l := x :: l) (m := m) (List.nodup_cons.2 ⟨hxl, h⟩) (by
      intro y hy
      rcases List.mem_cons.1 hy with rfl | hy
      · exact hx
      · exact hs y hy)
    simp at this; omega

/-- The numbers below n. -/
def ints (n : Nat) : List Int := (List.range n).map Int.ofNat
theorem mem_ints {n : Nat} {x : Int} : x ∈ ints n ↔ 0 ≤ x ∧ x < n := by
  simp only [ints, List.mem_map, List.mem_range]
  constructor
  · rintro ⟨i, hi, rfl⟩
    simp only [Int.ofNat_eq_natCast]; omega
  · intro h; exact ⟨x.toNat, by omega, by simp only [Int.ofNat_eq_natCast]; omega⟩
theorem len_ints {n : Nat} : (ints n).length = n := by simp [ints]
theorem nodup_ints {n : Nat} : (ints n).Nodup := by
  refine List.Pairwise.map Int.ofNat (fun (a b : Nat) (h : a ≠ b) => ?_) (List.nodup_range (n := n))
  intro e
  simp only [Int.ofNat_eq_natCast] at e
  exact h (by omega)

abbrev W3 := Int × Int × Int

-- looking in lists
theorem p_Has (xs : List Int) (v : Int) (hl : xs.length ≤ BB) : e_spec_l03Has (xs, v, ()) = some (decide (v ∈ xs)) := by
  simp only [e_spec_l03Has, r_spec_l03Has]
  rw [iter_range (R := Bool) xs (fun (_ : Unit) i => (v, xs, (xs.length : Int), i, ())) (fun _ i x k => cond (decide (x = v)) (some true) (k ())) ?_ ?_ (by have := N0_gt; omega) ()]
  · rw [rangeK_stop' (fun x => decide (x = v)) (some true) _ _ _ (fun _ _ _ _ => rfl)]
    have : xs.any (fun x => decide (x = v)) = decide (v ∈ xs) := by
      rw [Bool.eq_iff_iff]; simp
    rw [this]; cases decide (v ∈ xs) <;> rfl
  · intro st i x kc ke hx hi
    simp only [r_spec_l03Has_L0, lt_len, hi, decide_true, cond_true, getI_nat, hx, Option.bind_some]
    rw [wr_succ hi hl]
  · intro st kc ke
    simp only [r_spec_l03Has_L0, not_lt_self, cond_false]

theorem p_ContainsB (xs : List Bool) (v : Bool) (hl : xs.length ≤ BB) : e_slices_Contains_bool (xs, v, ()) = some (decide (v ∈ xs)) := by
  simp only [e_slices_Contains_bool, r_slices_Contains_bool, e_slices_Index_bool, r_slices_Index_bool]
  rw [iter_range (R := Int) xs (fun (_ : Unit) i => (xs, v, (xs.length : Int), i, ())) (fun _ i x k => cond (beqB v x) (some (i : Int)) (k ())) ?_ ?_ (by have := N0_gt; omega) ()]
  · have key : ∀ (l : List Bool) (i : Nat), (rangeK l i () (fun _ i x k => cond (beqB v x) (some (i : Int)) (k ())) fun _ => some (-1 : Int)).bind (fun r => some (decide (r ≥ 0))) = some (decide (v ∈ l)) := by
      intro l
      induction l with
      | nil => intro i; simp [rangeK]
      | cons x l ih =>
        intro i
        simp only [rangeK]
        by_cases e : v = x
        · subst e; rw [beqB_self]; simp
        · have : beqB v x = false := by revert e; cases v <;> cases x <;> simp [beqB]
          rw [this, cond_false, ih (i + 1)]
          simp [e]
    exact key xs 0
  · intro st i x kc ke hx hi
    simp only [r_slices_Index_bool_L0, lt_len, hi, decide_true, cond_true, getI_nat, hx, Option.bind_some]
    rw [wr_succ hi hl]
  · intro st kc ke
    simp only [r_slices_Index_bool_L0, not_lt_self, cond_false]

-- the order of wires
def n_cmp (x y : Int) : Int := if x < y then -1 else if x > y then 1 else 0
theorem p_Compare (x y : Int) : e_cmp_Compare_int (x, y, ()) = some (n_cmp x y) := by
  simp only [e_cmp_Compare_int, r_cmp_Compare_int, e_cmp_isNaN_int, r_cmp_isNaN_int, Option.bind_some, decide_true, Bool.not_true, cond_false, n_cmp]
  by_cases h1 : x < y
  · simp [h1]
  · by_cases h2 : x > y <;> simp [h1, h2]

theorem N0_big : 9223372036854775807 < N0 := N0_gt
theorem N0_succ : ∃ m, N0 = m + 5 := ⟨N0 - 5, by have := N0_big; omega⟩

def n_byEnds (x y : W3) : Int := if n_cmp x.1 y.1 = 0 then n_cmp x.2.1 y.2.1 else n_cmp x.1 y.1
theorem p_byEnds (x y : W3) : e_impl_byEnds (x, y, ()) = some (n_byEnds x y) := by
  simp only [e_impl_byEnds, r_impl_byEnds, p_Compare, Option.bind_some, e_cmp_Or_int, r_cmp_Or_int, n_byEnds]
  obtain ⟨m, hm⟩ := N0_succ
  rw [hm]
  by_cases h1 : n_cmp x.1 y.1 = 0
  · by_cases h2 : n_cmp x.2.1 y.2.1 = 0
    · simp [iterK, r_cmp_Or_int_L0, h1, h2, getI_zero, wr_id, getI]
    · simp [iterK, r_cmp_Or_int_L0, h1, h2, getI_zero, wr_id, getI]
  · simp [iterK, r_cmp_Or_int_L0, h1, getI_zero]

/-- Strictly before. -/
def lex (x y : W3) : Bool := decide (x.1 < y.1) || (decide (x.1 = y.1) && decide (x.2.1 < y.2.1))
theorem byEnds_lex (x y : W3) : decide (n_byEnds x y ≥ 0) = !lex x y := by
  rw [Bool.eq_iff_iff]
  by_cases a : x.1 < y.1
  · have a2 : ¬ x.1 > y.1 := by omega
    simp [n_byEnds, n_cmp, lex, a]
  · by_cases b : x.1 > y.1
    · have e : ¬ x.1 = y.1 := by omega
      simp [n_byEnds, n_cmp, lex, a, b, e]
    · have e : x.1 = y.1 := by omega
      by_cases c : x.2.1 < y.2.1
      · simp [n_byEnds, n_cmp, lex, e, c]
      · by_cases d : x.2.1 > y.2.1 <;> simp [n_byEnds, n_cmp, lex, e, c, d]

/-- A wire at place i that does not fit. -/
def badW (nodes : Int) (ws : List W3) (i : Nat) (x : W3) : Bool :=
  !(decide (0 ≤ x.1) && decide (x.1 < x.2.1) && decide (x.2.1 < nodes) && decide (1 ≤ x.2.2) && decide (x.2.2 ≤ 200)) || (match i with | 0 => false | j + 1 => match ws[j]? with | some y => !lex y x | none => false)

def wiresBad (n : TNet) : Bool := (n.2.2.2.zipIdx 0).any fun p => badW n.1 n.2.2.2 p.2 p.1
def hdrOk (n : TNet) : Bool := decide (1 ≤ n.1) && decide (n.1 ≤ 5) && decide (1 ≤ n.2.1) && decide (n.2.1 ≤ n.1) && decide (1 ≤ n.2.2.1) && decide (n.2.2.1 ≤ 1000)

theorem netL0_impl (n : TNet) (hn : Sm.sm B1 n) (k : _ → Option Bool) :
    iterK (r_impl_NetOk_L0 e_slices_Contains_bool e_impl_byEnds N0) N0 (n, n.2.2.2, (n.2.2.2.length : Int), 0, ()) k = cond (wiresBad n) (some false) (k (n, n.2.2.2, (n.2.2.2.length : Int), (n.2.2.2.length : Int), ())) := by
  have hw : Sm.sm B1 n.2.2.2 := hn.2.2.2
  rw [iter_range (R := Bool) n.2.2.2 (fun (_ : Unit) i => (n, n.2.2.2, (n.2.2.2.length : Int), i, ())) (fun _ i x k => cond (badW n.1 n.2.2.2 i x) (some false) (k ())) ?_ ?_ (len_lt hw N0_gt) ()]
  · rw [rangeK_stop (fun i x => badW n.1 n.2.2.2 i x) (some false) _ _ _ (fun j x k _ => rfl)]
    rfl
  · intro st i x kc ke hx hi
    simp only [r_impl_NetOk_L0, lt_len, hi, decide_true, cond_true, getI_nat, hx, Option.bind_some, wr_len hi hw]
    have hb : ∀ b : Bool, (decide (x.1 < 0) = true → b = true) → True := fun _ _ => trivial
    by_cases h1 : x.1 < 0
    · have : badW n.1 n.2.2.2 i x = true := by simp only [badW, Bool.or_eq_true, Bool.not_eq_true', Bool.and_eq_false_iff, decide_eq_false_iff_not]; left; omega
      simp [h1, this]
    by_cases h2 : x.1 ≥ x.2.1
    · have : badW n.1 n.2.2.2 i x = true := by simp only [badW, Bool.or_eq_true, Bool.not_eq_true', Bool.and_eq_false_iff, decide_eq_false_iff_not]; left; omega
      simp [h1, h2, this]
    by_cases h3 : x.2.1 ≥ n.1
    · have : badW n.1 n.2.2.2 i x = true := by simp only [badW, Bool.or_eq_true, Bool.not_eq_true', Bool.and_eq_false_iff, decide_eq_false_iff_not]; left; omega
      simp [h1, h2, h3, this]
    by_cases h4 : x.2.2 < 1
    · have : badW n.1 n.2.2.2 i x = true := by simp only [badW, Bool.or_eq_true, Bool.not_eq_true', Bool.and_eq_false_iff, decide_eq_false_iff_not]; left; omega
      simp [h1, h2, h3, h4, this]
    by_cases h5 : x.2.2 > 200
    · have : badW n.1 n.2.2.2 i x = true := by simp only [badW, Bool.or_eq_true, Bool.not_eq_true', Bool.and_eq_false_iff, decide_eq_false_iff_not]; left; omega
      simp [h1, h2, h3, h4, h5, this]
    have hg : (!(decide (0 ≤ x.1) && decide (x.1 < x.2.1) && decide (x.2.1 < n.1) && decide (1 ≤ x.2.2) && decide (x.2.2 ≤ 200))) = false := by
      simp only [Bool.not_eq_false', Bool.and_eq_true, decide_eq_true_eq]; omega
    cases i with
    | zero =>
      have hbad : badW n.1 n.2.2.2 0 x = false := by simp only [badW, hg, Bool.or_false]
      simp [h1, h2, h3, h4, h5, hbad]
    | succ j =>
      have hj : n.2.2.2[j]? = some n.2.2.2[j] := List.getElem?_eq_getElem (by omega)
      have hbad : badW n.1 n.2.2.2 (j + 1) x = !lex n.2.2.2[j] x := by simp only [badW, hg, Bool.false_or, hj]
      have hwr : wr (((j + 1 : Nat) : Int) - 1) = (j : Int) := by
        rw [wr_id (by omega) (by have := hw.1; simp only [B1] at this; omega)]; omega
      have hpos : decide (((j + 1 : Nat) : Int) > 0) = true := by rw [decide_eq_true_eq]; omega
      rw [hbad, hpos, hwr, getI_nat, hj]
      simp only [cond_true, Option.bind_some, p_byEnds, byEnds_lex]
      simp [h1, h2, h3, h4, h5]
  · intro st kc ke
    simp only [r_impl_NetOk_L0, not_lt_self, cond_false]

theorem netL0_spec (n : TNet) (hn : Sm.sm B1 n) (k : _ → Option Bool) (hn1 : 1 ≤ n.1) (hn5 : n.1 ≤ 5) :
    iterK (r_spec_NetOk_L0 e_spec_l01In e_spec_l03Reach N0) N0 (n, n.2.2.2, (n.2.2.2.length : Int), 0, ()) k = cond (wiresBad n) (some false) (k (n, n.2.2.2, (n.2.2.2.length : Int), (n.2.2.2.length : Int), ())) := by
  have hw : Sm.sm B1 n.2.2.2 := hn.2.2.2
  rw [iter_range (R := Bool) n.2.2.2 (fun (_ : Unit) i => (n, n.2.2.2, (n.2.2.2.length : Int), i, ())) (fun _ i x k => cond (badW n.1 n.2.2.2 i x) (some false) (k ())) ?_ ?_ (len_lt hw N0_gt) ()]
  · rw [rangeK_stop (fun i x => badW n.1 n.2.2.2 i x) (some false) _ _ _ (fun j x k _ => rfl)]
    rfl
  · intro st i x kc ke hx hi
    simp only [r_spec_NetOk_L0, lt_len, hi, decide_true, cond_true, getI_nat, hx, Option.bind_some, wr_len hi hw, p_l01In, n_l01In]
    have hw1 : wr (n.1 - 1) = n.1 - 1 := wr_id (by omega) (by omega)
    rw [hw1]
    by_cases h1 : 0 ≤ x.1 ∧ x.1 ≤ n.1 - 1
    · have hw2 : wr (x.1 + 1) = x.1 + 1 := wr_id (by omega) (by omega)
      rw [hw2]
      by_cases h2 : x.1 + 1 ≤ x.2.1 ∧ x.2.1 ≤ n.1 - 1
      · by_cases h3 : 1 ≤ x.2.2 ∧ x.2.2 ≤ 200
        · have hg : (!(decide (0 ≤ x.1) && decide (x.1 < x.2.1) && decide (x.2.1 < n.1) && decide (1 ≤ x.2.2) && decide (x.2.2 ≤ 200))) = false := by
            simp only [Bool.not_eq_false', Bool.and_eq_true, decide_eq_true_eq]; omega
          cases i with
          | zero =>
            have hbad : badW n.1 n.2.2.2 0 x = false := by simp only [badW, hg, Bool.or_false]
            simp [h1, h2, h3, hbad]
          | succ j =>
            have hj : n.2.2.2[j]? = some n.2.2.2[j] := List.getElem?_eq_getElem (by omega)
            have hbad : badW n.1 n.2.2.2 (j + 1) x = !lex n.2.2.2[j] x := by simp only [badW, hg, Bool.false_or, hj]
            have hwr : wr (((j + 1 : Nat) : Int) - 1) = (j : Int) := by
              rw [wr_id (by omega) (by have := hw.1; simp only [B1] at this; omega)]; omega
            have hpos : decide (((j + 1 : Nat) : Int) > 0) = true := by rw [decide_eq_true_eq]; omega
            rw [hbad, hpos, hwr, getI_nat, hj]
            simp only [cond_true, Option.bind_some, h1, h2, h3, decide_true, Bool.and_self, Bool.not_true, cond_false, lex]
            by_cases e1 : x.1 < n.2.2.2[j].1
            · have a1 : ¬ n.2.2.2[j].1 < x.1 := by omega
              have a2 : ¬ n.2.2.2[j].1 = x.1 := by omega
              simp [e1, a1, a2]
            · by_cases e2 : x.1 = n.2.2.2[j].1
              · by_cases e3 : x.2.1 ≤ n.2.2.2[j].2.1
                · have a3 : ¬ n.2.2.2[j].2.1 < x.2.1 := by omega
                  simp [e2, e3, a3]
                · have a3 : n.2.2.2[j].2.1 < x.2.1 := by omega
                  simp [e2, e3, a3]
              · have a1 : n.2.2.2[j].1 < x.1 := by omega
                simp [e1, e2, a1]
        · have : badW n.1 n.2.2.2 i x = true := by simp only [badW, Bool.or_eq_true, Bool.not_eq_true', Bool.and_eq_false_iff, decide_eq_false_iff_not]; left; omega
          have h3' : (decide (1 ≤ x.2.2) && decide (x.2.2 ≤ 200)) = false := by simp only [Bool.and_eq_false_iff, decide_eq_false_iff_not]; omega
          simp [h1, h2, h3', this]
      · have : badW n.1 n.2.2.2 i x = true := by simp only [badW, Bool.or_eq_true, Bool.not_eq_true', Bool.and_eq_false_iff, decide_eq_false_iff_not]; left; omega
        have h2' : (decide (x.1 + 1 ≤ x.2.1) && decide (x.2.1 ≤ n.1 - 1)) = false := by simp only [Bool.and_eq_false_iff, decide_eq_false_iff_not]; omega
        simp [h1, h2', this]
    · have : badW n.1 n.2.2.2 i x = true := by simp only [badW, Bool.or_eq_true, Bool.not_eq_true', Bool.and_eq_false_iff, decide_eq_false_iff_not]; left; omega
      have h1' : (decide (0 ≤ x.1) && decide (x.1 ≤ n.1 - 1)) = false := by simp only [Bool.and_eq_false_iff, decide_eq_false_iff_not]; omega
      simp [h1', this]
  · intro st kc ke
    simp only [r_spec_NetOk_L0, not_lt_self, cond_false]
-- what can be reached
inductive Rc (ws : List W3) : Int → Prop
  | zero : Rc ws 0
  | ab {e : W3} : e ∈ ws → Rc ws e.1 → Rc ws e.2.1
  | ba {e : W3} : e ∈ ws → Rc ws e.2.1 → Rc ws e.1

/-- The wires lie among the nodes. -/
def InW (nodes : Nat) (ws : List W3) : Prop := ∀ e ∈ ws, 0 ≤ e.1 ∧ e.1 < e.2.1 ∧ e.2.1 < nodes

theorem Rc.inn {nodes : Nat} {ws : List W3} (h0 : 0 < nodes) (hw : InW nodes ws) {v : Int} (h : Rc ws v) : 0 ≤ v ∧ v < nodes := by
  cases h with
  | zero => omega
  | ab he _ => have := hw _ he; omega
  | ba he _ => have := hw _ he; omega

-- the program's marks
def gt (st : List Bool) (v : Int) : Bool := (st[v.toNat]?).getD false
def upd (st : List Bool) (e : W3) : List Bool := if gt st e.1 = true ∨ gt st e.2.1 = true then (st.set e.1.toNat true).set e.2.1.toNat true else st
def cnt (st : List Bool) : Nat := (st.filter id).length

theorem cnt_le (st : List Bool) : cnt st ≤ st.length := List.length_filter_le _ _

theorem cnt_set : ∀ (st : List Bool) (i : Nat), cnt st ≤ cnt (st.set i true) ∧ (st[i]? = some false → cnt st + 1 ≤ cnt (st.set i true))
  | [], i => by simp [cnt]
  | b :: st, 0 => by cases b <;> simp [cnt]
  | b :: st, i + 1 => by
    have := cnt_set st i
    cases b <;> simp_all [cnt]

theorem gt_set (st : List Bool) (i : Nat) (v : Int) : gt (st.set i true) v = (gt st v || (decide (i = v.toNat) && decide (i < st.length))) := by
  simp only [gt, List.getElem?_set]
  by_cases e : i = v.toNat
  · subst e
    by_cases h : v.toNat < st.length
    · simp [h]
    · simp [h]
  · simp [e]

theorem upd_len (st : List Bool) (e : W3) : (upd st e).length = st.length := by
  unfold upd; split <;> simp

theorem upd_mono {st : List Bool} {e : W3} {v : Int} (h : gt st v = true) : gt (upd st e) v = true := by
  unfold upd; split
  · simp [gt_set, h]
  · exact h

theorem upd_sound {ws : List W3} {st : List Bool} {e : W3} {nodes : Nat} (hl : st.length = nodes) (hw : InW nodes ws) (he : e ∈ ws) (h : ∀ v, 0 ≤ v → gt st v = true → Rc ws v) : ∀ v, 0 ≤ v → gt (upd st e) v = true → Rc ws v := by
  intro v hv hg
  obtain ⟨h1, h2, h3⟩ := hw e he
  unfold upd at hg
  split at hg
  · rename_i hor
    have ha : Rc ws e.1 ∧ Rc ws e.2.1 := by
      rcases hor with hor | hor
      · have := h _ h1 hor; exact ⟨this, .ab he this⟩
      · have := h _ (by omega) hor; exact ⟨.ba he this, this⟩
    simp only [gt_set, Bool.or_eq_true, Bool.and_eq_true, decide_eq_true_eq] at hg
    rcases hg with (hg | hg) | hg
    · exact h v hv hg
    · have : e.1 = v := by omega
      rw [← this]; exact ha.1
    · have : e.2.1 = v := by omega
      rw [← this]; exact ha.2
  · exact h v hv hg

theorem gt_false {st : List Bool} {v : Int} (h : gt st v = false) (hl : v.toNat < st.length) : st[v.toNat]? = some false := by
  have : st[v.toNat]? = some st[v.toNat] := List.getElem?_eq_getElem hl
  unfold gt at h
  rw [this] at h ⊢
  simpa using h

theorem upd_cnt (st : List Bool) (e : W3) : cnt st ≤ cnt (upd st e) := by
  unfold upd; split
  · exact Nat.le_trans (cnt_set st _).1 (cnt_set _ _).1
  · exact Nat.le_refl _

theorem upd_grow {st : List Bool} {e : W3} {nodes : Nat} (hl : st.length = nodes) (hi : 0 ≤ e.1 ∧ e.1 < e.2.1 ∧ e.2.1 < nodes) (h : gt st e.1 ≠ gt st e.2.1) : cnt st + 1 ≤ cnt (upd st e) := by
  have hor : gt st e.1 = true ∨ gt st e.2.1 = true := by
    revert h; cases gt st e.1 <;> cases gt st e.2.1 <;> simp
  unfold upd
  rw [if_pos hor]
  by_cases h1 : gt st e.1 = true
  · have h2 : gt st e.2.1 = false := by
      revert h; rw [h1]; cases gt st e.2.1 <;> simp
    have : gt (st.set e.1.toNat true) e.2.1 = false := by
      rw [gt_set, h2]; simp; omega
    have hs := gt_false this (by simp; omega)
    exact Nat.le_trans (Nat.add_le_add_right (cnt_set st _).1 1) ((cnt_set _ _).2 hs)
  · have h1' : gt st e.1 = false := by simpa using h1
    have hs := gt_false h1' (by omega)
    exact Nat.le_trans ((cnt_set st _).2 hs) (cnt_set _ _).1

theorem upd_fix {st : List Bool} {e : W3} {nodes : Nat} (hl : st.length = nodes) (hi : 0 ≤ e.1 ∧ e.1 < e.2.1 ∧ e.2.1 < nodes) (h : gt st e.1 = gt st e.2.1) : upd st e = st := by
  unfold upd
  split
  · rename_i hor
    have hb : gt st e.1 = true ∧ gt st e.2.1 = true := by
      rw [h] at hor ⊢; rcases hor with hor | hor <;> exact ⟨hor, hor⟩
    have one : ∀ (v : Int), gt st v = true → st.set v.toNat true = st := by
      intro v hv
      apply List.ext_getElem?; intro j
      rw [List.getElem?_set]
      split
      · rename_i ej; subst ej
        unfold gt at hv
        split
        · rename_i hlt
          rw [List.getElem?_eq_getElem hlt] at hv ⊢
          simp at hv; rw [hv]
        · rename_i hlt
          rw [List.getElem?_eq_none (by omega)]
      · rfl
    rw [one _ hb.1, one _ hb.2]
  · rfl

def Closed (ws : List W3) (st : List Bool) : Prop := ∀ e ∈ ws, gt st e.1 = gt st e.2.1

theorem round_fix {nodes : Nat} : ∀ {ws : List W3} {st : List Bool}, st.length = nodes → InW nodes ws → Closed ws st → ws.foldl upd st = st
  | [], _, _, _, _ => rfl
  | e :: ws, st, hl, hw, hc => by
    simp only [List.foldl_cons]
    rw [upd_fix hl (hw e (by simp)) (hc e (by simp))]
    exact round_fix hl (fun x hx => hw x (by simp [hx])) fun x hx => hc x (by simp [hx])

theorem round_mono {nodes : Nat} : ∀ {ws : List W3} {st : List Bool}, cnt st ≤ cnt (ws.foldl upd st)
  | [], _ => Nat.le_refl _
  | e :: ws, st => Nat.le_trans (upd_cnt st e) (round_mono (nodes := nodes) (ws := ws))

theorem round_grow {nodes : Nat} : ∀ {ws : List W3} {st : List Bool}, st.length = nodes → InW nodes ws → Closed ws st ∨ cnt st + 1 ≤ cnt (ws.foldl upd st)
  | [], _, _, _ => .inl fun _ h => by simp at h
  | e :: ws, st, hl, hw => by
    by_cases h : gt st e.1 = gt st e.2.1
    · simp only [List.foldl_cons, upd_fix hl (hw e (by simp)) h]
      rcases round_grow (ws := ws) hl (fun x hx => hw x (by simp [hx])) with hc | hg
      · refine .inl fun x hx => ?_
        rcases List.mem_cons.1 hx with rfl | hx
        · exact h
        · exact hc x hx
      · exact .inr hg
    · refine .inr ?_
      simp only [List.foldl_cons]
      exact Nat.le_trans (upd_grow hl (hw e (by simp)) h) (round_mono (nodes := nodes))

theorem round_len : ∀ {ws : List W3} {st : List Bool}, (ws.foldl upd st).length = st.length
  | [], _ => rfl
  | e :: ws, st => by simp only [List.foldl_cons]; rw [round_len, upd_len]

theorem round_keep {v : Int} : ∀ {ws : List W3} {st : List Bool}, gt st v = true → gt (ws.foldl upd st) v = true
  | [], _, h => h
  | e :: ws, st, h => by simp only [List.foldl_cons]; exact round_keep (upd_mono h)

theorem round_sound {ws0 : List W3} {nodes : Nat} (hw : InW nodes ws0) : ∀ {ws : List W3} {st : List Bool}, (∀ e ∈ ws, e ∈ ws0) → st.length = nodes → (∀ v, 0 ≤ v → gt st v = true → Rc ws0 v) → ∀ v, 0 ≤ v → gt (ws.foldl upd st) v = true → Rc ws0 v
  | [], _, _, _, h => h
  | e :: ws, st, hs, hl, h => by
    simp only [List.foldl_cons]
    exact round_sound hw (fun x hx => hs x (by simp [hx])) ((upd_len st e).trans hl) (upd_sound hl hw (hs e (by simp)) h)

/-- All nodes can be reached. -/
noncomputable def conn (n : TNet) : Bool := open Classical in decide (∀ v : Int, 0 ≤ v → v < n.1 → Rc n.2.2.2 v)

theorem closed_all {ws : List W3} {st : List Bool} (hc : Closed ws st) (h0 : gt st 0 = true) : ∀ v, Rc ws v → gt st v = true := by
  intro v h
  induction h with
  | zero => exact h0
  | ab he _ ih => rw [← hc _ he]; exact ih
  | ba he _ ih => rw [hc _ he]; exact ih

theorem all_true {st : List Bool} {nodes : Nat} (hl : st.length = nodes) : decide (false ∈ st) = false ↔ ∀ v : Int, 0 ≤ v → v < nodes → gt st v = true := by
  constructor
  · intro h v h0 h1
    simp only [decide_eq_false_iff_not] at h
    cases hg : gt st v with
    | true => rfl
    | false => exact absurd (List.mem_of_getElem? (gt_false hg (by omega))) h
  · intro h
    simp only [decide_eq_false_iff_not]
    intro hm
    obtain ⟨i, hi⟩ := List.getElem?_of_mem hm
    have := h (i : Int) (by omega) (by have := get_lt hi; omega)
    simp [gt, hi] at this

end Go.Sx.R
namespace Go.Sx

/-- The rule of loops, with a measure. -/
theorem iter_while {S R : Type} {body : S → (S → Option R) → (S → Option R) → Option R} {ke : S → Option R} (Q : Option R → Prop) (p : S → Prop) (mu : S → Nat)
    (h : ∀ s kc, p s → (∀ s', p s' → mu s' < mu s → Q (kc s')) → Q (body s kc ke)) : ∀ (N : Nat) (s : S), p s → mu s < N → Q (iterK body N s ke)
  | 0, _, _, hN => absurd hN (Nat.not_lt_zero _)
  | N + 1, s, hp, hN => by
    simp only [iterK]
    exact h s _ hp fun s' hp' hlt => iter_while Q p mu h N s' hp' (by omega)

/-- A loop over a list that ends with a fold's state. -/
theorem iter_fold {β σ S R : Type} {body : S → (S → Option R) → (S → Option R) → Option R} (l : List β) (mk : σ → Int → S) (p : Nat → σ → Prop) (g : σ → Nat → β → σ)
    (h : ∀ st (i : Nat) x kc ke, p i st → l[i]? = some x → i < l.length → body (mk st i) kc ke = kc (mk (g st i x) ((i + 1 : Nat) : Int)) ∧ p (i + 1) (g st i x))
    (h2 : ∀ st kc ke, p l.length st → body (mk st l.length) kc ke = ke (mk st l.length)) {N : Nat} (hN : l.length < N) (st : σ) (hp : p 0 st) (ke : S → Option R) :
    iterK body N (mk st 0) ke = ke (mk (foldI g l 0 st) l.length) ∧ p l.length (foldI g l 0 st) := by
  have gen : ∀ (r : List β) (i N : Nat) (st : σ), i + r.length = l.length → l.drop i = r → r.length < N → p i st → iterK body N (mk st i) ke = ke (mk (foldI g r i st) l.length) ∧ p l.length (foldI g r i st) := by
    intro r
    induction r with
    | nil =>
      intro i N st hi hd hN hp
      obtain ⟨m, rfl⟩ : ∃ m, N = m + 1 := ⟨N - 1, by omega⟩
      simp only [iterK, foldI]
      have e : i = l.length := by simpa using hi
      subst e
      exact ⟨h2 _ _ _ hp, hp⟩
    | cons x r ih =>
      intro i N st hi hd hN hp
      obtain ⟨m, rfl⟩ : ∃ m, N = m + 1 := ⟨N - 1, by omega⟩
      simp only [List.length_cons] at hi hN
      have hx : l[i]? = some x := by
        have := congrArg (fun l => l[0]?) hd
        simpa using this
      have q := h st i x (fun s' => iterK body m s' ke) ke hp hx (by omega)
      simp only [iterK, foldI]
      rw [q.1]
      exact ih (i + 1) m _ (by omega) (by rw [← List.drop_drop, hd]; simp) (by omega) q.2
  exact gen l 0 N st (by simp) (by simp) hN hp

/-- A loop over a list: the rule. -/
theorem iter_rule {β σ S R : Type} {body : S → (S → Option R) → (S → Option R) → Option R} {ke : S → Option R} (Q : Option R → Prop) (l : List β) (mk : σ → Int → S) (p : Nat → σ → Prop)
    (h : ∀ st (i : Nat) x kc, p i st → l[i]? = some x → i < l.length → (∀ st', p (i + 1) st' → Q (kc (mk st' ((i + 1 : Nat) : Int)))) → Q (body (mk st i) kc ke))
    (h2 : ∀ st kc, p l.length st → Q (body (mk st l.length) kc ke)) {N : Nat} (hN : l.length < N) (st : σ) (hp : p 0 st) : Q (iterK body N (mk st 0) ke) := by
  have gen : ∀ (d i N : Nat) (st : σ), i + d = l.length → d < N → p i st → Q (iterK body N (mk st i) ke) := by
    intro d
    induction d with
    | zero =>
      intro i N st hi hN hp
      obtain ⟨m, rfl⟩ : ∃ m, N = m + 1 := ⟨N - 1, by omega⟩
      have e : i = l.length := by omega
      subst e
      exact h2 _ _ hp
    | succ d ih =>
      intro i N st hi hN hp
      obtain ⟨m, rfl⟩ : ∃ m, N = m + 1 := ⟨N - 1, by omega⟩
      have hlt : i < l.length := by omega
      exact h st i l[i] _ hp (List.getElem?_eq_getElem hlt) hlt fun st' hp' => ih (i + 1) m st' (by omega) (by omega) hp'
  exact gen l.length 0 N st (by omega) hN hp

end Go.Sx
namespace Go.Sx.R
open Go Go.Sx

theorem getI_gt {st : List Bool} {v : Int} (h0 : 0 ≤ v) (h1 : v < st.length) : getI st v = some (gt st v) := by
  have e : v = ((v.toNat : Nat) : Int) := by omega
  have hl : v.toNat < st.length := by omega
  rw [e, getI_nat, gt, Int.toNat_natCast, List.getElem?_eq_getElem hl]; rfl

def met4 (st : List Bool) (_ : Nat) (x : W3) (k : List Bool → Option Bool) : Option Bool :=
  Option.bind (getI st x.1) fun b => cond b (Option.bind (getI st x.1) fun _ => Option.bind (getI (st.set x.1.toNat true) x.2.1) fun _ => k ((st.set x.1.toNat true).set x.2.1.toNat true))
    (Option.bind (getI st x.2.1) fun b2 => cond b2 (Option.bind (getI st x.1) fun _ => Option.bind (getI (st.set x.1.toNat true) x.2.1) fun _ => k ((st.set x.1.toNat true).set x.2.1.toNat true)) (k st))

theorem met4_upd {st : List Bool} {j : Nat} {x : W3} {k : List Bool → Option Bool} (hi : 0 ≤ x.1 ∧ x.1 < x.2.1 ∧ x.2.1 < st.length) : met4 st j x k = k (upd st x) := by
  have g1 := getI_gt (st := st) (v := x.1) (by omega) (by omega)
  have g2 := getI_gt (st := st) (v := x.2.1) (by omega) (by omega)
  have g3 := getI_gt (st := st.set x.1.toNat true) (v := x.2.1) (by omega) (by simp; omega)
  simp only [met4, g1, g2, g3, Option.bind_some, upd]
  cases h1 : gt st x.1 <;> cases h2 : gt st x.2.1 <;> simp

theorem met_inner (n : TNet) (hn : Sm.sm B1 n) (i : Int) (st : List Bool) (hl : InW st.length n.2.2.2) (k : _ → Option Bool) :
    iterK (r_impl_NetOk_L4 e_slices_Contains_bool e_impl_byEnds N0) N0 (n, st, n.1, i, n.2.2.2, (n.2.2.2.length : Int), 0, ()) k =
      k (n, n.2.2.2.foldl upd st, n.1, i, n.2.2.2, (n.2.2.2.length : Int), (n.2.2.2.length : Int), ()) := by
  have hw : Sm.sm B1 n.2.2.2 := hn.2.2.2
  rw [iter_range (R := Bool) n.2.2.2 (fun (st : List Bool) j => (n, st, n.1, i, n.2.2.2, (n.2.2.2.length : Int), j, ())) met4 ?_ ?_ (len_lt hw N0_gt)]
  · have := (rangeK_foldP (step := met4) (fun _ s => s.length = st.length) (fun s _ x => upd s x) (fun st' => k (n, st', n.1, i, n.2.2.2, (n.2.2.2.length : Int), (n.2.2.2.length : Int), ())) n.2.2.2 0 st rfl
      (fun s j x k hs hx => ⟨met4_upd (by rw [hs]; exact hl x (List.mem_of_getElem? hx)), by rw [upd_len, hs]⟩)).1
    rw [this]
    have key : ∀ (l : List W3) (i : Nat) (s : List Bool), foldI (fun s _ x => upd s x) l i s = l.foldl upd s := by
      intro l
      induction l with
      | nil => intros; rfl
      | cons x l ih => intro i s; simp only [foldI, List.foldl_cons, ih]
    rw [key]
  · intro st j x kc ke hx hj
    simp only [r_impl_NetOk_L4, lt_len, hj, decide_true, cond_true, getI_nat, hx, Option.bind_some, wr_len hj hw, met4]
  · intro st kc ke
    simp only [r_impl_NetOk_L4, not_lt_self, cond_false]

/-- The marks at the end. -/
theorem met_outer (n : TNet) (hn : Sm.sm B1 n) (m : Nat) (hm : n.1 = m) (h1 : 1 ≤ m) (hw : InW m n.2.2.2) (st : List Bool) (hl : st.length = m) (hs : ∀ v, 0 ≤ v → gt st v = true → Rc n.2.2.2 v) (h0 : gt st 0 = true) (hc : 1 ≤ cnt st) (k : _ → Option Bool) :
    ∃ st', st'.length = m ∧ Closed n.2.2.2 st' ∧ (∀ v, 0 ≤ v → gt st' v = true → Rc n.2.2.2 v) ∧ gt st' 0 = true ∧
      iterK (r_impl_NetOk_L2 e_slices_Contains_bool e_impl_byEnds N0) N0 (n, st, n.1, 0, ()) k = k (n, st', n.1, n.1, ()) := by
  have hb : m ≤ 9223372036854775807 := by have := hn.1.2; omega
  have hlen : (List.range m).length = m := by simp
  have hnm : n.1 = ((List.range m).length : Int) := by simp [hm]
  have fp := iter_fold (R := Bool) (body := r_impl_NetOk_L2 e_slices_Contains_bool e_impl_byEnds N0) (List.range m) (fun (st : List Bool) i => (n, st, n.1, i, ()))
    (fun i st => st.length = m ∧ (∀ v, 0 ≤ v → gt st v = true → Rc n.2.2.2 v) ∧ gt st 0 = true ∧ (Closed n.2.2.2 st ∨ i + 1 ≤ cnt st)) (fun st _ _ => n.2.2.2.foldl upd st)
    (fun st j x kc ke ⟨p1, p2, p3, p4⟩ hx hj => by
      refine ⟨?_, round_len.trans p1, round_sound hw (fun e he => he) p1 p2, round_keep p3, ?_⟩
      · have hlt : decide ((j : Int) < n.1) = true := by rw [decide_eq_true_eq, hnm]; exact Int.ofNat_lt.2 hj
        simp only [r_impl_NetOk_L2, hlt, cond_true]
        rw [met_inner n hn _ st (by rw [p1]; exact hw)]
        rw [wr_succ hj (by omega)]
      · rcases p4 with p4 | p4
        · left; rw [round_fix p1 hw p4]; exact p4
        · rcases round_grow p1 hw with q | q
          · left; rw [round_fix p1 hw q]; exact q
          · right; omega)
    (fun st kc ke _ => by
      have hlt : decide ((((List.range m).length : Nat) : Int) < n.1) = false := by rw [decide_eq_false_iff_not, hnm]; omega
      simp only [r_impl_NetOk_L2, hlt, cond_false]) (N := N0) (by have := N0_big; omega) st ⟨hl, hs, h0, .inr hc⟩ k
  refine ⟨foldI (fun st _ _ => n.2.2.2.foldl upd st) (List.range m) 0 st, fp.2.1, ?_, fp.2.2.1, fp.2.2.2.1, ?_⟩
  · rcases fp.2.2.2.2 with q | q
    · exact q
    · have := cnt_le (foldI (fun st _ _ => n.2.2.2.foldl upd st) (List.range m) 0 st)
      rw [fp.2.1] at this
      simp only [hlen] at q; omega
  · rw [fp.1, hlen, hm]

theorem wiresOk {n : TNet} {m : Nat} (hm : n.1 = m) (h : wiresBad n = false) : InW m n.2.2.2 := by
  intro e he
  obtain ⟨i, hi⟩ := List.getElem?_of_mem he
  simp only [wiresBad, List.any_eq_false] at h
  have := h (e, i) (by rw [List.mem_zipIdx_iff_getElem?]; exact hi)
  simp only [badW, Bool.not_eq_true, Bool.or_eq_false_iff, Bool.not_eq_false', Bool.and_eq_true, decide_eq_true_eq] at this
  omega

noncomputable def netok (n : TNet) : Bool := hdrOk n && !wiresBad n && conn n

theorem p_NetOk (n : TNet) (hn : Sm.sm B1 n) : e_impl_NetOk (n, ()) = some (netok n) := by
  simp only [e_impl_NetOk, r_impl_NetOk, netL0_impl n hn]
  by_cases hh : hdrOk n = true
  · have hh' := hh
    simp only [hdrOk, Bool.and_eq_true, decide_eq_true_eq] at hh'
    obtain ⟨⟨⟨⟨⟨q1, q2⟩, q3⟩, q4⟩, q5⟩, q6⟩ := hh'
    have d1 : decide (n.1 < 1) = false := by rw [decide_eq_false_iff_not]; omega
    have d2 : decide (n.1 > 5) = false := by rw [decide_eq_false_iff_not]; omega
    have d3 : decide (n.2.1 < 1) = false := by rw [decide_eq_false_iff_not]; omega
    have d4 : decide (n.2.1 > n.1) = false := by rw [decide_eq_false_iff_not]; omega
    have d5 : decide (n.2.2.1 < 1) = false := by rw [decide_eq_false_iff_not]; omega
    have d6 : decide (n.2.2.1 > 1000) = false := by rw [decide_eq_false_iff_not]; omega
    simp only [d1, d2, d3, d4, d5, d6, cond_false]
    cases hb : wiresBad n with
    | true => simp [netok, hh, hb]
    | false =>
      simp only [cond_false]
      obtain ⟨m, hm⟩ : ∃ m : Nat, n.1 = m := ⟨n.1.toNat, by omega⟩
      have hw := wiresOk hm hb
      have d7 : decide (0 ≤ n.1) = true := by rw [decide_eq_true_eq]; omega
      have hm' : n.1.toNat = m := by omega
      simp only [d7, cond_true, hm', ble_true (show m ≤ 17179869184 by omega)]
      have g0 : getI (List.replicate m false) 0 = some false := by
        rw [getI_zero, List.getElem?_replicate, if_pos (by omega)]
      simp only [g0, Option.bind_some, Int.toNat_zero]
      obtain ⟨st', p1, p2, p3, p4, p5⟩ := met_outer n hn m hm (by omega) hw ((List.replicate m false).set 0 true) (by simp)
        (fun v hv hg => by
          rw [gt_set] at hg
          have hz : gt (List.replicate m false) v = false := by
            simp only [gt, List.getElem?_replicate]; split <;> rfl
          rw [hz] at hg
          simp at hg
          have : v = 0 := by omega
          subst this; exact .zero)
        (by rw [gt_set]; simp; omega)
        (by have := (cnt_set (List.replicate m false) 0).2 (by rw [List.getElem?_replicate, if_pos (by omega)]); omega)
        (fun s3 => Option.bind (e_slices_Contains_bool (s3.2.1, false, ())) fun x4 => some (!x4))
      rw [p5]
      simp only [p_ContainsB st' false (show st'.length ≤ BB by rw [p1]; exact Nat.le_trans (show m ≤ 5 by omega) (by decide)), Option.bind_some, netok, hh, hb, Bool.not_false, Bool.true_and, Option.some.injEq]
      have hall := all_true p1
      by_cases hc : ∀ v : Int, 0 ≤ v → v < n.1 → Rc n.2.2.2 v
      · have e1 : conn n = true := by simp only [conn, decide_eq_true_eq]; exact hc
        rw [e1, hall.2 fun v h0 h1 => closed_all p2 p4 v (hc v h0 (by omega))]; rfl
      · have e1 : conn n = false := by simp only [conn, decide_eq_false_iff_not]; exact hc
        have : decide (false ∈ st') = true := by
          cases hd : decide (false ∈ st') with
          | true => rfl
          | false => exact absurd (fun v h0 h1 => p3 v h0 (hall.1 hd v h0 (by omega))) hc
        rw [e1, this]; rfl
  · simp only [Bool.not_eq_true] at hh
    have e : netok n = false := by simp [netok, hh]
    rw [e]
    have hh' := hh
    simp only [hdrOk, Bool.and_eq_false_iff, decide_eq_false_iff_not] at hh'
    by_cases d1 : n.1 < 1
    · simp [d1]
    by_cases d2 : n.1 > 5
    · simp [d1, d2]
    by_cases d3 : n.2.1 < 1
    · simp [d1, d2, d3]
    by_cases d4 : n.2.1 > n.1
    · simp [d1, d2, d3, d4]
    by_cases d5 : n.2.2.1 < 1
    · simp [d1, d2, d3, d4, d5]
    by_cases d6 : n.2.2.1 > 1000
    · simp [d1, d2, d3, d4, d5, d6]
    omega

end Go.Sx.R
namespace Go.Sx.R
open Go Go.Sx

def addIf (c : Bool) (v : Int) (q : List Int) : List Int := if c = true ∧ v ∉ q then q ++ [v] else q

theorem addIf_mem {c : Bool} {v u : Int} {q : List Int} (h : u ∈ q) : u ∈ addIf c v q := by
  unfold addIf; split
  · simp [h]
  · exact h
theorem addIf_in {v : Int} {q : List Int} : v ∈ addIf true v q := by
  unfold addIf; split
  · simp
  · rename_i h; simpa using h
theorem addIf_get {c : Bool} {v u : Int} {q : List Int} {i : Nat} (h : q[i]? = some u) : (addIf c v q)[i]? = some u := by
  unfold addIf; split
  · rw [List.getElem?_append_left (get_lt h)]; exact h
  · exact h
theorem addIf_len {c : Bool} {v : Int} {q : List Int} : q.length ≤ (addIf c v q).length := by
  unfold addIf; split <;> simp

/-- What holds of the queue. -/
structure QOk (ws : List W3) (q : List Int) : Prop where
  nodup : q.Nodup
  rc : ∀ v ∈ q, Rc ws v
  zero : (0 : Int) ∈ q

theorem QOk.add {ws : List W3} {q : List Int} (h : QOk ws q) {c : Bool} {v : Int} (hv : c = true → Rc ws v) : QOk ws (addIf c v q) := by
  unfold addIf; split
  · rename_i hc
    refine ⟨?_, fun u hu => ?_, by simp [h.zero]⟩
    · rw [List.nodup_append]
      refine ⟨h.nodup, by simp, fun a ha b hb e => ?_⟩
      simp at hb; subst hb; subst e; exact hc.2 ha
    · rcases List.mem_append.1 hu with hu | hu
      · exact h.rc u hu
      · simp at hu; subst hu; exact hv hc.1
  · exact h

theorem QOk.len {ws : List W3} {q : List Int} {m : Nat} (h : QOk ws q) (h0 : 0 < m) (hw : InW m ws) : q.length ≤ m := by
  have := nodup_len (m := ints m) h.nodup fun v hv => mem_ints.2 ((h.rc v hv).inn h0 hw)
  rwa [len_ints] at this

def Done (ws : List W3) (v : Int) (q : List Int) : Prop := ∀ e ∈ ws, (e.1 = v → e.2.1 ∈ q) ∧ (e.2.1 = v → e.1 ∈ q)

def reachG (x : Int) (q : List Int) (_ : Nat) (e : W3) : List Int := addIf (decide (e.2.1 = x)) e.1 (addIf (decide (e.1 = x)) e.2.1 q)

theorem addT {v : Int} {q : List Int} (h : v ∉ q) : addIf true v q = q ++ [v] := by simp [addIf, h]
theorem addN {c : Bool} {v : Int} {q : List Int} (h : v ∈ q) : addIf c v q = q := by simp [addIf, h]
theorem addF {v : Int} {q : List Int} : addIf false v q = q := by simp [addIf]

theorem reach_step (ws : List W3) (hws : Sm.sm B1 ws) (m : Nat) (h0 : 0 < m) (h5 : m ≤ 5) (hw : InW m ws) (i : Nat) (x : Int) (q : List Int) (hq : QOk ws q) (hx : q[i]? = some x) (j : Nat) (e : W3) (he : ws[j]? = some e) (hj : j < ws.length) (kc ke : _ → Option (List Int)) :
    r_spec_l03Reach_L2 e_spec_l03Has N0 (ws, q, (i : Int), ws, (ws.length : Int), (j : Int), ()) kc ke = kc (ws, reachG x q j e, (i : Int), ws, (ws.length : Int), ((j + 1 : Nat) : Int), ()) := by
  have hxq : x ∈ q := List.mem_of_getElem? hx
  have hl := hq.len h0 hw
  have hbb : ∀ k : Nat, k ≤ 7 → k ≤ BB := fun k hk => Nat.le_trans hk (by decide)
  simp only [r_spec_l03Reach_L2, lt_len, hj, decide_true, cond_true, getI_nat, he, hx, Option.bind_some, wr_len hj hws]
  rw [p_Has q e.2.1 (hbb _ (by omega)), p_Has q e.1 (hbb _ (by omega))]
  have hx2 : ∀ v : Int, (q ++ [v])[i]? = some x := fun v => by rw [List.getElem?_append_left (get_lt hx)]; exact hx
  have room : Nat.ble (q.length + 1) 17179869184 = true := ble_true (by omega)
  have room2 : Nat.ble (q.length + 1 + 1) 17179869184 = true := ble_true (by omega)
  rw [p_Has (q ++ [e.2.1]) e.1 (hbb _ (by simp; omega))]
  simp only [List.length_cons, List.length_nil, List.length_append, Nat.zero_add, room, room2, hx2, Option.bind_some, cond_true, reachG]
  by_cases a1 : e.1 = x
  · rw [a1]
    simp only [decide_true, cond_true]
    by_cases a2 : e.2.1 ∈ q
    · simp only [a2, decide_true, Bool.not_true, cond_false, addN a2]
      by_cases a3 : e.2.1 = x
      · simp only [a3, decide_true, cond_true, hxq, Bool.not_true, cond_false, addN hxq]
      · simp only [a3, decide_false, cond_false, addF]
    · simp only [a2, decide_false, Bool.not_false, cond_true, addT a2]
      by_cases a3 : e.2.1 = x
      · exact absurd (a3 ▸ hxq) a2
      · simp only [a3, decide_false, cond_false, addF]
  · simp only [a1, decide_false, cond_false, addF]
    by_cases a3 : e.2.1 = x
    · simp only [a3, decide_true, cond_true]
      by_cases a4 : e.1 ∈ q
      · simp only [a4, decide_true, Bool.not_true, cond_false, addN a4]
      · simp only [a4, decide_false, Bool.not_false, cond_true, addT a4]
    · simp only [a3, decide_false, cond_false, addF]

theorem reach_inner (ws : List W3) (hws : Sm.sm B1 ws) (m : Nat) (h0 : 0 < m) (h5 : m ≤ 5) (hw : InW m ws) (i : Nat) (x : Int) (q : List Int) (hq : QOk ws q) (hx : q[i]? = some x) (ke : _ → Option (List Int)) :
    ∃ q', iterK (r_spec_l03Reach_L2 e_spec_l03Has N0) N0 (ws, q, (i : Int), ws, (ws.length : Int), 0, ()) ke = ke (ws, q', (i : Int), ws, (ws.length : Int), (ws.length : Int), ()) ∧
      QOk ws q' ∧ q'[i]? = some x ∧ (∀ u ∈ q, u ∈ q') ∧ q.length ≤ q'.length ∧ Done ws x q' ∧ ∀ (j : Nat) (u : Int), q[j]? = some u → q'[j]? = some u := by
  have hxr : Rc ws x := hq.rc x (List.mem_of_getElem? hx)
  have := iter_fold (R := List Int) (body := r_spec_l03Reach_L2 e_spec_l03Has N0) ws (fun (q : List Int) j => (ws, q, (i : Int), ws, (ws.length : Int), j, ()))
    (fun j q' => QOk ws q' ∧ q'[i]? = some x ∧ (∀ u ∈ q, u ∈ q') ∧ q.length ≤ q'.length ∧ (∀ (k : Nat) (e : W3), k < j → ws[k]? = some e → (e.1 = x → e.2.1 ∈ q') ∧ (e.2.1 = x → e.1 ∈ q')) ∧ ∀ (k : Nat) (u : Int), q[k]? = some u → q'[k]? = some u) (reachG x)
    (fun q' j e kc ke ⟨p1, p2, p3, p4, p5, p6⟩ he hj => by
      refine ⟨reach_step ws hws m h0 h5 hw i x q' p1 p2 j e he hj kc ke, ?_, ?_, ?_, ?_, ?_, ?_⟩
      · have hem := List.mem_of_getElem? he
        refine (p1.add fun hc => ?_).add fun hc => ?_
        · have : e.1 = x := by simpa using hc
          exact .ab hem (this ▸ hxr)
        · have : e.2.1 = x := by simpa using hc
          exact .ba hem (this ▸ hxr)
      · exact addIf_get (addIf_get p2)
      · exact fun u hu => addIf_mem (addIf_mem (p3 u hu))
      · exact Nat.le_trans p4 (Nat.le_trans addIf_len addIf_len)
      · intro k e' hk hek
        by_cases ek : k = j
        · subst ek
          rw [he] at hek; simp only [Option.some.injEq] at hek; subst hek
          refine ⟨fun h1 => ?_, fun h2 => ?_⟩
          · refine addIf_mem ?_
            rw [decide_eq_true h1]; exact addIf_in
          · simp only [reachG]
            rw [decide_eq_true h2]; exact addIf_in
        · have := p5 k e' (by omega) hek
          exact ⟨fun h => addIf_mem (addIf_mem (this.1 h)), fun h => addIf_mem (addIf_mem (this.2 h))⟩
      · exact fun k u hk => addIf_get (addIf_get (p6 k u hk)))
    (fun q' kc ke _ => by simp only [r_spec_l03Reach_L2, not_lt_self, cond_false]) (N := N0) (len_lt hws N0_gt) q ⟨hq, hx, fun _ h => h, Nat.le_refl _, by simp, fun _ _ h => h⟩ ke
  obtain ⟨e1, p1, p2, p3, p4, p5, p6⟩ := this
  refine ⟨_, e1, p1, p2, p3, p4, fun e he => ?_, p6⟩
  obtain ⟨k, hk⟩ := List.getElem?_of_mem he
  exact p5 k e (get_lt hk) hk

theorem p_Reach (ws : List W3) (hws : Sm.sm B1 ws) (m : Nat) (h0 : 0 < m) (h5 : m ≤ 5) (hw : InW m ws) :
    ∃ q, e_spec_l03Reach (ws, 0, ()) = some q ∧ QOk ws q ∧ ∀ v ∈ q, Done ws v q := by
  simp only [e_spec_l03Reach, r_spec_l03Reach]
  refine iter_while (fun o => ∃ q, o = some q ∧ QOk ws q ∧ ∀ v ∈ q, Done ws v q)
    (fun s : List W3 × List Int × Int × Unit => s.1 = ws ∧ QOk ws s.2.1 ∧ ∃ i : Nat, s.2.2.1 = i ∧ i ≤ s.2.1.length ∧ ∀ (j : Nat) (u : Int), j < i → s.2.1[j]? = some u → Done ws u s.2.1) (fun s => m - s.2.2.1.toNat) ?_ N0 _ ⟨rfl, ⟨by simp, fun v hv => ?_, by simp⟩, 0, rfl, by simp, by simp⟩ (by have := N0_big; simp only [Int.toNat_zero]; omega)
  · rintro ⟨ws', q, at', u⟩ kc ⟨rfl, hq, i, rfl, hi, hd⟩ hk
    simp only [r_spec_l03Reach_L0]
    simp only at hq hi hd
    by_cases hlt : i < q.length
    · simp only [lt_len, hlt, decide_true, cond_true]
      have hx : q[i]? = some q[i] := List.getElem?_eq_getElem hlt
      obtain ⟨q', e1, p1, p2, p3, p4, p5, p6⟩ := reach_inner ws' hws m h0 h5 hw i q[i] q hq hx (fun s1 => kc (s1.1, s1.2.1, wr (s1.2.2.1 + 1), ()))
      rw [e1]
      have hl := hq.len h0 hw
      simp only [wr_succ hlt (by omega)]
      refine hk _ ⟨rfl, p1, i + 1, rfl, by simp only; omega, fun j u hj hu => ?_⟩ (by simp only [Int.toNat_natCast]; omega)
      simp only at hu ⊢
      by_cases ej : j = i
      · subst ej; rw [p2] at hu; simp only [Option.some.injEq] at hu; rw [← hu]; exact p5
      · have hj' : j < q.length := by omega
        have h1 : q[j]? = some q[j] := List.getElem?_eq_getElem hj'
        have h2 := p6 j _ h1
        rw [hu] at h2; simp only [Option.some.injEq] at h2; subst h2
        intro e he
        exact ⟨fun h => p3 _ ((hd j _ (by omega) h1 e he).1 h), fun h => p3 _ ((hd j _ (by omega) h1 e he).2 h)⟩
    · have hd' : decide ((i : Int) < (q.length : Int)) = false := by simp; omega
      simp only [hd', cond_false]
      refine ⟨q, rfl, hq, fun v hv => ?_⟩
      obtain ⟨j, hj⟩ := List.getElem?_of_mem hv
      exact hd j v (by have := get_lt hj; omega) hj
  · simp at hv; subst hv; exact .zero

theorem reach_all {ws : List W3} {q : List Int} (hq : QOk ws q) (hd : ∀ v ∈ q, Done ws v q) : ∀ v, Rc ws v → v ∈ q := by
  intro v h
  induction h with
  | zero => exact hq.zero
  | ab he _ ih => exact (hd _ ih _ he).1 rfl
  | ba he _ ih => exact (hd _ ih _ he).2 rfl

theorem s_NetOk (n : TNet) (hn : Sm.sm B1 n) : e_spec_NetOk (n, ()) = some (netok n) := by
  simp only [e_spec_NetOk, r_spec_NetOk, p_l01In, n_l01In, Option.bind_some]
  by_cases hh : hdrOk n = true
  · have hh' := hh
    simp only [hdrOk, Bool.and_eq_true, decide_eq_true_eq] at hh'
    obtain ⟨⟨⟨⟨⟨q1, q2⟩, q3⟩, q4⟩, q5⟩, q6⟩ := hh'
    simp only [q1, q2, q3, q4, q5, q6, decide_true, Bool.and_self, Bool.not_true, cond_false]
    rw [netL0_spec n hn _ q1 q2]
    cases hb : wiresBad n with
    | true => simp [netok, hh, hb]
    | false =>
      simp only [cond_false]
      obtain ⟨m, hm⟩ : ∃ m : Nat, n.1 = m := ⟨n.1.toNat, by omega⟩
      have hw := wiresOk hm hb
      obtain ⟨q, e1, hq, hd⟩ := p_Reach n.2.2.2 hn.2.2.2 m (by omega) (by omega) hw
      rw [e1]
      simp only [Option.bind_some, netok, hh, hb, Bool.not_false, Bool.true_and, Option.some.injEq]
      have hl := hq.len (by omega) hw
      by_cases hc : ∀ v : Int, 0 ≤ v → v < n.1 → Rc n.2.2.2 v
      · have e2 : conn n = true := by simp only [conn, decide_eq_true_eq]; exact hc
        rw [e2, decide_eq_true_eq]
        have := nodup_len (l := ints m) (m := q) nodup_ints fun v hv => reach_all hq hd v (hc v (mem_ints.1 hv).1 (by have := (mem_ints.1 hv).2; omega))
        rw [len_ints] at this; omega
      · have e2 : conn n = false := by simp only [conn, decide_eq_false_iff_not]; exact hc
        rw [e2, decide_eq_false_iff_not]
        intro hlen
        have hall := nodup_all (m := ints m) hq.nodup (fun v hv => mem_ints.2 ((hq.rc v hv).inn (by omega) hw)) (by rw [len_ints]; omega)
        exact hc fun v h0 h1 => hq.rc v (hall v (mem_ints.2 ⟨h0, by omega⟩))
  · simp only [Bool.not_eq_true] at hh
    have e : netok n = false := by simp [netok, hh]
    rw [e]
    have hh' := hh
    simp only [hdrOk, Bool.and_eq_false_iff, decide_eq_false_iff_not] at hh'
    by_cases d1 : 1 ≤ n.1 ∧ n.1 ≤ 5
    · by_cases d3 : 1 ≤ n.2.1 ∧ n.2.1 ≤ n.1
      · have d5 : (decide (1 ≤ n.2.2.1) && decide (n.2.2.1 ≤ 1000)) = false := by simp only [Bool.and_eq_false_iff, decide_eq_false_iff_not]; omega
        simp [d1, d3, d5]
      · have d3' : (decide (1 ≤ n.2.1) && decide (n.2.1 ≤ n.1)) = false := by simp only [Bool.and_eq_false_iff, decide_eq_false_iff_not]; omega
        simp [d1, d3']
    · have d1' : (decide (1 ≤ n.1) && decide (n.1 ≤ 5)) = false := by simp only [Bool.and_eq_false_iff, decide_eq_false_iff_not]; omega
      simp [d1']
end Go.Sx.R
namespace Go.Sx.R
open Go Go.Sx

-- bounds
def badB (low high : List Int) (i : Nat) (x : W3) : Bool := match low[i]?, high[i]? with
  | some l, some h => !(decide (1 ≤ l) && decide (l ≤ x.2.2) && (decide (x.2.2 ≤ h) && decide (h ≤ 200)))
  | _, _ => false

theorem bounds_impl (ws : List W3) (low high : List Int) (hws : Sm.sm B1 ws) (hl : low.length = ws.length) (hh : high.length = ws.length) :
    iterK (r_impl_BoundsOk_L0 e_impl_NetOk N0) N0 (low, high, ws, (ws.length : Int), 0, ()) (fun _ => some true) = some (!(ws.zipIdx 0).any fun p => badB low high p.2 p.1) := by
  rw [iter_range (R := Bool) ws (fun (_ : Unit) i => (low, high, ws, (ws.length : Int), i, ())) (fun _ i x k => cond (badB low high i x) (some false) (k ())) ?_ ?_ (len_lt hws N0_gt) ()]
  · rw [rangeK_stop (fun i x => badB low high i x) (some false) _ _ _ (fun j x k _ => rfl)]
    cases (ws.zipIdx 0).any _ <;> rfl
  · intro st i x kc ke hx hi
    have h1 : low[i]? = some low[i] := List.getElem?_eq_getElem (by omega)
    have h2 : high[i]? = some high[i] := List.getElem?_eq_getElem (by omega)
    simp only [r_impl_BoundsOk_L0, lt_len, hi, decide_true, cond_true, getI_nat, hx, Option.bind_some, h1, h2, wr_len hi hws, badB]
    by_cases a1 : low[i] < 1
    · have : ¬ 1 ≤ low[i] := by omega
      simp [a1, this]
    · have b1 : 1 ≤ low[i] := by omega
      by_cases a2 : low[i] > x.2.2
      · have : ¬ low[i] ≤ x.2.2 := by omega
        simp [a1, a2, this]
      · have b2 : low[i] ≤ x.2.2 := by omega
        by_cases a3 : x.2.2 > high[i]
        · have : ¬ x.2.2 ≤ high[i] := by omega
          simp [a1, a2, a3, this]
        · have b3 : x.2.2 ≤ high[i] := by omega
          by_cases a4 : high[i] > 200
          · have : ¬ high[i] ≤ 200 := by omega
            simp [a1, a2, a3, a4, this]
          · have b4 : high[i] ≤ 200 := by omega
            simp [a1, a2, a3, a4, b1, b2, b3, b4]
  · intro st kc ke
    simp only [r_impl_BoundsOk_L0, not_lt_self, cond_false]

noncomputable def n_BoundsOk (n : TNet) (low high : List Int) : Bool := netok n && decide (low.length = n.2.2.2.length) && decide (high.length = n.2.2.2.length) && !(n.2.2.2.zipIdx 0).any fun p => badB low high p.2 p.1

theorem p_BoundsOk (n : TNet) (low high : List Int) (hn : Sm.sm B1 n) : e_impl_BoundsOk (n, low, high, ()) = some (n_BoundsOk n low high) := by
  simp only [e_impl_BoundsOk, r_impl_BoundsOk, p_NetOk n hn, Option.bind_some, n_BoundsOk, dec_eq]
  cases netok n with
  | false => rfl
  | true =>
    by_cases h1 : low.length = n.2.2.2.length
    · by_cases h2 : high.length = n.2.2.2.length
      · simp only [h1, h2, decide_true, Bool.not_true, cond_false, Bool.true_and]
        exact bounds_impl n.2.2.2 low high hn.2.2.2 h1 h2
      · simp [h1, h2]
    · simp [h1]

end Go.Sx.R
namespace Go.Sx.R
open Go Go.Sx

theorem find_first {β : Type} (p : β → Bool) : ∀ (l : List β) (i : Nat) (x : β), (∀ (j : Nat) (y : β), j < i → l[j]? = some y → p y = false) → l[i]? = some x → p x = true → l.find? p = some x
  | [], i, x, _, hx, _ => by simp at hx
  | y :: l, 0, x, _, hx, hp => by
    simp at hx; subst hx; simp [hp]
  | y :: l, i + 1, x, h, hx, hp => by
    have h0 := h 0 y (by omega) (by simp)
    simp only [List.find?_cons, h0]
    exact find_first p l i x (fun j z hj hz => h (j + 1) z (by omega) (by simpa using hz)) (by simpa using hx) hp

theorem find_none {β : Type} (p : β → Bool) (l : List β) (h : ∀ (j : Nat) (y : β), l[j]? = some y → p y = false) : l.find? p = none := by
  rw [List.find?_eq_none]
  intro x hx
  obtain ⟨j, hj⟩ := List.getElem?_of_mem hx
  simp [h j x hj]

/-- A wire between two nodes. -/
def isW (a b : Int) (x : W3) : Bool := decide (x.1 = if b < a then b else a) && decide (x.2.1 = if b > a then b else a)
def wbt (ws : List W3) (a b : Int) : Int := if a = b then 0 else match ws.find? (isW a b) with
  | some x => x.2.2
  | none => 0

theorem p_WB (n : TNet) (m : Nat) (hn : Sm.sm B1 n) (hw : InW m n.2.2.2) (a b : Int) : e_impl_WeightBetween (n, a, b, ()) = some (wbt n.2.2.2 a b) := by
  have hws : Sm.sm B1 n.2.2.2 := hn.2.2.2
  simp only [e_impl_WeightBetween, r_impl_WeightBetween]
  refine iter_rule (fun o => o = some (wbt n.2.2.2 a b)) n.2.2.2 (fun (_ : Unit) i => (a, b, n.2.2.2, (n.2.2.2.length : Int), i, ())) (fun i _ => a = b ∨ ∀ (j : Nat) (y : W3), j < i → n.2.2.2[j]? = some y → isW a b y = false)
    (fun st i x kc hp hx hi hk => ?_) (fun st kc hp => ?_) (len_lt hws N0_gt) () (.inr (by simp))
  · simp only [r_impl_WeightBetween_L0, lt_len, hi, decide_true, cond_true, getI_nat, hx, Option.bind_some, wr_len hi hws]
    have hk' := hk ()
    by_cases hab : a = b
    · simp only [hab, decide_true, Bool.not_true, cond_false] at hk' ⊢
      exact hk' (.inl trivial)
    · have hp := hp.resolve_left hab
      simp only [hab, decide_false, Bool.not_false, cond_true]
      have hx3 := hw x (List.mem_of_getElem? hx)
      have next : isW a b x = false → some (wbt n.2.2.2 a b) = some (wbt n.2.2.2 a b) → kc (a, b, n.2.2.2, (n.2.2.2.length : Int), ((i + 1 : Nat) : Int), ()) = some (wbt n.2.2.2 a b) := fun hf _ => hk' (.inr fun j y hj hy => by
        by_cases e : j = i
        · subst e; rw [hx] at hy; simp only [Option.some.injEq] at hy; subst hy; exact hf
        · exact hp j y (by omega) hy)
      have hit : isW a b x = true → some x.2.2 = some (wbt n.2.2.2 a b) := fun ht => by
        rw [wbt, if_neg hab, find_first (isW a b) _ i x hp hx ht]
      by_cases a1 : x.1 = a
      · by_cases a2 : x.2.1 = b
        · simp only [a1, a2, decide_true, cond_true]
          refine hit ?_
          simp only [isW, Bool.and_eq_true, decide_eq_true_eq]
          rw [if_neg (by omega), if_pos (by omega)]; exact ⟨a1, a2⟩
        · have hf : isW a b x = false := by
            simp only [isW, Bool.and_eq_false_iff, decide_eq_false_iff_not]
            by_cases c : b < a
            · left; rw [if_pos c]; omega
            · right; rw [if_pos (by omega)]; exact a2
          have a3 : ¬ (x.1 = b) := by omega
          have a3' : ¬ (a = b) := by omega
          simp only [a1, a2, decide_true, cond_true, decide_false, cond_false, a3']
          exact next hf rfl
      · by_cases a3 : x.1 = b
        · by_cases a4 : x.2.1 = a
          · simp only [a1, a3, a4, decide_true, cond_true, decide_false, cond_false]
            have : ¬ b = a := by omega
            simp only [this, decide_false, cond_false]
            refine hit ?_
            simp only [isW, Bool.and_eq_true, decide_eq_true_eq]
            rw [if_pos (by omega), if_neg (by omega)]; exact ⟨a3, a4⟩
          · have hf : isW a b x = false := by
              simp only [isW, Bool.and_eq_false_iff, decide_eq_false_iff_not]
              by_cases c : b < a
              · right; rw [if_neg (by omega)]; exact a4
              · left; rw [if_neg c]; exact a1
            have : ¬ b = a := by omega
            simp only [a3, a4, decide_true, cond_true, decide_false, cond_false, this]
            exact next hf rfl
        · have hf : isW a b x = false := by
            simp only [isW, Bool.and_eq_false_iff, decide_eq_false_iff_not]
            left; split <;> assumption
          simp only [a1, a3, decide_false, cond_false]
          exact next hf rfl
  · simp only [r_impl_WeightBetween_L0, not_lt_self, cond_false]
    by_cases hab : a = b
    · simp [wbt, hab]
    · rw [wbt, if_neg hab, find_none (isW a b) _ fun j y hy => (hp.resolve_left hab) j y (get_lt hy) hy]

theorem s_Find (ws : List W3) (hws : Sm.sm B1 ws) (a b : Int) : ∃ r, e_spec_l03Find (ws, a, b, ()) = some r ∧ ((r = -1 ∧ ws.find? (isW a b) = none) ∨ ∃ (j : Nat) (x : W3), r = j ∧ ws[j]? = some x ∧ ws.find? (isW a b) = some x) := by
  simp only [e_spec_l03Find, r_spec_l03Find]
  refine iter_rule (fun o => ∃ r : Int, o = some r ∧ ((r = -1 ∧ ws.find? (isW a b) = none) ∨ ∃ (j : Nat) (x : W3), r = j ∧ ws[j]? = some x ∧ ws.find? (isW a b) = some x)) ws (fun (_ : Unit) i => (a, b, ws, (ws.length : Int), i, ())) (fun i _ => ∀ (j : Nat) (y : W3), j < i → ws[j]? = some y → isW a b y = false)
    (fun st i x kc hp hx hi hk => ?_) (fun st kc hp => ?_) (len_lt hws N0_gt) () (by simp)
  · simp only [r_spec_l03Find_L0, lt_len, hi, decide_true, cond_true, getI_nat, hx, Option.bind_some, wr_len hi hws]
    have next : isW a b x = false → _ := fun hf => hk () fun j y hj hy => by
        by_cases e : j = i
        · subst e; rw [hx] at hy; simp only [Option.some.injEq] at hy; subst hy; exact hf
        · exact hp j y (by omega) hy
    by_cases c1 : x.1 = if b < a then b else a
    · by_cases c2 : x.2.1 = if b > a then b else a
      · have d1 := decide_eq_true c1
        have d2 := decide_eq_true c2
        refine ⟨i, ?_, .inr ⟨i, x, rfl, hx, find_first (isW a b) _ i x hp hx (by simp only [isW, d1, d2, Bool.and_self])⟩⟩
        rw [d1, cond_true, d2, cond_true]
      · have d1 := decide_eq_true c1
        have d2 := decide_eq_false c2
        rw [d1, cond_true, d2, cond_false]
        exact next (by simp only [isW, d2, Bool.and_false])
    · have d1 := decide_eq_false c1
      rw [d1, cond_false]
      exact next (by simp only [isW, d1, Bool.false_and])
  · simp only [r_spec_l03Find_L0, not_lt_self, cond_false]
    exact ⟨-1, rfl, .inl ⟨rfl, find_none (isW a b) _ fun j y hy => hp j y (get_lt hy) hy⟩⟩

theorem s_WB (n : TNet) (hn : Sm.sm B1 n) (a b : Int) : e_spec_WeightBetween (n, a, b, ()) = some (wbt n.2.2.2 a b) := by
  simp only [e_spec_WeightBetween, r_spec_WeightBetween]
  obtain ⟨r, e1, h⟩ := s_Find n.2.2.2 hn.2.2.2 a b
  rw [e1, Option.bind_some]
  rcases h with ⟨rfl, h⟩ | ⟨j, x, rfl, hx, h⟩
  · simp [wbt, h]
  · have : decide ((j : Int) < 0) = false := by simp
    rw [this, cond_false, getI_nat, hx]
    by_cases hab : a = b
    · simp [hab, wbt]
    · simp [hab, wbt, h]

/-- What a good network is. -/
theorem netok_facts {n : TNet} (h : netok n = true) : ∃ m : Nat, n.1 = m ∧ 1 ≤ m ∧ m ≤ 5 ∧ InW m n.2.2.2 ∧ 1 ≤ n.2.1 ∧ n.2.1 ≤ m := by
  have hh : hdrOk n = true := by revert h; simp only [netok]; cases hdrOk n <;> simp
  have hb : wiresBad n = false := by revert h; simp only [netok]; cases wiresBad n <;> simp
  simp only [hdrOk, Bool.and_eq_true, decide_eq_true_eq] at hh
  obtain ⟨m, hm⟩ : ∃ m : Nat, n.1 = m := ⟨n.1.toNat, by omega⟩
  exact ⟨m, hm, by omega, by omega, wiresOk hm hb, by omega, by omega⟩

end Go.Sx.R
namespace Go.Sx.R
open Go Go.Sx

theorem u64_id {x : Int} (h0 : 0 ≤ x) (h1 : x ≤ 18446744073709551615) : Go.IntKind.wrap Go.IntKind.u64 x = x := by
  simp only [IntKind.wrap, IntKind.bits, IntKind.signed]
  simp
  omega

theorem common_L0 : r_spec_GcdOf_L0 e_spec_l02Turn N0 = r_impl_common_L0 N0 := by
  funext s kc ke
  simp only [r_spec_GcdOf_L0, r_impl_common_L0, e_spec_l02Turn, r_spec_l02Turn]
  cases decide (s.2.1 = 0) <;> rfl

theorem common_loop (a b : Nat) (hb : b ≤ 9223372036854775807) : (iterK (r_impl_common_L0 N0) N0 ((a : Int), (b : Int), ()) fun s1 => some s1.1) = some ((Nat.gcd a b : Nat) : Int) := by
  refine iter_while (fun o => o = some ((Nat.gcd a b : Nat) : Int)) (fun s : Int × Int × Unit => ∃ x y : Nat, s = ((x : Int), (y : Int), ()) ∧ Nat.gcd x y = Nat.gcd a b) (fun s => s.2.1.toNat) ?_ N0 _ ⟨a, b, rfl, rfl⟩ (by have := N0_big; simp only [Int.toNat_natCast]; omega)
  rintro _ kc ⟨x, y, rfl, hg⟩ hk
  simp only [r_impl_common_L0]
  by_cases hy : y = 0
  · subst hy
    simp at hg
    simp [hg]
  · have d : decide ((y : Int) = 0) = false := by rw [decide_eq_false_iff_not]; omega
    simp only [d, Bool.not_false, cond_true, cond_false]
    have e : Int.tmod (x : Int) (y : Int) = ((x % y : Nat) : Int) := by rw [Int.tmod_eq_emod_of_nonneg (by omega)]; simp
    rw [e]
    refine hk _ ⟨y, x % y, rfl, ?_⟩ ?_
    · rw [← hg, Nat.gcd_comm y, ← Nat.gcd_rec, Nat.gcd_comm]
    · simp only [Int.toNat_natCast]
      exact Nat.mod_lt _ (by omega)

theorem p_common (a b : Nat) (hb : b ≤ 9223372036854775807) : e_impl_common ((a : Int), (b : Int), ()) = some ((Nat.gcd a b : Nat) : Int) := by
  simp only [e_impl_common, r_impl_common]
  exact common_loop a b hb

-- weights at nodes
def touch (v : Int) (e : W3) : Int := if e.1 = v ∨ e.2.1 = v then e.2.2 else 0
def wAt (ws : List W3) (v : Int) : Int := (ws.map (touch v)).sum
/-- Sums of numbers that are small and not negative. -/
theorem sum_bounds {β : Type} (h : β → Int) (M : Int) : ∀ (l : List β), (∀ x ∈ l, 0 ≤ h x ∧ h x ≤ M) → 0 ≤ (l.map h).sum ∧ (l.map h).sum ≤ M * l.length
  | [], _ => by simp
  | x :: l, hx => by
    have h1 := sum_bounds h M l fun y hy => hx y (by simp [hy])
    have h2 := hx x (by simp)
    simp only [List.map_cons, List.sum_cons, List.length_cons]
    have : M * ((l.length + 1 : Nat) : Int) = M * l.length + M := by rw [Int.natCast_add, Int.mul_add]; simp
    rw [this]; omega

theorem take_sum {β : Type} (h : β → Int) (M : Int) (l : List β) (hx : ∀ x ∈ l, 0 ≤ h x ∧ h x ≤ M) (i : Nat) : 0 ≤ ((l.take i).map h).sum ∧ ((l.take i).map h).sum ≤ M * l.length := by
  have h1 := sum_bounds h M (l.take i) fun y hy => hx y (List.mem_of_mem_take hy)
  refine ⟨h1.1, Int.le_trans h1.2 ?_⟩
  cases l with
  | nil => simp
  | cons x l =>
    have hM : 0 ≤ M := by have := hx x (by simp); omega
    refine Int.mul_le_mul_of_nonneg_left ?_ hM
    have : ((x :: l).take i).length ≤ (x :: l).length := by simp; omega
    omega

theorem take_succ_sum {β : Type} (h : β → Int) (l : List β) (i : Nat) (x : β) (hx : l[i]? = some x) : ((l.take (i + 1)).map h).sum = ((l.take i).map h).sum + h x := by
  rw [List.take_add_one, hx]
  simp

end Go.Sx.R
namespace Go.Sx.R
open Go Go.Sx

theorem wiresW {n : TNet} (h : netok n = true) : ∀ e ∈ n.2.2.2, 1 ≤ e.2.2 ∧ e.2.2 ≤ 200 := by
  intro e he
  have hb : wiresBad n = false := by revert h; simp only [netok]; cases wiresBad n <;> simp
  obtain ⟨i, hi⟩ := List.getElem?_of_mem he
  simp only [wiresBad, List.any_eq_false] at hb
  have := hb (e, i) (by rw [List.mem_zipIdx_iff_getElem?]; exact hi)
  simp only [badW, Bool.not_eq_true, Bool.or_eq_false_iff, Bool.not_eq_false', Bool.and_eq_true, decide_eq_true_eq] at this
  omega

theorem touch_le {ws : List W3} (hW : ∀ e ∈ ws, 1 ≤ e.2.2 ∧ e.2.2 ≤ 200) (v : Int) : ∀ e ∈ ws, 0 ≤ touch v e ∧ touch v e ≤ 200 := by
  intro e he
  have := hW e he
  unfold touch; split <;> omega

theorem p_WeightAt (n : TNet) (hn : Sm.sm B1 n) (hW : ∀ e ∈ n.2.2.2, 1 ≤ e.2.2 ∧ e.2.2 ≤ 200) (v : Int) : e_impl_WeightAt (n, v, ()) = some (wAt n.2.2.2 v) := by
  have hws : Sm.sm B1 n.2.2.2 := hn.2.2.2
  have hlen : n.2.2.2.length ≤ 1073741824 := hws.1
  simp only [e_impl_WeightAt, r_impl_WeightAt]
  have m := iter_fold (R := Int) (body := r_impl_WeightAt_L0 N0) n.2.2.2 (fun (s : Int) i => (v, s, n.2.2.2, (n.2.2.2.length : Int), i, ())) (fun i s => s = ((n.2.2.2.take i).map (touch v)).sum) (fun s _ x => s + touch v x)
    (fun s i x kc ke hs hx hi => by
      have b1 := take_sum (touch v) 200 n.2.2.2 (touch_le hW v) i
      have b2 := touch_le hW v x (List.mem_of_getElem? hx)
      refine ⟨?_, by rw [take_succ_sum _ _ _ _ hx, hs]⟩
      simp only [r_impl_WeightAt_L0, lt_len, hi, decide_true, cond_true, getI_nat, hx, Option.bind_some, wr_len hi hws]
      by_cases c1 : x.1 = v
      · have ht : touch v x = x.2.2 := by simp [touch, c1]
        have w1 : wr (s + x.2.2) = s + x.2.2 := wr_id (by omega) (by omega)
        simp only [c1, decide_true, cond_true, w1, ht]
      · by_cases c2 : x.2.1 = v
        · have ht : touch v x = x.2.2 := by simp [touch, c2]
          have w1 : wr (s + x.2.2) = s + x.2.2 := wr_id (by omega) (by omega)
          simp only [c1, c2, decide_true, decide_false, cond_true, cond_false, w1, ht]
        · have ht : touch v x = 0 := by simp [touch, c1, c2]
          simp only [c1, c2, decide_false, cond_false, ht, Int.add_zero])
    (fun s kc ke _ => by simp only [r_impl_WeightAt_L0, not_lt_self, cond_false]) (N := N0) (len_lt hws N0_gt) 0 (by simp) (fun s1 => some s1.2.1)
  have e := m.1
  rw [m.2, List.take_length] at e
  exact e

theorem e_WeightAt : e_spec_WeightAt = e_impl_WeightAt := rfl

end Go.Sx.R
namespace Go.Sx.R
open Go Go.Sx

-- lists in strict order
theorem lex_trans {x y z : W3} (h1 : lex x y = true) (h2 : lex y z = true) : lex x z = true := by
  simp only [lex, Bool.or_eq_true, Bool.and_eq_true, decide_eq_true_eq] at *; omega
abbrev Srt (l : List W3) : Prop := l.Pairwise fun x y => lex x y = true

theorem srt_of_adj : ∀ {l : List W3}, (∀ (i : Nat) (x y : W3), l[i]? = some x → l[i + 1]? = some y → lex x y = true) → Srt l
  | [], _ => List.Pairwise.nil
  | [x], _ => by simp [Srt]
  | x :: y :: l, h => by
    have ih : Srt (y :: l) := srt_of_adj fun i a b ha hb => h (i + 1) a b (by simpa using ha) (by simpa using hb)
    have hxy := h 0 x y (by simp) (by simp)
    refine List.pairwise_cons.2 ⟨fun z hz => ?_, ih⟩
    rcases List.mem_cons.1 hz with rfl | hz
    · exact hxy
    · exact lex_trans hxy ((List.pairwise_cons.1 ih).1 z hz)

theorem netok_srt {n : TNet} (h : netok n = true) : Srt n.2.2.2 := by
  have hb : wiresBad n = false := by revert h; simp only [netok]; cases wiresBad n <;> simp
  refine srt_of_adj fun i x y hx hy => ?_
  simp only [wiresBad, List.any_eq_false] at hb
  have := hb (y, i + 1) (by rw [List.mem_zipIdx_iff_getElem?]; exact hy)
  simp only [badW, Bool.not_eq_true, Bool.or_eq_false_iff, hx] at this
  simpa using this.2

/-- In a sorted list a pair of ends stands once. -/
theorem srt_uniq {l : List W3} (h : Srt l) {x y : W3} (hx : x ∈ l) (hy : y ∈ l) (h1 : x.1 = y.1) (h2 : x.2.1 = y.2.1) : x = y := by
  induction l with
  | nil => simp at hx
  | cons z l ih =>
    obtain ⟨hz, hl⟩ := List.pairwise_cons.1 h
    rcases List.mem_cons.1 hx with rfl | hx' <;> rcases List.mem_cons.1 hy with e | hy'
    · exact e.symm
    · have := hz y hy'
      simp only [lex, Bool.or_eq_true, Bool.and_eq_true, decide_eq_true_eq] at this; omega
    · subst e
      have := hz x hx'
      simp only [lex, Bool.or_eq_true, Bool.and_eq_true, decide_eq_true_eq] at this; omega
    · exact ih hl hx' hy'

/-- The weights between, and the wires. -/
theorem wbt_mem {ws : List W3} (hs : Srt ws) {a b : Int} (hab : a < b) {w : Int} (hw : w ≠ 0) : wbt ws a b = w ↔ (a, b, w) ∈ ws := by
  have hp : ∀ x : W3, isW a b x = true ↔ x.1 = a ∧ x.2.1 = b := by
    intro x
    simp only [isW, Bool.and_eq_true, decide_eq_true_eq]
    rw [if_neg (by omega), if_pos (by omega)]
  rw [wbt, if_neg (by omega)]
  constructor
  · intro h
    split at h
    · rename_i x hx
      have h1 := (hp x).1 (List.find?_some hx)
      have h2 := List.mem_of_find?_eq_some hx
      obtain ⟨x1, x2, x3⟩ := x
      simp only at h1 h
      rw [h1.1, h1.2, h] at h2
      exact h2
    · exact absurd h.symm hw
  · intro h
    cases hf : ws.find? (isW a b) with
    | none =>
      rw [List.find?_eq_none] at hf
      exact absurd ((hp (a, b, w)).2 ⟨rfl, rfl⟩) (by simpa using hf _ h)
    | some x =>
      have h1 := (hp x).1 (List.find?_some hf)
      have h2 := List.mem_of_find?_eq_some hf
      have := srt_uniq hs h2 h h1.1 h1.2
      simp only
      rw [this]

-- tables
def IsTab (T : List (List Int)) (m : Nat) (f : Nat → Nat → Int) : Prop := T.length = m ∧ ∀ i, i < m → ∃ row : List Int, T[i]? = some row ∧ row.length = m ∧ ∀ j, j < m → row[j]? = some (f i j)

theorem p_table (n : TNet) (m : Nat) (hn : Sm.sm B1 n) (hm : n.1 = m) (hm5 : m ≤ 5) (hw : InW m n.2.2.2) : ∃ T, e_impl_table (n, ()) = some T ∧ IsTab T m (fun i j => wbt n.2.2.2 (i : Int) (j : Int)) := by
  have hmB : m ≤ 9223372036854775807 := by omega
  have d0 : decide ((0 : Int) ≤ n.1) = true := by rw [decide_eq_true_eq]; omega
  have hmt : n.1.toNat = m := by omega
  have rm : Nat.ble m 17179869184 = true := ble_true (by omega)
  simp only [e_impl_table, r_impl_table, d0, cond_true, hmt, rm, List.length_replicate]
  have hd : (List.range m).length = m := by simp
  have hlm : ((m : Nat) : Int) = ((List.range m).length : Int) := by rw [hd]
  refine iter_rule (R := List (List Int)) (fun o => ∃ T, o = some T ∧ IsTab T m (fun i j => wbt n.2.2.2 (i : Int) (j : Int))) (List.range m) (fun (T : List (List Int)) i => (n, T, (m : Int), i, ()))
    (fun i T => T.length = m ∧ ∀ i', i' < i → ∃ row : List Int, T[i']? = some row ∧ row.length = m ∧ ∀ j, j < m → row[j]? = some (wbt n.2.2.2 (i' : Int) (j : Int)))
    (fun T i x kc ⟨p1, p2⟩ hx hi hk => ?_) (fun T kc ⟨p1, p2⟩ => ?_) (by have := N0_big; omega) _ ⟨by simp, by simp⟩
  · have him : i < m := by rw [hd] at hi; exact hi
    have d1 : decide ((i : Int) < (m : Int)) = true := by rw [decide_eq_true_eq]; omega
    obtain ⟨r0, hr0⟩ := getI_has p1 him
    have hset : (T.set i (List.replicate m (0 : Int)))[i]? = some (List.replicate m (0 : Int)) := by rw [List.getElem?_set_self (by omega)]
    simp only [r_impl_table_L0, d1, cond_true, d0, hmt, rm, hr0, Option.bind_some, Int.toNat_natCast, getI_nat, hset, List.length_replicate]
    refine iter_rule (R := List (List Int)) (fun o => ∃ T, o = some T ∧ IsTab T m (fun i j => wbt n.2.2.2 (i : Int) (j : Int))) (List.range m) (fun (T : List (List Int)) j => (n, T, (i : Int), (m : Int), (i : Int), (m : Int), j, ()))
      (fun j T => T.length = m ∧ (∀ i', i' < i → ∃ row : List Int, T[i']? = some row ∧ row.length = m ∧ ∀ j, j < m → row[j]? = some (wbt n.2.2.2 (i' : Int) (j : Int))) ∧ ∃ row : List Int, T[i]? = some row ∧ row.length = m ∧ ∀ j', j' < j → row[j']? = some (wbt n.2.2.2 (i : Int) (j' : Int)))
      (fun T j y kc2 ⟨q1, q2, row, q3, q4, q5⟩ hy hj hk2 => ?_) (fun T kc2 ⟨q1, q2, row, q3, q4, q5⟩ => ?_) (by have := N0_big; omega) _ ⟨by simpa using p1, fun i' hi' => ?_, List.replicate m 0, hset, by simp, by simp⟩
    · have hjm : j < m := by rw [hd] at hj; exact hj
      have d2 : decide ((j : Int) < (m : Int)) = true := by rw [decide_eq_true_eq]; omega
      obtain ⟨v0, hv0⟩ := getI_has q4 hjm
      simp only [r_impl_table_L2, d2, cond_true, getI_nat, q3, Option.bind_some, p_WB n m hn hw, Int.toNat_natCast]
      rw [← getI_nat row j, hv0, Option.bind_some, wr_succ hjm hmB]
      refine hk2 _ ⟨by simpa using q1, fun i' hi' => ?_, row.set j (wbt n.2.2.2 (i : Int) (j : Int)), by rw [List.getElem?_set_self (by omega)], by simpa using q4, fun j' hj' => ?_⟩
      · rw [List.getElem?_set_ne (by omega)]; exact q2 i' hi'
      · rw [List.getElem?_set]
        by_cases e : j = j'
        · subst e; rw [if_pos rfl, if_pos (by omega)]
        · rw [if_neg e]; exact q5 j' (by omega)
    · have d2 : decide ((((List.range m).length : Nat) : Int) < (m : Int)) = false := by rw [decide_eq_false_iff_not, hd]; omega
      simp only [r_impl_table_L2, d2, cond_false, wr_succ him hmB]
      refine hk _ ⟨q1, fun i' hi' => ?_⟩
      by_cases e : i' = i
      · subst e; exact ⟨row, q3, q4, fun j hj => q5 j (by rw [hd]; exact hj)⟩
      · exact q2 i' (by omega)
    · rw [List.getElem?_set_ne (by omega)]; exact p2 i' hi'
  · have d2 : decide ((((List.range m).length : Nat) : Int) < (m : Int)) = false := by rw [decide_eq_false_iff_not, hd]; omega
    simp only [r_impl_table_L0, d2, cond_false]
    exact ⟨T, rfl, p1, fun i hi => p2 i (by rw [hd]; exact hi)⟩

theorem IsTab.put {T : List (List Int)} {m : Nat} {f : Nat → Nat → Int} (h : IsTab T m f) {a b : Nat} {v : Int} (ha : a < m) {row : List Int} (hr : T[a]? = some row) : IsTab (T.set a (row.set b v)) m (fun i j => if i = a ∧ j = b then v else f i j) := by
  obtain ⟨h1, h2⟩ := h
  refine ⟨by simpa using h1, fun i hi => ?_⟩
  rw [List.getElem?_set]
  by_cases e : a = i
  · subst e
    obtain ⟨row', r1, r2, r3⟩ := h2 a hi
    rw [hr] at r1; simp only [Option.some.injEq] at r1; subst r1
    rw [if_pos rfl, if_pos (by omega)]
    refine ⟨_, rfl, by simpa using r2, fun j hj => ?_⟩
    rw [List.getElem?_set]
    by_cases e2 : b = j
    · subst e2; rw [if_pos rfl, if_pos (by omega)]; simp
    · rw [if_neg e2, r3 j hj]
      have : ¬ (True ∧ j = b) := by simp; omega
      simp; omega
  · rw [if_neg e]
    obtain ⟨row', r1, r2, r3⟩ := h2 i hi
    refine ⟨row', r1, r2, fun j hj => ?_⟩
    rw [r3 j hj]
    have : ¬ (i = a ∧ j = b) := by omega
    simp [this]

end Go.Sx.R
namespace Go.Sx.R
open Go Go.Sx

theorem p_sizeI (n : Int) (h1 : -9223372036854775807 ≤ n) (h2 : n ≤ 9223372036854775807) : e_impl_size (n, ()) = some (n.natAbs : Int) := by
  simp only [e_impl_size, r_impl_size]
  by_cases h : n < 0
  · have e : Go.IntKind.wrap Go.IntKind.u64 (0 - Go.IntKind.wrap Go.IntKind.u64 n) = (n.natAbs : Int) := by
      simp only [IntKind.wrap, IntKind.bits, IntKind.signed]
      simp
      omega
    simp only [h, decide_true, cond_true, e]
  · simp only [h, decide_false, cond_false]
    rw [u64_id (by omega) (by omega)]
    congr 1; omega

theorem s_GcdI (a b : Int) (ha : -9223372036854775807 ≤ a) (ha2 : a ≤ 9223372036854775807) (hb : -9223372036854775807 ≤ b) (hb2 : b ≤ 9223372036854775807) : e_spec_GcdOf (a, b, ()) = some ((Nat.gcd a.natAbs b.natAbs : Nat) : Int) := by
  simp only [e_spec_GcdOf, r_spec_GcdOf, common_L0]
  have d1 : decide (a < -9223372036854775807) = false := by rw [decide_eq_false_iff_not]; omega
  have d2 : decide (b < -9223372036854775807) = false := by rw [decide_eq_false_iff_not]; omega
  have w1 : wr (0 - a) = 0 - a := wr_id (by omega) (by omega)
  have w2 : wr (0 - b) = 0 - b := wr_id (by omega) (by omega)
  have e1 : (if 0 - a > a then 0 - a else a) = (a.natAbs : Int) := by split <;> omega
  have e2 : (if 0 - b > b then 0 - b else b) = (b.natAbs : Int) := by split <;> omega
  rw [d1, d2, w1, w2]
  simp only [cond_false]
  rw [e1, e2]
  exact common_loop a.natAbs b.natAbs (by omega)

theorem tdiv_abs (n : Int) (g : Nat) : (0 ≤ n → Int.tdiv n (g : Int) = ((n.natAbs / g : Nat) : Int)) ∧ (n < 0 → Int.tdiv n (g : Int) = -((n.natAbs / g : Nat) : Int)) := by
  refine ⟨fun h => ?_, fun h => ?_⟩
  · have e : n = ((n.natAbs : Nat) : Int) := by omega
    rw [e, Int.tdiv_eq_ediv_of_nonneg (by omega)]; simp
  · have e : n = -((n.natAbs : Nat) : Int) := by omega
    have : Int.tdiv (-((n.natAbs : Nat) : Int)) (g : Int) = -((n.natAbs / g : Nat) : Int) := by
      rw [Int.neg_tdiv, Int.tdiv_eq_ediv_of_nonneg (by omega)]; simp
    rw [← e] at this; exact this

end Go.Sx.R
namespace Go.Sx.R
open Go Go.Sx

def keyB (A B : Int) (e : W3) : Bool := decide (e.1 = A) && decide (e.2.1 = B)
theorem keyB_iff {A B : Int} {e : W3} : keyB A B e = true ↔ e.1 = A ∧ e.2.1 = B := by simp [keyB]

theorem lex_iff {x y : W3} : lex x y = true ↔ x.1 < y.1 ∨ (x.1 = y.1 ∧ x.2.1 < y.2.1) := by
  simp only [lex, Bool.or_eq_true, Bool.and_eq_true, decide_eq_true_eq]

def ins (x : W3) : List W3 → List W3
  | [] => [x]
  | e :: l => if lex x e = true then x :: e :: l else e :: ins x l

theorem mem_ins (x y : W3) : ∀ l, y ∈ ins x l ↔ y = x ∨ y ∈ l
  | [] => by simp [ins]
  | e :: l => by
    rw [ins]
    split
    · simp
    · simp only [List.mem_cons, mem_ins x y l]
      constructor
      · rintro (h | h | h) <;> simp [h]
      · rintro (h | h | h) <;> simp [h]

theorem srt_ins (x : W3) : ∀ l, Srt l → (∀ e ∈ l, ¬ (e.1 = x.1 ∧ e.2.1 = x.2.1)) → Srt (ins x l)
  | [], _, _ => by simp [ins]
  | e :: l, h, hx => by
    have h1 := List.pairwise_cons.1 h
    rw [ins]
    split
    · rename_i hl
      refine List.pairwise_cons.2 ⟨fun y hy => ?_, h⟩
      rcases List.mem_cons.1 hy with rfl | hy
      · exact hl
      · exact lex_trans hl (h1.1 y hy)
    · rename_i hl
      have hex := hx e (by simp)
      refine List.pairwise_cons.2 ⟨fun y hy => ?_, srt_ins x l h1.2 fun y hy => hx y (by simp [hy])⟩
      rcases (mem_ins x y l).1 hy with rfl | hy
      · rw [lex_iff] at hl ⊢; omega
      · exact h1.1 y hy

end Go.Sx.R
namespace Go.Sx.R
open Go Go.Sx

theorem p_ContainsI (xs : List Int) (v : Int) (hl : xs.length ≤ BB) : e_slices_Contains_int (xs, v, ()) = some (decide (v ∈ xs)) := by
  simp only [e_slices_Contains_int, r_slices_Contains_int, e_slices_Index_int, r_slices_Index_int]
  rw [iter_range (R := Int) xs (fun (_ : Unit) i => (xs, v, (xs.length : Int), i, ())) (fun _ i x k => cond (decide (v = x)) (some (i : Int)) (k ())) ?_ ?_ (by have := N0_gt; omega) ()]
  · have key : ∀ (l : List Int) (i : Nat), (rangeK l i () (fun _ i x k => cond (decide (v = x)) (some (i : Int)) (k ())) fun _ => some (-1 : Int)).bind (fun r => some (decide (r ≥ 0))) = some (decide (v ∈ l)) := by
      intro l
      induction l with
      | nil => intro i; simp [rangeK]
      | cons x l ih =>
        intro i
        simp only [rangeK]
        by_cases e : v = x
        · subst e; simp
        · simp only [e, decide_false, cond_false, ih (i + 1)]
          simp [e]
    exact key xs 0
  · intro st i x kc ke hx hi
    simp only [r_slices_Index_int_L0, lt_len, hi, decide_true, cond_true, getI_nat, hx, Option.bind_some]
    rw [wr_succ hi hl]
  · intro st kc ke
    simp only [r_slices_Index_int_L0, not_lt_self, cond_false]


theorem p_Clone (x : List Int) (hl : x.length ≤ 17179869184) : e_slices_Clone_int (x, ()) = some x := by
  have h : Nat.ble (List.length ([] : List Int) + x.length) 17179869184 = true := ble_true (by simp; omega)
  simp only [e_slices_Clone_int, r_slices_Clone_int, h, cond_true, List.nil_append]
  cases x with
  | nil => exact agree_same
  | cons a l => rfl

end Go.Sx.R
namespace Go.Sx.R
open Go Go.Sx

theorem wr_def (x : Int) : wr x = if 9223372036854775808 ≤ x % 18446744073709551616 then x % 18446744073709551616 - 18446744073709551616 else x % 18446744073709551616 := by
  show IntKind.i64.wrap x = _
  unfold IntKind.wrap
  have h1 : ((2 : Int) ^ IntKind.i64.bits) = 18446744073709551616 := by decide
  have h2 : ((2 : Int) ^ (IntKind.i64.bits - 1)) = 9223372036854775808 := by decide
  have h3 : IntKind.i64.signed = true := rfl
  simp only [h1, h2, h3, Bool.true_and, ge_iff_le, decide_eq_true_eq]

theorem wr_congr {x y : Int} (h : (x - y) % 18446744073709551616 = 0) : wr x = wr y := by
  have : x % 18446744073709551616 = y % 18446744073709551616 := by omega
  rw [wr_def, wr_def, this]

theorem wr_off (x : Int) : ∃ k, wr x = x + 18446744073709551616 * k := by
  have h : (wr x - x) % 18446744073709551616 = 0 := by rw [wr_def]; split <;> omega
  exact ⟨(wr x - x) / 18446744073709551616, by omega⟩

theorem wr_addM (x k : Int) : wr (x + 18446744073709551616 * k) = wr x := wr_congr (by omega)
theorem wr_wr (x : Int) : wr (wr x) = wr x := by obtain ⟨k, e⟩ := wr_off x; rw [e, wr_addM]; exact e
theorem wr_addl (x y : Int) : wr (wr x + y) = wr (x + y) := by
  obtain ⟨k, e⟩ := wr_off x
  exact wr_congr (by rw [e]; omega)
theorem wr_addr (x y : Int) : wr (x + wr y) = wr (x + y) := by rw [Int.add_comm, wr_addl, Int.add_comm]
theorem wr_mull (x y : Int) : wr (wr x * y) = wr (x * y) := by
  obtain ⟨k, e⟩ := wr_off x
  rw [e, Int.add_mul, Int.mul_assoc, wr_addM]
theorem wr_mulr (x y : Int) : wr (x * wr y) = wr (x * y) := by rw [Int.mul_comm, wr_mull, Int.mul_comm]

def at2 (m : List (List Int)) (r c : Int) : Int := (getI ((getI m r).getD []) c).getD 0

def dsum (m : List (List Int)) (r : Int) (D : Nat → Int) : List Int → Nat → Int → Int
  | [], _, _ => 0
  | c :: cs, j, sg => sg * at2 m r c * D j + dsum m r D cs (j + 1) (-sg)

/-- The determinant of some rows and columns, along the first row. -/
def detZ (m : List (List Int)) : List Int → List Int → Int
  | [], _ => 1
  | r :: rows, cols => dsum m r (fun j => detZ m rows (cols.eraseIdx j)) cols 0 1

def stepD (m : List (List Int)) (r : Int) (D : Nat → Int) (st : Int × Int) (j : Nat) (c : Int) : Int × Int :=
  (if at2 m r c = 0 then st.1 else wr (st.1 + wr (wr (st.2 * at2 m r c) * wr (D j))), wr (0 - st.2))

theorem fold_det (m : List (List Int)) (r : Int) (D : Nat → Int) : ∀ (cs : List Int) (j : Nat) (s sg : Int), (sg = 1 ∨ sg = -1) → wr s = s → (foldI (stepD m r D) cs j (s, sg)).1 = wr (s + dsum m r D cs j sg)
  | [], _, s, _, _, hs => by simp only [foldI, dsum, Int.add_zero, hs]
  | c :: cs, j, s, sg, hg, hs => by
    have hsg : wr (0 - sg) = -sg := by rcases hg with rfl | rfl <;> rfl
    have h1 : (stepD m r D (s, sg) j c) = (wr (s + sg * at2 m r c * D j), -sg) := by
      simp only [stepD, hsg, Prod.mk.injEq, and_true]
      split
      · rename_i h; rw [h, Int.mul_zero, Int.zero_mul, Int.add_zero, hs]
      · rw [wr_addr, ← wr_addr s, wr_mull, wr_mulr, wr_addr]
    simp only [foldI, dsum, h1]
    rw [fold_det m r D cs (j + 1) _ _ (by rcases hg with rfl | rfl <;> simp) (wr_wr _), wr_addl, Int.add_assoc]

/-- All entries are there. -/
def Ent (m : List (List Int)) (rows cols : List Int) : Prop := ∀ r ∈ rows, ∃ row, getI m r = some row ∧ ∀ c ∈ cols, ∃ x, getI row c = some x

theorem Ent.at {m : List (List Int)} {rows cols : List Int} (h : Ent m rows cols) {r c : Int} (hr : r ∈ rows) (hc : c ∈ cols) : ∃ row, getI m r = some row ∧ getI row c = some (at2 m r c) := by
  obtain ⟨row, e1, h1⟩ := h r hr
  obtain ⟨x, e2⟩ := h1 c hc
  exact ⟨row, e1, by simp only [at2, e1, Option.getD_some, e2]⟩

theorem sgn_next {sg : Int} (hg : sg = 1 ∨ sg = -1) : wr (0 - sg) = 1 ∨ wr (0 - sg) = -1 := by rcases hg with rfl | rfl <;> decide

theorem p_det (m : List (List Int)) : ∀ (rows : List Int) (n : Nat) (cols : List Int), rows.length < n → rows.length ≤ 1073741824 → cols.length ≤ 1073741824 → Ent m rows cols → e_impl_det_n n (m, rows, cols, ()) = some (wr (detZ m rows cols))
  | [], n + 1, cols, _, _, _, _ => by simp [e_impl_det_n, r_impl_det, detZ]; rfl
  | r :: rows, n + 1, cols, hn, hrl, hl, he => by
    simp only [List.length_cons] at hn hrl
    have hd : decide ((((r :: rows).length : Nat) : Int) = 0) = false := by rw [decide_eq_false_iff_not]; simp; omega
    simp only [e_impl_det_n, r_impl_det, hd, cond_false, detZ]
    have q := iter_fold (R := Int) (body := r_impl_det_L0 e_slices_Clone_int e_slices_Delete_int (e_impl_det_n n) N0) cols (fun (st : Int × Int) i => (m, r :: rows, cols, st.1, st.2, cols, (cols.length : Int), i, ()))
      (fun _ st => st.2 = 1 ∨ st.2 = -1) (stepD m r (fun j => detZ m rows (cols.eraseIdx j)))
      (fun st i x kc ke hp hx hi => by
        refine ⟨?_, sgn_next hp⟩
        have hxm := List.mem_of_getElem? hx
        obtain ⟨row, e1, e2⟩ := he.at List.mem_cons_self hxm
        have g0 : getI (r :: rows) 0 = some r := rfl
        have w1 : wr ((i : Int) + 1) = ((i + 1 : Nat) : Int) := wr_succ hi (by omega)
        simp only [r_impl_det_L0, lt_len, hi, decide_true, cond_true, getI_nat, hx, Option.bind_some, g0, e1, e2, w1]
        by_cases hz : at2 m r x = 0
        · simp only [hz, decide_true, Bool.not_true, cond_false, stepD, if_true]
        · have d1 : decide ((1 : Int) ≤ (((r :: rows).length : Nat) : Int)) = true := by rw [decide_eq_true_eq]; simp; omega
          have hdel : e_slices_Delete_int cols ((i : Int), (((i + 1 : Nat) : Int), ())) = some (cols, cols.eraseIdx i) := by
            have hc : decide ((0 : Int) ≤ (i : Int) ∧ (i : Int) ≤ ((i + 1 : Nat) : Int) ∧ ((i + 1 : Nat) : Int) ≤ (cols.length : Int)) = true := by rw [decide_eq_true_eq]; omega
            simp only [e_slices_Delete_int, delFn, hc, cond_true, Int.toNat_natCast, List.eraseIdx_eq_take_drop_succ]
          have hrows : List.take ((((r :: rows).length : Nat) : Int).toNat - Int.toNat 1) (List.drop (Int.toNat 1) (r :: rows)) = rows := by
            show List.take ((((r :: rows).length : Nat) : Int).toNat - 1) (List.drop 1 (r :: rows)) = rows
            rw [Int.toNat_natCast]; simp
          have hrec := p_det m rows n (cols.eraseIdx i) (by omega) (by omega) (by rw [List.length_eraseIdx]; split <;> omega) (fun r' hr' => by
            obtain ⟨row', a1, a2⟩ := he r' (List.mem_cons_of_mem _ hr')
            exact ⟨row', a1, fun c hc => a2 c (List.mem_of_mem_eraseIdx hc)⟩)
          simp only [hz, decide_false, Bool.not_false, cond_true, d1, Int.le_refl, decide_true, p_Clone cols (by omega), Option.bind_some, hdel, hrows, hrec, stepD, if_false])
      (fun st kc ke _ => by simp only [r_impl_det_L0, not_lt_self, cond_false]) (N := N0) (by have := N0_big; omega) (0, 1) (.inl rfl) (fun s1 => some s1.2.2.2.1)
    rw [q.1, fold_det m r _ cols 0 0 1 (.inl rfl) rfl, Int.zero_add]

theorem s_det (m : List (List Int)) : ∀ (rows : List Int) (n : Nat) (cols : List Int), rows.length < n → rows.length ≤ 1073741824 → cols.length ≤ 1073741824 → Ent m rows cols → e_spec_l04Det_n n (m, rows, cols, ()) = some (wr (detZ m rows cols))
  | [], n + 1, cols, _, _, _, _ => by simp [e_spec_l04Det_n, r_spec_l04Det, detZ]; rfl
  | r :: rows, n + 1, cols, hn, hrl, hl, he => by
    simp only [List.length_cons] at hn hrl
    have hd : decide ((((r :: rows).length : Nat) : Int) = 0) = false := by rw [decide_eq_false_iff_not]; simp; omega
    simp only [e_spec_l04Det_n, r_spec_l04Det, hd, cond_false, detZ]
    have q := iter_fold (R := Int) (body := r_spec_l04Det_L0 (e_spec_l04Det_n n) N0) cols (fun (st : Int × Int) i => (m, r :: rows, cols, st.1, st.2, cols, (cols.length : Int), i, ()))
      (fun _ st => st.2 = 1 ∨ st.2 = -1) (stepD m r (fun j => detZ m rows (cols.eraseIdx j)))
      (fun st i x kc ke hp hx hi => by
        refine ⟨?_, sgn_next hp⟩
        have hxm := List.mem_of_getElem? hx
        obtain ⟨row, e1, e2⟩ := he.at List.mem_cons_self hxm
        have g0 : getI (r :: rows) 0 = some r := rfl
        have w1 : wr ((i : Int) + 1) = ((i + 1 : Nat) : Int) := wr_succ hi (by omega)
        simp only [r_spec_l04Det_L0, lt_len, hi, decide_true, cond_true, getI_nat, hx, Option.bind_some, g0, e1, e2, w1]
        by_cases hz : at2 m r x = 0
        · simp only [hz, decide_true, Bool.not_true, cond_false, stepD, if_true]
        · have d1 : decide ((1 : Int) ≤ (((r :: rows).length : Nat) : Int)) = true := by rw [decide_eq_true_eq]; simp; omega
          have d2 : decide ((0 : Int) ≤ (i : Int)) = true := by rw [decide_eq_true_eq]; omega
          have d3 : decide ((i : Int) ≤ (cols.length : Int)) = true := by rw [decide_eq_true_eq]; omega
          have d4 : decide ((0 : Int) ≤ ((i + 1 : Nat) : Int)) = true := by rw [decide_eq_true_eq]; omega
          have d5 : decide (((i + 1 : Nat) : Int) ≤ (cols.length : Int)) = true := by rw [decide_eq_true_eq]; omega
          have t1 : List.take ((i : Int).toNat - Int.toNat 0) (List.drop (Int.toNat 0) cols) = cols.take i := by
            show List.take ((i : Int).toNat - 0) (List.drop 0 cols) = _
            rw [Int.toNat_natCast]; simp
          have t2 : List.take ((cols.length : Int).toNat - (((i + 1 : Nat) : Int)).toNat) (List.drop (((i + 1 : Nat) : Int)).toNat cols) = cols.drop (i + 1) := by
            rw [Int.toNat_natCast, Int.toNat_natCast]
            exact List.take_of_length_le (by simp)
          have b1 : Nat.ble (List.length ([] : List Int) + (cols.take i).length) 17179869184 = true := ble_true (by simp; omega)
          have b2 : Nat.ble ((([] : List Int) ++ cols.take i).length + (cols.drop (i + 1)).length) 17179869184 = true := ble_true (by simp; omega)
          have t3 : ([] : List Int) ++ cols.take i ++ cols.drop (i + 1) = cols.eraseIdx i := by rw [List.eraseIdx_eq_take_drop_succ]; rfl
          have hrows : List.take ((((r :: rows).length : Nat) : Int).toNat - Int.toNat 1) (List.drop (Int.toNat 1) (r :: rows)) = rows := by
            show List.take ((((r :: rows).length : Nat) : Int).toNat - 1) (List.drop 1 (r :: rows)) = rows
            rw [Int.toNat_natCast]; simp
          have hrec := s_det m rows n (cols.eraseIdx i) (by omega) (by omega) (by rw [List.length_eraseIdx]; split <;> omega) (fun r' hr' => by
            obtain ⟨row', a1, a2⟩ := he r' (List.mem_cons_of_mem _ hr')
            exact ⟨row', a1, fun c hc => a2 c (List.mem_of_mem_eraseIdx hc)⟩)
          simp only [hz, decide_false, Bool.not_false, cond_true, d1, d2, d3, d4, d5, t1, t2, b1, b2, t3, Int.le_refl, decide_true, Option.bind_some, hrows, hrec, stepD, if_false])
      (fun st kc ke _ => by simp only [r_spec_l04Det_L0, not_lt_self, cond_false]) (N := N0) (by have := N0_big; omega) (0, 1) (.inl rfl) (fun s1 => some s1.2.2.2.1)
    rw [q.1, fold_det m r _ cols 0 0 1 (.inl rfl) rfl, Int.zero_add]

theorem p_det0 (m : List (List Int)) (rows cols : List Int) (h1 : rows.length ≤ 1073741824) (h2 : cols.length ≤ 1073741824) (he : Ent m rows cols) : e_impl_det (m, rows, cols, ()) = some (wr (detZ m rows cols)) :=
  p_det m rows N0 cols (by have := N0_big; omega) h1 h2 he
theorem s_det0 (m : List (List Int)) (rows cols : List Int) (h1 : rows.length ≤ 1073741824) (h2 : cols.length ≤ 1073741824) (he : Ent m rows cols) : e_spec_l04Det (m, rows, cols, ()) = some (wr (detZ m rows cols)) :=
  s_det m rows N0 cols (by have := N0_big; omega) h1 h2 he

end Go.Sx.R
namespace Go.Sx.R
open Go Go.Sx

theorem IsTab.congr {T : List (List Int)} {m : Nat} {f g : Nat → Nat → Int} (h : IsTab T m f) (e : ∀ i j, i < m → j < m → f i j = g i j) : IsTab T m g :=
  ⟨h.1, fun i hi => by obtain ⟨row, r1, r2, r3⟩ := h.2 i hi; exact ⟨row, r1, r2, fun j hj => by rw [r3 j hj, e i j hi hj]⟩⟩

theorem IsTab.uniq {T U : List (List Int)} {m : Nat} {f : Nat → Nat → Int} (h : IsTab T m f) (h' : IsTab U m f) : T = U := by
  apply List.ext_getElem?; intro i
  by_cases hi : i < m
  · obtain ⟨r, r1, r2, r3⟩ := h.2 i hi
    obtain ⟨s, s1, s2, s3⟩ := h'.2 i hi
    rw [r1, s1]
    congr 1
    apply List.ext_getElem?; intro j
    by_cases hj : j < m
    · rw [r3 j hj, s3 j hj]
    · rw [List.getElem?_eq_none (by omega), List.getElem?_eq_none (by omega)]
  · rw [List.getElem?_eq_none (by have := h.1; omega), List.getElem?_eq_none (by have := h'.1; omega)]

theorem foldI_ixmap {β γ : Type} (f : Nat → γ) : ∀ (l : List β) (i : Nat) (st : List γ), foldI (fun st i _ => st ++ [f i]) l i st = st ++ (List.range' i l.length).map f
  | [], _, st => by simp [foldI]
  | x :: l, i, st => by simp only [foldI, foldI_ixmap f l (i + 1), List.length_cons, List.range'_succ, List.map_cons, List.append_assoc, List.singleton_append]

def lapF (ws : List W3) (i j : Nat) : Int := if i = j then wAt ws (i : Int) else - wbt ws (i : Int) (j : Int)

theorem wbt_bd {ws : List W3} (hW : ∀ e ∈ ws, 1 ≤ e.2.2 ∧ e.2.2 ≤ 200) (a b : Int) : 0 ≤ wbt ws a b ∧ wbt ws a b ≤ 200 := by
  unfold wbt
  split
  · omega
  · split
    · rename_i x hx
      have := hW x (List.mem_of_find?_eq_some hx); omega
    · omega

theorem s_Lap (n : TNet) (m : Nat) (hn : Sm.sm B1 n) (hok : netok n = true) (hm : n.1 = m) (hm5 : m ≤ 5) (hW : ∀ e ∈ n.2.2.2, 1 ≤ e.2.2 ∧ e.2.2 ≤ 200) : ∃ L, e_spec_LaplacianOf (n, ()) = some L ∧ IsTab L m (lapF n.2.2.2) := by
  have hd : (List.range m).length = m := by simp
  simp only [e_spec_LaplacianOf, r_spec_LaplacianOf, s_NetOk n hn, hok, Option.bind_some, Bool.not_true, cond_false]
  have a := iter_fold (R := List (List Int)) (body := r_spec_LaplacianOf_L0 e_spec_NetOk e_spec_WeightAt e_spec_WeightBetween N0) (List.range m) (fun (st : List (List Int)) i => (n, st, i, ())) (fun i st => st.length = i) (fun st i _ => st ++ [(List.range' 0 m).map (lapF n.2.2.2 i)])
    (fun st i x kc ke hs hx hi => by
      rw [hd] at hi
      refine ⟨?_, by simp [hs]⟩
      have d1 : decide ((i : Int) < n.1) = true := by rw [decide_eq_true_eq]; omega
      have b := iter_fold (R := List (List Int)) (body := r_spec_LaplacianOf_L2 e_spec_NetOk e_spec_WeightAt e_spec_WeightBetween N0) (List.range m) (fun (row : List Int) j => (n, st, (i : Int), row, j, ())) (fun j row => row.length = j) (fun row j _ => row ++ [lapF n.2.2.2 i j])
        (fun row j y kc ke hl hy hj => by
          rw [hd] at hj
          refine ⟨?_, by simp [hl]⟩
          have d2 : decide ((j : Int) < n.1) = true := by rw [decide_eq_true_eq]; omega
          have bd := wbt_bd hW (i : Int) (j : Int)
          have w : wr (0 - wbt n.2.2.2 (i : Int) (j : Int)) = - wbt n.2.2.2 (i : Int) (j : Int) := by rw [wr_id (by omega) (by omega)]; omega
          have bl : ∀ v : Int, Nat.ble (row.length + List.length (v :: ([] : List Int))) 17179869184 = true := fun v => ble_true (by simp; omega)
          simp only [r_spec_LaplacianOf_L2, d2, cond_true, e_WeightAt, p_WeightAt n hn hW, s_WB n hn, Option.bind_some, bl, w, wr_succ hj (show m ≤ 9223372036854775807 by omega)]
          by_cases e : i = j
          · subst e; simp only [decide_true, cond_true, lapF, if_true]
          · have d3 : decide ((i : Int) = (j : Int)) = false := by rw [decide_eq_false_iff_not]; omega
            simp only [d3, cond_false, lapF, if_neg e])
        (fun row kc ke _ => by
          have d2 : decide ((((List.range m).length : Nat) : Int) < n.1) = false := by rw [decide_eq_false_iff_not, hd]; omega
          simp only [r_spec_LaplacianOf_L2, d2, cond_false]) (N := N0) (by have := N0_big; omega) [] rfl
      have bl : Nat.ble (st.length + List.length (((List.range' 0 m).map (lapF n.2.2.2 i)) :: ([] : List (List Int)))) 17179869184 = true := ble_true (by simp; omega)
      simp only [r_spec_LaplacianOf_L0, d1, cond_true]
      rw [(b _).1]
      simp only [foldI_ixmap (lapF n.2.2.2 i), List.nil_append, hd, bl, cond_true, wr_succ hi (show m ≤ 9223372036854775807 by omega)])
    (fun st kc ke _ => by
      have d2 : decide ((((List.range m).length : Nat) : Int) < n.1) = false := by rw [decide_eq_false_iff_not, hd]; omega
      simp only [r_spec_LaplacianOf_L0, d2, cond_false]) (N := N0) (by have := N0_big; omega) [] rfl (fun s2 => some s2.2.1)
  refine ⟨_, a.1, ?_⟩
  simp only [foldI_ixmap (fun i => (List.range' 0 m).map (lapF n.2.2.2 i)), List.nil_append, hd]
  refine ⟨by simp, fun i hi => ⟨(List.range' 0 m).map (lapF n.2.2.2 i), ?_, by simp, fun j hj => ?_⟩⟩
  · rw [List.getElem?_map, List.getElem?_range' hi]; simp
  · rw [List.getElem?_map, List.getElem?_range' hj]; simp

theorem p_Lap (n : TNet) (m : Nat) (hn : Sm.sm B1 n) (hok : netok n = true) (hm : n.1 = m) (hm5 : m ≤ 5) (hin : InW m n.2.2.2) (hW : ∀ e ∈ n.2.2.2, 1 ≤ e.2.2 ∧ e.2.2 ≤ 200) : ∃ L, e_impl_LaplacianOf (n, ()) = some L ∧ IsTab L m (lapF n.2.2.2) := by
  have hd : (List.range m).length = m := by simp
  have hmB : m ≤ 9223372036854775807 := by omega
  obtain ⟨T, hT, hTab⟩ := p_table n m hn hm hm5 hin
  simp only [e_impl_LaplacianOf, r_impl_LaplacianOf, p_NetOk n hn, hok, Option.bind_some, Bool.not_true, cond_false, hT]
  have hlm : ((T.length : Nat) : Int) = (m : Int) := by rw [hTab.1]
  rw [hlm]
  refine iter_rule (R := List (List Int)) (fun o => ∃ L, o = some L ∧ IsTab L m (lapF n.2.2.2)) (List.range m) (fun (T : List (List Int)) i => (n, T, (m : Int), i, ()))
    (fun i T => IsTab T m (fun a b => if a < i then lapF n.2.2.2 a b else wbt n.2.2.2 (a : Int) (b : Int))) (fun T i x kc hp hx hi hk => ?_) (fun T kc hp => ?_) (by have := N0_big; omega) T (by simpa using hTab)
  · rw [hd] at hi
    have d1 : decide ((i : Int) < (m : Int)) = true := by rw [decide_eq_true_eq]; omega
    have hlT : ((T.length : Nat) : Int) = (m : Int) := by rw [hp.1]
    simp only [r_impl_LaplacianOf_L0, d1, cond_true, hlT]
    refine iter_rule (R := List (List Int)) (fun o => ∃ L, o = some L ∧ IsTab L m (lapF n.2.2.2)) (List.range m) (fun (T : List (List Int)) j => (n, T, (i : Int), (m : Int), (i : Int), (m : Int), j, ()))
      (fun j T => IsTab T m (fun a b => if a < i then lapF n.2.2.2 a b else if a = i ∧ b < j then - wbt n.2.2.2 (a : Int) (b : Int) else wbt n.2.2.2 (a : Int) (b : Int))) (fun T j y kc2 hq hy hj hk2 => ?_) (fun T kc2 hq => ?_) (by have := N0_big; omega) T (hp.congr fun a b _ _ => by simp)
    · rw [hd] at hj
      have d2 : decide ((j : Int) < (m : Int)) = true := by rw [decide_eq_true_eq]; omega
      obtain ⟨row, r1, r2, r3⟩ := hq.2 i hi
      have g := r3 j hj
      simp only [Nat.lt_irrefl, if_false, and_false] at g
      have bd := wbt_bd hW (i : Int) (j : Int)
      have w : wr (0 - wbt n.2.2.2 (i : Int) (j : Int)) = - wbt n.2.2.2 (i : Int) (j : Int) := by rw [wr_id (by omega) (by omega)]; omega
      simp only [r_impl_LaplacianOf_L2, d2, cond_true, getI_nat, r1, Option.bind_some, g, w, Int.toNat_natCast, wr_succ hj hmB]
      refine hk2 _ ((hq.put (v := - wbt n.2.2.2 (i : Int) (j : Int)) (b := j) hi r1).congr fun a b _ _ => ?_)
      by_cases e : a = i ∧ b = j
      · rw [if_pos e, e.1, e.2, if_neg (by omega), if_pos (by omega)]
      · rw [if_neg e]
        by_cases e1 : a < i
        · rw [if_pos e1, if_pos e1]
        · rw [if_neg e1, if_neg e1]
          by_cases e2 : a = i ∧ b < j
          · rw [if_pos e2, if_pos (by omega)]
          · rw [if_neg e2, if_neg (by omega)]
    · have d2 : decide ((((List.range m).length : Nat) : Int) < (m : Int)) = false := by rw [decide_eq_false_iff_not, hd]; omega
      obtain ⟨row, r1, r2, r3⟩ := hq.2 i hi
      have g := r3 i hi
      simp only [r_impl_LaplacianOf_L2, d2, cond_false, getI_nat, r1, Option.bind_some, p_WeightAt n hn hW, g, Int.toNat_natCast, wr_succ hi hmB]
      refine hk _ ((hq.put (v := wAt n.2.2.2 (i : Int)) (b := i) hi r1).congr fun a b ha hb => ?_)
      rw [hd]
      by_cases e : a = i ∧ b = i
      · rw [if_pos e, e.1, e.2, if_pos (by omega)]; simp [lapF]
      · rw [if_neg e]
        by_cases e1 : a < i
        · rw [if_pos e1, if_pos (by omega)]
        · rw [if_neg e1]
          by_cases e2 : a = i
          · rw [if_pos ⟨e2, hb⟩, if_pos (by omega), lapF, if_neg (by omega)]
          · rw [if_neg (by omega), if_neg (by omega)]
  · have d2 : decide ((((List.range m).length : Nat) : Int) < (m : Int)) = false := by rw [decide_eq_false_iff_not, hd]; omega
    simp only [r_impl_LaplacianOf_L0, d2, cond_false]
    exact ⟨T, rfl, hp.congr fun a b ha _ => by rw [hd, if_pos ha]⟩

theorem lap_both (n : TNet) (m : Nat) (hn : Sm.sm B1 n) (hok : netok n = true) (hm : n.1 = m) (hm5 : m ≤ 5) (hin : InW m n.2.2.2) (hW : ∀ e ∈ n.2.2.2, 1 ≤ e.2.2 ∧ e.2.2 ≤ 200) : ∃ L, e_impl_LaplacianOf (n, ()) = some L ∧ e_spec_LaplacianOf (n, ()) = some L ∧ IsTab L m (lapF n.2.2.2) := by
  obtain ⟨L, h1, h2⟩ := p_Lap n m hn hok hm hm5 hin hW
  obtain ⟨L', h3, h4⟩ := s_Lap n m hn hok hm hm5 hW
  exact ⟨L, h1, by rw [h3, h2.uniq h4], h2⟩

end Go.Sx.R
namespace Go.Sx.R
open Go Go.Sx

-- bounds of determinants
def l1 (m : List (List Int)) (r : Int) (cols : List Int) : Nat := (cols.map fun c => (at2 m r c).natAbs).sum

theorem dsum_le {m : List (List Int)} {r : Int} {D : Nat → Int} {X : Nat} : ∀ (cs : List Int) (j : Nat) (s : Int), (s = 1 ∨ s = -1) → (∀ i, (D i).natAbs ≤ X) → (dsum m r D cs j s).natAbs ≤ l1 m r cs * X
  | [], _, _, _, _ => by simp [dsum, l1]
  | c :: cs, j, s, hs, hD => by
    have ih := dsum_le (m := m) (r := r) (D := D) (X := X) cs (j + 1) (-s) (by rcases hs with rfl | rfl <;> simp) hD
    have hs1 : s.natAbs = 1 := by rcases hs with rfl | rfl <;> rfl
    have t : (s * at2 m r c * D j).natAbs ≤ (at2 m r c).natAbs * X := by
      rw [Int.natAbs_mul, Int.natAbs_mul, hs1, Nat.one_mul]
      exact Nat.mul_le_mul_left _ (hD j)
    have e : l1 m r (c :: cs) = (at2 m r c).natAbs + l1 m r cs := by simp [l1]
    simp only [dsum]
    rw [e, Nat.add_mul]
    exact Nat.le_trans (Int.natAbs_add_le _ _) (Nat.add_le_add t ih)

theorem l1_erase {m : List (List Int)} {r : Int} : ∀ (cols : List Int) (i : Nat), l1 m r (cols.eraseIdx i) ≤ l1 m r cols
  | [], _ => by simp [l1]
  | c :: cs, 0 => by simp [l1]
  | c :: cs, i + 1 => by
    have := l1_erase (m := m) (r := r) cs i
    simp only [l1, List.eraseIdx_cons_succ, List.map_cons, List.sum_cons] at *; omega

theorem detZ_le {m : List (List Int)} {X : Nat} : ∀ (rows cols : List Int), (∀ r ∈ rows, l1 m r cols ≤ X) → (detZ m rows cols).natAbs ≤ X ^ rows.length
  | [], _, _ => by simp [detZ]
  | r :: rows, cols, h => by
    have hD : ∀ i, (detZ m rows (cols.eraseIdx i)).natAbs ≤ X ^ rows.length := fun i => detZ_le rows (cols.eraseIdx i) fun r' hr' => Nat.le_trans (l1_erase cols i) (h r' (List.mem_cons_of_mem _ hr'))
    have := dsum_le (m := m) (r := r) cols 0 1 (.inl rfl) hD
    simp only [detZ, List.length_cons]
    refine Nat.le_trans this ?_
    rw [Nat.pow_succ, Nat.mul_comm]
    exact Nat.mul_le_mul_left _ (h r List.mem_cons_self)

-- weights at a node
def oth (v : Int) (e : W3) : Int := e.1 + e.2.1 - v
def tch (v : Int) (e : W3) : Bool := decide (e.1 = v ∨ e.2.1 = v)

theorem touch_sum (v : Int) : ∀ (ws : List W3), wAt ws v = ((ws.filter (tch v)).map (touch v)).sum
  | [] => rfl
  | e :: ws => by
    have ih := touch_sum v ws
    simp only [wAt] at *
    by_cases c : e.1 = v ∨ e.2.1 = v
    · rw [List.filter_cons_of_pos (by simp [tch, c])]; simp [ih]
    · rw [List.filter_cons_of_neg (by simp [tch, c])]; simp [ih, touch, c]

theorem wAt_le {ws : List W3} {m : Nat} (hs : Srt ws) (hin : InW m ws) (hm5 : m ≤ 5) (hW : ∀ e ∈ ws, 1 ≤ e.2.2 ∧ e.2.2 ≤ 200) (v : Int) : 0 ≤ wAt ws v ∧ wAt ws v ≤ 1000 := by
  rw [touch_sum]
  have hb := sum_bounds (touch v) 200 (ws.filter (tch v)) fun e he => touch_le hW v e (List.mem_filter.1 he).1
  have hn : ((ws.filter (tch v)).map (oth v)).Nodup := by
    rw [List.Nodup, List.pairwise_map]
    refine (List.Pairwise.filter _ hs).imp_of_mem fun {a b} ha hb hl => ?_
    have ta := (List.mem_filter.1 ha).2
    have tb := (List.mem_filter.1 hb).2
    have ia := hin a (List.mem_filter.1 ha).1
    have ib := hin b (List.mem_filter.1 hb).1
    simp only [tch, decide_eq_true_eq] at ta tb
    simp only [lex, Bool.or_eq_true, Bool.and_eq_true, decide_eq_true_eq] at hl
    simp only [oth]
    omega
  have hl := nodup_len (m := ints 5) hn fun x hx => by
    obtain ⟨e, he, rfl⟩ := List.mem_map.1 hx
    have te := (List.mem_filter.1 he).2
    have ie := hin e (List.mem_filter.1 he).1
    simp only [tch, decide_eq_true_eq] at te
    rw [mem_ints]; simp only [oth]; omega
  rw [len_ints, List.length_map] at hl
  omega

theorem lapF_le {ws : List W3} {m : Nat} (hs : Srt ws) (hin : InW m ws) (hm5 : m ≤ 5) (hW : ∀ e ∈ ws, 1 ≤ e.2.2 ∧ e.2.2 ≤ 200) (i j : Nat) : (lapF ws i j).natAbs ≤ if i = j then 1000 else 200 := by
  simp only [lapF]
  split
  · have := wAt_le hs hin hm5 hW (i : Int); omega
  · have := wbt_bd hW (i : Int) (j : Int); omega

theorem tab_at2 {L : List (List Int)} {m : Nat} {f : Nat → Nat → Int} (h : IsTab L m f) {i j : Nat} (hi : i < m) (hj : j < m) : at2 L (i : Int) (j : Int) = f i j := by
  obtain ⟨row, r1, r2, r3⟩ := h.2 i hi
  simp only [at2, getI_nat, r1, Option.getD_some, r3 j hj]

theorem tab_ent {L : List (List Int)} {m : Nat} {f : Nat → Nat → Int} (h : IsTab L m f) {rows cols : List Int} (hr : ∀ r ∈ rows, 0 ≤ r ∧ r < m) (hc : ∀ c ∈ cols, 0 ≤ c ∧ c < m) : Ent L rows cols := by
  intro r hrm
  obtain ⟨i, rfl⟩ : ∃ i : Nat, r = i := ⟨r.toNat, by have := hr r hrm; omega⟩
  obtain ⟨row, r1, r2, r3⟩ := h.2 i (by have := hr _ hrm; omega)
  refine ⟨row, by rw [getI_nat]; exact r1, fun c hcm => ?_⟩
  obtain ⟨j, rfl⟩ : ∃ j : Nat, c = j := ⟨c.toNat, by have := hc c hcm; omega⟩
  exact ⟨_, by rw [getI_nat]; exact r3 j (by have := hc _ hcm; omega)⟩

theorem l1_lap {ws : List W3} {m : Nat} {L : List (List Int)} (hs : Srt ws) (hin : InW m ws) (hm5 : m ≤ 5) (hW : ∀ e ∈ ws, 1 ≤ e.2.2 ∧ e.2.2 ≤ 200) (h : IsTab L m (lapF ws)) {r : Int} (hr : 0 ≤ r ∧ r < m) :
    ∀ (cols : List Int), cols.Nodup → (∀ c ∈ cols, 0 ≤ c ∧ c < m) → (r ∉ cols → l1 L r cols ≤ 200 * cols.length) ∧ l1 L r cols ≤ 800 + 200 * cols.length
  | [], _, _ => by simp [l1]
  | c :: cs, hn, hc => by
    obtain ⟨n1, n2⟩ := List.nodup_cons.1 hn
    obtain ⟨q1, q2⟩ := l1_lap hs hin hm5 hW h hr cs n2 fun c hcm => hc c (List.mem_cons_of_mem _ hcm)
    obtain ⟨i, rfl⟩ : ∃ i : Nat, r = i := ⟨r.toNat, by omega⟩
    have hcc := hc c List.mem_cons_self
    obtain ⟨j, rfl⟩ : ∃ j : Nat, c = j := ⟨c.toNat, by omega⟩
    have b := lapF_le hs hin hm5 hW i j
    have e : l1 L (i : Int) ((j : Int) :: cs) = (lapF ws i j).natAbs + l1 L (i : Int) cs := by
      simp only [l1, List.map_cons, List.sum_cons, tab_at2 h (show i < m by omega) (show j < m by omega)]
    rw [e]
    simp only [List.length_cons, List.mem_cons, not_or]
    by_cases ij : i = j
    · subst ij
      have := q1 n1
      simp only [if_true] at b
      exact ⟨fun hh => absurd rfl hh.1, by omega⟩
    · rw [if_neg ij] at b
      exact ⟨fun hh => by have := q1 hh.2; omega, by omega⟩

theorem det_lap {ws : List W3} {m : Nat} {L : List (List Int)} (hs : Srt ws) (hin : InW m ws) (hm5 : m ≤ 5) (hW : ∀ e ∈ ws, 1 ≤ e.2.2 ∧ e.2.2 ≤ 200) (h : IsTab L m (lapF ws)) {rows cols : List Int} (hr : ∀ r ∈ rows, 0 ≤ r ∧ r < m) (hc : ∀ c ∈ cols, 0 ≤ c ∧ c < m) (hn : cols.Nodup) : (detZ L rows cols).natAbs ≤ 1800 ^ rows.length := by
  refine detZ_le rows cols fun r hrm => ?_
  have hl : cols.length ≤ 5 := by
    have := nodup_len (m := ints m) hn fun c hcm => by rw [mem_ints]; exact hc c hcm
    rw [len_ints] at this; omega
  have := (l1_lap hs hin hm5 hW h (hr r hrm) cols hn hc).2
  omega

end Go.Sx.R
namespace Go.Sx.R
open Go Go.Sx

theorem detZ1 (M : List (List Int)) (r c : Int) : detZ M [r] [c] = at2 M r c := by simp [detZ, dsum]
theorem detZ2 (M : List (List Int)) (r s c d : Int) : detZ M [r, s] [c, d] = at2 M r c * at2 M s d - at2 M r d * at2 M s c := by
  simp [detZ, dsum, List.eraseIdx]; grind
theorem detZ3 (M : List (List Int)) (r s t c d e : Int) : detZ M [r, s, t] [c, d, e] = at2 M r c * (at2 M s d * at2 M t e - at2 M s e * at2 M t d) - at2 M r d * (at2 M s c * at2 M t e - at2 M s e * at2 M t c) + at2 M r e * (at2 M s c * at2 M t d - at2 M s d * at2 M t c) := by
  simp [detZ, dsum, List.eraseIdx]; grind

section
variable {n : TNet} {m E : Nat} {L : List (List Int)} {inn : List Int}

end


end Go.Sx.R
namespace Go.Sx.R
open Go Go.Sx

def bnd : Nat → Nat
  | 0 => 1
  | n + 1 => 5 * bnd n

end Go.Sx.R
namespace Go.Sx.R
open Go Go.Sx

def sg : Nat → Int
  | 0 => 1
  | n + 1 => - sg n

end Go.Sx.R
namespace Go.Sx.R
open Go Go.Sx

/-- The nodes that are not in a list. -/
def woG (l : List Int) (q : List Int) (i : Nat) (_ : Nat) : List Int := if (i : Int) ∈ l then q else q ++ [(i : Int)]
def wo (m : Nat) (l : List Int) : List Int := foldI (woG l) (List.range m) 0 []

theorem foldI_ind {β σ : Type} (p : Nat → σ → Prop) (g : σ → Nat → β → σ) (hg : ∀ s i x, p i s → p (i + 1) (g s i x)) : ∀ (l : List β) (i : Nat) (s : σ), p i s → p (i + l.length) (foldI g l i s)
  | [], i, s, h => by simpa [foldI] using h
  | x :: l, i, s, h => by
    have := foldI_ind p g hg l (i + 1) (g s i x) (hg s i x h)
    have e : i + (x :: l).length = i + 1 + l.length := by simp; omega
    rw [e]; exact this

theorem wo_facts' (m : Nat) (l : List Int) : (wo m l).length ≤ m ∧ (∀ c ∈ wo m l, 0 ≤ c ∧ c < m ∧ c ∉ l) ∧ (wo m l).Nodup := by
  have := foldI_ind (β := Nat) (fun i (q : List Int) => q.length ≤ i ∧ (∀ c ∈ q, 0 ≤ c ∧ c < i ∧ c ∉ l) ∧ q.Nodup) (woG l) (fun s i x ⟨h1, h2, h3⟩ => by
    simp only [woG]
    split
    · exact ⟨by omega, fun c hc => by have := h2 c hc; exact ⟨this.1, by omega, this.2.2⟩, h3⟩
    · rename_i hni
      refine ⟨by simp; omega, fun c hc => ?_, ?_⟩
      · rcases List.mem_append.1 hc with hc | hc
        · have := h2 c hc; exact ⟨this.1, by omega, this.2.2⟩
        · simp at hc; subst hc; exact ⟨by omega, by omega, hni⟩
      · refine List.nodup_append.2 ⟨h3, by simp, fun a ha b hb => ?_⟩
        simp at hb
        have := h2 a ha
        omega) (List.range m) 0 [] ⟨by simp, by simp, by simp⟩
  simpa [wo] using this

theorem wo_facts (m : Nat) (l : List Int) : (wo m l).length ≤ m ∧ (∀ c ∈ wo m l, 0 ≤ c ∧ c < m) ∧ (wo m l).Nodup :=
  ⟨(wo_facts' m l).1, fun c hc => ⟨((wo_facts' m l).2.1 c hc).1, ((wo_facts' m l).2.1 c hc).2.1⟩, (wo_facts' m l).2.2⟩

theorem wo_len {m : Nat} {l : List Int} {x : Int} (hx : x ∈ l) (h0 : 0 ≤ x) (h1 : x < m) : (wo m l).length + 1 ≤ m := by
  have f := wo_facts' m l
  have hn : (x :: wo m l).Nodup := List.nodup_cons.2 ⟨fun h => (f.2.1 x h).2.2 hx, f.2.2⟩
  have := nodup_len (m := (List.range m).map fun (i : Nat) => (i : Int)) hn fun y hy => by
    have hy' : 0 ≤ y ∧ y < m := by
      rcases List.mem_cons.1 hy with rfl | hy
      · exact ⟨h0, h1⟩
      · exact ⟨(f.2.1 y hy).1, (f.2.1 y hy).2.1⟩
    exact List.mem_map.2 ⟨y.toNat, List.mem_range.2 (by omega), by omega⟩
  simpa using this

theorem wo_step {l q : List Int} {i x : Nat} (h : q.length ≤ i) : (woG l q i x).length ≤ i + 1 := by
  simp only [woG]; split
  · omega
  · simp; omega

theorem p_others (n : TNet) (m : Nat) (hm : n.1 = m) (hm5 : m ≤ 5) (l : List Int) (hl : l.length ≤ BB) : e_impl_others (n, l, ()) = some (wo m l) := by
  have hd : (List.range m).length = m := by simp
  simp only [e_impl_others, r_impl_others, hm]
  have a := iter_fold (R := List Int) (body := r_impl_others_L0 e_slices_Contains_int N0) (List.range m) (fun (q : List Int) i => (l, q, (m : Int), i, ())) (fun i q => q.length ≤ i) (woG l)
    (fun q i x kc ke hq hx hi => by
      rw [hd] at hi
      refine ⟨?_, wo_step hq⟩
      have d1 : decide ((i : Int) < (m : Int)) = true := by rw [decide_eq_true_eq]; omega
      simp only [r_impl_others_L0, d1, cond_true, p_ContainsI l (i : Int) hl, Option.bind_some, wr_succ hi (show m ≤ 9223372036854775807 by omega), woG]
      by_cases h : (i : Int) ∈ l
      · simp only [h, decide_true, Bool.not_true, cond_false, if_true]
      · have b : Nat.ble (q.length + List.length ((i : Int) :: ([] : List Int))) 17179869184 = true := ble_true (by simp; omega)
        simp only [h, decide_false, Bool.not_false, cond_true, if_false, b])
    (fun q kc ke _ => by
      have d2 : decide ((((List.range m).length : Nat) : Int) < (m : Int)) = false := by rw [decide_eq_false_iff_not, hd]; omega
      simp only [r_impl_others_L0, d2, cond_false]) (N := N0) (by have := N0_big; omega) [] (by simp) (fun s1 => some s1.2.1)
  exact a.1

theorem s_Without (m : Nat) (hm5 : m ≤ 5) (l : List Int) (hl : l.length ≤ BB) : e_spec_l04Without ((m : Int), l, ()) = some (wo m l) := by
  have hd : (List.range m).length = m := by simp
  simp only [e_spec_l04Without, r_spec_l04Without]
  have a := iter_fold (R := List Int) (body := r_spec_l04Without_L0 e_spec_l03Has N0) (List.range m) (fun (q : List Int) i => ((m : Int), l, q, i, ())) (fun i q => q.length ≤ i) (woG l)
    (fun q i x kc ke hq hx hi => by
      rw [hd] at hi
      refine ⟨?_, wo_step hq⟩
      have d1 : decide ((i : Int) < (m : Int)) = true := by rw [decide_eq_true_eq]; omega
      simp only [r_spec_l04Without_L0, d1, cond_true, p_Has l (i : Int) hl, Option.bind_some, wr_succ hi (show m ≤ 9223372036854775807 by omega), woG]
      by_cases h : (i : Int) ∈ l
      · simp only [h, decide_true, Bool.not_true, cond_false, if_true]
      · have b : Nat.ble (q.length + List.length ((i : Int) :: ([] : List Int))) 17179869184 = true := ble_true (by simp; omega)
        simp only [h, decide_false, Bool.not_false, cond_true, if_false, b])
    (fun q kc ke _ => by
      have d2 : decide ((((List.range m).length : Nat) : Int) < (m : Int)) = false := by rw [decide_eq_false_iff_not, hd]; omega
      simp only [r_spec_l04Without_L0, d2, cond_false]) (N := N0) (by have := N0_big; omega) [] (by simp) (fun s1 => some s1.2.2.1)
  exact a.1

/-- A network that is in order, with its Laplacian. -/
structure Lk (n : TNet) (m : Nat) (L : List (List Int)) : Prop where
  hn : Sm.sm B1 n
  ok : netok n = true
  hm : n.1 = m
  m1 : 1 ≤ m
  m5 : m ≤ 5
  sc : 1 ≤ n.2.2.1 ∧ n.2.2.1 ≤ 1000
  lp : e_impl_LaplacianOf (n, ()) = some L
  ls : e_spec_LaplacianOf (n, ()) = some L
  tab : IsTab L m (lapF n.2.2.2)
  srt : Srt n.2.2.2
  inw : InW m n.2.2.2
  hw : ∀ e ∈ n.2.2.2, 1 ≤ e.2.2 ∧ e.2.2 ≤ 200

theorem lk_of (n : TNet) (hn : Sm.sm B1 n) (ok : netok n = true) : ∃ m L, Lk n m L := by
  obtain ⟨m, hm, hm1, hm5, hin, he1, he2⟩ := netok_facts ok
  have hW := wiresW ok
  obtain ⟨L, l1, l2, l3⟩ := lap_both n m hn ok hm hm5 hin hW
  have hsc : 1 ≤ n.2.2.1 ∧ n.2.2.1 ≤ 1000 := by
    have hh : hdrOk n = true := by revert ok; simp only [netok]; cases hdrOk n <;> simp
    simp only [hdrOk, Bool.and_eq_true, decide_eq_true_eq] at hh
    omega
  exact ⟨m, L, hn, ok, hm, hm1, hm5, hsc, l1, l2, l3, netok_srt ok, hin, hW⟩

section
variable {n : TNet} {m : Nat} {L : List (List Int)}

theorem Lk.det_le (h : Lk n m L) (rows cols : List Int) : (detZ L (wo m rows) (wo m cols)).natAbs ≤ 18895680000000000 := by
  have f1 := wo_facts m rows
  have f2 := wo_facts m cols
  refine Nat.le_trans (det_lap h.srt h.inw h.m5 h.hw h.tab f1.2.1 f2.2.1 f2.2.2) ?_
  have hm5 := h.m5
  exact Nat.le_trans (Nat.pow_le_pow_right (by omega) (show (wo m rows).length ≤ 5 by omega)) (by decide)

theorem Lk.det_le4 (h : Lk n m L) (rows cols : List Int) {x : Int} (hx : x ∈ rows) (h0 : 0 ≤ x) (h1 : x < m) : (detZ L (wo m rows) (wo m cols)).natAbs ≤ 10497600000000 := by
  have f1 := wo_facts m rows
  have f2 := wo_facts m cols
  have f3 := wo_len hx h0 h1
  refine Nat.le_trans (det_lap h.srt h.inw h.m5 h.hw h.tab f1.2.1 f2.2.1 f2.2.2) ?_
  have hm5 := h.m5
  exact Nat.le_trans (Nat.pow_le_pow_right (by omega) (show (wo m rows).length ≤ 4 by omega)) (by decide)

theorem Lk.left (h : Lk n m L) (rows cols : List Int) (hr : rows.length ≤ BB) (hc : cols.length ≤ BB) :
    e_impl_left (n, rows, cols, ()) = some (detZ L (wo m rows) (wo m cols)) ∧ e_spec_l04Minor (n, rows, cols, ()) = some (detZ L (wo m rows) (wo m cols)) := by
  have f1 := wo_facts m rows
  have f2 := wo_facts m cols
  have hm5 := h.m5
  have b := h.det_le rows cols
  have w : wr (detZ L (wo m rows) (wo m cols)) = detZ L (wo m rows) (wo m cols) := wr_id (by omega) (by omega)
  have hE := tab_ent h.tab f1.2.1 f2.2.1
  constructor
  · simp only [e_impl_left, r_impl_left, h.lp, p_others n m h.hm hm5 rows hr, p_others n m h.hm hm5 cols hc, Option.bind_some, p_det0 L _ _ (show (wo m rows).length ≤ 1073741824 by omega) (show (wo m cols).length ≤ 1073741824 by omega) hE, w]
  · simp only [e_spec_l04Minor, r_spec_l04Minor, h.ls, h.hm, s_Without m hm5 rows hr, s_Without m hm5 cols hc, Option.bind_some, s_det0 L _ _ (show (wo m rows).length ≤ 1073741824 by omega) (show (wo m cols).length ≤ 1073741824 by omega) hE, w]

theorem BB_ge : 2 ≤ BB := by simp only [BB]; omega
end

theorem node_both (n : TNet) (hn : Sm.sm B1 n) (hok : netok n = true) (a : Int) : e_impl_isNode (n, a, ()) = some (decide (0 ≤ a) && decide (a < n.1)) ∧ e_spec_l01In (a, 0, wr (n.1 - 1), ()) = some (decide (0 ≤ a) && decide (a < n.1)) := by
  obtain ⟨m, hm, hm1, hm5, hin, he1, he2⟩ := netok_facts hok
  have w : wr (n.1 - 1) = n.1 - 1 := wr_id (by omega) (by omega)
  constructor
  · simp only [e_impl_isNode, r_impl_isNode]
    by_cases h : 0 ≤ a
    · simp [h]
    · simp [h]
  · have e : decide (a ≤ n.1 - 1) = decide (a < n.1) := by rw [decide_eq_decide]; omega
    simp only [w, p_l01In, n_l01In, e]

theorem mul_bd {s x : Int} {k : Nat} (hs : 1 ≤ s ∧ s ≤ 1000) (hx : x.natAbs ≤ k) : (s * x).natAbs ≤ 1000 * k := by
  rw [Int.natAbs_mul]
  exact Nat.mul_le_mul (by omega) hx

end Go.Sx.R
namespace Go.Sx.R
open Go Go.Sx

def insG (x : W3) (st : List W3 × Bool) (_ : Nat) (e : W3) : List W3 × Bool := if st.2 = false ∧ lex x e = true then (st.1 ++ [x] ++ [e], true) else (st.1 ++ [e], st.2)
theorem foldI_ins1 (x : W3) : ∀ (l : List W3) (i : Nat) (out : List W3), foldI (insG x) l i (out, true) = (out ++ l, true)
  | [], _, out => by simp [foldI]
  | e :: l, i, out => by simp [foldI, insG, foldI_ins1 x l (i + 1)]
theorem foldI_ins0 (x : W3) : ∀ (l : List W3) (i : Nat) (out : List W3), (if (foldI (insG x) l i (out, false)).2 = true then (foldI (insG x) l i (out, false)).1 else (foldI (insG x) l i (out, false)).1 ++ [x]) = out ++ ins x l
  | [], _, out => by simp [foldI, ins]
  | e :: l, i, out => by
    simp only [foldI, insG, ins]
    by_cases h : lex x e = true
    · simp [h, foldI_ins1]
    · simp only [h, Bool.false_eq_true, and_false, if_false]
      have := foldI_ins0 x l (i + 1) (out ++ [e])
      rw [this]; simp

theorem foldI_inslen (x : W3) (l : List W3) : (foldI (insG x) l 0 (([] : List W3), false)).1.length ≤ l.length + 1 := by
  have := foldI_ind (fun i (st : List W3 × Bool) => st.1.length ≤ i + (if st.2 = true then 1 else 0)) (insG x) (fun s i e h => by
    simp only [insG]
    split
    · rename_i hc
      have h2 := hc.1
      rw [h2] at h; simp at h ⊢; omega
    · simp; omega) l 0 ([], false) (by simp)
  simp only [Nat.zero_add] at this
  split at this <;> omega

end Go.Sx.R
namespace Go.Sx.R
open Go Go.Sx

abbrev CurV := Option (Value × Int × Int)

/-- A cursor in order. -/
def CurGood (A : Option (Nat × Obj)) (y : CurV) : Prop := ∃ v i h, y = some (v, i, h) ∧ CodeOk A v ∧ 0 ≤ i ∧ i ≤ 9223372036854775807

theorem and255 (x : Int) : 0 ≤ wr (((BitVec.toNat ((BitVec.ofInt (@Go.IntKind.bits @Go.IntKind.i64) x) &&& (BitVec.ofInt (@Go.IntKind.bits @Go.IntKind.i64) (255 : Int)))) : Nat) : Int) ∧
    wr (((BitVec.toNat ((BitVec.ofInt (@Go.IntKind.bits @Go.IntKind.i64) x) &&& (BitVec.ofInt (@Go.IntKind.bits @Go.IntKind.i64) (255 : Int)))) : Nat) : Int) ≤ 255 := by
  have h : (BitVec.toNat ((BitVec.ofInt (@Go.IntKind.bits @Go.IntKind.i64) x) &&& (BitVec.ofInt (@Go.IntKind.bits @Go.IntKind.i64) (255 : Int)))) ≤ 255 := by
    rw [BitVec.toNat_and]
    have e : (BitVec.ofInt (@Go.IntKind.bits @Go.IntKind.i64) (255 : Int)).toNat = 255 := by decide
    rw [e]
    exact Nat.and_le_right
  rw [wr_id (by omega) (by omega)]
  omega

theorem byte_ok {A : Option (Nat × Obj)} {y : CurV} (h : CurGood A y) : ∃ y' x, e_spec_l01Byte A y () = some (y', x) ∧ CurGood A y' ∧ 0 ≤ x ∧ x ≤ 255 := by
  obtain ⟨v, i, k, rfl, hc, h0, h1⟩ := h
  obtain ⟨p, n, c, rfl, hnc, hn, hrd⟩ := id hc
  simp only [e_spec_l01Byte, Option.bind_some, r_spec_l01Byte, rawLen]
  by_cases hi : i < (n : Int)
  · obtain ⟨x, hx, hx0, hx1⟩ := hrd i.toNat (by omega)
    have e : ((i.toNat : Nat) : Int) = i := by omega
    rw [e] at hx
    simp only [hi, decide_true, cond_true, hx, Option.bind_some]
    have hw : wr (i + 1) = i + 1 := wr_id (by omega) (by omega)
    exact ⟨_, _, rfl, ⟨_, _, _, rfl, hc, by omega, by omega⟩, (and255 _).1, (and255 _).2⟩
  · simp only [hi, decide_false, cond_false]
    exact ⟨_, _, rfl, ⟨_, _, _, rfl, hc, h0, h1⟩, (and255 _).1, (and255 _).2⟩

theorem below_ok {A : Option (Nat × Obj)} {y : CurV} (h : CurGood A y) {n : Int} (h1 : 1 ≤ n) (h2 : n ≤ 256) : ∃ y' x, e_spec_l01Below A y (n, ()) = some (y', x) ∧ CurGood A y' ∧ 0 ≤ x ∧ x < n := by
  obtain ⟨y', x, hb, hg, hx0, hx1⟩ := byte_ok h
  have d1 : decide (n ≤ 0) = false := by rw [decide_eq_false_iff_not]; omega
  have d2 : decide (n ≤ 256) = true := by rw [decide_eq_true_eq]; omega
  have d3 : decide (n = 0) = false := by rw [decide_eq_false_iff_not]; omega
  simp only [e_spec_l01Below, r_spec_l01Below, d1, d2, d3, cond_true, cond_false, hb, Option.bind_some]
  refine ⟨_, _, rfl, hg, ?_, ?_⟩
  · rw [Int.tmod_eq_emod_of_nonneg hx0]; exact Int.emod_nonneg _ (by omega)
  · rw [Int.tmod_eq_emod_of_nonneg hx0]; exact Int.emod_lt_of_pos _ (by omega)

theorem new_ok {A : Option (Nat × Obj)} {v : Value} (hc : CodeOk A v) : ∃ y, e_spec_l01New A (v, ()) = some y ∧ CurGood A y := by
  obtain ⟨p, n, c, rfl, hnc, hn, hrd⟩ := id hc
  simp only [e_spec_l01New, r_spec_l01New, rawLen, Option.bind_some]
  refine iter_while (Q := fun (r : Option CurV) => ∃ y, r = some y ∧ CurGood A y) (p := fun s => s.1 = Value.slice p n c ∧ 0 ≤ s.2.2.1 ∧ s.2.2.1 ≤ 4000) (mu := fun s => (4001 - s.2.2.1).toNat) ?_ N0 _ ⟨rfl, by simp, by simp⟩ (by have := N0_big; show (4001 - (0 : Int)).toNat < N0; omega)
  rintro ⟨v, h, i, u⟩ kc ⟨h1, h2, h3⟩ hk
  simp only at h1 h2 h3
  subst h1
  have fin : ∃ y, (some (some (Value.slice p n c, (0 : Int), h)) : Option CurV) = some y ∧ CurGood A y := ⟨_, rfl, _, _, _, rfl, hc, by omega, by omega⟩
  simp only [r_spec_l01New_L0, rawLen, Option.bind_some]
  by_cases hi : i < (n : Int)
  · simp only [hi, decide_true, cond_true]
    by_cases hi2 : i < 4000
    · obtain ⟨x, hx, _⟩ := hrd i.toNat (by omega)
      have e : ((i.toNat : Nat) : Int) = i := by omega
      rw [e] at hx
      have hw : wr (i + 1) = i + 1 := wr_id (by omega) (by omega)
      simp only [hi2, decide_true, cond_true, hx, Option.bind_some, hw]
      exact hk _ ⟨rfl, by show (0 : Int) ≤ i + 1; omega, by show i + 1 ≤ 4000; omega⟩ (by show (4001 - (i + 1)).toNat < (4001 - i).toNat; omega)
    · simp only [hi2, decide_false, cond_false]; exact fin
  · simp only [hi, decide_false, cond_false]; exact fin

theorem new18_ok {A : Option (Nat × Obj)} {v : Value} (hc : CodeOk A v) {n : Int} (hn : n ≤ 1000000) : ∃ y, e_spec_l18New A (v, n, ()) = some y ∧ CurGood A y := by
  obtain ⟨y0, e0, g0⟩ := new_ok hc
  simp only [e_spec_l18New, r_spec_l18New, e0, Option.bind_some]
  refine iter_while (Q := fun (r : Option CurV) => ∃ y, r = some y ∧ CurGood A y) (p := fun s => s.1 = n ∧ CurGood A s.2.1 ∧ 0 ≤ s.2.2.1 ∧ s.2.2.1 ≤ 1000000) (mu := fun s => (1000001 - s.2.2.1).toNat) ?_ N0 _ ⟨rfl, g0, by simp, by simp⟩ (by have := N0_big; show (1000001 - (0 : Int)).toNat < N0; omega)
  rintro ⟨m, y, i, u⟩ kc ⟨h1, h2, h3, h4⟩ hk
  simp only at h1 h2 h3 h4
  subst h1
  simp only [r_spec_l18New_L0]
  by_cases hi : i < m
  · obtain ⟨y', x, hb, hg, _⟩ := byte_ok h2
    have hw : wr (i + 1) = i + 1 := wr_id (by omega) (by omega)
    simp only [hi, decide_true, cond_true, hb, Option.bind_some, hw]
    exact hk _ ⟨rfl, hg, by show (0 : Int) ≤ i + 1; omega, by show i + 1 ≤ 1000000; omega⟩ (by show (1000001 - (i + 1)).toNat < (1000001 - i).toNat; omega)
  · simp only [hi, decide_false, cond_false]
    exact ⟨_, rfl, h2⟩

theorem num_ok {A : Option (Nat × Obj)} {v : Value} (hc : CodeOk A v) {n : Int} (hn : n ≤ 1000000) : ∃ x, e_spec_MakeNum A (v, n, ()) = some x ∧ 0 ≤ x ∧ x ≤ 65535 := by
  obtain ⟨y0, e0, g0⟩ := new18_ok hc hn
  obtain ⟨y1, x1, e1, g1, a0, a1⟩ := byte_ok g0
  obtain ⟨y2, x2, e2, g2, b0, b1⟩ := byte_ok g1
  simp only [e_spec_MakeNum, r_spec_MakeNum, e0, e1, e2, Option.bind_some]
  have w1 : wr (x1 * 256) = x1 * 256 := wr_id (by omega) (by omega)
  have w2 : wr (x1 * 256 + x2) = x1 * 256 + x2 := wr_id (by omega) (by omega)
  rw [w1, w2]
  exact ⟨_, rfl, by omega, by omega⟩

-- wires put in order, the old one dropped
def setL (l : List W3) (A B w : Int) : List W3 := ins (A, B, w) (l.filter fun e => !keyB A B e)
def dropG (A B : Int) (st : List W3) (_ : Nat) (e : W3) : List W3 := if keyB A B e = true then st else st ++ [e]
theorem foldI_drop (A B : Int) : ∀ (l : List W3) (i : Nat) (st : List W3), foldI (dropG A B) l i st = st ++ l.filter fun e => !keyB A B e
  | [], _, st => by simp [foldI]
  | x :: l, i, st => by
    simp only [foldI, foldI_drop A B l (i + 1), dropG, List.filter_cons]
    by_cases h : keyB A B x = true
    · simp [h]
    · simp [h]

def loI (a b : Int) : Int := if b < a then b else a
def hiI (a b : Int) : Int := if b > a then b else a
theorem lo_hi {a b : Int} (h : a ≠ b) : loI a b < hiI a b := by unfold loI hiI; split <;> split <;> omega

theorem s_PutR (l : List W3) (a b w : Int) (hlen : l.length ≤ 1000) : e_spec_l03Put (l, a, b, w, false, ()) = some (setL l (loI a b) (hiI a b) w) := by
  simp only [e_spec_l03Put, r_spec_l03Put]
  have e1 : (@ite Int (b < a) (Int.decLt b a) b a) = loI a b := rfl
  have e2 : (@ite Int (b > a) (Int.decLt a b) b a) = hiI a b := rfl
  rw [e1, e2]
  generalize loI a b = A
  generalize hiI a b = B
  have a := iter_fold (R := List W3) (body := r_spec_l03Put_L0 N0) l (fun (st : List W3) i => (false, st, (A, B, w), false, l, (l.length : Int), i, ())) (fun i st => st.length ≤ i) (dropG A B)
    (fun st i x kc ke p3 hx hi => by
      have bl : ∀ v : W3, Nat.ble (st.length + List.length (v :: ([] : List W3))) 17179869184 = true := fun v => ble_true (by simp; omega)
      refine ⟨?_, ?_⟩
      · simp only [r_spec_l03Put_L0, lt_len, hi, decide_true, cond_true, cond_false, getI_nat, hx, Option.bind_some, bl, wr_succ hi (show l.length ≤ 9223372036854775807 by omega), dropG, keyB]
        by_cases h1 : x.1 = A
        · by_cases h2 : x.2.1 = B
          · simp [h1, h2]
          · simp [h1, h2]
        · simp [h1]
      · simp only [dropG]
        split
        · omega
        · simp; omega)
    (fun st kc ke _ => by simp only [r_spec_l03Put_L0, not_lt_self, cond_false]) (N := N0) (by have := N0_big; omega) [] (by simp)
  rw [(a _).1, foldI_drop]
  simp only [List.nil_append]
  have hlf : (l.filter fun e => !keyB A B e).length ≤ 1000 := Nat.le_trans (List.length_filter_le _ _) hlen
  generalize hr : (l.filter fun e => !keyB A B e) = r at hlf
  generalize hX : ((A, B, w) : W3) = X
  have b := iter_fold (R := List W3) (body := r_spec_l03Put_L2 N0) r (fun (st : List W3 × Bool) i => (st.1, X, st.2, r, (r.length : Int), i, ())) (fun i st => st.1.length ≤ i + 1 ∧ (st.2 = false → st.1.length ≤ i)) (insG X)
    (fun st i x kc ke ⟨p1, p2⟩ hx hi => by
      have bl : ∀ v : W3, Nat.ble (st.1.length + List.length (v :: ([] : List W3))) 17179869184 = true := fun v => ble_true (by simp; omega)
      have bl2 : ∀ u v : W3, Nat.ble ((st.1 ++ [u]).length + List.length (v :: ([] : List W3))) 17179869184 = true := fun u v => ble_true (by simp; omega)
      refine ⟨?_, ?_⟩
      · simp only [r_spec_l03Put_L2, lt_len, hi, decide_true, cond_true, getI_nat, hx, Option.bind_some, bl, bl2, wr_succ hi (show r.length ≤ 9223372036854775807 by omega), insG]
        cases h0 : st.2 with
        | true => simp
        | false =>
          simp only [Bool.not_false, cond_true, true_and]
          by_cases h1 : X.1 < x.1
          · have hx1 : lex X x = true := by rw [lex_iff]; omega
            have d : decide (x.1 > X.1) = true := by rw [decide_eq_true_eq]; omega
            simp only [hx1, d, cond_true, if_true]
          · have d : decide (x.1 > X.1) = false := by rw [decide_eq_false_iff_not]; omega
            simp only [d, cond_false]
            by_cases h2 : x.1 = X.1
            · simp only [h2, decide_true, cond_true]
              by_cases h3 : x.2.1 > X.2.1
              · have hx1 : lex X x = true := by rw [lex_iff]; omega
                simp only [h3, hx1, decide_true, cond_true, if_true]
              · have hx1 : lex X x = false := by
                  have : ¬ lex X x = true := by rw [lex_iff]; omega
                  simpa using this
                simp only [h3, hx1, decide_false, cond_false, Bool.false_eq_true, if_false]
            · have hx1 : lex X x = false := by
                have : ¬ lex X x = true := by rw [lex_iff]; omega
                simpa using this
              simp only [h2, hx1, decide_false, cond_false, Bool.false_eq_true, if_false]
      · simp only [insG]
        split
        · rename_i hc
          have := p2 hc.1
          exact ⟨by simp; omega, by simp⟩
        · exact ⟨by simp; omega, fun hc => by have := p2 hc; simp; omega⟩)
    (fun st kc ke _ => by simp only [r_spec_l03Put_L2, not_lt_self, cond_false]) (N := N0) (by have := N0_big; omega) ([], false) ⟨by simp, fun _ => by simp⟩
  rw [(b _).1]
  have hpl : setL l A B w = ins X r := by rw [setL, hr, hX]
  have key := foldI_ins0 X r 0 []
  have bnd := foldI_inslen X r
  rw [List.nil_append] at key
  rw [hpl, ← key]
  have bl : Nat.ble ((foldI (insG X) r 0 (([] : List W3), false)).1.length + List.length (X :: ([] : List W3))) 17179869184 = true := ble_true (by simp; omega)
  cases h0 : (foldI (insG X) r 0 (([] : List W3), false)).2 with
  | true => simp only [h0, Bool.not_true, cond_false, if_true]
  | false => simp only [h0, Bool.not_false, cond_true, bl, Bool.false_eq_true, if_false]

theorem ins_len (x : W3) : ∀ l : List W3, (ins x l).length = l.length + 1
  | [] => rfl
  | e :: l => by
    rw [ins]; split
    · rfl
    · simp [ins_len x l]

/-- Wires in order, of nodes below m, of weights up to K. -/
structure Wok (m : Nat) (K : Int) (l : List W3) : Prop where
  srt : Srt l
  inw : InW m l
  w : ∀ e ∈ l, 1 ≤ e.2.2 ∧ e.2.2 ≤ K

theorem Wok.nil {m : Nat} {K : Int} : Wok m K [] := ⟨List.Pairwise.nil, fun e h => by simp at h, fun e h => by simp at h⟩

theorem mem_setL {l : List W3} {A B w : Int} {e : W3} : e ∈ setL l A B w ↔ e = (A, B, w) ∨ (e ∈ l ∧ ¬ (e.1 = A ∧ e.2.1 = B)) := by
  rw [setL, mem_ins, List.mem_filter]
  have : (!keyB A B e) = true ↔ ¬ (e.1 = A ∧ e.2.1 = B) := by rw [← keyB_iff]; simp
  rw [this]

theorem Wok.set {m : Nat} {K : Int} {l : List W3} (h : Wok m K l) {A B w : Int} (h0 : 0 ≤ A) (h1 : A < B) (h2 : B < m) (hw : 1 ≤ w ∧ w ≤ K) : Wok m K (setL l A B w) := by
  refine ⟨?_, fun e he => ?_, fun e he => ?_⟩
  · rw [setL]
    refine srt_ins _ _ (List.Pairwise.filter _ h.srt) fun e he => ?_
    have := (List.mem_filter.1 he).2
    rw [← keyB_iff]; simpa using this
  · rcases mem_setL.1 he with rfl | ⟨he, _⟩
    · exact ⟨h0, h1, h2⟩
    · exact h.inw e he
  · rcases mem_setL.1 he with rfl | ⟨he, _⟩
    · exact hw
    · exact h.w e he

theorem setL_len (l : List W3) (A B w : Int) : (setL l A B w).length ≤ l.length + 1 := by
  rw [setL, ins_len]
  have := List.length_filter_le (fun e => !keyB A B e) l
  omega

/-- Reach does not ask for weights. -/
theorem Rc.mono {l l' : List W3} (h : ∀ e ∈ l, ∃ e' ∈ l', e'.1 = e.1 ∧ e'.2.1 = e.2.1) : ∀ {v : Int}, Rc l v → Rc l' v := by
  intro v hv
  induction hv with
  | zero => exact .zero
  | ab he _ ih =>
    obtain ⟨e', h1, h2, h3⟩ := h _ he
    rw [← h3]; exact .ab h1 (by rw [h2]; exact ih)
  | ba he _ ih =>
    obtain ⟨e', h1, h2, h3⟩ := h _ he
    rw [← h2]; exact .ba h1 (by rw [h3]; exact ih)

theorem Rc.set {l : List W3} {A B w : Int} {v : Int} (h : Rc l v) : Rc (setL l A B w) v := by
  refine h.mono fun e he => ?_
  by_cases c : e.1 = A ∧ e.2.1 = B
  · exact ⟨(A, B, w), mem_setL.2 (.inl rfl), c.1.symm, c.2.symm⟩
  · exact ⟨e, mem_setL.2 (.inr ⟨he, c⟩), rfl, rfl⟩

/-- A network as it is drawn. -/
structure Drawn (most K : Int) (n : TNet) : Prop where
  n2 : 2 ≤ n.1
  most : n.1 ≤ most
  e2 : 2 ≤ n.2.1
  en : n.2.1 ≤ n.1
  s1 : 1 ≤ n.2.2.1
  s3 : n.2.2.1 ≤ 3
  wok : Wok n.1.toNat K n.2.2.2
  con : ∀ v : Int, 0 ≤ v → v < n.1 → Rc n.2.2.2 v
  len : n.2.2.2.length ≤ 30

theorem lo_nn {a b : Int} (h0 : 0 ≤ a) (h1 : 0 ≤ b) : 0 ≤ loI a b := by unfold loI; split <;> omega
theorem hi_lt {a b : Int} {m : Int} (h0 : a < m) (h1 : b < m) : hiI a b < m := by unfold hiI; split <;> omega

def DrawQ (A : Option (Nat × Obj)) (most : Int) (r : Option (CurV × TNet)) : Prop := ∃ y' n, r = some (y', n) ∧ CurGood A y' ∧ Drawn most 6 n

theorem draw_tail {A : Option (Nat × Obj)} {most : Int} (hm5 : most ≤ 5) {Z : TNet} {N E S : Int} (hN2 : 2 ≤ N) (hNm : N ≤ most) (hE2 : 2 ≤ E) (hEN : E ≤ N) (hS1 : 1 ≤ S) (hS3 : S ≤ 3) {y : CurV} (hy : CurGood A y) {l : List W3} (hl : Wok N.toNat 6 l) (hc : ∀ v : Int, 0 ≤ v → v < N → Rc l v) (hlen : l.length ≤ 5)
    {k : Int} (hk0 : 0 ≤ k) (hk3 : k < 4) :
    DrawQ A most (iterK (r_spec_l03Draw_L2 (e_spec_l01Below A) e_spec_l03Put N0) N0 (y, Z, (N, E, S, l), k, ()) fun s6 => some (s6.1, s6.2.2.1)) := by
  refine iter_while (Q := DrawQ A most) (p := fun s => CurGood A s.1 ∧ s.2.2.1.1 = N ∧ s.2.2.1.2.1 = E ∧ s.2.2.1.2.2.1 = S ∧ Wok N.toNat 6 s.2.2.1.2.2.2 ∧ (∀ v : Int, 0 ≤ v → v < N → Rc s.2.2.1.2.2.2 v) ∧ 0 ≤ s.2.2.2.1 ∧ s.2.2.2.1 < 4 ∧ (s.2.2.1.2.2.2.length : Int) + s.2.2.2.1 ≤ 10) (mu := fun s => s.2.2.2.1.toNat) ?_ N0 _
    ⟨hy, rfl, rfl, rfl, hl, hc, hk0, hk3, by show (l.length : Int) + k ≤ 10; omega⟩ (by have := N0_big; show k.toNat < N0; omega)
  rintro ⟨y, Z', ⟨N', E', S', l⟩, k, u⟩ kc ⟨g, rfl, rfl, rfl, hl, hc, hk0, hk3, hlen⟩ hk
  simp only at g hl hc hk0 hk3 hlen hN2 hNm hE2 hEN hS1 hS3
  simp only [r_spec_l03Draw_L2]
  by_cases hk1 : k > 0
  · simp only [hk1, decide_true, cond_true]
    obtain ⟨y1, a, e1, g1, a0, a1⟩ := below_ok g (n := N') (by omega) (by omega)
    obtain ⟨y2, b, e2, g2, b0, b1⟩ := below_ok g1 (n := N') (by omega) (by omega)
    have hw : wr (k - 1) = k - 1 := wr_id (by omega) (by omega)
    simp only [e1, e2, Option.bind_some, hw]
    by_cases hab : a = b
    · simp only [hab, decide_true, Bool.not_true, cond_false]
      exact hk _ ⟨g2, rfl, rfl, rfl, hl, hc, by show (0 : Int) ≤ k - 1; omega, by show k - 1 < 4; omega, by show (l.length : Int) + (k - 1) ≤ 10; omega⟩ (by show (k - 1).toNat < k.toNat; omega)
    · obtain ⟨y3, x, e3, g3, x0, x1⟩ := below_ok g2 (n := 6) (by omega) (by omega)
      have hw2 : wr (1 + x) = 1 + x := wr_id (by omega) (by omega)
      simp only [hab, decide_false, Bool.not_false, cond_true, e3, Option.bind_some, hw2, s_PutR l a b (1 + x) (by omega)]
      have hset := hl.set (lo_nn a0 b0) (lo_hi hab) (by have := hi_lt a1 b1; omega) (w := 1 + x) ⟨by omega, by omega⟩
      have := setL_len l (loI a b) (hiI a b) (1 + x)
      exact hk _ ⟨g3, rfl, rfl, rfl, hset, fun v h0 h1 => (hc v h0 h1).set, by show (0 : Int) ≤ k - 1; omega, by show k - 1 < 4; omega, by show ((setL l (loI a b) (hiI a b) (1 + x)).length : Int) + (k - 1) ≤ 10; omega⟩ (by show (k - 1).toNat < k.toNat; omega)
  · simp only [hk1, decide_false, cond_false]
    exact ⟨_, _, rfl, g, ⟨hN2, hNm, hE2, hEN, hS1, hS3, hl, hc, by show l.length ≤ 30; omega⟩⟩

theorem draw_tree {A : Option (Nat × Obj)} {most : Int} (hm5 : most ≤ 5) {Z : TNet} {N E S : Int} (hN2 : 2 ≤ N) (hNm : N ≤ most) (hE2 : 2 ≤ E) (hEN : E ≤ N) (hS1 : 1 ≤ S) (hS3 : S ≤ 3) {y : CurV} (hy : CurGood A y) :
    DrawQ A most (iterK (r_spec_l03Draw_L0 (e_spec_l01Below A) e_spec_l03Put N0) N0 (y, Z, (N, E, S, ([] : List W3)), 1, ()) fun s4 => Option.bind (e_spec_l01Below A s4.1 (4, ())) fun x5 =>
      iterK (r_spec_l03Draw_L2 (e_spec_l01Below A) e_spec_l03Put N0) N0 (x5.1, s4.2.1, s4.2.2.1, x5.2, ()) fun s6 => some (s6.1, s6.2.2.1)) := by
  refine iter_while (Q := DrawQ A most) (p := fun s => CurGood A s.1 ∧ s.2.2.1.1 = N ∧ s.2.2.1.2.1 = E ∧ s.2.2.1.2.2.1 = S ∧ Wok N.toNat 6 s.2.2.1.2.2.2 ∧ 1 ≤ s.2.2.2.1 ∧ s.2.2.2.1 ≤ N ∧ (∀ v : Int, 0 ≤ v → v < s.2.2.2.1 → Rc s.2.2.1.2.2.2 v) ∧ (s.2.2.1.2.2.2.length : Int) + 1 ≤ s.2.2.2.1) (mu := fun s => (10 - s.2.2.2.1).toNat) ?_ N0 _
    ⟨hy, rfl, rfl, rfl, Wok.nil, by simp, by simp only; omega, fun v h0 h1 => by simp only at h1; have : v = 0 := by omega
                                                                                 subst this; exact .zero, by simp⟩ (by have := N0_big; show (10 - (1 : Int)).toNat < N0; omega)
  rintro ⟨y, Z', ⟨N', E', S', l⟩, k, u⟩ kc ⟨g, rfl, rfl, rfl, hl, hk0, hk3, hc, hlen⟩ hk
  simp only at g hl hc hk0 hk3 hlen hN2 hNm hE2 hEN hS1 hS3
  simp only [r_spec_l03Draw_L0]
  by_cases hk1 : k < N'
  · simp only [hk1, decide_true, cond_true]
    obtain ⟨y1, a, e1, g1, a0, a1⟩ := below_ok g (n := k) (by omega) (by omega)
    obtain ⟨y2, x, e2, g2, x0, x1⟩ := below_ok g1 (n := 6) (by omega) (by omega)
    have hw : wr (k + 1) = k + 1 := wr_id (by omega) (by omega)
    have hw2 : wr (1 + x) = 1 + x := wr_id (by omega) (by omega)
    have hlo : loI a k = a := by unfold loI; rw [if_neg (by omega)]
    have hhi : hiI a k = k := by unfold hiI; rw [if_pos (by omega)]
    simp only [e1, e2, Option.bind_some, hw, hw2, s_PutR l a k (1 + x) (by omega), hlo, hhi]
    have hset := hl.set a0 a1 (by omega) (w := 1 + x) ⟨by omega, by omega⟩
    have := setL_len l a k (1 + x)
    refine hk _ ⟨g2, rfl, rfl, rfl, hset, by show (1 : Int) ≤ k + 1; omega, by show k + 1 ≤ N'; omega, fun v h0 h1 => ?_, by show ((setL l a k (1 + x)).length : Int) + 1 ≤ k + 1; omega⟩ (by show (10 - (k + 1)).toNat < (10 - k).toNat; omega)
    have h1 : v < k + 1 := h1
    by_cases hv : v = k
    · subst hv
      exact Rc.ab (e := (a, v, 1 + x)) (mem_setL.2 (.inl rfl)) ((hc a a0 a1).set)
    · exact (hc v h0 (by omega)).set
  · simp only [hk1, decide_false, cond_false]
    obtain ⟨y1, a, e1, g1, a0, a1⟩ := below_ok g (n := 4) (by omega) (by omega)
    simp only [e1, Option.bind_some]
    exact draw_tail hm5 hN2 hNm hE2 hEN hS1 hS3 g1 hl (fun v h0 h1 => hc v h0 (by omega)) (by omega) a0 a1

theorem draw_ok {A : Option (Nat × Obj)} {y : CurV} (h : CurGood A y) {most : Int} (hm : 2 ≤ most) (hm5 : most ≤ 5) : ∃ y' n, e_spec_l03Draw A y (most, ()) = some (y', n) ∧ CurGood A y' ∧ Drawn most 6 n := by
  show DrawQ A most _
  have w0 : wr (most - 1) = most - 1 := wr_id (by omega) (by omega)
  obtain ⟨y1, a, e1, g1, a0, a1⟩ := below_ok h (n := most - 1) (by omega) (by omega)
  obtain ⟨y2, b, e2, g2, b0, b1⟩ := below_ok g1 (n := 3) (by omega) (by omega)
  have w1 : wr (2 + a) = 2 + a := wr_id (by omega) (by omega)
  have w2 : wr (1 + b) = 1 + b := wr_id (by omega) (by omega)
  simp only [e_spec_l03Draw, r_spec_l03Draw, w0, e1, e2, Option.bind_some, w1, w2]
  by_cases hN : 2 + a > 2
  · have w3 : wr (2 + a - 1) = 2 + a - 1 := wr_id (by omega) (by omega)
    obtain ⟨y3, c, e3, g3, c0, c1⟩ := below_ok g2 (n := 2 + a - 1) (by omega) (by omega)
    have w4 : wr (2 + c) = 2 + c := wr_id (by omega) (by omega)
    simp only [hN, decide_true, cond_true, w3, e3, Option.bind_some, w4]
    exact draw_tree hm5 (by omega) (by omega) (by omega) (by omega) (by omega) (by omega) g3
  · simp only [hN, decide_false, cond_false]
    exact draw_tree hm5 (by omega) (by omega) (by omega) (by omega) (by omega) (by omega) g2

theorem makeNet_ok {A : Option (Nat × Obj)} {v : Value} (hc : CodeOk A v) : ∃ n, e_spec_MakeNet A (v, ()) = some n ∧ Drawn 5 6 n := by
  obtain ⟨y, e, g⟩ := new_ok hc
  obtain ⟨y', n, e2, _, hd⟩ := draw_ok g (most := 5) (by omega) (by omega)
  simp only [e_spec_MakeNet, r_spec_MakeNet, e, e2, Option.bind_some]
  exact ⟨_, rfl, hd⟩

end Go.Sx.R
namespace Go.Sx.R
open Go Go.Sx

/-- A network in order, by its parts. -/
theorem netok_of {n : TNet} {m : Nat} (hm : n.1 = m) (h1 : 1 ≤ m) (h5 : m ≤ 5) (he : 1 ≤ n.2.1) (hem : n.2.1 ≤ n.1) (hs : 1 ≤ n.2.2.1) (hs2 : n.2.2.1 ≤ 1000) (hw : Wok m 200 n.2.2.2) (hc : ∀ v : Int, 0 ≤ v → v < n.1 → Rc n.2.2.2 v) : netok n = true := by
  have hh : hdrOk n = true := by
    simp only [hdrOk, Bool.and_eq_true, decide_eq_true_eq]
    omega
  have hb : wiresBad n = false := by
    simp only [wiresBad, List.any_eq_false]
    rintro ⟨x, i⟩ hp
    have hx : n.2.2.2[i]? = some x := by simpa using List.mem_zipIdx_iff_getElem?.1 hp
    have hxm := List.mem_of_getElem? hx
    have a := hw.inw x hxm
    have b := hw.w x hxm
    have d1 : decide (0 ≤ x.1) = true := by rw [decide_eq_true_eq]; omega
    have d2 : decide (x.1 < x.2.1) = true := by rw [decide_eq_true_eq]; omega
    have d3 : decide (x.2.1 < n.1) = true := by rw [decide_eq_true_eq]; omega
    have d4 : decide (1 ≤ x.2.2) = true := by rw [decide_eq_true_eq]; omega
    have d5 : decide (x.2.2 ≤ 200) = true := by rw [decide_eq_true_eq]; omega
    simp only [badW, d1, d2, d3, d4, d5, Bool.and_self, Bool.not_true, Bool.false_or]
    cases i with
    | zero => simp
    | succ j =>
      simp only
      cases hj : n.2.2.2[j]? with
      | none => simp
      | some y =>
        have hlt : j + 1 < n.2.2.2.length := (List.getElem?_eq_some_iff.1 hx).1
        have := List.pairwise_iff_getElem.1 hw.srt j (j + 1) (by omega) hlt (by omega)
        have e1 : n.2.2.2[j] = y := by rw [List.getElem?_eq_getElem (by omega)] at hj; simpa using hj
        have e2 : n.2.2.2[j + 1] = x := by rw [List.getElem?_eq_getElem hlt] at hx; simpa using hx
        rw [e1, e2] at this
        simp [this]
  have hcn : conn n = true := by
    unfold conn
    simp only [decide_eq_true_eq]; exact hc
  simp only [netok, hh, hb, hcn, Bool.not_false, Bool.and_self]

theorem Wok.up {m : Nat} {K K' : Int} {l : List W3} (h : Wok m K l) (hk : K ≤ K') : Wok m K' l := ⟨h.srt, h.inw, fun e he => by have := h.w e he; omega⟩

theorem Wok.sm {m : Nat} (hm : m ≤ 5) {K : Int} (hK : K ≤ 1000000) {l : List W3} (h : Wok m K l) (hl : l.length ≤ 1000) : Sm.sm B0 l :=
  ⟨by simp only [B0]; omega, fun e he => by
    have a := h.inw e he
    have b := h.w e he
    exact ⟨(⟨by omega, by omega⟩ : Sm.sm B0 e.1), (⟨by omega, by omega⟩ : Sm.sm B0 e.2.1), (⟨by omega, by omega⟩ : Sm.sm B0 e.2.2)⟩⟩

theorem Drawn.ok {most K : Int} {n : TNet} (h : Drawn most K n) (h5 : most ≤ 5) (hK : K ≤ 200) : netok n = true ∧ Sm.sm B0 n := by
  have a := h.n2
  have b := h.most
  have c := h.e2
  have d := h.en
  have e := h.s1
  have f := h.s3
  refine ⟨netok_of (m := n.1.toNat) (by omega) (by omega) (by omega) (by omega) d e (by omega) (h.wok.up hK) h.con, ?_⟩
  exact ⟨(⟨by omega, by omega⟩ : Sm.sm B0 n.1), (⟨by omega, by omega⟩ : Sm.sm B0 n.2.1), (⟨by omega, by omega⟩ : Sm.sm B0 n.2.2.1), h.wok.sm (by omega) (by omega) (by have := h.len; omega)⟩

end Go.Sx.R
namespace Go.Sx.R
open Go Go.Sx

/-- A network with another weight of a wire, none where it is 0. -/
def fltN (n : TNet) (i : Nat) (x : W3) (u : Int) : TNet := (n.1, n.2.1, n.2.2.1, (n.2.2.2.set i (x.1, x.2.1, u)).filter fun x => !decide (x.2.2 = 0))

end Go.Sx.R
namespace Go.Sx.R
open Go Go.Sx

theorem detZ4 (M : List (List Int)) (r s t u c d e g : Int) : detZ M [r, s, t, u] [c, d, e, g] =
    at2 M r c * (at2 M s d * (at2 M t e * at2 M u g - at2 M t g * at2 M u e) - at2 M s e * (at2 M t d * at2 M u g - at2 M t g * at2 M u d) + at2 M s g * (at2 M t d * at2 M u e - at2 M t e * at2 M u d))
    - at2 M r d * (at2 M s c * (at2 M t e * at2 M u g - at2 M t g * at2 M u e) - at2 M s e * (at2 M t c * at2 M u g - at2 M t g * at2 M u c) + at2 M s g * (at2 M t c * at2 M u e - at2 M t e * at2 M u c))
    + at2 M r e * (at2 M s c * (at2 M t d * at2 M u g - at2 M t g * at2 M u d) - at2 M s d * (at2 M t c * at2 M u g - at2 M t g * at2 M u c) + at2 M s g * (at2 M t c * at2 M u d - at2 M t d * at2 M u c))
    - at2 M r g * (at2 M s c * (at2 M t d * at2 M u e - at2 M t e * at2 M u d) - at2 M s d * (at2 M t c * at2 M u e - at2 M t e * at2 M u c) + at2 M s e * (at2 M t c * at2 M u d - at2 M t d * at2 M u c)) := by
  simp only [detZ, dsum, List.eraseIdx_cons_zero, List.eraseIdx_cons_succ, List.eraseIdx_nil]
  grind

theorem detZ_permP {M : List (List Int)} {l l' : List Int} (h : l.Perm l') : ∀ pre : List Int, (pre ++ l).length ≤ 4 → detZ M (pre ++ l) (pre ++ l) = detZ M (pre ++ l') (pre ++ l') := by
  induction h with
  | nil => intro pre _; rfl
  | cons x _ ih =>
    intro pre hl
    have := ih (pre ++ [x]) (by simpa using hl)
    simpa using this
  | swap x y l =>
    intro pre hl
    simp only [List.length_append, List.length_cons] at hl
    match pre, l, hl with
    | [], [], _ => simp only [List.nil_append, detZ2] <;> grind
    | [], [a], _ => simp only [List.nil_append, detZ3] <;> grind
    | [], [a, b], _ => simp only [List.nil_append, detZ4] <;> grind
    | [p], [], _ => simp only [List.cons_append, List.nil_append, detZ3] <;> grind
    | [p], [a], _ => simp only [List.cons_append, List.nil_append, detZ4] <;> grind
    | [p, q], [], _ => simp only [List.cons_append, List.nil_append, detZ4] <;> grind
    | [], _ :: _ :: _ :: _, hl => simp at hl <;> omega
    | [_], _ :: _ :: _, hl => simp at hl <;> omega
    | [_, _], _ :: _, hl => simp at hl <;> omega
    | _ :: _ :: _ :: _, _, hl => simp at hl <;> omega
  | trans h1 _ ih1 ih2 =>
    intro pre hl
    rw [ih1 pre hl, ih2 pre (by rw [List.length_append, ← h1.length_eq, ← List.length_append]; exact hl)]

theorem detZ_perm {M : List (List Int)} {l l' : List Int} (h : l.Perm l') (hl : l.length ≤ 4) : detZ M l l = detZ M l' l' := detZ_permP h [] hl

/-- A Laplacian on some nodes. -/
structure LapZ (M : List (List Int)) (V : List Int) : Prop where
  sym : ∀ x ∈ V, ∀ y ∈ V, at2 M x y = at2 M y x
  off : ∀ x ∈ V, ∀ y ∈ V, x ≠ y → at2 M x y ≤ 0
  sum : ∀ x ∈ V, (V.map (at2 M x)).sum = 0
  nd : V.Nodup

theorem perm_sum {l l' : List Int} (h : l.Perm l') : l.sum = l'.sum := by
  induction h with
  | nil => rfl
  | cons x _ ih => simp only [List.sum_cons, ih]
  | swap x y l => simp only [List.sum_cons]; omega
  | trans _ _ h1 h2 => rw [h1, h2]

theorem LapZ.perm {M : List (List Int)} {V V' : List Int} (h : LapZ M V) (hp : V.Perm V') : LapZ M V' :=
  ⟨fun x hx y hy => h.sym x (hp.mem_iff.2 hx) y (hp.mem_iff.2 hy), fun x hx y hy => h.off x (hp.mem_iff.2 hx) y (hp.mem_iff.2 hy),
    fun x hx => by rw [← perm_sum (hp.map (at2 M x))]; exact h.sum x (hp.mem_iff.2 hx), hp.nodup_iff.1 h.nd⟩

/-- Two nodes, the rest, as numbers. -/
theorem ground_id (ab ac ad ae bc bd be cd ce de : Int) :
    (ab + bc + bd + be) * ((ac + bc + cd + ce) * ((ad + bd + cd + de) * (ae + be + ce + de) - (-de) * (-de)) - (-cd) * ((-cd) * (ae + be + ce + de) - (-de) * (-ce)) + (-ce) * ((-cd) * (-de) - (ad + bd + cd + de) * (-ce)))
    - (-bc) * ((-bc) * ((ad + bd + cd + de) * (ae + be + ce + de) - (-de) * (-de)) - (-cd) * ((-bd) * (ae + be + ce + de) - (-de) * (-be)) + (-ce) * ((-bd) * (-de) - (ad + bd + cd + de) * (-be)))
    + (-bd) * ((-bc) * ((-cd) * (ae + be + ce + de) - (-de) * (-ce)) - (ac + bc + cd + ce) * ((-bd) * (ae + be + ce + de) - (-de) * (-be)) + (-ce) * ((-bd) * (-ce) - (-cd) * (-be)))
    - (-be) * ((-bc) * ((-cd) * (-de) - (ad + bd + cd + de) * (-ce)) - (ac + bc + cd + ce) * ((-bd) * (-de) - (ad + bd + cd + de) * (-be)) + (-cd) * ((-bd) * (-ce) - (-cd) * (-be))) =
    (ab + ac + ad + ae) * ((ac + bc + cd + ce) * ((ad + bd + cd + de) * (ae + be + ce + de) - (-de) * (-de)) - (-cd) * ((-cd) * (ae + be + ce + de) - (-de) * (-ce)) + (-ce) * ((-cd) * (-de) - (ad + bd + cd + de) * (-ce)))
    - (-ac) * ((-ac) * ((ad + bd + cd + de) * (ae + be + ce + de) - (-de) * (-de)) - (-cd) * ((-ad) * (ae + be + ce + de) - (-de) * (-ae)) + (-ce) * ((-ad) * (-de) - (ad + bd + cd + de) * (-ae)))
    + (-ad) * ((-ac) * ((-cd) * (ae + be + ce + de) - (-de) * (-ce)) - (ac + bc + cd + ce) * ((-ad) * (ae + be + ce + de) - (-de) * (-ae)) + (-ce) * ((-ad) * (-ce) - (-cd) * (-ae)))
    - (-ae) * ((-ac) * ((-cd) * (-de) - (ad + bd + cd + de) * (-ce)) - (ac + bc + cd + ce) * ((-ad) * (-de) - (ad + bd + cd + de) * (-ae)) + (-cd) * ((-ad) * (-ce) - (-cd) * (-ae))) := by
  grind

/-- What a Laplacian of five nodes reads as. -/
theorem LapZ.five {M : List (List Int)} {a b c d e : Int} (h : LapZ M [a, b, c, d, e]) : ∃ ab ac ad ae bc bd be cd ce de : Int, 0 ≤ ab ∧ 0 ≤ ac ∧ 0 ≤ ad ∧ 0 ≤ ae ∧ 0 ≤ bc ∧ 0 ≤ bd ∧ 0 ≤ be ∧ 0 ≤ cd ∧ 0 ≤ ce ∧ 0 ≤ de ∧
    at2 M a b = -ab ∧ at2 M b a = -ab ∧ at2 M a c = -ac ∧ at2 M c a = -ac ∧ at2 M a d = -ad ∧ at2 M d a = -ad ∧ at2 M a e = -ae ∧ at2 M e a = -ae ∧ at2 M b c = -bc ∧ at2 M c b = -bc ∧ at2 M b d = -bd ∧ at2 M d b = -bd ∧ at2 M b e = -be ∧ at2 M e b = -be ∧
    at2 M c d = -cd ∧ at2 M d c = -cd ∧ at2 M c e = -ce ∧ at2 M e c = -ce ∧ at2 M d e = -de ∧ at2 M e d = -de ∧
    at2 M a a = ab + ac + ad + ae ∧ at2 M b b = ab + bc + bd + be ∧ at2 M c c = ac + bc + cd + ce ∧ at2 M d d = ad + bd + cd + de ∧ at2 M e e = ae + be + ce + de := by
  have hn := h.nd
  simp only [List.nodup_cons, List.mem_cons, List.not_mem_nil, or_false, not_or, List.nodup_nil, and_true, not_false_eq_true] at hn
  obtain ⟨⟨n1, n2, n3, n4⟩, ⟨n5, n6, n7⟩, ⟨n8, n9⟩, n10⟩ := hn
  have sa := h.sum a (by simp); have sb := h.sum b (by simp); have sc := h.sum c (by simp); have sd := h.sum d (by simp); have se := h.sum e (by simp)
  simp only [List.map_cons, List.map_nil, List.sum_cons, List.sum_nil] at sa sb sc sd se
  have y1 := h.sym b (by simp) a (by simp); have y2 := h.sym c (by simp) a (by simp); have y3 := h.sym d (by simp) a (by simp); have y4 := h.sym e (by simp) a (by simp)
  have y5 := h.sym c (by simp) b (by simp); have y6 := h.sym d (by simp) b (by simp); have y7 := h.sym e (by simp) b (by simp)
  have y8 := h.sym d (by simp) c (by simp); have y9 := h.sym e (by simp) c (by simp); have y10 := h.sym e (by simp) d (by simp)
  have o1 := h.off a (by simp) b (by simp) n1; have o2 := h.off a (by simp) c (by simp) n2; have o3 := h.off a (by simp) d (by simp) n3; have o4 := h.off a (by simp) e (by simp) n4
  have o5 := h.off b (by simp) c (by simp) n5; have o6 := h.off b (by simp) d (by simp) n6; have o7 := h.off b (by simp) e (by simp) n7
  have o8 := h.off c (by simp) d (by simp) n8; have o9 := h.off c (by simp) e (by simp) n9; have o10 := h.off d (by simp) e (by simp) n10
  refine ⟨-at2 M a b, -at2 M a c, -at2 M a d, -at2 M a e, -at2 M b c, -at2 M b d, -at2 M b e, -at2 M c d, -at2 M c e, -at2 M d e, by omega, by omega, by omega, by omega, by omega, by omega, by omega, by omega, by omega, by omega, ?_⟩
  refine ⟨by omega, by omega, by omega, by omega, by omega, by omega, by omega, by omega, by omega, by omega, by omega, by omega, by omega, by omega, by omega, by omega, by omega, by omega, by omega, by omega, by omega, by omega, by omega, by omega, by omega⟩

theorem LapZ.four {M : List (List Int)} {a b c d : Int} (h : LapZ M [a, b, c, d]) : ∃ ab ac ad bc bd cd : Int, 0 ≤ ab ∧ 0 ≤ ac ∧ 0 ≤ ad ∧ 0 ≤ bc ∧ 0 ≤ bd ∧ 0 ≤ cd ∧
    at2 M a b = -ab ∧ at2 M b a = -ab ∧ at2 M a c = -ac ∧ at2 M c a = -ac ∧ at2 M a d = -ad ∧ at2 M d a = -ad ∧ at2 M b c = -bc ∧ at2 M c b = -bc ∧ at2 M b d = -bd ∧ at2 M d b = -bd ∧ at2 M c d = -cd ∧ at2 M d c = -cd ∧
    at2 M a a = ab + ac + ad ∧ at2 M b b = ab + bc + bd ∧ at2 M c c = ac + bc + cd ∧ at2 M d d = ad + bd + cd := by
  have hn := h.nd
  simp only [List.nodup_cons, List.mem_cons, List.not_mem_nil, or_false, not_or, List.nodup_nil, and_true, not_false_eq_true] at hn
  obtain ⟨⟨n1, n2, n3⟩, ⟨n5, n6⟩, n8⟩ := hn
  have sa := h.sum a (by simp); have sb := h.sum b (by simp); have sc := h.sum c (by simp); have sd := h.sum d (by simp)
  simp only [List.map_cons, List.map_nil, List.sum_cons, List.sum_nil] at sa sb sc sd
  have y1 := h.sym b (by simp) a (by simp); have y2 := h.sym c (by simp) a (by simp); have y3 := h.sym d (by simp) a (by simp)
  have y5 := h.sym c (by simp) b (by simp); have y6 := h.sym d (by simp) b (by simp); have y8 := h.sym d (by simp) c (by simp)
  have o1 := h.off a (by simp) b (by simp) n1; have o2 := h.off a (by simp) c (by simp) n2; have o3 := h.off a (by simp) d (by simp) n3
  have o5 := h.off b (by simp) c (by simp) n5; have o6 := h.off b (by simp) d (by simp) n6; have o8 := h.off c (by simp) d (by simp) n8
  refine ⟨-at2 M a b, -at2 M a c, -at2 M a d, -at2 M b c, -at2 M b d, -at2 M c d, by omega, by omega, by omega, by omega, by omega, by omega, ?_⟩
  refine ⟨by omega, by omega, by omega, by omega, by omega, by omega, by omega, by omega, by omega, by omega, by omega, by omega, by omega, by omega, by omega, by omega⟩

theorem LapZ.three {M : List (List Int)} {a b c : Int} (h : LapZ M [a, b, c]) : ∃ ab ac bc : Int, 0 ≤ ab ∧ 0 ≤ ac ∧ 0 ≤ bc ∧
    at2 M a b = -ab ∧ at2 M b a = -ab ∧ at2 M a c = -ac ∧ at2 M c a = -ac ∧ at2 M b c = -bc ∧ at2 M c b = -bc ∧ at2 M a a = ab + ac ∧ at2 M b b = ab + bc ∧ at2 M c c = ac + bc := by
  have hn := h.nd
  simp only [List.nodup_cons, List.mem_cons, List.not_mem_nil, or_false, not_or, List.nodup_nil, and_true, not_false_eq_true] at hn
  obtain ⟨⟨n1, n2⟩, n5⟩ := hn
  have sa := h.sum a (by simp); have sb := h.sum b (by simp); have sc := h.sum c (by simp)
  simp only [List.map_cons, List.map_nil, List.sum_cons, List.sum_nil] at sa sb sc
  have y1 := h.sym b (by simp) a (by simp); have y2 := h.sym c (by simp) a (by simp); have y5 := h.sym c (by simp) b (by simp)
  have o1 := h.off a (by simp) b (by simp) n1; have o2 := h.off a (by simp) c (by simp) n2; have o5 := h.off b (by simp) c (by simp) n5
  refine ⟨-at2 M a b, -at2 M a c, -at2 M b c, by omega, by omega, by omega, ?_⟩
  refine ⟨by omega, by omega, by omega, by omega, by omega, by omega, by omega, by omega, by omega⟩

theorem LapZ.two {M : List (List Int)} {a b : Int} (h : LapZ M [a, b]) : ∃ ab : Int, 0 ≤ ab ∧ at2 M a b = -ab ∧ at2 M b a = -ab ∧ at2 M a a = ab ∧ at2 M b b = ab := by
  have hn := h.nd
  simp only [List.nodup_cons, List.mem_cons, List.not_mem_nil, or_false, not_or, List.nodup_nil, and_true, not_false_eq_true] at hn
  have sa := h.sum a (by simp); have sb := h.sum b (by simp)
  simp only [List.map_cons, List.map_nil, List.sum_cons, List.sum_nil] at sa sb
  have y1 := h.sym b (by simp) a (by simp)
  have o1 := h.off a (by simp) b (by simp) hn
  exact ⟨-at2 M a b, by omega, by omega, by omega, by omega, by omega⟩

/-- The trees do not hang on the ground. -/
theorem LapZ.ground {M : List (List Int)} {a b : Int} {r : List Int} (h : LapZ M (a :: b :: r)) (hl : r.length ≤ 3) : detZ M (b :: r) (b :: r) = detZ M (a :: r) (a :: r) := by
  match r, hl with
  | [], _ =>
    obtain ⟨ab, _, e1, e2, e3, e4⟩ := h.two
    simp only [detZ1, e3, e4]
  | [c], _ =>
    obtain ⟨ab, ac, bc, _, _, _, e1, e2, e3, e4, e5, e6, e7, e8, e9⟩ := h.three
    simp only [detZ2, e1, e2, e3, e4, e5, e6, e7, e8, e9]; grind
  | [c, d], _ =>
    obtain ⟨ab, ac, ad, bc, bd, cd, _, _, _, _, _, _, e1, e2, e3, e4, e5, e6, e7, e8, e9, e10, e11, e12, e13, e14, e15, e16⟩ := h.four
    simp only [detZ3, e1, e2, e3, e4, e5, e6, e7, e8, e9, e10, e11, e12, e13, e14, e15, e16]; grind
  | [c, d, e], _ =>
    obtain ⟨ab, ac, ad, ae, bc, bd, be, cd, ce, de, _, _, _, _, _, _, _, _, _, _, e1, e2, e3, e4, e5, e6, e7, e8, e9, e10, e11, e12, e13, e14, e15, e16, e17, e18, e19, e20, e21, e22, e23, e24, e25⟩ := h.five
    simp only [detZ4, e1, e2, e3, e4, e5, e6, e7, e8, e9, e10, e11, e12, e13, e14, e15, e16, e17, e18, e19, e20, e21, e22, e23, e24, e25]
    exact ground_id ab ac ad ae bc bd be cd ce de

/-- The gap of a triangle inequality. -/
theorem LapZ.gap {M : List (List Int)} {a b c : Int} {r : List Int} (h : LapZ M (a :: b :: c :: r)) (hl : r.length ≤ 2) : detZ M (b :: r) (b :: r) + detZ M (a :: r) (a :: r) - detZ M (c :: r) (c :: r) = -2 * detZ M (a :: r) (b :: r) := by
  match r, hl with
  | [], _ =>
    obtain ⟨ab, ac, bc, _, _, _, e1, e2, e3, e4, e5, e6, e7, e8, e9⟩ := h.three
    simp only [detZ1, e1, e2, e3, e4, e5, e6, e7, e8, e9]; omega
  | [d], _ =>
    obtain ⟨ab, ac, ad, bc, bd, cd, _, _, _, _, _, _, e1, e2, e3, e4, e5, e6, e7, e8, e9, e10, e11, e12, e13, e14, e15, e16⟩ := h.four
    simp only [detZ2, e1, e2, e3, e4, e5, e6, e7, e8, e9, e10, e11, e12, e13, e14, e15, e16]; grind
  | [d, e], _ =>
    obtain ⟨ab, ac, ad, ae, bc, bd, be, cd, ce, de, _, _, _, _, _, _, _, _, _, _, e1, e2, e3, e4, e5, e6, e7, e8, e9, e10, e11, e12, e13, e14, e15, e16, e17, e18, e19, e20, e21, e22, e23, e24, e25⟩ := h.five
    simp only [detZ3, e1, e2, e3, e4, e5, e6, e7, e8, e9, e10, e11, e12, e13, e14, e15, e16, e17, e18, e19, e20, e21, e22, e23, e24, e25]; grind

-- signs
theorem mul_nn {a b : Int} (ha : 0 ≤ a) (hb : 0 ≤ b) : 0 ≤ a * b := Int.mul_nonneg ha hb

theorem nn2 {s t w : Int} (hw : 0 ≤ w) (h1 : w ≤ s) (h2 : w ≤ t) : 0 ≤ s * t - w * w := by
  have a : 0 ≤ (s - w) * t := mul_nn (by omega) (by omega)
  have b : 0 ≤ w * (t - w) := mul_nn (by omega) (by omega)
  have e : s * t - w * w = (s - w) * t + w * (t - w) := by grind
  omega

theorem nn3 {s t u p q r : Int} (hp : 0 ≤ p) (hq : 0 ≤ q) (hr : 0 ≤ r) (h1 : p + q ≤ s) (h2 : p + r ≤ t) (h3 : q + r ≤ u) :
    0 ≤ s * (t * u - r * r) - p * (p * u + r * q) - q * (p * r + t * q) := by
  have hs : 0 ≤ s := by omega
  by_cases h0 : s = 0
  · have e1 : p = 0 := by omega
    have e2 : q = 0 := by omega
    subst h0; subst e1; subst e2; simp
  · have k1 : 0 ≤ s * t - p * p - (s * r + p * q) := by
      have a : 0 ≤ s * (t - r - p) := mul_nn hs (by omega)
      have b : 0 ≤ p * (s - p - q) := mul_nn hp (by omega)
      have e : s * t - p * p - (s * r + p * q) = s * (t - r - p) + p * (s - p - q) := by grind
      omega
    have k2 : 0 ≤ s * u - q * q - (s * r + p * q) := by
      have a : 0 ≤ s * (u - r - q) := mul_nn hs (by omega)
      have b : 0 ≤ q * (s - p - q) := mul_nn hq (by omega)
      have e : s * u - q * q - (s * r + p * q) = s * (u - r - q) + q * (s - p - q) := by grind
      omega
    have k3 : 0 ≤ s * r + p * q := by have := mul_nn hs hr; have := mul_nn hp hq; omega
    have key := nn2 k3 (s := s * t - p * p) (t := s * u - q * q) (by omega) (by omega)
    have e : (s * t - p * p) * (s * u - q * q) - (s * r + p * q) * (s * r + p * q) = s * (s * (t * u - r * r) - p * (p * u + r * q) - q * (p * r + t * q)) := by grind
    rw [e] at key
    exact Int.nonneg_of_mul_nonneg_right key (by omega)

end Go.Sx.R
namespace Go.Sx.R
open Go Go.Sx

theorem nn4 {s t u v p q r a b c : Int} (hp : 0 ≤ p) (hq : 0 ≤ q) (hr : 0 ≤ r) (ha : 0 ≤ a) (hb : 0 ≤ b) (hc : 0 ≤ c) (h1 : p + q + r ≤ s) (h2 : p + a + b ≤ t) (h3 : q + a + c ≤ u) (h4 : r + b + c ≤ v) :
    0 ≤ s * (t * (u * v - c * c) - a * (a * v + c * b) - b * (a * c + u * b)) - p * (p * (u * v - c * c) + a * (q * v + c * r) + b * (q * c + u * r))
      - q * (p * (a * v + c * b) + t * (q * v + c * r) - b * (q * b - a * r)) - r * (p * (a * c + u * b) + t * (q * c + u * r) + a * (q * b - a * r)) := by
  have hs : 0 ≤ s := by omega
  by_cases h0 : s = 0
  · have e1 : p = 0 := by omega
    have e2 : q = 0 := by omega
    have e3 : r = 0 := by omega
    subst h0; subst e1; subst e2; subst e3; simp
  · have A : 0 ≤ s * a + p * q := by have := mul_nn hs ha; have := mul_nn hp hq; omega
    have B : 0 ≤ s * b + p * r := by have := mul_nn hs hb; have := mul_nn hp hr; omega
    have C : 0 ≤ s * c + q * r := by have := mul_nn hs hc; have := mul_nn hq hr; omega
    have k1 : (s * a + p * q) + (s * b + p * r) ≤ s * t - p * p := by
      have x : 0 ≤ s * (t - p - a - b) := mul_nn hs (by omega)
      have y : 0 ≤ p * (s - p - q - r) := mul_nn hp (by omega)
      have e : s * t - p * p - ((s * a + p * q) + (s * b + p * r)) = s * (t - p - a - b) + p * (s - p - q - r) := by grind
      omega
    have k2 : (s * a + p * q) + (s * c + q * r) ≤ s * u - q * q := by
      have x : 0 ≤ s * (u - q - a - c) := mul_nn hs (by omega)
      have y : 0 ≤ q * (s - p - q - r) := mul_nn hq (by omega)
      have e : s * u - q * q - ((s * a + p * q) + (s * c + q * r)) = s * (u - q - a - c) + q * (s - p - q - r) := by grind
      omega
    have k3 : (s * b + p * r) + (s * c + q * r) ≤ s * v - r * r := by
      have x : 0 ≤ s * (v - r - b - c) := mul_nn hs (by omega)
      have y : 0 ≤ r * (s - p - q - r) := mul_nn hr (by omega)
      have e : s * v - r * r - ((s * b + p * r) + (s * c + q * r)) = s * (v - r - b - c) + r * (s - p - q - r) := by grind
      omega
    have key := nn3 A B C k1 k2 k3
    have e : (s * t - p * p) * ((s * u - q * q) * (s * v - r * r) - (s * c + q * r) * (s * c + q * r)) - (s * a + p * q) * ((s * a + p * q) * (s * v - r * r) + (s * c + q * r) * (s * b + p * r)) - (s * b + p * r) * ((s * a + p * q) * (s * c + q * r) + (s * u - q * q) * (s * b + p * r))
      = s * s * (s * (t * (u * v - c * c) - a * (a * v + c * b) - b * (a * c + u * b)) - p * (p * (u * v - c * c) + a * (q * v + c * r) + b * (q * c + u * r))
      - q * (p * (a * v + c * b) + t * (q * v + c * r) - b * (q * b - a * r)) - r * (p * (a * c + u * b) + t * (q * c + u * r) + a * (q * b - a * r))) := by grind
    rw [e] at key
    have hs1 : 0 < s := by omega
    exact Int.nonneg_of_mul_nonneg_right key (Int.mul_pos hs1 hs1)

theorem sum_sub {g : Int → Int} : ∀ {l V : List Int}, l.Nodup → V.Nodup → (∀ i ∈ l, i ∈ V) → (∀ i ∈ V, i ∉ l → g i ≤ 0) → (V.map g).sum ≤ (l.map g).sum
  | [], V, _, _, _, h => by
    have : ∀ V : List Int, (∀ i ∈ V, g i ≤ 0) → (V.map g).sum ≤ 0 := by
      intro V
      induction V with
      | nil => intro _; simp
      | cons x V ih => intro h; simp only [List.map_cons, List.sum_cons]; have := h x (by simp); have := ih fun i hi => h i (by simp [hi]); omega
    simpa using this V fun i hi => h i hi (by simp)
  | x :: l, V, hl, hV, hs, h => by
    have hx := hs x (by simp)
    have hp := List.perm_cons_erase hx
    have hn := List.nodup_cons.1 hl
    have ih := sum_sub (g := g) (l := l) (V := V.erase x) hn.2 (hV.erase x) (fun i hi => (List.mem_erase_of_ne (by rintro rfl; exact hn.1 hi)).2 (hs i (by simp [hi]))) (fun i hi hil => by
      have := (hV.mem_erase_iff).1 hi
      exact h i this.2 (by simp [this.1, hil]))
    rw [perm_sum (hp.map g)]
    simp only [List.map_cons, List.sum_cons]
    omega

/-- A node's sum of weights is no less than that over some others. -/
theorem LapZ.diag {M : List (List Int)} {V : List Int} (h : LapZ M V) {x : Int} {l : List Int} (hx : x ∈ V) (hl : (x :: l).Nodup) (hs : ∀ i ∈ l, i ∈ V) : 0 ≤ at2 M x x + (l.map (at2 M x)).sum := by
  have := sum_sub (g := at2 M x) hl h.nd (fun i hi => by rcases List.mem_cons.1 hi with rfl | hi; exact hx; exact hs i hi) (fun i hi hn => h.off x hx i hi (by rintro rfl; exact hn (by simp)))
  rw [h.sum x hx] at this
  simpa using this

/-- One node more: no less than its weight to somewhere else allows. -/
theorem LapZ.step {M : List (List Int)} {V : List Int} (h : LapZ M V) {x y : Int} {r : List Int} (hl : (x :: r).Nodup) (hs : ∀ i ∈ x :: r, i ∈ V) (hy : y ∈ V) (hyl : y ∉ x :: r) (h3 : r.length ≤ 3) : -at2 M x y * detZ M r r ≤ detZ M (x :: r) (x :: r) := by
  have hx := hs x (by simp)
  have hyx : x ≠ y := by rintro rfl; exact hyl (by simp)
  have off : ∀ i ∈ x :: r, ∀ j ∈ x :: r, i ≠ j → 0 ≤ -at2 M i j := fun i hi j hj hij => by have := h.off i (hs i hi) j (hs j hj) hij; omega
  have dx : 0 ≤ at2 M x x + ((y :: r).map (at2 M x)).sum := h.diag hx (by
    have := List.nodup_cons.1 hl
    refine List.nodup_cons.2 ⟨?_, List.nodup_cons.2 ⟨fun hm => hyl (by simp [hm]), this.2⟩⟩
    intro hm
    rcases List.mem_cons.1 hm with e | hm
    · exact hyx e
    · exact this.1 hm) (fun i hi => by rcases List.mem_cons.1 hi with rfl | hi; exact hy; exact hs i (by simp [hi]))
  match r, h3 with
  | [], _ =>
    simp only [List.map_cons, List.map_nil, List.sum_cons, List.sum_nil] at dx
    rw [detZ1]
    have e1 : detZ M [] [] = 1 := by simp [detZ]
    rw [e1]
    omega
  | [a], _ =>
    have d1 := h.diag (x := a) (l := [x]) (hs a (by simp)) (by simp at hl ⊢; exact fun e => hl e.symm) (by simpa using hx)
    simp only [List.map_cons, List.map_nil, List.sum_cons, List.sum_nil] at dx d1
    have s1 := h.sym a (hs a (by simp)) x hx
    have hxa : x ≠ a := by simp at hl; exact hl
    have o1 := off x (by simp) a (by simp) hxa
    have key := nn2 (s := at2 M x x + at2 M x y) (t := at2 M a a) (w := -at2 M x a) o1 (by omega) (by omega)
    simp only [detZ1, detZ2, s1]
    have e : at2 M x x * at2 M a a - at2 M x a * at2 M x a - -at2 M x y * at2 M a a = (at2 M x x + at2 M x y) * at2 M a a - -at2 M x a * -at2 M x a := by grind
    omega
  | [a, b], _ =>
    simp only [List.nodup_cons, List.mem_cons, List.not_mem_nil, or_false, not_or, List.nodup_nil, and_true, not_false_eq_true] at hl
    obtain ⟨⟨n1, n2⟩, n3⟩ := hl
    have d1 := h.diag (x := a) (l := [x, b]) (hs a (by simp)) (by simp; exact ⟨⟨fun e => n1 e.symm, n3⟩, n2⟩) (by simp; exact ⟨hx, hs b (by simp)⟩)
    have d2 := h.diag (x := b) (l := [x, a]) (hs b (by simp)) (by simp; exact ⟨⟨fun e => n2 e.symm, fun e => n3 e.symm⟩, n1⟩) (by simp; exact ⟨hx, hs a (by simp)⟩)
    simp only [List.map_cons, List.map_nil, List.sum_cons, List.sum_nil] at dx d1 d2
    have s1 := h.sym a (hs a (by simp)) x hx
    have s2 := h.sym b (hs b (by simp)) x hx
    have s3 := h.sym b (hs b (by simp)) a (hs a (by simp))
    have key := nn3 (s := at2 M x x + at2 M x y) (t := at2 M a a) (u := at2 M b b) (p := -at2 M x a) (q := -at2 M x b) (r := -at2 M a b) (off _ (by simp) _ (by simp) n1) (off _ (by simp) _ (by simp) n2) (off _ (by simp) _ (by simp) n3) (by omega) (by omega) (by omega)
    simp only [detZ2, detZ3, s1, s2, s3]
    generalize at2 M x x = X at *
    generalize at2 M a a = A at *
    generalize at2 M b b = B at *
    generalize at2 M x y = Y at *
    generalize at2 M x a = P at *
    generalize at2 M x b = Q at *
    generalize at2 M a b = R at *
    have e : X * (A * B - R * R) - P * (P * B - R * Q) + Q * (P * R - A * Q) - -Y * (A * B - R * R) = (X + Y) * (A * B - -R * -R) - -P * (-P * B + -R * -Q) - -Q * (-P * -R + A * -Q) := by grind
    omega
  | [a, b, c], _ =>
    simp only [List.nodup_cons, List.mem_cons, List.not_mem_nil, or_false, not_or, List.nodup_nil, and_true, not_false_eq_true] at hl
    obtain ⟨⟨n1, n2, n3⟩, ⟨n4, n5⟩, n6⟩ := hl
    have d1 := h.diag (x := a) (l := [x, b, c]) (hs a (by simp)) (by simp; exact ⟨⟨fun e => n1 e.symm, n4, n5⟩, ⟨n2, n3⟩, n6⟩) (by simp; exact ⟨hx, hs b (by simp), hs c (by simp)⟩)
    have d2 := h.diag (x := b) (l := [x, a, c]) (hs b (by simp)) (by simp; exact ⟨⟨fun e => n2 e.symm, fun e => n4 e.symm, n6⟩, ⟨n1, n3⟩, n5⟩) (by simp; exact ⟨hx, hs a (by simp), hs c (by simp)⟩)
    have d3 := h.diag (x := c) (l := [x, a, b]) (hs c (by simp)) (by simp; exact ⟨⟨fun e => n3 e.symm, fun e => n5 e.symm, fun e => n6 e.symm⟩, ⟨n1, n2⟩, n4⟩) (by simp; exact ⟨hx, hs a (by simp), hs b (by simp)⟩)
    simp only [List.map_cons, List.map_nil, List.sum_cons, List.sum_nil] at dx d1 d2 d3
    have s1 := h.sym a (hs a (by simp)) x hx
    have s2 := h.sym b (hs b (by simp)) x hx
    have s3 := h.sym c (hs c (by simp)) x hx
    have s4 := h.sym b (hs b (by simp)) a (hs a (by simp))
    have s5 := h.sym c (hs c (by simp)) a (hs a (by simp))
    have s6 := h.sym c (hs c (by simp)) b (hs b (by simp))
    have key := nn4 (s := at2 M x x + at2 M x y) (t := at2 M a a) (u := at2 M b b) (v := at2 M c c) (p := -at2 M x a) (q := -at2 M x b) (r := -at2 M x c) (a := -at2 M a b) (b := -at2 M a c) (c := -at2 M b c)
      (off _ (by simp) _ (by simp) n1) (off _ (by simp) _ (by simp) n2) (off _ (by simp) _ (by simp) n3) (off _ (by simp) _ (by simp) n4) (off _ (by simp) _ (by simp) n5) (off _ (by simp) _ (by simp) n6) (by omega) (by omega) (by omega) (by omega)
    simp only [detZ3, detZ4, s1, s2, s3, s4, s5, s6]
    generalize at2 M x x = X at *
    generalize at2 M a a = A at *
    generalize at2 M b b = B at *
    generalize at2 M c c = C at *
    generalize at2 M x y = Y at *
    generalize at2 M x a = P at *
    generalize at2 M x b = Q at *
    generalize at2 M x c = R at *
    generalize at2 M a b = S at *
    generalize at2 M a c = T at *
    generalize at2 M b c = U at *
    clear d1 d2 d3 dx off
    have e : (X * (A * (B * C - U * U) - S * (S * C - U * T) + T * (S * U - B * T)) - P * (P * (B * C - U * U) - S * (Q * C - U * R) + T * (Q * U - B * R)) + Q * (P * (S * C - U * T) - A * (Q * C - U * R) + T * (Q * T - S * R)) - R * (P * (S * U - B * T) - A * (Q * U - B * R) + S * (Q * T - S * R))) - -Y * (A * (B * C - U * U) - S * (S * C - U * T) + T * (S * U - B * T))
      = (X + Y) * (A * (B * C - -U * -U) - -S * (-S * C + -U * -T) - -T * (-S * -U + B * -T)) - -P * (-P * (B * C - -U * -U) + -S * (-Q * C + -U * -R) + -T * (-Q * -U + B * -R)) - -Q * (-P * (-S * C + -U * -T) + A * (-Q * C + -U * -R) - -T * (-Q * -T - -S * -R)) - -R * (-P * (-S * -U + B * -T) + A * (-Q * -U + B * -R) + -S * (-Q * -T - -S * -R)) := by grind
    omega

/-- Hangs together: every part has a wire that leads out of it. -/
def Hang (M : List (List Int)) (V : List Int) : Prop := ∀ l : List Int, l ≠ [] → (∀ i ∈ l, i ∈ V) → (∃ y ∈ V, y ∉ l) → ∃ x ∈ l, ∃ y ∈ V, y ∉ l ∧ at2 M x y ≤ -1

/-- Principal minors of a network that hangs together. -/
theorem LapZ.pos {M : List (List Int)} {V : List Int} (h : LapZ M V) (hh : Hang M V) : ∀ (k : Nat) (l : List Int), l.length = k → k ≤ 4 → l.Nodup → (∀ i ∈ l, i ∈ V) → (∃ y ∈ V, y ∉ l) → 1 ≤ detZ M l l
  | 0, l, hk, _, _, _, _ => by
    have : l = [] := List.length_eq_zero_iff.1 hk
    subst this; simp [detZ]
  | k + 1, l, hk, h4, hn, hs, hy => by
    have hne : l ≠ [] := by rintro rfl; simp at hk
    obtain ⟨x, hx, y, hyV, hyl, hxy⟩ := hh l hne hs hy
    have hp := List.perm_cons_erase hx
    have hlen : (l.erase x).length = k := by rw [List.length_erase_of_mem hx, hk]; rfl
    have hn' : (x :: l.erase x).Nodup := hp.nodup_iff.1 hn
    have hm : ∀ i, i ∈ x :: l.erase x ↔ i ∈ l := fun i => hp.symm.mem_iff
    have ih := LapZ.pos h hh k (l.erase x) hlen (by omega) (List.nodup_cons.1 hn').2 (fun i hi => hs i (List.mem_of_mem_erase hi)) ⟨x, hs x hx, (List.nodup_cons.1 hn').1⟩
    have st := h.step (x := x) (y := y) (r := l.erase x) hn' (fun i hi => hs i ((hm i).1 hi)) hyV (fun hi => hyl ((hm y).1 hi)) (by omega)
    rw [detZ_perm hp (by omega)]
    have : 1 * 1 ≤ -at2 M x y * detZ M (l.erase x) (l.erase x) := Int.mul_le_mul (by omega) ih (by omega) (by omega)
    omega

end Go.Sx.R
namespace Go.Sx.R
open Go Go.Sx

theorem wok_set {m : Nat} {K : Int} {ws : List W3} (h : Wok m K ws) {i : Nat} {x : W3} (hx : ws[i]? = some x) {u : Int} (hu : 1 ≤ u ∧ u ≤ K) : Wok m K (ws.set i (x.1, x.2.1, u)) ∧ (∀ e ∈ ws, ∃ e' ∈ ws.set i (x.1, x.2.1, u), e'.1 = e.1 ∧ e'.2.1 = e.2.1) := by
  have hil := (List.getElem?_eq_some_iff.1 hx).1
  have hxe : ws[i] = x := by rw [List.getElem?_eq_getElem hil] at hx; simpa using hx
  have keys : ∀ (j : Nat) (hj : j < (ws.set i (x.1, x.2.1, u)).length), (ws.set i (x.1, x.2.1, u))[j].1 = (ws[j]'(by simpa using hj)).1 ∧ (ws.set i (x.1, x.2.1, u))[j].2.1 = (ws[j]'(by simpa using hj)).2.1 := by
    intro j hj
    rw [List.getElem_set]
    split
    · rename_i e; subst e; simp [hxe]
    · exact ⟨rfl, rfl⟩
  refine ⟨⟨?_, fun e he => ?_, fun e he => ?_⟩, fun e he => ?_⟩
  · refine List.pairwise_iff_getElem.2 fun a b ha hb hab => ?_
    have hs := List.pairwise_iff_getElem.1 h.srt a b (by simpa using ha) (by simpa using hb) hab
    rw [lex_iff] at hs ⊢
    rw [(keys a ha).1, (keys b hb).1, (keys a ha).2, (keys b hb).2]
    exact hs
  · rcases List.mem_or_eq_of_mem_set he with h' | rfl
    · exact h.inw e h'
    · exact h.inw x (List.mem_of_getElem? hx)
  · rcases List.mem_or_eq_of_mem_set he with h' | rfl
    · exact h.w e h'
    · exact hu
  · obtain ⟨j, hj, rfl⟩ := List.getElem_of_mem he
    have hj' : j < (ws.set i (x.1, x.2.1, u)).length := by simpa using hj
    exact ⟨_, List.getElem_mem hj', (keys j hj').1, (keys j hj').2⟩

theorem filter_pos {ws : List W3} (h : ∀ e ∈ ws, 1 ≤ e.2.2) : (ws.filter fun x => !decide (x.2.2 = 0)) = ws := by
  rw [List.filter_eq_self]
  intro e he
  have := h e he
  have d : decide (e.2.2 = 0) = false := by rw [decide_eq_false_iff_not]; omega
  rw [d]; rfl

theorem tmod_in {x len : Int} (h0 : 0 ≤ x) (hl : 0 < len) : 0 ≤ Int.tmod x len ∧ Int.tmod x len < len := by
  rw [Int.tmod_eq_emod_of_nonneg h0]
  exact ⟨Int.emod_nonneg _ (by omega), Int.emod_lt_of_pos _ hl⟩

end Go.Sx.R
namespace Go.Sx.R
open Go Go.Sx

theorem wbt_comm (ws : List W3) (a b : Int) : wbt ws a b = wbt ws b a := by
  by_cases h : a = b
  · rw [h]
  · have e : isW a b = isW b a := by
      funext x
      have e1 : (if b < a then b else a) = (if a < b then a else b) := by split <;> split <;> omega
      have e2 : (if b > a then b else a) = (if a > b then a else b) := by split <;> split <;> omega
      simp only [isW, e1, e2]
    simp only [wbt, e, h, if_false, Ne.symm h]

theorem netok_rc {n : TNet} (h : netok n = true) {v : Int} (h0 : 0 ≤ v) (h1 : v < n.1) : Rc n.2.2.2 v := by
  revert h
  simp only [netok, Bool.and_eq_true]
  intro h
  have := h.2
  simp only [conn, decide_eq_true_eq] at this
  exact this v h0 h1

-- numbers after a node is left out
def un (v i : Nat) : Nat := if i < v then i else i + 1
end Go.Sx.R
namespace Go.Sx.R
open Go Go.Sx

theorem map_sum_add {β : Type} (f g : β → Int) : ∀ (l : List β), (l.map fun c => f c + g c).sum = (l.map f).sum + (l.map g).sum
  | [] => rfl
  | x :: l => by simp only [List.map_cons, List.sum_cons, map_sum_add f g l]; omega

theorem sum_at (o w : Int) : ∀ (l : List Int), l.Nodup → ((l.map fun c => if c = o then w else 0).sum = if o ∈ l then w else 0)
  | [], _ => rfl
  | x :: l, h => by
    obtain ⟨h1, h2⟩ := List.nodup_cons.1 h
    simp only [List.map_cons, List.sum_cons, sum_at o w l h2, List.mem_cons]
    by_cases e : x = o
    · subst e; simp [h1]
    · have : ¬ o = x := fun h => e h.symm
      simp [e, this]

theorem wbt_cons (e : W3) (ws : List W3) (a c : Int) : wbt (e :: ws) a c = if a = c then 0 else if isW a c e = true then e.2.2 else wbt ws a c := by
  unfold wbt
  by_cases h : a = c
  · rw [if_pos h, if_pos h]
  · rw [if_neg h, if_neg h, if_neg h, List.find?_cons]
    cases isW a c e <;> rfl

theorem wbt_sum (a : Int) (l : List Int) (hl : l.Nodup) : ∀ (ws : List W3), Srt ws → (∀ e ∈ ws, e.1 < e.2.1) → (∀ e ∈ ws, e.1 ∈ l ∧ e.2.1 ∈ l) → (l.map fun c => wbt ws a c).sum = wAt ws a
  | [], _, _, _ => by
    have : ∀ c, wbt [] a c = 0 := fun c => by unfold wbt; split <;> rfl
    simp only [this, wAt, List.map_nil, List.sum_nil]
    induction l with
    | nil => rfl
    | cons x l ih => simpa using ih (List.nodup_cons.1 hl).2
  | e :: ws, hs, hi, hm => by
    obtain ⟨s1, s2⟩ := List.pairwise_cons.1 hs
    have ih := wbt_sum a l hl ws s2 (fun e he => hi e (List.mem_cons_of_mem _ he)) (fun e he => hm e (List.mem_cons_of_mem _ he))
    have he := hi e List.mem_cons_self
    have hme := hm e List.mem_cons_self
    have hw : wAt (e :: ws) a = touch a e + wAt ws a := by simp [wAt]
    rw [hw]
    by_cases t : e.1 = a ∨ e.2.1 = a
    · have ht : touch a e = e.2.2 := by simp [touch, t]
      -- the other end
      obtain ⟨o, ho, hol, hoa⟩ : ∃ o, (∀ c, (isW a c e = true) ↔ c = o) ∧ o ∈ l ∧ a ≠ o := by
        rcases t with t | t
        · refine ⟨e.2.1, fun c => ?_, hme.2, by omega⟩
          simp only [isW, Bool.or_eq_true, Bool.and_eq_true, decide_eq_true_eq]; omega
        · refine ⟨e.1, fun c => ?_, hme.1, by omega⟩
          simp only [isW, Bool.or_eq_true, Bool.and_eq_true, decide_eq_true_eq]; omega
      have h0 : wbt ws a o = 0 := by
        unfold wbt
        rw [if_neg hoa]
        split
        · rename_i x hx
          exfalso
          have h1 := List.find?_some hx
          have h2 := s1 x (List.mem_of_find?_eq_some hx)
          have h3 := (ho o).2 rfl
          have h4 := hi x (List.mem_cons_of_mem _ (List.mem_of_find?_eq_some hx))
          simp only [isW, Bool.or_eq_true, Bool.and_eq_true, decide_eq_true_eq] at h1 h3
          simp only [lex, Bool.or_eq_true, Bool.and_eq_true, decide_eq_true_eq] at h2
          omega
        · rfl
      have hc : ∀ c, wbt (e :: ws) a c = wbt ws a c + if c = o then e.2.2 else 0 := fun c => by
        rw [wbt_cons]
        by_cases ac : a = c
        · subst ac
          have : wbt ws a a = 0 := by unfold wbt; rw [if_pos rfl]
          rw [if_pos rfl, this, if_neg hoa]; rfl
        · rw [if_neg ac]
          by_cases co : c = o
          · rw [if_pos ((ho c).2 co), if_pos co, co, h0]; omega
          · rw [if_neg (fun h => co ((ho c).1 h)), if_neg co]; omega
      simp only [hc, map_sum_add, ih, sum_at o e.2.2 l hl, if_pos hol, ht]
      omega
    · have ht : touch a e = 0 := by simp [touch, t]
      have hc : ∀ c, wbt (e :: ws) a c = wbt ws a c := fun c => by
        rw [wbt_cons]
        by_cases ac : a = c
        · subst ac
          have : wbt ws a a = 0 := by unfold wbt; rw [if_pos rfl]
          rw [if_pos rfl, this]
        · rw [if_neg ac, if_neg]
          simp only [isW, Bool.or_eq_true, Bool.and_eq_true, decide_eq_true_eq]; omega
      simp only [hc, ih, ht]
      omega

theorem lap_zero {ws : List W3} {m : Nat} (hs : Srt ws) (hin : InW m ws) {L : List (List Int)} (h : IsTab L m (lapF ws)) {cols : List Int} (hn : cols.Nodup) (hc : ∀ c, c ∈ cols ↔ 0 ≤ c ∧ c < m) {r : Int} (hr : 0 ≤ r ∧ r < m) : (cols.map fun c => at2 L r c).sum = 0 := by
  obtain ⟨i, rfl⟩ : ∃ i : Nat, r = i := ⟨r.toNat, by omega⟩
  have e : cols.map (fun c => at2 L (i : Int) c) = cols.map fun c => (if c = (i : Int) then wAt ws (i : Int) else 0) + -(wbt ws (i : Int) c) := by
    refine List.map_congr_left fun c hcm => ?_
    have hcc := (hc c).1 hcm
    obtain ⟨j, rfl⟩ : ∃ j : Nat, c = j := ⟨c.toNat, by omega⟩
    rw [tab_at2 h (by omega) (by omega), lapF]
    by_cases ij : i = j
    · subst ij
      have : wbt ws (i : Int) (i : Int) = 0 := by unfold wbt; rw [if_pos rfl]
      rw [if_pos rfl, if_pos rfl, this]; omega
    · rw [if_neg ij, if_neg (by omega)]; omega
  have neg : ∀ (l : List Int), (l.map fun c => -(wbt ws (i : Int) c)).sum = -(l.map fun c => wbt ws (i : Int) c).sum := by
    intro l
    induction l with
    | nil => rfl
    | cons x l ih => simp only [List.map_cons, List.sum_cons, ih]; omega
  rw [e, map_sum_add, sum_at _ _ _ hn, if_pos ((hc (i : Int)).2 ⟨by omega, hr.2⟩), neg, wbt_sum (i : Int) cols hn ws hs (fun e he => (hin e he).2.1) (fun e he => ⟨(hc _).2 (by have := hin e he; omega), (hc _).2 (by have := hin e he; omega)⟩)]
  omega

end Go.Sx.R
namespace Go.Sx.R
open Go Go.Sx

theorem wo_all (m : Nat) (l : List Int) : ∀ c : Int, 0 ≤ c → c < m → c ∉ l → c ∈ wo m l := by
  have := foldI_ind (β := Nat) (fun i (q : List Int) => ∀ c : Int, 0 ≤ c → c < i → c ∉ l → c ∈ q) (woG l) (fun s i x h c h0 h1 h2 => by
    simp only [woG]
    by_cases hi : c = i
    · subst hi; rw [if_neg h2]; simp
    · have := h c h0 (by omega) h2
      split
      · exact this
      · simp [this]) (List.range m) 0 [] (by intro c h0 h1; omega)
  simpa [wo] using this

theorem mem_wo {m : Nat} {l : List Int} {c : Int} : c ∈ wo m l ↔ 0 ≤ c ∧ c < m ∧ c ∉ l :=
  ⟨fun h => (wo_facts' m l).2.1 c h, fun h => wo_all m l c h.1 h.2.1 h.2.2⟩

theorem wo_nd (m : Nat) (l : List Int) : (wo m l).Nodup := (wo_facts' m l).2.2

theorem perm_of {l l' : List Int} (h : l.Nodup) (h' : l'.Nodup) (he : ∀ c, c ∈ l ↔ c ∈ l') : l.Perm l' :=
  (List.perm_ext_iff_of_nodup h h').2 he

theorem wo_cons {m : Nat} {x : Int} {l : List Int} (h0 : 0 ≤ x) (h1 : x < m) (hx : x ∉ l) : (wo m l).Perm (x :: wo m (x :: l)) := by
  refine perm_of (wo_nd _ _) (List.nodup_cons.2 ⟨fun h => (mem_wo.1 h).2.2 (by simp), wo_nd _ _⟩) fun c => ?_
  simp only [mem_wo, List.mem_cons, not_or]
  by_cases hc : c = x
  · subst hc; simp [h0, h1, hx]
  · simp [hc]

section
variable {n : TNet} {m : Nat} {L : List (List Int)}

theorem Lk.a2 (h : Lk n m L) {i j : Int} (hi : 0 ≤ i ∧ i < m) (hj : 0 ≤ j ∧ j < m) : at2 L i j = if i = j then wAt n.2.2.2 i else -wbt n.2.2.2 i j := by
  obtain ⟨a, rfl⟩ : ∃ a : Nat, i = a := ⟨i.toNat, by omega⟩
  obtain ⟨b, rfl⟩ : ∃ b : Nat, j = b := ⟨j.toNat, by omega⟩
  rw [tab_at2 h.tab (by omega) (by omega), lapF]
  by_cases e : a = b
  · subst e; rw [if_pos rfl, if_pos rfl]
  · rw [if_neg e, if_neg (by omega)]

theorem Lk.lapZ (h : Lk n m L) : LapZ L (wo m []) where
  sym x hx y hy := by
    have hx := mem_wo.1 hx
    have hy := mem_wo.1 hy
    rw [h.a2 ⟨hx.1, hx.2.1⟩ ⟨hy.1, hy.2.1⟩, h.a2 ⟨hy.1, hy.2.1⟩ ⟨hx.1, hx.2.1⟩]
    by_cases e : x = y
    · subst e; rfl
    · rw [if_neg e, if_neg (Ne.symm e), wbt_comm]
  off x hx y hy hxy := by
    have hx := mem_wo.1 hx
    have hy := mem_wo.1 hy
    rw [h.a2 ⟨hx.1, hx.2.1⟩ ⟨hy.1, hy.2.1⟩, if_neg hxy]
    have := wbt_bd h.hw x y
    omega
  sum x hx := by
    have hx := mem_wo.1 hx
    exact lap_zero h.srt h.inw h.tab (wo_nd m []) (fun c => by simp [mem_wo]) ⟨hx.1, hx.2.1⟩
  nd := wo_nd m []

theorem Lk.wire (h : Lk n m L) {e : W3} (he : e ∈ n.2.2.2) : at2 L e.1 e.2.1 ≤ -1 ∧ at2 L e.2.1 e.1 ≤ -1 := by
  have hi := h.inw e he
  have hw := h.hw e he
  have hb : wbt n.2.2.2 e.1 e.2.1 = e.2.2 := (wbt_mem h.srt hi.2.1 (by omega)).2 he
  have hb' : wbt n.2.2.2 e.2.1 e.1 = e.2.2 := by rw [wbt_comm]; exact hb
  rw [h.a2 (by omega) (by omega), h.a2 (by omega) (by omega), if_neg (by omega), if_neg (by omega), hb, hb']
  omega

theorem rc_side {ws : List W3} {l : List Int} (h : ∀ e ∈ ws, (e.1 ∈ l ↔ e.2.1 ∈ l)) : ∀ v, Rc ws v → (v ∈ l ↔ (0 : Int) ∈ l) := by
  intro v hv
  induction hv with
  | zero => exact Iff.rfl
  | ab he _ ih => exact (h _ he).symm.trans ih
  | ba he _ ih => exact (h _ he).trans ih

theorem Lk.hang (h : Lk n m L) : Hang L (wo m []) := by
  intro l hl hs ⟨y, hy, hyl⟩
  apply Classical.byContradiction
  intro hno
  have side : ∀ e ∈ n.2.2.2, (e.1 ∈ l ↔ e.2.1 ∈ l) := by
    intro e he
    have hi := h.inw e he
    have hw := h.wire he
    constructor
    · intro h1
      apply Classical.byContradiction
      intro h2
      exact hno ⟨_, h1, _, mem_wo.2 ⟨by omega, hi.2.2, by simp⟩, h2, hw.1⟩
    · intro h1
      apply Classical.byContradiction
      intro h2
      exact hno ⟨_, h1, _, mem_wo.2 ⟨hi.1, by omega, by simp⟩, h2, hw.2⟩
  have all : ∀ v, 0 ≤ v → v < n.1 → (v ∈ l ↔ (0 : Int) ∈ l) := fun v h0 h1 => rc_side side v (netok_rc h.ok h0 h1)
  have hm := h.hm
  obtain ⟨x, hx⟩ := List.exists_mem_of_ne_nil l hl
  have hx' := mem_wo.1 (hs x hx)
  have hy' := mem_wo.1 hy
  exact hyl ((all y hy'.1 (by omega)).2 ((all x hx'.1 (by omega)).1 hx))

/-- The sum over trees, grounded anywhere. -/
def treZ (L : List (List Int)) (m : Nat) : Int := detZ L (wo m [0]) (wo m [0])
/-- The sum over forests that part two nodes. -/
def forZ (L : List (List Int)) (m : Nat) (a b : Int) : Int := if a = b then 0 else detZ L (wo m [a, b]) (wo m [a, b])

theorem forZ_comm (L : List (List Int)) (m : Nat) (a b : Int) : forZ L m a b = forZ L m b a := by
  unfold forZ
  by_cases h : a = b
  · rw [if_pos h, if_pos h.symm]
  · rw [if_neg h, if_neg (Ne.symm h)]
    have : wo m [a, b] = wo m [b, a] := by
      have : woG [a, b] = woG [b, a] := by
        funext q i x
        simp only [woG, List.mem_cons, List.not_mem_nil, or_false]
        by_cases h1 : (i : Int) = a <;> by_cases h2 : (i : Int) = b <;> simp [h1, h2]
      unfold wo; rw [this]
    rw [this]

theorem Lk.len1 (h : Lk n m L) {a : Int} (h0 : 0 ≤ a) (h1 : a < m) (l : List Int) : (wo m (a :: l)).length + 1 ≤ m := wo_len (x := a) (by simp) h0 h1

theorem Lk.tre_pos (h : Lk n m L) : 1 ≤ treZ L m := by
  have hm5 := h.m5
  have hm1 := h.m1
  have l0 := h.len1 (a := 0) (by omega) (by omega) []
  exact h.lapZ.pos h.hang _ _ rfl (by omega) (wo_nd _ _) (fun i hi => mem_wo.2 ⟨(mem_wo.1 hi).1, (mem_wo.1 hi).2.1, by simp⟩) ⟨0, mem_wo.2 ⟨by omega, by omega, by simp⟩, fun hh => (mem_wo.1 hh).2.2 (by simp)⟩

theorem Lk.for_pos (h : Lk n m L) {a b : Int} (h0 : 0 ≤ a) (h1 : a < m) (hab : a ≠ b) : 1 ≤ forZ L m a b := by
  have hm5 := h.m5
  have l0 := h.len1 h0 h1 [b]
  unfold forZ
  rw [if_neg hab]
  exact h.lapZ.pos h.hang _ _ rfl (by omega) (wo_nd _ _) (fun i hi => mem_wo.2 ⟨(mem_wo.1 hi).1, (mem_wo.1 hi).2.1, by simp⟩) ⟨a, mem_wo.2 ⟨h0, h1, by simp⟩, fun hh => (mem_wo.1 hh).2.2 (by simp)⟩

theorem Lk.p_Tree (h : Lk n m L) : e_impl_TreeSum (n, ()) = some (treZ L m) := by
  have q := h.left [0] [0] (by have := BB_ge; simp; omega) (by have := BB_ge; simp; omega)
  simp only [e_impl_TreeSum, r_impl_TreeSum, p_NetOk n h.hn, h.ok, Option.bind_some, Bool.not_true, cond_false, q.1, treZ]

theorem Lk.p_node (h : Lk n m L) {a : Int} (ha : 0 ≤ a ∧ a < m) : e_impl_isNode (n, a, ()) = some true := by
  rw [(node_both n h.hn h.ok a).1]
  have hm := h.hm
  congr 1
  simp only [Bool.and_eq_true, decide_eq_true_eq]
  omega

theorem Lk.p_For (h : Lk n m L) {a b : Int} (ha : 0 ≤ a ∧ a < m) (hb : 0 ≤ b ∧ b < m) : e_impl_ForestSum (n, a, b, ()) = some (forZ L m a b) := by
  have q := h.left [a, b] [a, b] (by have := BB_ge; simp; omega) (by have := BB_ge; simp; omega)
  simp only [e_impl_ForestSum, r_impl_ForestSum, p_NetOk n h.hn, h.ok, h.p_node ha, h.p_node hb, Option.bind_some, Bool.not_true, cond_false, q.1, forZ]
  by_cases e : a = b
  · simp [e]
  · simp [e]

theorem Lk.tre_le (h : Lk n m L) : treZ L m ≤ 10497600000000 := by
  have := h.det_le4 [0] [0] (x := 0) (by simp) (by omega) (by have := h.m1; omega)
  unfold treZ; omega

theorem Lk.for_le (h : Lk n m L) {a b : Int} (ha : 0 ≤ a ∧ a < m) : 0 ≤ forZ L m a b ∧ forZ L m a b ≤ 10497600000000 := by
  by_cases e : a = b
  · unfold forZ; rw [if_pos e]; omega
  · have p := h.for_pos ha.1 ha.2 e
    have := h.det_le4 [a, b] [a, b] (x := a) (by simp) ha.1 ha.2
    unfold forZ at *
    rw [if_neg e] at *; omega
end

/-- A ratio in lowest terms. -/
def ratZ (a b : Int) : Int × Int := (Int.tdiv a (Nat.gcd a.natAbs b.natAbs : Nat), Int.tdiv b (Nat.gcd a.natAbs b.natAbs : Nat))

theorem ratZ_spec {a b : Int} (hb : 1 ≤ b) : ∃ g : Nat, 1 ≤ g ∧ a = (ratZ a b).1 * g ∧ b = (ratZ a b).2 * g ∧ 1 ≤ (ratZ a b).2 ∧ Nat.gcd (ratZ a b).1.natAbs (ratZ a b).2.natAbs = 1 := by
  have hg : 0 < Nat.gcd a.natAbs b.natAbs := Nat.gcd_pos_of_pos_right _ (by omega)
  have d1 : ((Nat.gcd a.natAbs b.natAbs : Nat) : Int) ∣ a := Int.ofNat_dvd_left.2 (Nat.gcd_dvd_left _ _)
  have d2 : ((Nat.gcd a.natAbs b.natAbs : Nat) : Int) ∣ b := Int.ofNat_dvd_left.2 (Nat.gcd_dvd_right _ _)
  have e1 : a = (ratZ a b).1 * (Nat.gcd a.natAbs b.natAbs : Nat) := (Int.tdiv_mul_cancel d1).symm
  have e2 : b = (ratZ a b).2 * (Nat.gcd a.natAbs b.natAbs : Nat) := (Int.tdiv_mul_cancel d2).symm
  have p2 : 1 ≤ (ratZ a b).2 := by
    apply Classical.byContradiction
    intro hn
    have : (ratZ a b).2 * ((Nat.gcd a.natAbs b.natAbs : Nat) : Int) ≤ 0 := Int.mul_nonpos_of_nonpos_of_nonneg (by omega) (by omega)
    omega
  refine ⟨_, hg, e1, e2, p2, ?_⟩
  have a1 : (ratZ a b).1.natAbs = a.natAbs / Nat.gcd a.natAbs b.natAbs := by
    show (Int.tdiv a _).natAbs = _
    rw [Int.natAbs_tdiv]; rfl
  have a2 : (ratZ a b).2.natAbs = b.natAbs / Nat.gcd a.natAbs b.natAbs := by
    show (Int.tdiv b _).natAbs = _
    rw [Int.natAbs_tdiv]; rfl
  rw [a1, a2, Nat.gcd_div (Nat.gcd_dvd_left _ _) (Nat.gcd_dvd_right _ _), Nat.div_self hg]

theorem ratZ_le {a b : Int} (hb : 1 ≤ b) : (ratZ a b).1.natAbs ≤ a.natAbs ∧ 1 ≤ (ratZ a b).2 ∧ (ratZ a b).2 ≤ b := by
  obtain ⟨g, hg, e1, e2, e3, _⟩ := ratZ_spec (a := a) hb
  refine ⟨?_, e3, ?_⟩
  · have : a.natAbs = (ratZ a b).1.natAbs * g := by
      have := congrArg Int.natAbs e1
      rwa [Int.natAbs_mul, Int.natAbs_natCast] at this
    rw [this]; exact Nat.le_mul_of_pos_right _ hg
  · have : (ratZ a b).2 * 1 ≤ (ratZ a b).2 * (g : Int) := Int.mul_le_mul_of_nonneg_left (by omega) (by omega)
    omega

theorem p_Ratio {a b : Int} (ha : a.natAbs ≤ 1000000000000000000) (hb : 1 ≤ b) (hb2 : b ≤ 1000000000000000) : e_impl_RatioOf (a, b, ()) = some (ratZ a b) := by
  simp only [e_impl_RatioOf, r_impl_RatioOf, p_sizeI a (by omega) (by omega), p_sizeI b (by omega) (by omega), p_common a.natAbs b.natAbs (by omega), Option.bind_some]
  have hg : 0 < Nat.gcd a.natAbs b.natAbs := Nat.gcd_pos_of_pos_right _ (by omega)
  have tn := tdiv_abs a (Nat.gcd a.natAbs b.natAbs)
  have td := tdiv_abs b (Nat.gcd a.natAbs b.natAbs)
  have la : a.natAbs / Nat.gcd a.natAbs b.natAbs ≤ a.natAbs := Nat.div_le_self _ _
  have lb : b.natAbs / Nat.gcd a.natAbs b.natAbs ≤ b.natAbs := Nat.div_le_self _ _
  have ta : Int.tdiv (a.natAbs : Int) ((Nat.gcd a.natAbs b.natAbs : Nat) : Int) = ((a.natAbs / Nat.gcd a.natAbs b.natAbs : Nat) : Int) := by rw [Int.tdiv_eq_ediv_of_nonneg (by omega)]; simp
  have tb : Int.tdiv (b.natAbs : Int) ((Nat.gcd a.natAbs b.natAbs : Nat) : Int) = ((b.natAbs / Nat.gcd a.natAbs b.natAbs : Nat) : Int) := by rw [Int.tdiv_eq_ediv_of_nonneg (by omega)]; simp
  rw [ta, tb]
  unfold ratZ
  rw [td.1 (by omega)]
  generalize hG : Nat.gcd a.natAbs b.natAbs = g at *
  generalize hP : a.natAbs / g = p at *
  generalize hQ : b.natAbs / g = q at *
  have d1 : decide (b = 0) = false := by rw [decide_eq_false_iff_not]; omega
  have d2 : decide ((g : Int) = 0) = false := by rw [decide_eq_false_iff_not]; omega
  have ua : Go.IntKind.wrap Go.IntKind.u64 ((p : Nat) : Int) = ((p : Nat) : Int) := u64_id (by omega) (by omega)
  have ub : Go.IntKind.wrap Go.IntKind.u64 ((q : Nat) : Int) = ((q : Nat) : Int) := u64_id (by omega) (by omega)
  have wa : wr ((p : Nat) : Int) = ((p : Nat) : Int) := wr_id (by omega) (by omega)
  have wb : wr ((q : Nat) : Int) = ((q : Nat) : Int) := wr_id (by omega) (by omega)
  have wn : wr (0 - ((p : Nat) : Int)) = -((p : Nat) : Int) := by rw [wr_id (by omega) (by omega)]; omega
  have k1 : decide ((p : Int) > 1000000000000000000) = false := by rw [decide_eq_false_iff_not]; omega
  have k2 : decide ((q : Int) > 1000000000000000) = false := by rw [decide_eq_false_iff_not]; omega
  have sb : decide (b < 0) = false := by rw [decide_eq_false_iff_not]; omega
  simp only [d1, d2, cond_false, ua, ub, wa, wb, wn, k1, k2, sb]
  by_cases sa : a < 0
  · simp only [sa, decide_true, beqB, Bool.not_false, cond_true, tn.2 sa]
  · simp only [sa, decide_false, beqB_self, Bool.not_true, cond_false, tn.1 (by omega)]

end Go.Sx.R
namespace Go.Sx.R
open Go Go.Sx

def F1 (ws : List W3) (v : Nat) (s : Int) (l : List W3) (a b : Nat) : Int := if l.any (keyB (un v a : Int) (un v b : Int)) = true then wbt ws (un v a : Int) (un v b : Int) * s else 0
def F2 (ws : List W3) (v : Nat) (s : Int) (q : List Nat) (a b : Nat) : Int := wbt ws (un v a : Int) (un v b : Int) * s + if un v a ∈ q then wbt ws (v : Int) (un v a : Int) * wbt ws (v : Int) (un v b : Int) else 0
section
variable {ws : List W3} {m v : Nat} {s : Int}

end

end Go.Sx.R
namespace Go.Sx.R
open Go Go.Sx

theorem p_CloneW (x : List W3) (hl : x.length ≤ 17179869184) : e_slices_Clone_impl_Wire (x, ()) = some x := by
  have h : Nat.ble (List.length ([] : List W3) + x.length) 17179869184 = true := ble_true (by simp; omega)
  simp only [e_slices_Clone_impl_Wire, r_slices_Clone_impl_Wire, h, cond_true, List.nil_append]
  cases x with
  | nil => exact agree_same
  | cons a l => rfl

theorem p_copyNet (n : TNet) (hn : Sm.sm B1 n) : e_impl_copyNet (n, ()) = some n := by
  have hlen : n.2.2.2.length ≤ 1073741824 := hn.2.2.2.1
  simp only [e_impl_copyNet, r_impl_copyNet, p_CloneW n.2.2.2 (by omega), Option.bind_some]

end Go.Sx.R
namespace Go.Sx.R
open Go Go.Sx

theorem ediv_bd {a b : Int} (hb : 1 ≤ b) {M : Int} (h1 : -M ≤ a) (h2 : a ≤ M) : -M ≤ a / b ∧ a / b ≤ M := by
  by_cases h : 0 ≤ a
  · have q1 := Int.ediv_nonneg h (show 0 ≤ b by omega)
    have q2 := Int.ediv_le_self b h
    omega
  · have q1 : a / b < 0 := Int.ediv_neg_of_neg_of_pos (by omega) (by omega)
    have q2 : a ≤ a / b := by
      rw [Int.le_ediv_iff_mul_le (by omega)]
      have := Int.mul_le_mul_of_nonpos_left (show a ≤ 0 by omega) (show 1 ≤ b from hb)
      omega
    omega

theorem tdiv_fl {a b : Int} (hb : 1 ≤ b) : (Int.tdiv a b = a / b ∧ Int.tmod a b = a % b) ∨ (Int.tdiv a b = a / b + 1 ∧ Int.tmod a b = a % b - b ∧ a % b ≠ 0) := by
  by_cases h : 0 ≤ a ∨ b ∣ a
  · left
    refine ⟨by rw [Int.tdiv_eq_ediv, if_pos h]; omega, by rw [Int.tmod_eq_emod, if_pos h]; omega⟩
  · right
    refine ⟨by rw [Int.tdiv_eq_ediv, if_neg h, Int.sign_eq_one_of_pos (by omega)], by rw [Int.tmod_eq_emod, if_neg h]; omega, fun e => h (.inr (Int.dvd_of_emod_eq_zero e))⟩

theorem fl_mul (a b : Int) : a / b * b = a - a % b := by have := Int.emod_add_mul_ediv a b; rw [Int.mul_comm]; omega

theorem p_floor (a b : Int) (hb : 1 ≤ b) (hb2 : b ≤ 1000000000000000000) (h1 : -1000000000000000000 ≤ a) (h2 : a ≤ 1000000000000000000) : e_impl_floor (a, b, ()) = some (a / b) := by
  have d0 : decide (b = 0) = false := by rw [decide_eq_false_iff_not]; omega
  have bd := ediv_bd hb h1 h2
  have m0 := Int.emod_nonneg a (show b ≠ 0 by omega)
  have m1 := Int.emod_lt_of_pos a (show 0 < b by omega)
  have fm := fl_mul a b
  simp only [e_impl_floor, r_impl_floor, d0, cond_false]
  rcases tdiv_fl (a := a) hb with ⟨t, _⟩ | ⟨t, _, hz⟩
  · have w1 : wr (Int.tdiv a b) = a / b := by rw [t]; exact wr_id (by omega) (by omega)
    have w2 : wr (a / b * b) = a - a % b := by rw [fm]; exact wr_id (by omega) (by omega)
    have d : decide (a - a % b > a) = false := by rw [decide_eq_false_iff_not]; omega
    simp only [w1, w2, d, cond_false]
  · have w1 : wr (Int.tdiv a b) = a / b + 1 := by rw [t]; exact wr_id (by omega) (by omega)
    have w2 : wr ((a / b + 1) * b) = a - a % b + b := by rw [Int.add_mul, fm]; rw [Int.one_mul]; exact wr_id (by omega) (by omega)
    have d : decide (a - a % b + b > a) = true := by rw [decide_eq_true_eq]; omega
    have w3 : wr (a / b + 1 - 1) = a / b := by rw [wr_id (by omega) (by omega)]; omega
    simp only [w1, w2, d, cond_true, w3]

/-- The comparison of a / b and c / d. -/
def cm : Nat → Int → Int → Int → Int → Int
  | 0, _, _, _, _ => 0
  | k + 1, a, b, c, d => if a / b < c / d then -1 else if c / d < a / b then 1 else if a % b = 0 then (if c % d = 0 then 0 else -1) else if c % d = 0 then 1 else cm k d (c % d) b (a % b)

/-- Numbers that can be compared. -/
structure Cb (a b c d : Int) : Prop where
  a1 : -1000000000000000000 ≤ a
  a2 : a ≤ 1000000000000000000
  b1 : 1 ≤ b
  b2 : b ≤ 1000000000000000000
  c1 : -1000000000000000000 ≤ c
  c2 : c ≤ 1000000000000000000
  d1 : 1 ≤ d
  d2 : d ≤ 1000000000000000000

theorem Cb.rest {a b c d : Int} (h : Cb a b c d) : wr (a - wr (a / b * b)) = a % b ∧ wr (c - wr (c / d * d)) = c % d ∧ 0 ≤ a % b ∧ a % b < b ∧ 0 ≤ c % d ∧ c % d < d := by
  obtain ⟨a1, a2, b1, b2, c1, c2, d1, d2⟩ := h
  have m0 := Int.emod_nonneg a (show b ≠ 0 by omega)
  have m1 := Int.emod_lt_of_pos a (show 0 < b by omega)
  have n0 := Int.emod_nonneg c (show d ≠ 0 by omega)
  have n1 := Int.emod_lt_of_pos c (show 0 < d by omega)
  refine ⟨?_, ?_, m0, m1, n0, n1⟩
  · rw [fl_mul, wr_id (x := a - a % b) (by omega) (by omega), wr_id (by omega) (by omega)]; omega
  · rw [fl_mul, wr_id (x := c - c % d) (by omega) (by omega), wr_id (by omega) (by omega)]; omega

theorem p_compare : ∀ (n : Nat) (a b c d : Int), Cb a b c d → b + d ≤ n → e_impl_compare_n n (a, b, c, d, ()) = some (cm n a b c d)
  | 0, a, b, c, d, h, hn => by have := h.b1; have := h.d1; omega
  | n + 1, a, b, c, d, h, hn => by
    obtain ⟨w1, w2, m0, m1, n0, n1⟩ := h.rest
    obtain ⟨a1, a2, b1, b2, c1, c2, d1, d2⟩ := h
    simp only [e_impl_compare_n, r_impl_compare, p_floor a b b1 b2 a1 a2, p_floor c d d1 d2 c1 c2, Option.bind_some, cm, w1, w2]
    by_cases h1 : a / b < c / d
    · simp [h1]
    · by_cases h2 : c / d < a / b
      · simp [h1, h2]
      · have g2 : decide (a / b > c / d) = false := by rw [decide_eq_false_iff_not]; omega
        rw [if_neg h1, if_neg h2]
        simp only [h1, g2, decide_false, cond_false]
        by_cases h3 : a % b = 0
        · by_cases h4 : c % d = 0
          · simp [h3, h4]
          · simp [h3, h4]
        · by_cases h4 : c % d = 0
          · simp [h3, h4]
          · have := p_compare n d (c % d) b (a % b) ⟨by omega, by omega, by omega, by omega, by omega, by omega, by omega, by omega⟩ (by omega)
            simp only [h3, h4, decide_false, cond_false, if_false, this, Option.bind_some]

theorem p_GcdI (a b : Int) (ha : -1000000000000000000 ≤ a) (ha2 : a ≤ 1000000000000000000) (hb : -1000000000000000000 ≤ b) (hb2 : b ≤ 1000000000000000000) : e_impl_GcdOf (a, b, ()) = some ((Nat.gcd a.natAbs b.natAbs : Nat) : Int) := by
  have d1 : decide (a = -9223372036854775808) = false := by rw [decide_eq_false_iff_not]; omega
  have d2 : decide (b = -9223372036854775808) = false := by rw [decide_eq_false_iff_not]; omega
  have hg : Nat.gcd a.natAbs b.natAbs ≤ 1000000000000000000 := by
    by_cases h : b.natAbs = 0
    · rw [h, Nat.gcd_zero_right]; omega
    · exact Nat.le_trans (Nat.gcd_le_right _ (by omega)) (by omega)
  have w : wr ((Nat.gcd a.natAbs b.natAbs : Nat) : Int) = ((Nat.gcd a.natAbs b.natAbs : Nat) : Int) := wr_id (by omega) (by omega)
  simp only [e_impl_GcdOf, r_impl_GcdOf, d1, d2, cond_false, p_sizeI a (by omega) (by omega), p_sizeI b (by omega) (by omega), p_common a.natAbs b.natAbs (by omega), Option.bind_some, w]

def okR (r : Int × Int) : Bool := decide (1 ≤ r.2) && decide (r.2 ≤ 1000000000000000) && (decide (-1000000000000000000 ≤ r.1) && decide (r.1 ≤ 1000000000000000000)) && decide (((Nat.gcd r.1.natAbs r.2.natAbs : Nat) : Int) = 1)

theorem ok_both (r : Int × Int) : e_impl_RatioOk (r, ()) = some (okR r) ∧ e_spec_RatioOk (r, ()) = some (okR r) := by
  simp only [e_impl_RatioOk, r_impl_RatioOk, e_spec_RatioOk, r_spec_RatioOk, p_l01In, n_l01In, Option.bind_some, okR]
  by_cases h1 : 1 ≤ r.2
  · by_cases h2 : r.2 ≤ 1000000000000000
    · by_cases h3 : -1000000000000000000 ≤ r.1
      · by_cases h4 : r.1 ≤ 1000000000000000000
        · have g1 := p_GcdI r.1 r.2 h3 h4 (by omega) (by omega)
          have g2 := s_GcdI r.1 r.2 (by omega) (by omega) (by omega) (by omega)
          simp [h1, h2, h3, h4, g1, g2]
        · simp [h1, h2, h3, h4]
      · simp [h1, h2, h3]
    · simp [h1, h2]
  · simp [h1]

end Go.Sx.R
namespace Go.Sx.R
open Go Go.Sx

theorem LapZ.tre {L : List (List Int)} {m : Nat} (h : LapZ L (wo m [])) (hm5 : m ≤ 5) {a : Int} (h0 : 0 ≤ a) (h1 : a < m) : treZ L m = detZ L (wo m [a]) (wo m [a]) := by
  unfold treZ
  by_cases e : a = 0
  · rw [e]
  · have p0 : (wo m [0]).Perm (a :: wo m [a, 0]) := wo_cons h0 h1 (by simpa using e)
    have pa : (wo m [a]).Perm (0 :: wo m [0, a]) := wo_cons (by omega) (by omega) (by simpa using fun h : (0 : Int) = a => e h.symm)
    have q : (wo m [a, 0]).Perm (wo m [0, a]) := perm_of (wo_nd _ _) (wo_nd _ _) fun c => by simp only [mem_wo, List.mem_cons, List.not_mem_nil, or_false, not_or]; omega
    have l0 : (wo m [0]).length + 1 ≤ m := wo_len (x := 0) (by simp) (by omega) (by omega)
    have la : (wo m [a]).length + 1 ≤ m := wo_len (x := a) (by simp) h0 h1
    have pV : (wo m []).Perm (0 :: a :: wo m [a, 0]) := (wo_cons (by omega) (by omega) (by simp)).trans (p0.cons _)
    have pV' : (wo m []).Perm (a :: 0 :: wo m [a, 0]) := pV.trans (List.Perm.swap _ _ _)
    rw [detZ_perm p0 (by omega), detZ_perm pa (by omega), detZ_perm (q.symm.cons 0) (by simp only [List.length_cons]; have := pa.length_eq; simp only [List.length_cons] at this; omega)]
    refine (h.perm pV).ground ?_
    have := p0.length_eq
    simp at this
    omega

theorem wo_two (m : Nat) (a b : Int) : wo m [a, b] = wo m [b, a] := by
  have : woG [a, b] = woG [b, a] := by
    funext q i x
    simp only [woG, List.mem_cons, List.not_mem_nil, or_false]
    by_cases h1 : (i : Int) = a <;> by_cases h2 : (i : Int) = b <;> simp [h1, h2]
  unfold wo; rw [this]

theorem tre_list {L : List (List Int)} {m : Nat} (h : LapZ L (wo m [])) (hm5 : m ≤ 5) {p : Int} {l : List Int} (hp : (wo m []).Perm (p :: l)) : treZ L m = detZ L l l := by
  have hb := mem_wo.1 ((hp.mem_iff (a := p)).2 (by simp))
  have q : (wo m []).Perm (p :: wo m [p]) := wo_cons hb.1 hb.2.1 (by simp)
  have r : (wo m [p]).Perm l := (q.symm.trans hp).cons_inv
  have lp : (wo m [p]).length + 1 ≤ m := wo_len (x := p) (by simp) hb.1 hb.2.1
  rw [h.tre hm5 hb.1 hb.2.1, detZ_perm r (by omega)]

theorem for_list {L : List (List Int)} {m : Nat} (hm5 : m ≤ 5) {p q : Int} {l : List Int} (hp : (wo m []).Perm (p :: q :: l)) : forZ L m p q = detZ L l l := by
  have hb := mem_wo.1 ((hp.mem_iff (a := p)).2 (by simp))
  have hq := mem_wo.1 ((hp.mem_iff (a := q)).2 (by simp))
  have hne : p ≠ q := by
    have := List.nodup_cons.1 (hp.nodup_iff.1 (wo_nd m []))
    exact fun e => this.1 (by simp [e])
  have r1 : (wo m []).Perm (p :: q :: wo m [q, p]) := (wo_cons hb.1 hb.2.1 (by simp)).trans ((wo_cons hq.1 hq.2.1 (by simpa using hne.symm)).cons _)
  have r : (wo m [q, p]).Perm l := (r1.symm.trans hp).cons_inv.cons_inv
  have lp : (wo m [q, p]).length + 1 ≤ m := wo_len (x := p) (by simp) hb.1 hb.2.1
  unfold forZ
  rw [if_neg hne, wo_two, detZ_perm r (by omega)]

/-- Two Laplacians that differ in one weight. -/
structure Upd (M M' : List (List Int)) (V : List Int) (i j t : Int) : Prop where
  l : LapZ M V
  l' : LapZ M' V
  ii : at2 M' i i = at2 M i i + t
  jj : at2 M' j j = at2 M j j + t
  ij : at2 M' i j = at2 M i j - t
  same : ∀ x ∈ V, ∀ y ∈ V, ¬ (x = i ∧ y = j) → ¬ (x = j ∧ y = i) → ¬ (x = i ∧ y = i) → ¬ (x = j ∧ y = j) → at2 M' x y = at2 M x y

theorem Upd.perm {M M' : List (List Int)} {V V' : List Int} {i j t : Int} (h : Upd M M' V i j t) (hp : V.Perm V') : Upd M M' V' i j t :=
  ⟨h.l.perm hp, h.l'.perm hp, h.ii, h.jj, h.ij, fun x hx y hy => h.same x (hp.mem_iff.2 hx) y (hp.mem_iff.2 hy)⟩

/-- Rows and columns that the weight does not touch. -/
theorem detZ_same {M M' : List (List Int)} : ∀ (rows cols : List Int), (∀ x ∈ rows, ∀ y ∈ cols, at2 M' x y = at2 M x y) → detZ M' rows cols = detZ M rows cols
  | [], _, _ => by simp [detZ]
  | r :: rs, cols, h => by
    have hd : ∀ (D D' : Nat → Int), (∀ k, D' k = D k) → ∀ (cs : List Int) (j : Nat) (s : Int), (∀ y ∈ cs, at2 M' r y = at2 M r y) → dsum M' r D' cs j s = dsum M r D cs j s := by
      intro D D' hD cs
      induction cs with
      | nil => intro j s _; rfl
      | cons c cs ih => intro j s hc; simp only [dsum, hD, hc c (by simp), ih (j + 1) (-s) fun y hy => hc y (by simp [hy])]
    simp only [detZ]
    exact hd _ _ (fun k => detZ_same rs (cols.eraseIdx k) fun x hx y hy => h x (by simp [hx]) y (List.mem_of_mem_eraseIdx hy)) cols 0 1 fun y hy => h r (by simp) y hy

/-- The trees, at a ground. -/
theorem Upd.trees {M M' : List (List Int)} {c d : Int} {a : Int} {r : List Int} {t : Int} (h : Upd M M' (a :: c :: d :: r) c d t) (hr : r.length ≤ 2) :
    detZ M' (c :: d :: r) (c :: d :: r) = detZ M (c :: d :: r) (c :: d :: r) + t * detZ M (a :: r) (a :: r) := by
  have hn := h.l.nd
  have g := (h.l.perm (V' := c :: d :: a :: r) (by
    refine (List.Perm.swap c a (d :: r)).trans ((List.Perm.swap d a r).cons c))).gap hr
  have ej := h.l'.sym c (by simp) d (by simp)
  have ei := h.l.sym c (by simp) d (by simp)
  have ij := h.ij
  have ii := h.ii
  have jj := h.jj
  have S := h.same
  match r, hr with
  | [], _ =>
    simp only [detZ2, detZ1] at g ⊢
    rw [ii, jj, ← ej, ij, ← ei]
    generalize at2 M c c = x at *
    generalize at2 M d d = y at *
    generalize at2 M c d = z at *
    generalize at2 M a a = w at *
    have : w = y + x + 2 * z := by omega
    subst this
    grind
  | [e], _ =>
    simp only [List.nodup_cons, List.mem_cons, List.not_mem_nil, or_false, not_or, List.nodup_nil, and_true, not_false_eq_true] at hn
    obtain ⟨⟨n1, n2, n3⟩, ⟨n4, n5⟩, n6⟩ := hn
    have s1 := S c (by simp) e (by simp) (by omega) (by omega) (by omega) (by omega)
    have s2 := S d (by simp) e (by simp) (by omega) (by omega) (by omega) (by omega)
    have s3 := S e (by simp) e (by simp) (by omega) (by omega) (by omega) (by omega)
    have s4 := S e (by simp) c (by simp) (by omega) (by omega) (by omega) (by omega)
    have s5 := S e (by simp) d (by simp) (by omega) (by omega) (by omega) (by omega)
    have y1 := h.l.sym e (by simp) c (by simp)
    have y2 := h.l.sym e (by simp) d (by simp)
    have y3 := h.l.sym e (by simp) a (by simp)
    have f : detZ M [a, e] [a, e] = detZ M [d, e] [d, e] + detZ M [c, e] [c, e] + 2 * detZ M [c, e] [d, e] := by omega
    rw [f]
    simp only [detZ3, detZ2, ii, jj, ← ej, ij, ← ei, s1, s2, s3, s4, s5, y1, y2]
    clear f g S s1 s2 s3 s4 s5 y1 y2 y3 ii jj ij ei ej h
    generalize at2 M c c = x1 at *
    generalize at2 M d d = x2 at *
    generalize at2 M c d = x3 at *
    generalize at2 M c e = x4 at *
    generalize at2 M d e = x5 at *
    generalize at2 M e e = x6 at *
    grind
  | [b, e], _ =>
    simp only [List.nodup_cons, List.mem_cons, List.not_mem_nil, or_false, not_or, List.nodup_nil, and_true, not_false_eq_true] at hn
    obtain ⟨⟨n1, n2, n3, n4⟩, ⟨n5, n6, n7⟩, ⟨n8, n9⟩, n10⟩ := hn
    have s1 := S c (by simp) e (by simp) (by omega) (by omega) (by omega) (by omega)
    have s2 := S d (by simp) e (by simp) (by omega) (by omega) (by omega) (by omega)
    have s3 := S e (by simp) e (by simp) (by omega) (by omega) (by omega) (by omega)
    have s4 := S e (by simp) c (by simp) (by omega) (by omega) (by omega) (by omega)
    have s5 := S e (by simp) d (by simp) (by omega) (by omega) (by omega) (by omega)
    have s6 := S c (by simp) b (by simp) (by omega) (by omega) (by omega) (by omega)
    have s7 := S d (by simp) b (by simp) (by omega) (by omega) (by omega) (by omega)
    have s8 := S b (by simp) b (by simp) (by omega) (by omega) (by omega) (by omega)
    have s9 := S b (by simp) c (by simp) (by omega) (by omega) (by omega) (by omega)
    have s10 := S b (by simp) d (by simp) (by omega) (by omega) (by omega) (by omega)
    have s11 := S b (by simp) e (by simp) (by omega) (by omega) (by omega) (by omega)
    have s12 := S e (by simp) b (by simp) (by omega) (by omega) (by omega) (by omega)
    have y1 := h.l.sym e (by simp) c (by simp)
    have y2 := h.l.sym e (by simp) d (by simp)
    have y3 := h.l.sym b (by simp) c (by simp)
    have y4 := h.l.sym b (by simp) d (by simp)
    have y5 := h.l.sym e (by simp) b (by simp)
    have f : detZ M [a, b, e] [a, b, e] = detZ M [d, b, e] [d, b, e] + detZ M [c, b, e] [c, b, e] + 2 * detZ M [c, b, e] [d, b, e] := by omega
    rw [f]
    simp only [detZ4, detZ3, ii, jj, ← ej, ij, ← ei, s1, s2, s3, s4, s5, s6, s7, s8, s9, s10, s11, s12, y1, y2, y3, y4, y5]
    clear f g S s1 s2 s3 s4 s5 s6 s7 s8 s9 s10 s11 s12 y1 y2 y3 y4 y5 ii jj ij ei ej h
    generalize at2 M c c = x1 at *
    generalize at2 M d d = x2 at *
    generalize at2 M c d = x3 at *
    generalize at2 M c e = x4 at *
    generalize at2 M d e = x5 at *
    generalize at2 M e e = x6 at *
    generalize at2 M c b = x7 at *
    generalize at2 M d b = x8 at *
    generalize at2 M b b = x9 at *
    generalize at2 M b e = x10 at *
    grind

/-- What a changed weight does to a resistance: the weight between the two nodes. -/
theorem Upd.s2 {M M' : List (List Int)} {a b : Int} {r : List Int} {t : Int} (h : Upd M M' (a :: b :: r) a b t) : detZ M' r r = detZ M r r := by
  have hn := h.l.nd
  simp only [List.nodup_cons, List.mem_cons, not_or] at hn
  refine detZ_same r r fun x hx y hy => h.same x (by simp [hx]) y (by simp [hy]) ?_ ?_ ?_ ?_
  all_goals
    rintro ⟨rfl, rfl⟩
    first | exact hn.1.2 hx | exact hn.2.1 hx

/-- One of the two nodes. -/
theorem Upd.s1 {M M' : List (List Int)} {a b c : Int} {r : List Int} {t : Int} (h : Upd M M' (a :: b :: c :: r) a c t) (hr : r.length ≤ 2) :
    detZ M' (c :: r) (c :: r) * detZ M (b :: c :: r) (b :: c :: r) - detZ M (c :: r) (c :: r) * detZ M' (b :: c :: r) (b :: c :: r) = -(t * (detZ M (c :: r) (b :: r) * detZ M (c :: r) (b :: r))) := by
  have hn := h.l.nd
  have jj := h.jj
  have S := h.same
  match r, hr with
  | [], _ =>
    simp only [List.nodup_cons, List.mem_cons, List.not_mem_nil, or_false, not_or, List.nodup_nil, and_true, not_false_eq_true] at hn
    obtain ⟨⟨n1, n2⟩, n3⟩ := hn
    have s1 := S b (by simp) b (by simp) (by omega) (by omega) (by omega) (by omega)
    have s2 := S b (by simp) c (by simp) (by omega) (by omega) (by omega) (by omega)
    have s3 := S c (by simp) b (by simp) (by omega) (by omega) (by omega) (by omega)
    have y1 := h.l.sym c (by simp) b (by simp)
    simp only [detZ2, detZ1, jj, s1, s2, s3, y1]
    clear S s1 s2 s3 y1 jj h
    generalize at2 M b b = x1 at *
    generalize at2 M b c = x2 at *
    generalize at2 M c c = x3 at *
    grind
  | [e], _ =>
    simp only [List.nodup_cons, List.mem_cons, List.not_mem_nil, or_false, not_or, List.nodup_nil, and_true, not_false_eq_true] at hn
    obtain ⟨⟨n1, n2, n3⟩, ⟨n4, n5⟩, n6⟩ := hn
    have s1 := S b (by simp) b (by simp) (by omega) (by omega) (by omega) (by omega)
    have s2 := S b (by simp) c (by simp) (by omega) (by omega) (by omega) (by omega)
    have s3 := S c (by simp) b (by simp) (by omega) (by omega) (by omega) (by omega)
    have s4 := S b (by simp) e (by simp) (by omega) (by omega) (by omega) (by omega)
    have s5 := S e (by simp) b (by simp) (by omega) (by omega) (by omega) (by omega)
    have s6 := S c (by simp) e (by simp) (by omega) (by omega) (by omega) (by omega)
    have s7 := S e (by simp) c (by simp) (by omega) (by omega) (by omega) (by omega)
    have s8 := S e (by simp) e (by simp) (by omega) (by omega) (by omega) (by omega)
    have y1 := h.l.sym c (by simp) b (by simp)
    have y2 := h.l.sym e (by simp) b (by simp)
    have y3 := h.l.sym e (by simp) c (by simp)
    simp only [detZ3, detZ2, jj, s1, s2, s3, s4, s5, s6, s7, s8, y1, y2, y3]
    clear S s1 s2 s3 s4 s5 s6 s7 s8 y1 y2 y3 jj h
    generalize at2 M b b = x1 at *
    generalize at2 M b c = x2 at *
    generalize at2 M c c = x3 at *
    generalize at2 M b e = x4 at *
    generalize at2 M c e = x5 at *
    generalize at2 M e e = x6 at *
    grind
  | [d, e], _ =>
    simp only [List.nodup_cons, List.mem_cons, List.not_mem_nil, or_false, not_or, List.nodup_nil, and_true, not_false_eq_true] at hn
    obtain ⟨⟨n1, n2, n3, n4⟩, ⟨n5, n6, n7⟩, ⟨n8, n9⟩, n10⟩ := hn
    have s1 := S b (by simp) b (by simp) (by omega) (by omega) (by omega) (by omega)
    have s2 := S b (by simp) c (by simp) (by omega) (by omega) (by omega) (by omega)
    have s3 := S c (by simp) b (by simp) (by omega) (by omega) (by omega) (by omega)
    have s4 := S b (by simp) e (by simp) (by omega) (by omega) (by omega) (by omega)
    have s5 := S e (by simp) b (by simp) (by omega) (by omega) (by omega) (by omega)
    have s6 := S c (by simp) e (by simp) (by omega) (by omega) (by omega) (by omega)
    have s7 := S e (by simp) c (by simp) (by omega) (by omega) (by omega) (by omega)
    have s8 := S e (by simp) e (by simp) (by omega) (by omega) (by omega) (by omega)
    have s9 := S b (by simp) d (by simp) (by omega) (by omega) (by omega) (by omega)
    have s10 := S d (by simp) b (by simp) (by omega) (by omega) (by omega) (by omega)
    have s11 := S c (by simp) d (by simp) (by omega) (by omega) (by omega) (by omega)
    have s12 := S d (by simp) c (by simp) (by omega) (by omega) (by omega) (by omega)
    have s13 := S d (by simp) d (by simp) (by omega) (by omega) (by omega) (by omega)
    have s14 := S d (by simp) e (by simp) (by omega) (by omega) (by omega) (by omega)
    have s15 := S e (by simp) d (by simp) (by omega) (by omega) (by omega) (by omega)
    have y1 := h.l.sym c (by simp) b (by simp)
    have y2 := h.l.sym e (by simp) b (by simp)
    have y3 := h.l.sym e (by simp) c (by simp)
    have y4 := h.l.sym d (by simp) b (by simp)
    have y5 := h.l.sym d (by simp) c (by simp)
    have y6 := h.l.sym e (by simp) d (by simp)
    simp only [detZ4, detZ3, jj, s1, s2, s3, s4, s5, s6, s7, s8, s9, s10, s11, s12, s13, s14, s15, y1, y2, y3, y4, y5, y6]
    clear S s1 s2 s3 s4 s5 s6 s7 s8 s9 s10 s11 s12 s13 s14 s15 y1 y2 y3 y4 y5 y6 jj h
    generalize at2 M b b = x1 at *
    generalize at2 M b c = x2 at *
    generalize at2 M c c = x3 at *
    generalize at2 M b e = x4 at *
    generalize at2 M c e = x5 at *
    generalize at2 M e e = x6 at *
    generalize at2 M b d = x7 at *
    generalize at2 M c d = x8 at *
    generalize at2 M d d = x9 at *
    generalize at2 M d e = x10 at *
    grind

/-- None of the two nodes. -/
theorem Upd.s0 {M M' : List (List Int)} {a b c d : Int} {r : List Int} {t : Int} (h : Upd M M' (a :: b :: c :: d :: r) c d t) (hr : r.length ≤ 1) :
    detZ M' (c :: d :: r) (c :: d :: r) * detZ M (b :: c :: d :: r) (b :: c :: d :: r) - detZ M (c :: d :: r) (c :: d :: r) * detZ M' (b :: c :: d :: r) (b :: c :: d :: r) =
      -(t * ((detZ M (c :: d :: r) (b :: d :: r) + detZ M (c :: d :: r) (b :: c :: r)) * (detZ M (c :: d :: r) (b :: d :: r) + detZ M (c :: d :: r) (b :: c :: r)))) := by
  have hn := h.l.nd
  have ii := h.ii
  have jj := h.jj
  have ij := h.ij
  have ej := h.l'.sym c (by simp) d (by simp)
  have ei := h.l.sym c (by simp) d (by simp)
  have S := h.same
  match r, hr with
  | [], _ =>
    simp only [List.nodup_cons, List.mem_cons, List.not_mem_nil, or_false, not_or, List.nodup_nil, and_true, not_false_eq_true] at hn
    obtain ⟨⟨n1, n2, n3⟩, ⟨n4, n5⟩, n6⟩ := hn
    have s1 := S b (by simp) b (by simp) (by omega) (by omega) (by omega) (by omega)
    have s2 := S b (by simp) c (by simp) (by omega) (by omega) (by omega) (by omega)
    have s3 := S c (by simp) b (by simp) (by omega) (by omega) (by omega) (by omega)
    have s4 := S b (by simp) d (by simp) (by omega) (by omega) (by omega) (by omega)
    have s5 := S d (by simp) b (by simp) (by omega) (by omega) (by omega) (by omega)
    have y1 := h.l.sym c (by simp) b (by simp)
    have y2 := h.l.sym d (by simp) b (by simp)
    simp only [detZ3, detZ2, ii, jj, ← ej, ij, ← ei, s1, s2, s3, s4, s5, y1, y2]
    clear S s1 s2 s3 s4 s5 y1 y2 jj ii ij ei ej h
    generalize at2 M b b = x1 at *
    generalize at2 M b c = x2 at *
    generalize at2 M c c = x3 at *
    generalize at2 M b d = x4 at *
    generalize at2 M c d = x5 at *
    generalize at2 M d d = x6 at *
    grind
  | [e], _ =>
    simp only [List.nodup_cons, List.mem_cons, List.not_mem_nil, or_false, not_or, List.nodup_nil, and_true, not_false_eq_true] at hn
    obtain ⟨⟨n1, n2, n3, n4⟩, ⟨n5, n6, n7⟩, ⟨n8, n9⟩, n10⟩ := hn
    have s1 := S b (by simp) b (by simp) (by omega) (by omega) (by omega) (by omega)
    have s2 := S b (by simp) c (by simp) (by omega) (by omega) (by omega) (by omega)
    have s3 := S c (by simp) b (by simp) (by omega) (by omega) (by omega) (by omega)
    have s4 := S b (by simp) d (by simp) (by omega) (by omega) (by omega) (by omega)
    have s5 := S d (by simp) b (by simp) (by omega) (by omega) (by omega) (by omega)
    have s6 := S b (by simp) e (by simp) (by omega) (by omega) (by omega) (by omega)
    have s7 := S e (by simp) b (by simp) (by omega) (by omega) (by omega) (by omega)
    have s8 := S c (by simp) e (by simp) (by omega) (by omega) (by omega) (by omega)
    have s9 := S e (by simp) c (by simp) (by omega) (by omega) (by omega) (by omega)
    have s10 := S d (by simp) e (by simp) (by omega) (by omega) (by omega) (by omega)
    have s11 := S e (by simp) d (by simp) (by omega) (by omega) (by omega) (by omega)
    have s12 := S e (by simp) e (by simp) (by omega) (by omega) (by omega) (by omega)
    have y1 := h.l.sym c (by simp) b (by simp)
    have y2 := h.l.sym d (by simp) b (by simp)
    have y3 := h.l.sym e (by simp) b (by simp)
    have y4 := h.l.sym e (by simp) c (by simp)
    have y5 := h.l.sym e (by simp) d (by simp)
    simp only [detZ4, detZ3, ii, jj, ← ej, ij, ← ei, s1, s2, s3, s4, s5, s6, s7, s8, s9, s10, s11, s12, y1, y2, y3, y4, y5]
    clear S s1 s2 s3 s4 s5 s6 s7 s8 s9 s10 s11 s12 y1 y2 y3 y4 y5 jj ii ij ei ej h
    generalize at2 M b b = x1 at *
    generalize at2 M b c = x2 at *
    generalize at2 M c c = x3 at *
    generalize at2 M b d = x4 at *
    generalize at2 M c d = x5 at *
    generalize at2 M d d = x6 at *
    generalize at2 M b e = x7 at *
    generalize at2 M c e = x8 at *
    generalize at2 M d e = x9 at *
    generalize at2 M e e = x10 at *
    grind

end Go.Sx.R
namespace Go.Sx.R
open Go Go.Sx

section
variable {n : TNet} {m : Nat} {L : List (List Int)}

theorem Lk.p_Res (h : Lk n m L) {a b : Int} (ha : 0 ≤ a ∧ a < m) (hb : 0 ≤ b ∧ b < m) : e_impl_ResistanceOf (n, a, b, ()) = some (ratZ (n.2.2.1 * forZ L m a b) (treZ L m), true) := by
  have f := h.for_le (b := b) ha
  have t := h.tre_le
  have t1 := h.tre_pos
  have sb := mul_bd (x := forZ L m a b) h.sc (k := 10497600000000) (by omega)
  simp only [e_impl_ResistanceOf, r_impl_ResistanceOf, p_NetOk n h.hn, h.ok, h.p_node ha, h.p_node hb, h.p_For ha hb, h.p_Tree, Option.bind_some, Bool.not_true, cond_false]
  rw [wr_id (by omega) (by omega), p_Ratio (by omega) (by omega) (by omega)]
  rfl

/-- A node's potential, doubled. -/
def potZ (L : List (List Int)) (m : Nat) (a b i : Int) : Int := forZ L m a b + forZ L m i b - forZ L m a i

end

end Go.Sx.R
namespace Go.Sx.R
open Go Go.Sx

theorem Upd.swap {M M' : List (List Int)} {V : List Int} {i j t : Int} (h : Upd M M' V i j t) (hi : i ∈ V) (hj : j ∈ V) : Upd M M' V j i t :=
  ⟨h.l, h.l', h.jj, h.ii, by rw [h.l'.sym j hj i hi, h.ij, h.l.sym i hi j hj], fun x hx y hy h1 h2 h3 h4 => h.same x hx y hy h2 h1 h4 h3⟩

theorem row_swap {M : List (List Int)} {c d b : Int} {r : List Int} (hr : r.length ≤ 1) : detZ M (d :: c :: r) (b :: c :: r) = -detZ M (c :: d :: r) (b :: c :: r) := by
  match r, hr with
  | [], _ => simp only [detZ2]; grind
  | [e], _ => simp only [detZ3]; grind

section
variable {L L' : List (List Int)} {m : Nat} {i j a b t : Int}

theorem upd_tree (hm5 : m ≤ 5) (h : Upd L L' (wo m []) i j t) (hi : i ∈ wo m []) (hj : j ∈ wo m []) (hij : i ≠ j) : treZ L' m = treZ L m + t * forZ L m i j := by
  have bi := mem_wo.1 hi
  have bj := mem_wo.1 hj
  have p : (wo m []).Perm (i :: j :: wo m [j, i]) := (wo_cons bi.1 bi.2.1 (by simp)).trans ((wo_cons bj.1 bj.2.1 (by simpa using hij.symm)).cons _)
  have lm := (wo_facts m []).1
  have lp := p.length_eq
  generalize wo m [j, i] = r at *
  match r with
  | [] =>
    have h' := h.perm p
    have p' : (wo m []).Perm (i :: [j]) := p
    rw [tre_list h.l hm5 p', tre_list h.l' hm5 p', for_list hm5 p]
    simp only [detZ1, h.jj]
    have : detZ L [] [] = 1 := by simp [detZ]
    rw [this]; omega
  | x :: r =>
    have q : (wo m []).Perm (x :: i :: j :: r) := p.trans (((List.Perm.swap x j r).cons i).trans (List.Perm.swap x i _))
    rw [tre_list h.l hm5 q, tre_list h.l' hm5 q, for_list hm5 p]
    refine (h.perm q).trees ?_
    simp at lp; omega

/-- A change's mark on a resistance. -/
def UpdG (L L' : List (List Int)) (m : Nat) (i j a b t : Int) : Prop := ∃ C : Int, potZ L m a b i - potZ L m a b j = 2 * C ∧ forZ L' m a b * treZ L m - forZ L m a b * treZ L' m = -(t * (C * C))

theorem UpdG.flip (h : UpdG L L' m i j a b t) : UpdG L L' m j i a b t := by
  obtain ⟨C, h1, h2⟩ := h
  exact ⟨-C, by omega, by rw [Int.neg_mul_neg]; exact h2⟩

theorem UpdG.turn (h : UpdG L L' m i j a b t) : UpdG L L' m i j b a t := by
  obtain ⟨C, h1, h2⟩ := h
  refine ⟨-C, ?_, ?_⟩
  · unfold potZ at *
    rw [forZ_comm L m b a, forZ_comm L m i a, forZ_comm L m b i, forZ_comm L m j a, forZ_comm L m b j]
    omega
  · rw [Int.neg_mul_neg, forZ_comm L' m b a, forZ_comm L m b a]; exact h2

theorem upd2 (hm5 : m ≤ 5) (h : Upd L L' (wo m []) a b t) (ha : a ∈ wo m []) (hb : b ∈ wo m []) (hab : a ≠ b) : UpdG L L' m a b a b t := by
  have ba := mem_wo.1 ha
  have bb := mem_wo.1 hb
  have p : (wo m []).Perm (a :: b :: wo m [b, a]) := (wo_cons ba.1 ba.2.1 (by simp)).trans ((wo_cons bb.1 bb.2.1 (by simpa using hab.symm)).cons _)
  have e : forZ L' m a b = forZ L m a b := by rw [for_list hm5 p, for_list hm5 p, (h.perm p).s2]
  refine ⟨forZ L m a b, ?_, ?_⟩
  · have z1 : forZ L m a a = 0 := if_pos rfl
    have z2 : forZ L m b b = 0 := if_pos rfl
    unfold potZ; rw [z1, z2]; omega
  · rw [e, upd_tree hm5 h ha hb hab]; grind

theorem upd1 {c : Int} (hm5 : m ≤ 5) (h : Upd L L' (wo m []) a c t) (ha : a ∈ wo m []) (hb : b ∈ wo m []) (hc : c ∈ wo m []) (hab : a ≠ b) (hac : a ≠ c) (hbc : b ≠ c) : UpdG L L' m a c a b t := by
  have ba := mem_wo.1 ha
  have bb := mem_wo.1 hb
  have bc := mem_wo.1 hc
  have p : (wo m []).Perm (a :: b :: c :: wo m [c, b, a]) := (wo_cons ba.1 ba.2.1 (by simp)).trans (((wo_cons bb.1 bb.2.1 (by simpa using hab.symm)).trans ((wo_cons bc.1 bc.2.1 (by simp; exact ⟨hbc.symm, hac.symm⟩)).cons _)).cons _)
  have lm := (wo_facts m []).1
  have lp := p.length_eq
  generalize wo m [c, b, a] = r at *
  have p2 : (wo m []).Perm (a :: c :: b :: r) := p.trans ((List.Perm.swap c b r).cons a)
  have p3 : (wo m []).Perm (c :: b :: a :: r) := p2.trans ((List.Perm.swap c a _).trans ((List.Perm.swap b a r).cons c))
  have hr : r.length ≤ 2 := by simp at lp; omega
  have g := (h.l.perm p3).gap hr
  have u := (h.perm p).s1 hr
  refine ⟨-detZ L (c :: r) (b :: r), ?_, ?_⟩
  · have z1 : forZ L m a a = 0 := if_pos rfl
    unfold potZ
    rw [z1, for_list hm5 p, for_list hm5 p2, for_list hm5 p3]
    omega
  · rw [for_list hm5 p, for_list hm5 p, tre_list h.l hm5 p, tre_list h.l' hm5 p, Int.neg_mul_neg]
    exact u

theorem upd0 {c d : Int} (hm5 : m ≤ 5) (h : Upd L L' (wo m []) c d t) (ha : a ∈ wo m []) (hb : b ∈ wo m []) (hc : c ∈ wo m []) (hd : d ∈ wo m []) (hab : a ≠ b) (hac : a ≠ c) (hbc : b ≠ c) (had : a ≠ d) (hbd : b ≠ d) (hcd : c ≠ d) : UpdG L L' m c d a b t := by
  have ba := mem_wo.1 ha
  have bb := mem_wo.1 hb
  have bc := mem_wo.1 hc
  have bd := mem_wo.1 hd
  have p : (wo m []).Perm (a :: b :: c :: d :: wo m [d, c, b, a]) := (wo_cons ba.1 ba.2.1 (by simp)).trans (((wo_cons bb.1 bb.2.1 (by simpa using hab.symm)).trans (((wo_cons bc.1 bc.2.1 (by simp; exact ⟨hbc.symm, hac.symm⟩)).trans ((wo_cons bd.1 bd.2.1 (by simp; exact ⟨hcd.symm, hbd.symm, had.symm⟩)).cons _)).cons _)).cons _)
  have lm := (wo_facts m []).1
  have lp := p.length_eq
  generalize wo m [d, c, b, a] = r at *
  have hr : r.length ≤ 1 := by simp at lp; omega
  have hr2 : (d :: r).length ≤ 2 := by simp; omega
  have hr3 : (c :: r).length ≤ 2 := by simp; omega
  have pac : (wo m []).Perm (a :: c :: b :: d :: r) := p.trans ((List.Perm.swap c b _).cons a)
  have pcb : (wo m []).Perm (c :: b :: a :: d :: r) := pac.trans ((List.Perm.swap c a _).trans ((List.Perm.swap b a _).cons c))
  have q : (wo m []).Perm (a :: b :: d :: c :: r) := p.trans (((List.Perm.swap d c r).cons b).cons a)
  have pad : (wo m []).Perm (a :: d :: b :: c :: r) := q.trans ((List.Perm.swap d b _).cons a)
  have pdb : (wo m []).Perm (d :: b :: a :: c :: r) := pad.trans ((List.Perm.swap d a _).trans ((List.Perm.swap b a _).cons d))
  have g1 := (h.l.perm pcb).gap hr2
  have g2 := (h.l.perm pdb).gap hr3
  rw [row_swap (M := L) (c := c) (d := d) (b := b) hr] at g2
  have u := (h.perm p).s0 hr
  have e := (for_list (L := L) hm5 p).symm.trans (for_list hm5 q)
  refine ⟨detZ L (c :: d :: r) (b :: d :: r) + detZ L (c :: d :: r) (b :: c :: r), ?_, ?_⟩
  · unfold potZ
    rw [for_list hm5 pac, for_list hm5 pcb, for_list hm5 pad, for_list hm5 pdb]
    omega
  · rw [for_list hm5 p, for_list hm5 p, tre_list h.l hm5 p, tre_list h.l' hm5 p]
    exact u

/-- What a changed weight does to a resistance. -/
theorem upd_all (hm5 : m ≤ 5) (h : Upd L L' (wo m []) i j t) (hi : i ∈ wo m []) (hj : j ∈ wo m []) (hij : i ≠ j) (ha : a ∈ wo m []) (hb : b ∈ wo m []) (hab : a ≠ b) : UpdG L L' m i j a b t := by
  have hs := h.swap hi hj
  by_cases e1 : i = a
  · subst e1
    by_cases e2 : j = b
    · subst e2; exact upd2 hm5 h hi hj hij
    · exact upd1 hm5 h hi hb hj hab hij fun e => e2 e.symm
  by_cases e2 : j = a
  · subst e2
    by_cases e3 : i = b
    · subst e3; exact (upd2 hm5 hs hj hi hij.symm).flip
    · exact (upd1 hm5 hs hj hb hi hab hij.symm fun e => e3 e.symm).flip
  by_cases e3 : i = b
  · subst e3
    exact (upd1 hm5 h hi ha hj hab.symm hij fun e => e2 e.symm).turn
  by_cases e4 : j = b
  · subst e4
    exact (upd1 hm5 hs hj ha hi hab.symm hij.symm fun e => e1 e.symm).flip.turn
  exact upd0 hm5 h ha hb hi hj hab (fun e => e1 e.symm) (fun e => e3 e.symm) (fun e => e2 e.symm) (fun e => e4 e.symm) hij
end

end Go.Sx.R
namespace Go.Sx.R
open Go Go.Sx

theorem cm_sign : ∀ (k : Nat) (a b c d : Int), 1 ≤ b → 1 ≤ d → b + d ≤ k → (cm k a b c d < 0 ↔ a * d < c * b) ∧ (0 < cm k a b c d ↔ c * b < a * d)
  | 0, a, b, c, d, hb, hd, hk => by omega
  | k + 1, a, b, c, d, hb, hd, hk => by
    have m0 := Int.emod_nonneg a (show b ≠ 0 by omega)
    have m1 := Int.emod_lt_of_pos a (show 0 < b by omega)
    have n0 := Int.emod_nonneg c (show d ≠ 0 by omega)
    have n1 := Int.emod_lt_of_pos c (show 0 < d by omega)
    have key : a * d - c * b = (a / b - c / d) * (b * d) + (a % b * d - c % d * b) := by
      have e1 := fl_mul a b
      have e2 := fl_mul c d
      generalize a / b = q at *
      generalize c / d = p at *
      generalize a % b = r at *
      generalize c % d = s at *
      have f1 : a = q * b + r := by omega
      have f2 : c = p * d + s := by omega
      subst f1; subst f2; grind
    have rec1 := cm_sign k d (c % d) b (a % b)
    simp only [cm]
    generalize a / b = q at *
    generalize c / d = p at *
    generalize a % b = r at *
    generalize c % d = s at *
    have sb : 0 ≤ s * b := Int.mul_nonneg n0 (by omega)
    have rd : 0 ≤ r * d := Int.mul_nonneg m0 (by omega)
    have bd : (b - 1 - r) * d ≥ 0 := Int.mul_nonneg (by omega) (by omega)
    have bd2 : (d - 1 - s) * b ≥ 0 := Int.mul_nonneg (by omega) (by omega)
    have x1 : (b - 1 - r) * d = b * d - d - r * d := by grind
    have x2 : (d - 1 - s) * b = b * d - b - s * b := by grind
    split
    · rename_i h
      have : (p - q - 1) * (b * d) ≥ 0 := Int.mul_nonneg (by omega) (Int.mul_nonneg (by omega) (by omega))
      have e : (p - q - 1) * (b * d) = -((q - p) * (b * d)) - b * d := by grind
      constructor <;> constructor <;> intro <;> omega
    · split
      · rename_i h
        have : (q - p - 1) * (b * d) ≥ 0 := Int.mul_nonneg (by omega) (Int.mul_nonneg (by omega) (by omega))
        have e : (q - p - 1) * (b * d) = (q - p) * (b * d) - b * d := by grind
        constructor <;> constructor <;> intro <;> omega
      · have e : q - p = 0 := by omega
        rw [e, Int.zero_mul] at key
        split
        · rename_i hr
          rw [hr, Int.zero_mul] at key
          split
          · rename_i hs
            rw [hs, Int.zero_mul] at key
            constructor <;> constructor <;> intro <;> omega
          · rename_i hs
            have : 1 * 1 ≤ s * b := Int.mul_le_mul (by omega) (by omega) (by omega) (by omega)
            constructor <;> constructor <;> intro <;> omega
        · split
          · rename_i hr hs
            rw [hs, Int.zero_mul] at key
            have : 1 * 1 ≤ r * d := Int.mul_le_mul (by omega) (by omega) (by omega) (by omega)
            constructor <;> constructor <;> intro <;> omega
          · obtain ⟨h1, h2⟩ := rec1 (by omega) (by omega) (by omega)
            rw [h1, h2, Int.mul_comm d r, Int.mul_comm b s]
            constructor <;> constructor <;> intro <;> omega

/-- Two ratios compared. -/
theorem p_Cmp {a b c d : Int} (ha : a.natAbs ≤ 1000000000000000000) (hb : 1 ≤ b) (hb2 : b ≤ 1000000000000000) (hc : c.natAbs ≤ 1000000000000000000) (hd : 1 ≤ d) (hd2 : d ≤ 1000000000000000) :
    ∃ v : Int, e_impl_RatioCmp (ratZ a b, ratZ c d, ()) = some v ∧ (v < 0 ↔ a * d < c * b) ∧ (0 < v ↔ c * b < a * d) := by
  obtain ⟨g, hg, e1, e2, e3, e4⟩ := ratZ_spec (a := a) hb
  obtain ⟨k, hk, f1, f2, f3, f4⟩ := ratZ_spec (a := c) hd
  have l1 := ratZ_le (a := a) hb
  have l2 := ratZ_le (a := c) hd
  have ok : ∀ r : Int × Int, r.1.natAbs ≤ 1000000000000000000 → 1 ≤ r.2 → r.2 ≤ 1000000000000000 → Nat.gcd r.1.natAbs r.2.natAbs = 1 → okR r = true := by
    intro r h1 h2 h3 h4
    simp only [okR, h4, Bool.and_eq_true, decide_eq_true_eq]
    omega
  have o1 := ok (ratZ a b) (by omega) (by omega) (by omega) e4
  have o2 := ok (ratZ c d) (by omega) (by omega) (by omega) f4
  have hN := N0_big
  have pc := p_compare N0 (ratZ a b).1 (ratZ a b).2 (ratZ c d).1 (ratZ c d).2 ⟨by omega, by omega, by omega, by omega, by omega, by omega, by omega, by omega⟩ (by omega)
  have e : e_impl_compare ((ratZ a b).1, (ratZ a b).2, (ratZ c d).1, (ratZ c d).2, ()) = some (cm N0 (ratZ a b).1 (ratZ a b).2 (ratZ c d).1 (ratZ c d).2) := pc
  have sg := cm_sign N0 (ratZ a b).1 (ratZ a b).2 (ratZ c d).1 (ratZ c d).2 (by omega) (by omega) (by omega)
  refine ⟨cm N0 (ratZ a b).1 (ratZ a b).2 (ratZ c d).1 (ratZ c d).2, ?_, ?_, ?_⟩
  · simp only [e_impl_RatioCmp, r_impl_RatioCmp, (ok_both _).1, o1, o2, Option.bind_some, Bool.not_true, cond_false, e]
  all_goals
    have gk : (0 : Int) < (g : Int) * k := Int.mul_pos (by omega) (by omega)
    generalize (ratZ a b).1 = p at *
    generalize (ratZ a b).2 = q at *
    generalize (ratZ c d).1 = r at *
    generalize (ratZ c d).2 = s at *
    have x1 : a * d = (p * s) * ((g : Int) * k) := by rw [e1, f2]; grind
    have x2 : c * b = (r * q) * ((g : Int) * k) := by rw [e2, f1]; grind
    rw [x1, x2]
  · rw [sg.1]
    exact ⟨fun h => Int.mul_lt_mul_of_pos_right h gk, fun h => Int.lt_of_mul_lt_mul_right h (by omega)⟩
  · rw [sg.2]
    exact ⟨fun h => Int.mul_lt_mul_of_pos_right h gk, fun h => Int.lt_of_mul_lt_mul_right h (by omega)⟩

theorem sum_set {β : Type} (f : β → Int) : ∀ (ws : List β) (i : Nat) (x y : β), ws[i]? = some x → ((ws.set i y).map f).sum = (ws.map f).sum - f x + f y
  | [], _, _, _, h => by simp at h
  | w :: ws, 0, x, y, h => by
    simp at h; subst h
    simp only [List.set_cons_zero, List.map_cons, List.sum_cons]; omega
  | w :: ws, i + 1, x, y, h => by
    simp at h
    have := sum_set f ws i x y h
    simp only [List.set_cons_succ, List.map_cons, List.sum_cons, this]; omega

theorem sum_drop0 (v : Int) : ∀ ws : List W3, ((ws.filter fun e => !decide (e.2.2 = 0)).map (touch v)).sum = (ws.map (touch v)).sum
  | [] => rfl
  | w :: ws => by
    by_cases h : w.2.2 = 0
    · have : touch v w = 0 := by simp only [touch, h]; split <;> rfl
      rw [List.filter_cons_of_neg (by simp [h])]
      simp only [List.map_cons, List.sum_cons, this, sum_drop0 v ws]; omega
    · rw [List.filter_cons_of_pos (by simp [h])]
      simp only [List.map_cons, List.sum_cons, sum_drop0 v ws]

section
variable {n : TNet} {m m' : Nat} {L L' : List (List Int)} {i : Nat} {x : W3} {u : Int}

theorem mem_fltN (h : Lk n m L) (hx : n.2.2.2[i]? = some x) {e : W3} (hne : ¬ (e.1 = x.1 ∧ e.2.1 = x.2.1)) : e ∈ (fltN n i x u).2.2.2 ↔ e ∈ n.2.2.2 := by
  simp only [fltN, List.mem_filter, Bool.not_eq_true', decide_eq_false_iff_not]
  constructor
  · rintro ⟨h1, h2⟩
    rcases List.mem_or_eq_of_mem_set h1 with h1 | h1
    · exact h1
    · exact absurd (by rw [h1]; exact ⟨rfl, rfl⟩) hne
  · intro he
    obtain ⟨j, hj⟩ := List.getElem?_of_mem he
    have hij : i ≠ j := by
      rintro rfl
      rw [hx] at hj
      simp only [Option.some.injEq] at hj
      exact hne (by rw [hj]; exact ⟨rfl, rfl⟩)
    have := h.hw e he
    exact ⟨List.mem_of_getElem? (i := j) (by rw [List.getElem?_set_ne hij]; exact hj), by omega⟩

theorem wbt_fltN (h : Lk n m L) (hx : n.2.2.2[i]? = some x) (h' : Lk (fltN n i x u) m' L') {a b : Int} (hab : a < b) (hne : ¬ (a = x.1 ∧ b = x.2.1)) : wbt (fltN n i x u).2.2.2 a b = wbt n.2.2.2 a b := by
  by_cases hw : wbt n.2.2.2 a b = 0
  · rw [hw]
    apply Classical.byContradiction
    intro hz
    have := (wbt_mem h'.srt hab hz).1 rfl
    have := (mem_fltN h hx (e := (a, b, _)) hne).1 this
    have := (wbt_mem h.srt hab hz).2 this
    omega
  · have := (wbt_mem h.srt hab hw).1 rfl
    have := (mem_fltN (u := u) h hx (e := (a, b, _)) hne).2 this
    exact (wbt_mem h'.srt hab hw).2 this

/-- A network with another weight of a wire. -/
theorem upd_of (h : Lk n m L) (hx : n.2.2.2[i]? = some x) (h' : Lk (fltN n i x u) m' L') : m' = m ∧ Upd L L' (wo m []) x.1 x.2.1 (u - x.2.2) := by
  have em : m' = m := by have := h.hm; have := h'.hm; simp only [fltN] at this; omega
  subst em
  have hxm := List.mem_of_getElem? hx
  have hi := h.inw x hxm
  have dg : ∀ v, wAt (fltN n i x u).2.2.2 v = wAt n.2.2.2 v + (if x.1 = v ∨ x.2.1 = v then u - x.2.2 else 0) := by
    intro v
    simp only [fltN, wAt, sum_drop0, sum_set (touch v) _ _ _ _ hx, touch]
    split <;> omega
  have bx : wbt n.2.2.2 x.1 x.2.1 = x.2.2 := (wbt_mem h.srt hi.2.1 (w := x.2.2) (by have := h.hw x hxm; omega)).2 hxm
  have bx' : wbt (fltN n i x u).2.2.2 x.1 x.2.1 = u := by
    by_cases hu : u = 0
    · apply Classical.byContradiction
      intro hz
      have hz' : wbt (fltN n i x u).2.2.2 x.1 x.2.1 ≠ 0 := by omega
      have := (wbt_mem h'.srt hi.2.1 hz').1 rfl
      simp only [fltN, List.mem_filter, Bool.not_eq_true', decide_eq_false_iff_not] at this
      obtain ⟨j, hj⟩ := List.getElem?_of_mem this.1
      by_cases hij : i = j
      · subst hij
        rw [List.getElem?_set_self (List.getElem?_eq_some_iff.1 hx).1] at hj
        have := congrArg (fun e : W3 => e.2.2) (Option.some.inj hj)
        simp only [fltN] at this hz'
        omega
      · rw [List.getElem?_set_ne hij] at hj
        have e := srt_uniq h.srt (List.mem_of_getElem? hj) hxm rfl rfl
        rw [e] at hj
        obtain ⟨h1, g1⟩ := List.getElem?_eq_some_iff.1 hx
        obtain ⟨h2, g2⟩ := List.getElem?_eq_some_iff.1 hj
        have pw := List.pairwise_iff_getElem.1 h.srt
        have irr : lex x x = false := by simp [lex]
        rcases Nat.lt_or_ge i j with q | q
        · have := pw i j h1 h2 q
          rw [g1, g2, irr] at this; cases this
        · have := pw j i h2 h1 (by omega)
          rw [g1, g2, irr] at this; cases this
    · exact (wbt_mem h'.srt hi.2.1 hu).2 (by
        simp only [fltN, List.mem_filter, Bool.not_eq_true', decide_eq_false_iff_not]
        exact ⟨List.mem_set (List.getElem?_eq_some_iff.1 hx).1 _, hu⟩)
  refine ⟨rfl, h.lapZ, h'.lapZ, ?_, ?_, ?_, ?_⟩
  · rw [h.a2 (by omega) (by omega), h'.a2 (by omega) (by omega), if_pos rfl, if_pos rfl, dg, if_pos (.inl rfl)]
  · rw [h.a2 (by omega) (by omega), h'.a2 (by omega) (by omega), if_pos rfl, if_pos rfl, dg, if_pos (.inr rfl)]
  · rw [h.a2 (by omega) (by omega), h'.a2 (by omega) (by omega), if_neg (by omega), if_neg (by omega), bx, bx']; omega
  · intro p hp q hq n1 n2 n3 n4
    have hp := mem_wo.1 hp
    have hq := mem_wo.1 hq
    rw [h.a2 ⟨hp.1, hp.2.1⟩ ⟨hq.1, hq.2.1⟩, h'.a2 ⟨hp.1, hp.2.1⟩ ⟨hq.1, hq.2.1⟩]
    by_cases e : p = q
    · subst e
      rw [if_pos rfl, if_pos rfl, dg, if_neg (by omega)]; omega
    · rw [if_neg e, if_neg e]
      rcases Int.lt_or_gt_of_ne e with hl | hl
      · rw [wbt_fltN h hx h' hl n1]
      · rw [wbt_comm _ p q, wbt_comm _ p q, wbt_fltN h hx h' hl (by omega)]
end
end Go.Sx.R
namespace Go.Sx.R
open Go Go.Sx

section
variable {n : TNet} {m : Nat} {L : List (List Int)} {i : Nat} {x : W3} {u : Int}

theorem fltN_sm2 (hn : Sm.sm B1 n) (hx : n.2.2.2[i]? = some x) (h0 : 0 ≤ u) (h1 : u ≤ 200) : Sm.sm B1 (n.2.2.2.set i (x.1, x.2.1, u)) ∧ Sm.sm B1 (fltN n i x u) := by
  have hset : Sm.sm B1 (n.2.2.2.set i (x.1, x.2.1, u)) := by
    refine ⟨by simpa using hn.2.2.2.1, fun y hy => ?_⟩
    rcases List.mem_or_eq_of_mem_set hy with h | h
    · exact hn.2.2.2.2 y h
    · subst h
      have := sm_get hn.2.2.2 hx
      exact ⟨this.1, this.2.1, (⟨by omega, by omega⟩ : Sm.sm B1 (u : Int))⟩
  exact ⟨hset, hn.1, hn.2.1, hn.2.2.1, Nat.le_trans (List.length_filter_le _ _) hset.1, fun y hy => hset.2 y (List.mem_filter.1 hy).1⟩

theorem fltN_eq (h : Lk n m L) (hx : n.2.2.2[i]? = some x) (h0 : 1 ≤ u) (h1 : u ≤ 200) : fltN n i x u = (n.1, n.2.1, n.2.2.1, n.2.2.2.set i (x.1, x.2.1, u)) := by
  obtain ⟨w1, w2⟩ := wok_set (K := 200) ⟨h.srt, h.inw, h.hw⟩ hx (u := u) ⟨h0, h1⟩
  simp only [fltN]
  rw [filter_pos fun e he => (w1.w e he).1]

theorem Lk.flt (h : Lk n m L) (hx : n.2.2.2[i]? = some x) (h0 : 1 ≤ u) (h1 : u ≤ 200) : ∃ L', Lk (fltN n i x u) m L' := by
  obtain ⟨w1, w2⟩ := wok_set (K := 200) ⟨h.srt, h.inw, h.hw⟩ hx (u := u) ⟨h0, h1⟩
  have hf := fltN_eq h hx h0 h1
  obtain ⟨m', hm', _, _, _, he1, he2⟩ := netok_facts h.ok
  have hm := h.hm
  have hok : netok (fltN n i x u) = true := by
    rw [hf]
    exact netok_of (m := m) h.hm h.m1 h.m5 he1 (by show n.2.1 ≤ n.1; omega) h.sc.1 h.sc.2 w1 fun v h0 h1 => (netok_rc h.ok h0 h1).mono w2
  obtain ⟨m2, L', h'⟩ := lk_of _ (fltN_sm2 h.hn hx (by omega) h1).2 hok
  obtain ⟨e, _⟩ := upd_of h hx h'
  subst e
  exact ⟨L', h'⟩

theorem wt_s (h : Lk n m L) {F : Int} (h0 : 0 ≤ F) (h1 : F ≤ 10497600000000) : (n.2.2.1 * F).natAbs ≤ 10497600000000000 := by
  have := mul_bd (x := F) h.sc (k := 10497600000000) (by omega)
  omega

theorem sq_nn (C : Int) : 0 ≤ C * C := by
  by_cases h : C < 0
  · exact Int.le_of_lt (Int.mul_pos_of_neg_of_neg h h)
  · exact Int.mul_nonneg (by omega) (by omega)

end

end Go.Sx.R
namespace Go.Sx.R
open Go Go.Sx

/-- Other weights for the first wires. -/
def mixW : List W3 → List Int → List W3
  | e :: ws, w :: l => (e.1, e.2.1, w) :: mixW ws l
  | [], _ => []
  | ws, [] => ws

theorem mixW_nil (ws : List W3) : mixW ws [] = ws := by cases ws <;> rfl

theorem mixW_len : ∀ (l : List Int) (ws : List W3), (mixW ws l).length = ws.length
  | [], ws => by rw [mixW_nil]
  | w :: l, [] => rfl
  | w :: l, e :: ws => by simp [mixW, mixW_len l ws]

theorem mixW_add : ∀ (l : List Int) (ws : List W3) (x : W3) (v : Int), ws[l.length]? = some x → mixW ws (l ++ [v]) = (mixW ws l).set l.length (x.1, x.2.1, v)
  | [], ws, x, v, h => by
    cases ws with
    | nil => simp at h
    | cons e ws => simp at h; subst h; simp [mixW, mixW_nil]
  | w :: l, [], x, v, h => by simp at h
  | w :: l, e :: ws, x, v, h => by
    simp at h
    simp [mixW, mixW_add l ws x v h]

theorem mixW_at : ∀ (l : List Int) (ws : List W3) (j : Nat), l.length ≤ j → (mixW ws l)[j]? = ws[j]?
  | [], ws, j, _ => by rw [mixW_nil]
  | w :: l, [], j, _ => rfl
  | w :: l, e :: ws, j, h => by
    obtain ⟨k, rfl⟩ : ∃ k, j = k + 1 := ⟨j - 1, by simp at h; omega⟩
    simp only [mixW, List.getElem?_cons_succ]
    exact mixW_at l ws k (by simp at h; omega)

theorem mixW_get : ∀ (l : List Int) (ws : List W3) (j : Nat) (x : W3) (w : Int), ws[j]? = some x → l[j]? = some w → (mixW ws l)[j]? = some (x.1, x.2.1, w)
  | [], ws, j, x, w, _, h => by simp at h
  | u :: l, [], j, x, w, h, _ => by simp at h
  | u :: l, e :: ws, 0, x, w, h1, h2 => by simp at h1 h2; subst h1 h2; rfl
  | u :: l, e :: ws, j + 1, x, w, h1, h2 => by simp at h1 h2; simp only [mixW, List.getElem?_cons_succ]; exact mixW_get l ws j x w h1 h2

theorem mixW_mix : ∀ (l l' : List Int) (ws : List W3), l.length ≤ l'.length → mixW (mixW ws l) l' = mixW ws l'
  | [], l', ws, _ => by rw [mixW_nil]
  | w :: l, l', [], _ => rfl
  | w :: l, [], e :: ws, h => by simp at h
  | w :: l, w' :: l', e :: ws, h => by simp only [mixW]; rw [mixW_mix l l' ws (by simp at h; omega)]

def setWt (n : TNet) (l : List Int) : TNet := (n.1, n.2.1, n.2.2.1, mixW n.2.2.2 l)

theorem cross_trans {F0 T0 F1 T1 F2 T2 : Int} (t1 : 1 ≤ T1) (t0 : 0 ≤ T0) (t2 : 0 ≤ T2) (h1 : F1 * T0 ≤ F0 * T1) (h2 : F2 * T1 ≤ F1 * T2) : F2 * T0 ≤ F0 * T2 := by
  have a := Int.mul_le_mul_of_nonneg_right h1 t2
  have b := Int.mul_le_mul_of_nonneg_right h2 t0
  have c : (F2 * T0) * T1 ≤ (F0 * T2) * T1 := by
    have e1 : F2 * T1 * T0 = (F2 * T0) * T1 := by grind
    have e2 : F1 * T0 * T2 = F1 * T2 * T0 := by grind
    have e3 : F0 * T1 * T2 = (F0 * T2) * T1 := by grind
    omega
  exact Int.le_of_mul_le_mul_right c (by omega)

section
variable {n : TNet} {m : Nat} {L : List (List Int)}

/-- One weight changed: the resistance moves the other way. -/
theorem Lk.mono1 {i : Nat} {x : W3} {u : Int} {L' : List (List Int)} (h : Lk n m L) (hx : n.2.2.2[i]? = some x) (h' : Lk (fltN n i x u) m L') {a b : Int} (ha : 0 ≤ a ∧ a < m) (hb : 0 ≤ b ∧ b < m) :
    (x.2.2 ≤ u → forZ L' m a b * treZ L m ≤ forZ L m a b * treZ L' m) ∧ (u ≤ x.2.2 → forZ L m a b * treZ L' m ≤ forZ L' m a b * treZ L m) := by
  by_cases hab : a = b
  · subst hab
    have z1 : forZ L m a a = 0 := if_pos rfl
    have z2 : forZ L' m a a = 0 := if_pos rfl
    rw [z1, z2, Int.zero_mul, Int.zero_mul]
    exact ⟨fun _ => by omega, fun _ => by omega⟩
  · have hi := h.inw x (List.mem_of_getElem? hx)
    obtain ⟨_, up⟩ := upd_of h hx h'
    obtain ⟨C, p1, p2⟩ := upd_all h.m5 up (mem_wo.2 ⟨hi.1, by omega, by simp⟩) (mem_wo.2 ⟨by omega, hi.2.2, by simp⟩) (by omega) (mem_wo.2 ⟨ha.1, ha.2, by simp⟩) (mem_wo.2 ⟨hb.1, hb.2, by simp⟩) hab
    have sq := sq_nn C
    constructor
    · intro hu
      have := Int.mul_nonneg (show 0 ≤ u - x.2.2 by omega) sq
      omega
    · intro hu
      have := Int.mul_nonneg (show 0 ≤ x.2.2 - u by omega) sq
      have e : (x.2.2 - u) * (C * C) = -((u - x.2.2) * (C * C)) := by grind
      omega

/-- All weights changed. -/
theorem Lk.chain (h : Lk n m L) {l : List Int} (hl : l.length = n.2.2.2.length) (hr : ∀ w ∈ l, 1 ≤ w ∧ w ≤ 200) : ∀ k, k ≤ l.length → ∃ L', Lk (setWt n (l.take k)) m L' ∧
    ((∀ (j : Nat) (x : W3) (u : Int), n.2.2.2[j]? = some x → l[j]? = some u → x.2.2 ≤ u) → ∀ a b : Int, (0 ≤ a ∧ a < m) → (0 ≤ b ∧ b < m) → forZ L' m a b * treZ L m ≤ forZ L m a b * treZ L' m) ∧
    ((∀ (j : Nat) (x : W3) (u : Int), n.2.2.2[j]? = some x → l[j]? = some u → u ≤ x.2.2) → ∀ a b : Int, (0 ≤ a ∧ a < m) → (0 ≤ b ∧ b < m) → forZ L m a b * treZ L' m ≤ forZ L' m a b * treZ L m)
  | 0, _ => by
    have e : setWt n (l.take 0) = n := by simp only [setWt, List.take_zero, mixW_nil]
    rw [e]
    exact ⟨L, h, fun _ a b _ _ => Int.le_refl _, fun _ a b _ _ => Int.le_refl _⟩
  | k + 1, hk => by
    obtain ⟨Lk', h1, hu, hd⟩ := h.chain hl hr k (by omega)
    have hkl : k < l.length := by omega
    have hw : l[k]? = some l[k] := List.getElem?_eq_getElem hkl
    have hx : n.2.2.2[k]? = some n.2.2.2[k] := List.getElem?_eq_getElem (by omega)
    have ht : (l.take k).length = k := by simp; omega
    have hx' : (setWt n (l.take k)).2.2.2[k]? = some n.2.2.2[k] := by
      show (mixW n.2.2.2 (l.take k))[k]? = _
      rw [mixW_at _ _ _ (by omega), hx]
    have hb := hr l[k] (List.getElem_mem hkl)
    obtain ⟨L', h2⟩ := h1.flt hx' (u := l[k]) hb.1 hb.2
    have e : fltN (setWt n (l.take k)) k n.2.2.2[k] l[k] = setWt n (l.take (k + 1)) := by
      rw [fltN_eq h1 hx' hb.1 hb.2]
      simp only [setWt]
      have et : l.take (k + 1) = l.take k ++ [l[k]] := by rw [List.take_add_one, hw]; rfl
      rw [et, mixW_add (l.take k) n.2.2.2 n.2.2.2[k] l[k] (by rw [ht]; exact hx), ht]
    have mo := fun {a b : Int} ha hb => h1.mono1 hx' h2 (a := a) (b := b) ha hb
    rw [e] at h2
    have t0 := h.tre_pos
    have t1 := h1.tre_pos
    have t2 := h2.tre_pos
    refine ⟨L', h2, fun hp a b ha hb => ?_, fun hp a b ha hb => ?_⟩
    · exact cross_trans t1 (by omega) (by omega) (hu hp a b ha hb) ((mo ha hb).1 (hp k _ _ hx hw))
    · have q1 := hd hp a b ha hb
      have q2 := (mo ha hb).2 (hp k _ _ hx hw)
      exact cross_trans (F0 := forZ L' m a b) (T0 := treZ L' m) (F1 := forZ Lk' m a b) (T1 := treZ Lk' m) (F2 := forZ L m a b) (T2 := treZ L m) t1 (by omega) (by omega) q2 q1

theorem p_weighed (n : TNet) (hn : Sm.sm B1 n) (w : List Int) (hl : w.length = n.2.2.2.length) : e_impl_weighed (n, w, ()) = some (setWt n w) := by
  have hlen : n.2.2.2.length ≤ 1073741824 := hn.2.2.2.1
  simp only [e_impl_weighed, r_impl_weighed, p_copyNet n hn, Option.bind_some]
  refine iter_rule (R := TNet) (fun o => o = some (setWt n w)) w (fun (st : List W3) i => (w, (n.1, n.2.1, n.2.2.1, st), (0, 0, 0, []), (n.2.2.2.length : Int), i, ())) (fun i st => st = mixW n.2.2.2 (w.take i)) (fun st i x kc hp hx hi hk => ?_) (fun st kc hp => ?_) (N := N0) (by have := N0_big; omega) n.2.2.2 (by simp [mixW_nil])
  · have d1 : decide ((i : Int) < (n.2.2.2.length : Int)) = true := by rw [decide_eq_true_eq]; omega
    have ht : (w.take i).length = i := by simp; omega
    have g : n.2.2.2[i]? = some n.2.2.2[i] := List.getElem?_eq_getElem (by omega)
    have g' : st[i]? = some n.2.2.2[i] := by rw [hp, mixW_at _ _ _ (by omega), g]
    simp only [r_impl_weighed_L0, d1, cond_true, getI_nat, hx, g', Option.bind_some, Int.toNat_natCast, wr_succ hi (show w.length ≤ 9223372036854775807 by omega)]
    refine hk _ ?_
    have et : w.take (i + 1) = w.take i ++ [x] := by rw [List.take_add_one, hx]; rfl
    rw [et, mixW_add (w.take i) n.2.2.2 n.2.2.2[i] x (by rw [ht]; exact g), ht, hp]
  · have d2 : decide (((w.length : Nat) : Int) < (n.2.2.2.length : Int)) = false := by rw [decide_eq_false_iff_not]; omega
    simp only [r_impl_weighed_L0, d2, cond_false]
    rw [hp, List.take_length]; rfl
end

theorem app_get {β : Type} {l : List β} {v w : β} {j : Nat} (h : (l ++ [v])[j]? = some w) : (j < l.length ∧ l[j]? = some w) ∨ (j = l.length ∧ w = v) := by
  rw [List.getElem?_append] at h
  split at h
  · rename_i hj; exact .inl ⟨hj, h⟩
  · rename_i hj
    right
    have : j - l.length = 0 := by
      apply Classical.byContradiction
      intro hn
      obtain ⟨k, hk⟩ : ∃ k, j - l.length = k + 1 := ⟨j - l.length - 1, by omega⟩
      rw [hk] at h; simp at h
    rw [this] at h
    simp at h
    exact ⟨by omega, h.symm⟩

/-- Bounds that hold a network's weights, and weights between them. -/
structure Rng (ws : List W3) (low high mid : List Int) (i : Nat) : Prop where
  l : low.length = i
  h : high.length = i
  m : mid.length = i
  ok : ∀ (j : Nat) (x : W3) (a b c : Int), ws[j]? = some x → low[j]? = some a → high[j]? = some b → mid[j]? = some c → 1 ≤ a ∧ a ≤ x.2.2 ∧ x.2.2 ≤ b ∧ b ≤ 200 ∧ a ≤ c ∧ c ≤ b

theorem law_FnRanges (A : Option (Nat × Obj)) (v : Value) (hc : CodeOk A v) : e_laws_FnRanges A (v, ()) = some true := by
  obtain ⟨p, len, c, rfl, _⟩ := id hc
  simp only [e_laws_FnRanges, r_laws_FnRanges, rawLen, Option.bind_some]
  by_cases hlen : (len : Int) > 1048576
  · simp only [hlen, decide_true, cond_true]
  simp only [hlen, decide_false, cond_false]
  obtain ⟨n, e1, hd⟩ := makeNet_ok hc
  obtain ⟨hok, h0⟩ := hd.ok (by omega) (by omega)
  have hn : Sm.sm B1 n := up_net B01 h0
  obtain ⟨m, L, h⟩ := lk_of n hn hok
  have hm := h.hm
  have hd2 := hd.n2
  have hlen2 := hd.len
  obtain ⟨x3, e3, x30, x31⟩ := num_ok hc (n := 30) (by omega)
  obtain ⟨x4, e4, x40, x41⟩ := num_ok hc (n := 32) (by omega)
  have c0 : decide (n.1 = 0) = false := by rw [decide_eq_false_iff_not]; omega
  have bl : Nat.ble (0 + n.2.2.2.length) 17179869184 = true := ble_true (by omega)
  simp only [e1, e3, e4, c0, Option.bind_some, cond_false, List.length_nil, bl, cond_true, List.nil_append]
  have ra := tmod_in (len := n.1) x30 (by omega)
  have rb := tmod_in (len := n.1) x40 (by omega)
  generalize Int.tmod x3 n.1 = a at *
  generalize Int.tmod x4 n.1 = b at *
  have ha : 0 ≤ a ∧ a < m := by omega
  have hb : 0 ≤ b ∧ b < m := by omega
  refine iter_rule (R := Bool) (fun o => o = some true) n.2.2.2 (fun (st : List Int × List Int × List W3) i => (Value.slice p len c, n, a, b, st.1, st.2.1, (n.1, n.2.1, n.2.2.1, st.2.2), n.2.2.2, (n.2.2.2.length : Int), i, ()))
    (fun i st => ∃ mid, Rng n.2.2.2 st.1 st.2.1 mid i ∧ st.2.2 = mixW n.2.2.2 mid) (fun st i x kc hp hx hi hk => ?_) (fun st kc hp => ?_) (N := N0) (by have := N0_big; omega) ([], [], n.2.2.2) ⟨[], ⟨rfl, rfl, rfl, by simp⟩, by rw [mixW_nil]⟩
  · obtain ⟨low, high, ws⟩ := st
    obtain ⟨mid, hR, hws⟩ := hp
    have hws : ws = mixW n.2.2.2 mid := hws
    have lw := hR.l
    have hh := hR.h
    have hmm := hR.m
    have lw : low.length = i := lw
    have hh : high.length = i := hh
    have hxm := List.mem_of_getElem? hx
    have hW := hd.wok.w x hxm
    have w40 : wr (40 + (i : Int)) = 40 + (i : Int) := wr_id (by omega) (by omega)
    have w50 : wr (50 + (i : Int)) = 50 + (i : Int) := wr_id (by omega) (by omega)
    have w60 : wr (60 + (i : Int)) = 60 + (i : Int) := wr_id (by omega) (by omega)
    obtain ⟨y1, f1, y10, y11⟩ := num_ok hc (n := 40 + (i : Int)) (by omega)
    obtain ⟨y2, f2, y20, y21⟩ := num_ok hc (n := 50 + (i : Int)) (by omega)
    obtain ⟨y3, f3, y30, y31⟩ := num_ok hc (n := 60 + (i : Int)) (by omega)
    have t1 := tmod_in (len := 3) y10 (by omega)
    have t2 := tmod_in (len := 3) y20 (by omega)
    have bl1 : Nat.ble (low.length + 1) 17179869184 = true := ble_true (by omega)
    have bl2 : Nat.ble (high.length + 1) 17179869184 = true := ble_true (by omega)
    have g' : ws[i]? = some x := by rw [hws, mixW_at _ _ _ (by omega), hx]
    simp only [r_laws_FnRanges_L0, lt_len, hi, decide_true, cond_true, getI_nat, hx, Option.bind_some, w40, w50, w60, f1, f2, f3, List.length_cons, List.length_nil, Nat.zero_add, bl1, bl2]
    generalize Int.tmod y1 3 = r1 at *
    generalize Int.tmod y2 3 = r2 at *
    have ws1 : wr (x.2.2 - r1) = x.2.2 - r1 := wr_id (by omega) (by omega)
    have ws2 : wr (x.2.2 + r2) = x.2.2 + r2 := wr_id (by omega) (by omega)
    rw [ws1, ws2]
    have hlo : 1 ≤ (if x.2.2 - r1 > 1 then x.2.2 - r1 else 1) ∧ (if x.2.2 - r1 > 1 then x.2.2 - r1 else 1) ≤ x.2.2 := by split <;> omega
    generalize (if x.2.2 - r1 > 1 then x.2.2 - r1 else 1) = lo at *
    generalize hhi : x.2.2 + r2 = hi' at *
    have gl : (low ++ [lo])[i]? = some lo := by rw [← lw]; exact List.getElem?_concat_length
    have gh : (high ++ [hi'])[i]? = some hi' := by rw [← hh]; exact List.getElem?_concat_length
    have ws3 : wr (hi' - lo) = hi' - lo := wr_id (by omega) (by omega)
    have ws4 : wr (hi' - lo + 1) = hi' - lo + 1 := wr_id (by omega) (by omega)
    have d0 : decide (hi' - lo + 1 = 0) = false := by rw [decide_eq_false_iff_not]; omega
    have t3 := tmod_in (len := hi' - lo + 1) y30 (by omega)
    simp only [gl, gh, Option.bind_some, ws3, ws4, d0, cond_false, g', Int.toNat_natCast, wr_succ hi (show n.2.2.2.length ≤ 9223372036854775807 by omega)]
    generalize Int.tmod y3 (hi' - lo + 1) = r3 at *
    have ws5 : wr (lo + r3) = lo + r3 := wr_id (by omega) (by omega)
    rw [ws5]
    refine hk (low ++ [lo], high ++ [hi'], ws.set i (x.1, x.2.1, lo + r3)) ⟨mid ++ [lo + r3], ⟨by simp; omega, by simp; omega, by simp; omega, ?_⟩, ?_⟩
    · intro j y p q r hy h1 h2 h3
      rcases app_get h1 with ⟨j1, g1⟩ | ⟨j1, g1⟩
      · rcases app_get h2 with ⟨j2, g2⟩ | ⟨j2, g2⟩
        · rcases app_get h3 with ⟨j3, g3⟩ | ⟨j3, g3⟩
          · exact hR.ok j y p q r hy g1 g2 g3
          · omega
        · omega
      · have hji : j = i := by omega
        subst hji
        rw [hx] at hy
        have hy := Option.some.inj hy
        subst hy
        rw [gl] at h1
        rw [gh] at h2
        have h3' : (mid ++ [lo + r3])[j]? = some (lo + r3) := by rw [← hmm]; exact List.getElem?_concat_length
        rw [h3'] at h3
        have h1 := Option.some.inj h1
        have h2 := Option.some.inj h2
        have h3 := Option.some.inj h3
        omega
    · show ws.set i _ = _
      rw [mixW_add mid n.2.2.2 x (lo + r3) (by rw [hmm]; exact hx), hmm, hws]
  · obtain ⟨low, high, ws⟩ := st
    obtain ⟨mid, hR, hws⟩ := hp
    have hws : ws = mixW n.2.2.2 mid := hws
    subst hws
    have lw : low.length = n.2.2.2.length := hR.l
    have hh : high.length = n.2.2.2.length := hR.h
    have hmm : mid.length = n.2.2.2.length := hR.m
    have ok := hR.ok
    have ok : ∀ (j : Nat) (x : W3) (a b c : Int), n.2.2.2[j]? = some x → low[j]? = some a → high[j]? = some b → mid[j]? = some c → 1 ≤ a ∧ a ≤ x.2.2 ∧ x.2.2 ≤ b ∧ b ≤ 200 ∧ a ≤ c ∧ c ≤ b := ok
    have all : ∀ j, j < n.2.2.2.length → ∃ (x : W3) (a b c : Int), n.2.2.2[j]? = some x ∧ low[j]? = some a ∧ high[j]? = some b ∧ mid[j]? = some c ∧ 1 ≤ a ∧ a ≤ x.2.2 ∧ x.2.2 ≤ b ∧ b ≤ 200 ∧ a ≤ c ∧ c ≤ b := fun j hj => by
      have g1 := List.getElem?_eq_getElem (l := n.2.2.2) hj
      have g2 := List.getElem?_eq_getElem (l := low) (show j < low.length by omega)
      have g3 := List.getElem?_eq_getElem (l := high) (show j < high.length by omega)
      have g4 := List.getElem?_eq_getElem (l := mid) (show j < mid.length by omega)
      exact ⟨_, _, _, _, g1, g2, g3, g4, ok j _ _ _ _ g1 g2 g3 g4⟩
    have rl : ∀ w ∈ low, 1 ≤ w ∧ w ≤ 200 := fun w hw => by
      obtain ⟨j, hj⟩ := List.getElem?_of_mem hw
      obtain ⟨x, a, b, c, g1, g2, g3, g4, g5⟩ := all j (by have := (List.getElem?_eq_some_iff.1 hj).1; omega)
      rw [hj] at g2; have := Option.some.inj g2; omega
    have rh : ∀ w ∈ high, 1 ≤ w ∧ w ≤ 200 := fun w hw => by
      obtain ⟨j, hj⟩ := List.getElem?_of_mem hw
      obtain ⟨x, a, b, c, g1, g2, g3, g4, g5⟩ := all j (by have := (List.getElem?_eq_some_iff.1 hj).1; omega)
      rw [hj] at g3; have := Option.some.inj g3; omega
    have rm : ∀ w ∈ mid, 1 ≤ w ∧ w ≤ 200 := fun w hw => by
      obtain ⟨j, hj⟩ := List.getElem?_of_mem hw
      obtain ⟨x, a, b, c, g1, g2, g3, g4, g5⟩ := all j (by have := (List.getElem?_eq_some_iff.1 hj).1; omega)
      rw [hj] at g4; have := Option.some.inj g4; omega
    obtain ⟨Lm, hm1, _, _⟩ := h.chain hmm rm mid.length (Nat.le_refl _)
    rw [List.take_length] at hm1
    obtain ⟨Ll, hl1, _, hl3⟩ := h.chain lw rl low.length (Nat.le_refl _)
    rw [List.take_length] at hl1
    obtain ⟨Lh, hh1, hh2, _⟩ := h.chain hh rh high.length (Nat.le_refl _)
    rw [List.take_length] at hh1
    have ml : (setWt n mid).2.2.2.length = n.2.2.2.length := mixW_len mid n.2.2.2
    obtain ⟨Ll', hl1', _, hl3'⟩ := hm1.chain (l := low) (by omega) rl low.length (Nat.le_refl _)
    obtain ⟨Lh', hh1', hh2', _⟩ := hm1.chain (l := high) (by omega) rh high.length (Nat.le_refl _)
    have el : setWt (setWt n mid) low = setWt n low := by simp only [setWt]; rw [mixW_mix mid low n.2.2.2 (by omega)]
    have eh : setWt (setWt n mid) high = setWt n high := by simp only [setWt]; rw [mixW_mix mid high n.2.2.2 (by omega)]
    rw [List.take_length, el] at hl1'
    rw [List.take_length, eh] at hh1'
    have uq : ∀ {n : TNet} {L L' : List (List Int)}, Lk n m L → Lk n m L' → L = L' := fun h1 h2 => Option.some.inj (h1.lp.symm.trans h2.lp)
    have q1 := uq hl1' hl1
    subst q1
    have q2 := uq hh1' hh1
    subst q2
    have k1 := hl3 (fun j x u g1 g2 => by
      obtain ⟨x', a, b, c, g1', g2', g3', g4', g5'⟩ := all j (List.getElem?_eq_some_iff.1 g1).1
      rw [g1] at g1'; rw [g2] at g2'
      have := Option.some.inj g1'; have := Option.some.inj g2'; subst_vars; omega) a b ha hb
    have k2 := hh2 (fun j x u g1 g2 => by
      obtain ⟨x', a, b, c, g1', g2', g3', g4', g5'⟩ := all j (List.getElem?_eq_some_iff.1 g1).1
      rw [g1] at g1'; rw [g2] at g3'
      have := Option.some.inj g1'; have := Option.some.inj g3'; subst_vars; omega) a b ha hb
    have k3 := hl3' (fun j x u g1 g2 => by
      obtain ⟨x', a, b, c, g1', g2', g3', g4', g5'⟩ := all j (by have := (List.getElem?_eq_some_iff.1 g2).1; omega)
      have g6 : (setWt n mid).2.2.2[j]? = some (x'.1, x'.2.1, c) := mixW_get mid n.2.2.2 j x' c g1' g4'
      rw [g1] at g6; rw [g2] at g2'
      have := Option.some.inj g6; have := Option.some.inj g2'; subst_vars; simp only; omega) a b ha hb
    have k4 := hh2' (fun j x u g1 g2 => by
      obtain ⟨x', a, b, c, g1', g2', g3', g4', g5'⟩ := all j (by have := (List.getElem?_eq_some_iff.1 g2).1; omega)
      have g6 : (setWt n mid).2.2.2[j]? = some (x'.1, x'.2.1, c) := mixW_get mid n.2.2.2 j x' c g1' g4'
      rw [g1] at g6; rw [g2] at g3'
      have := Option.some.inj g6; have := Option.some.inj g3'; subst_vars; simp only; omega) a b ha hb
    have hB : n_BoundsOk n low high = true := by
      simp only [n_BoundsOk, hok, lw, hh, decide_true, Bool.and_self, Bool.true_and, Bool.not_eq_true', List.any_eq_false]
      rintro ⟨x, j⟩ hxj
      have hxj := List.mk_mem_zipIdx_iff_getElem?.1 hxj
      obtain ⟨x', a, b, c, g1', g2', g3', g4', g5'⟩ := all j (List.getElem?_eq_some_iff.1 hxj).1
      rw [hxj] at g1'
      have := Option.some.inj g1'; subst this
      have d1 : decide (1 ≤ a) = true := by rw [decide_eq_true_eq]; omega
      have d2 : decide (a ≤ x.2.2) = true := by rw [decide_eq_true_eq]; omega
      have d3 : decide (x.2.2 ≤ b) = true := by rw [decide_eq_true_eq]; omega
      have d4 : decide (b ≤ 200) = true := by rw [decide_eq_true_eq]; omega
      simp only [badB, g2', g3', d1, d2, d3, d4, Bool.and_self, Bool.not_true, Bool.false_eq_true, not_false_eq_true]
    have cmp : ∀ {F T F' T' : Int}, 0 ≤ F → F ≤ 10497600000000 → 1 ≤ T → T ≤ 10497600000000 → 0 ≤ F' → F' ≤ 10497600000000 → 1 ≤ T' → T' ≤ 10497600000000 → F * T' ≤ F' * T →
        ∃ v, e_impl_RatioCmp (ratZ (n.2.2.1 * F) T, ratZ (n.2.2.1 * F') T', ()) = some v ∧ decide (v ≤ 0) = true := by
      intro F T F' T' a1 a2 a3 a4 b1 b2 b3 b4 hle
      have m1 := wt_s h a1 a2
      have m2 := wt_s h b1 b2
      obtain ⟨v, v1, v2, v3⟩ := p_Cmp (a := n.2.2.1 * F) (b := T) (c := n.2.2.1 * F') (d := T') (by omega) a3 (by omega) (by omega) b3 (by omega)
      refine ⟨v, v1, ?_⟩
      rw [decide_eq_true_eq]
      have le : n.2.2.1 * (F * T') ≤ n.2.2.1 * (F' * T) := Int.mul_le_mul_of_nonneg_left hle (by have := h.sc; omega)
      have e1 : n.2.2.1 * F * T' = n.2.2.1 * (F * T') := by grind
      have e2 : n.2.2.1 * F' * T = n.2.2.1 * (F' * T) := by grind
      have : ¬ 0 < v := by rw [v3, e1, e2]; omega
      omega
    have rH := hh1.p_Res ha hb
    have rL := hl1.p_Res ha hb
    have rM := hm1.p_Res ha hb
    have sH : (setWt n high).2.2.1 = n.2.2.1 := rfl
    have sL : (setWt n low).2.2.1 = n.2.2.1 := rfl
    have sM : (setWt n mid).2.2.1 = n.2.2.1 := rfl
    rw [sH] at rH
    rw [sL] at rL
    rw [sM] at rM
    have rM' : e_impl_ResistanceOf ((n.1, n.2.1, n.2.2.1, mixW n.2.2.2 mid), a, b, ()) = some (ratZ (n.2.2.1 * forZ Lm m a b) (treZ Lm m), true) := rM
    have f1 := h.for_le (b := b) ha
    have f2 := hl1.for_le (b := b) ha
    have f3 := hh1.for_le (b := b) ha
    have f4 := hm1.for_le (b := b) ha
    have t1 := h.tre_pos
    have t2 := hl1.tre_pos
    have t3 := hh1.tre_pos
    have t4 := hm1.tre_pos
    have u1 := h.tre_le
    have u2 := hl1.tre_le
    have u3 := hh1.tre_le
    have u4 := hm1.tre_le
    obtain ⟨v1, c1, d1⟩ := cmp f3.1 f3.2 t3 u3 f1.1 f1.2 t1 u1 k2
    obtain ⟨v2, c2, d2⟩ := cmp f1.1 f1.2 t1 u1 f2.1 f2.2 t2 u2 k1
    obtain ⟨v3, c3, d3⟩ := cmp f3.1 f3.2 t3 u3 f4.1 f4.2 t4 u4 k4
    obtain ⟨v4, c4, d4⟩ := cmp f4.1 f4.2 t4 u4 f2.1 f2.2 t2 u2 k3
    simp only [r_laws_FnRanges_L0, not_lt_self, cond_false, e_impl_ResistanceRange, r_impl_ResistanceRange, p_BoundsOk n low high hn, hB, h.p_node ha, h.p_node hb, p_weighed n hn low lw, p_weighed n hn high hh, rH, rL, h.p_Res ha hb, rM', Option.bind_some, Bool.not_true, cond_true, c1, c2, c3, c4, d1, d2, d3, d4]

end Go.Sx.R
namespace Go.Sx.R
open Go Go.Sx

abbrev Mat := List (List (Int × Int))
/-- An entry. -/
def en (m : Mat) (i j : Nat) : Int × Int := (((m[i]?).getD [])[j]?).getD (0, 0)
end Go.Sx.R
