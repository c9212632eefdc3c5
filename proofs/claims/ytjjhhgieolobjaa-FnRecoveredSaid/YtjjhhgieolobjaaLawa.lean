/- The law in plain words, part 1. Conditions: none. -/
import Derived.Test.YtjjhhgieolobjaaRes
namespace Go.Sx.R
open Go Go.Sx
def r_spec_l01In (_N : Nat) (a0 : Int) (a1 : Int) (a2 : Int) : Option Bool :=
  (cond (decide (a0 ≥ a1))
    (some (decide (a0 ≤ a2)))
    (some false))
noncomputable def e_spec_l01In (a : Int × Int × Int × Unit) : Option Bool := r_spec_l01In N0 a.1 a.2.1 a.2.2.1
def r_spec_l03Has_L0 (_N : Nat) (s : (Int × ((List Int) × (Int × (Int × Unit))))) (kc ke : (Int × ((List Int) × (Int × (Int × Unit)))) → Option Bool) : Option Bool :=
  (cond (decide (s.2.2.2.1 < s.2.2.1))
    (Option.bind (getI s.2.1 s.2.2.2.1) fun (x1 : Int) =>
    (cond (decide (x1 = s.1))
      (some true)
      (kc (s.1, (s.2.1, (s.2.2.1, ((wr (s.2.2.2.1 + (1 : Int))), ())))))))
    (ke (s.1, (s.2.1, (s.2.2.1, (s.2.2.2.1, ()))))))
def r_spec_l03Has (N : Nat) (a0 : (List Int)) (a1 : Int) : Option Bool :=
  (iterK (r_spec_l03Has_L0 N) N (a1, (a0, ((((List.length a0) : Nat) : Int), ((0 : Int), ())))) fun (_s1 : (Int × ((List Int) × (Int × (Int × Unit))))) =>
  (some false))
noncomputable def e_spec_l03Has (a : (List Int) × Int × Unit) : Option Bool := r_spec_l03Has N0 a.1 a.2.1
def r_spec_l03Reach_L2 (c_spec_l03Has : ((List Int) × Int × Unit → Option Bool)) (_N : Nat) (s : ((List (Int × (Int × Int))) × ((List Int) × (Int × ((List (Int × (Int × Int))) × (Int × (Int × Unit))))))) (kc ke : ((List (Int × (Int × Int))) × ((List Int) × (Int × ((List (Int × (Int × Int))) × (Int × (Int × Unit)))))) → Option (List Int)) : Option (List Int) :=
  (cond (decide (s.2.2.2.2.2.1 < s.2.2.2.2.1))
    (Option.bind (getI s.2.2.2.1 s.2.2.2.2.2.1) fun (x1 : (Int × (Int × Int))) =>
    (Option.bind (getI s.2.1 s.2.2.1) fun (x2 : Int) =>
    (cond (decide (x1.1 = x2))
      (Option.bind (c_spec_l03Has (s.2.1, (x1.2.1, ()))) fun (x3 : Bool) =>
      (cond (!x3)
        (cond (Nat.ble ((List.length s.2.1) + (List.length (x1.2.1 :: ([] : List Int)))) 17179869184)
          (Option.bind (getI (s.2.1 ++ (x1.2.1 :: ([] : List Int))) s.2.2.1) fun (x4 : Int) =>
          (cond (decide (x1.2.1 = x4))
            (Option.bind (c_spec_l03Has ((s.2.1 ++ (x1.2.1 :: ([] : List Int))), (x1.1, ()))) fun (x5 : Bool) =>
            (cond (!x5)
              (cond (Nat.ble ((List.length (s.2.1 ++ (x1.2.1 :: ([] : List Int)))) + (List.length (x1.1 :: ([] : List Int)))) 17179869184)
                (kc (s.1, (((s.2.1 ++ (x1.2.1 :: ([] : List Int))) ++ (x1.1 :: ([] : List Int))), (s.2.2.1, (s.2.2.2.1, (s.2.2.2.2.1, ((wr (s.2.2.2.2.2.1 + (1 : Int))), ())))))))
                none)
              (kc (s.1, ((s.2.1 ++ (x1.2.1 :: ([] : List Int))), (s.2.2.1, (s.2.2.2.1, (s.2.2.2.2.1, ((wr (s.2.2.2.2.2.1 + (1 : Int))), ())))))))))
            (kc (s.1, ((s.2.1 ++ (x1.2.1 :: ([] : List Int))), (s.2.2.1, (s.2.2.2.1, (s.2.2.2.2.1, ((wr (s.2.2.2.2.2.1 + (1 : Int))), ())))))))))
          none)
        (Option.bind (getI s.2.1 s.2.2.1) fun (x6 : Int) =>
        (cond (decide (x1.2.1 = x6))
          (Option.bind (c_spec_l03Has (s.2.1, (x1.1, ()))) fun (x7 : Bool) =>
          (cond (!x7)
            (cond (Nat.ble ((List.length s.2.1) + (List.length (x1.1 :: ([] : List Int)))) 17179869184)
              (kc (s.1, ((s.2.1 ++ (x1.1 :: ([] : List Int))), (s.2.2.1, (s.2.2.2.1, (s.2.2.2.2.1, ((wr (s.2.2.2.2.2.1 + (1 : Int))), ())))))))
              none)
            (kc (s.1, (s.2.1, (s.2.2.1, (s.2.2.2.1, (s.2.2.2.2.1, ((wr (s.2.2.2.2.2.1 + (1 : Int))), ())))))))))
          (kc (s.1, (s.2.1, (s.2.2.1, (s.2.2.2.1, (s.2.2.2.2.1, ((wr (s.2.2.2.2.2.1 + (1 : Int))), ())))))))))))
      (Option.bind (getI s.2.1 s.2.2.1) fun (x8 : Int) =>
      (cond (decide (x1.2.1 = x8))
        (Option.bind (c_spec_l03Has (s.2.1, (x1.1, ()))) fun (x9 : Bool) =>
        (cond (!x9)
          (cond (Nat.ble ((List.length s.2.1) + (List.length (x1.1 :: ([] : List Int)))) 17179869184)
            (kc (s.1, ((s.2.1 ++ (x1.1 :: ([] : List Int))), (s.2.2.1, (s.2.2.2.1, (s.2.2.2.2.1, ((wr (s.2.2.2.2.2.1 + (1 : Int))), ())))))))
            none)
          (kc (s.1, (s.2.1, (s.2.2.1, (s.2.2.2.1, (s.2.2.2.2.1, ((wr (s.2.2.2.2.2.1 + (1 : Int))), ())))))))))
        (kc (s.1, (s.2.1, (s.2.2.1, (s.2.2.2.1, (s.2.2.2.2.1, ((wr (s.2.2.2.2.2.1 + (1 : Int))), ()))))))))))))
    (ke (s.1, (s.2.1, (s.2.2.1, (s.2.2.2.1, (s.2.2.2.2.1, (s.2.2.2.2.2.1, ()))))))))
def r_spec_l03Reach_L0 (c_spec_l03Has : ((List Int) × Int × Unit → Option Bool)) (N : Nat) (s : ((List (Int × (Int × Int))) × ((List Int) × (Int × Unit)))) (kc ke : ((List (Int × (Int × Int))) × ((List Int) × (Int × Unit))) → Option (List Int)) : Option (List Int) :=
  (cond (decide (s.2.2.1 < (((List.length s.2.1) : Nat) : Int)))
    (iterK (r_spec_l03Reach_L2 c_spec_l03Has N) N (s.1, (s.2.1, (s.2.2.1, (s.1, ((((List.length s.1) : Nat) : Int), ((0 : Int), ())))))) fun (s1 : ((List (Int × (Int × Int))) × ((List Int) × (Int × ((List (Int × (Int × Int))) × (Int × (Int × Unit))))))) =>
    (kc (s1.1, (s1.2.1, ((wr (s1.2.2.1 + (1 : Int))), ())))))
    (ke (s.1, (s.2.1, (s.2.2.1, ())))))
def r_spec_l03Reach (c_spec_l03Has : ((List Int) × Int × Unit → Option Bool)) (N : Nat) (a0 : (List (Int × (Int × Int)))) (a1 : Int) : Option (List Int) :=
  (iterK (r_spec_l03Reach_L0 c_spec_l03Has N) N (a0, ((a1 :: ([] : List Int)), ((0 : Int), ()))) fun (s1 : ((List (Int × (Int × Int))) × ((List Int) × (Int × Unit)))) =>
  (some s1.2.1))
noncomputable def e_spec_l03Reach (a : (List (Int × Int × Int)) × Int × Unit) : Option (List Int) := r_spec_l03Reach e_spec_l03Has N0 a.1 a.2.1
def r_spec_NetOk_L0 (c_spec_l01In : (Int × Int × Int × Unit → Option Bool)) (_c_spec_l03Reach : ((List (Int × Int × Int)) × Int × Unit → Option (List Int))) (_N : Nat) (s : ((Int × (Int × (Int × (List (Int × (Int × Int)))))) × ((List (Int × (Int × Int))) × (Int × (Int × Unit))))) (kc ke : ((Int × (Int × (Int × (List (Int × (Int × Int)))))) × ((List (Int × (Int × Int))) × (Int × (Int × Unit)))) → Option Bool) : Option Bool :=
  (cond (decide (s.2.2.2.1 < s.2.2.1))
    (Option.bind (getI s.2.1 s.2.2.2.1) fun (x1 : (Int × (Int × Int))) =>
    (Option.bind (c_spec_l01In (x1.1, ((0 : Int), ((wr (s.1.1 - (1 : Int))), ())))) fun (x2 : Bool) =>
    (cond (!x2)
      (some false)
      (Option.bind (c_spec_l01In (x1.2.1, ((wr (x1.1 + (1 : Int))), ((wr (s.1.1 - (1 : Int))), ())))) fun (x3 : Bool) =>
      (cond (!x3)
        (some false)
        (Option.bind (c_spec_l01In (x1.2.2, ((1 : Int), ((200 : Int), ())))) fun (x4 : Bool) =>
        (cond (!x4)
          (some false)
          (cond (decide (s.2.2.2.1 > (0 : Int)))
            (Option.bind (getI s.1.2.2.2 (wr (s.2.2.2.1 - (1 : Int)))) fun (x5 : (Int × (Int × Int))) =>
            (cond (decide (x1.1 < x5.1))
              (some false)
              (Option.bind (getI s.1.2.2.2 (wr (s.2.2.2.1 - (1 : Int)))) fun (x6 : (Int × (Int × Int))) =>
              (cond (decide (x1.1 = x6.1))
                (Option.bind (getI s.1.2.2.2 (wr (s.2.2.2.1 - (1 : Int)))) fun (x7 : (Int × (Int × Int))) =>
                (cond (decide (x1.2.1 ≤ x7.2.1))
                  (some false)
                  (kc (s.1, (s.2.1, (s.2.2.1, ((wr (s.2.2.2.1 + (1 : Int))), ())))))))
                (kc (s.1, (s.2.1, (s.2.2.1, ((wr (s.2.2.2.1 + (1 : Int))), ())))))))))
            (kc (s.1, (s.2.1, (s.2.2.1, ((wr (s.2.2.2.1 + (1 : Int))), ())))))))))))))
    (ke (s.1, (s.2.1, (s.2.2.1, (s.2.2.2.1, ()))))))
def r_spec_NetOk (c_spec_l01In : (Int × Int × Int × Unit → Option Bool)) (c_spec_l03Reach : ((List (Int × Int × Int)) × Int × Unit → Option (List Int))) (N : Nat) (a0 : (Int × (Int × (Int × (List (Int × (Int × Int))))))) : Option Bool :=
  (Option.bind (c_spec_l01In (a0.1, ((1 : Int), ((5 : Int), ())))) fun (x1 : Bool) =>
  (cond (!x1)
    (some false)
    (Option.bind (c_spec_l01In (a0.2.1, ((1 : Int), (a0.1, ())))) fun (x2 : Bool) =>
    (cond (!x2)
      (some false)
      (Option.bind (c_spec_l01In (a0.2.2.1, ((1 : Int), ((1000 : Int), ())))) fun (x3 : Bool) =>
      (cond (!x3)
        (some false)
        (iterK (r_spec_NetOk_L0 c_spec_l01In c_spec_l03Reach N) N (a0, (a0.2.2.2, ((((List.length a0.2.2.2) : Nat) : Int), ((0 : Int), ())))) fun (s4 : ((Int × (Int × (Int × (List (Int × (Int × Int)))))) × ((List (Int × (Int × Int))) × (Int × (Int × Unit))))) =>
        (Option.bind (c_spec_l03Reach (s4.1.2.2.2, ((0 : Int), ()))) fun (x5 : (List Int)) =>
        (some (decide ((((List.length x5) : Nat) : Int) = s4.1.1)))))))))))
noncomputable def e_spec_NetOk (a : (Int × Int × Int × List (Int × Int × Int)) × Unit) : Option Bool := r_spec_NetOk e_spec_l01In e_spec_l03Reach N0 a.1
def r_spec_l03Find_L0 (_N : Nat) (s : (Int × (Int × ((List (Int × (Int × Int))) × (Int × (Int × Unit)))))) (kc ke : (Int × (Int × ((List (Int × (Int × Int))) × (Int × (Int × Unit))))) → Option Int) : Option Int :=
  (cond (decide (s.2.2.2.2.1 < s.2.2.2.1))
    (Option.bind (getI s.2.2.1 s.2.2.2.2.1) fun (x1 : (Int × (Int × Int))) =>
    (cond (decide (x1.1 = (@ite @Int (s.2.1 < s.1) (@Int.decLt s.2.1 s.1) s.2.1 s.1)))
      (cond (decide (x1.2.1 = (@ite @Int (s.2.1 > s.1) (@Int.decLt s.1 s.2.1) s.2.1 s.1)))
        (some s.2.2.2.2.1)
        (kc (s.1, (s.2.1, (s.2.2.1, (s.2.2.2.1, ((wr (s.2.2.2.2.1 + (1 : Int))), ())))))))
      (kc (s.1, (s.2.1, (s.2.2.1, (s.2.2.2.1, ((wr (s.2.2.2.2.1 + (1 : Int))), ()))))))))
    (ke (s.1, (s.2.1, (s.2.2.1, (s.2.2.2.1, (s.2.2.2.2.1, ())))))))
def r_spec_l03Find (N : Nat) (a0 : (List (Int × (Int × Int)))) (a1 : Int) (a2 : Int) : Option Int :=
  (iterK (r_spec_l03Find_L0 N) N (a1, (a2, (a0, ((((List.length a0) : Nat) : Int), ((0 : Int), ()))))) fun (_s1 : (Int × (Int × ((List (Int × (Int × Int))) × (Int × (Int × Unit)))))) =>
  (some (-(1 : Int))))
noncomputable def e_spec_l03Find (a : (List (Int × Int × Int)) × Int × Int × Unit) : Option Int := r_spec_l03Find N0 a.1 a.2.1 a.2.2.1
def r_spec_WeightBetween (c_spec_l03Find : ((List (Int × Int × Int)) × Int × Int × Unit → Option Int)) (_N : Nat) (a0 : (Int × (Int × (Int × (List (Int × (Int × Int))))))) (a1 : Int) (a2 : Int) : Option Int :=
  (Option.bind (c_spec_l03Find (a0.2.2.2, (a1, (a2, ())))) fun (x1 : Int) =>
  (cond (decide (x1 < (0 : Int)))
    (some (0 : Int))
    (cond (decide (a1 = a2))
      (some (0 : Int))
      (Option.bind (getI a0.2.2.2 x1) fun (x2 : (Int × (Int × Int))) =>
      (some x2.2.2)))))
noncomputable def e_spec_WeightBetween (a : (Int × Int × Int × List (Int × Int × Int)) × Int × Int × Unit) : Option Int := r_spec_WeightBetween e_spec_l03Find N0 a.1 a.2.1 a.2.2.1
def r_spec_WeightAt_L0 (_N : Nat) (s : (Int × (Int × ((List (Int × (Int × Int))) × (Int × (Int × Unit)))))) (kc ke : (Int × (Int × ((List (Int × (Int × Int))) × (Int × (Int × Unit))))) → Option Int) : Option Int :=
  (cond (decide (s.2.2.2.2.1 < s.2.2.2.1))
    (Option.bind (getI s.2.2.1 s.2.2.2.2.1) fun (x1 : (Int × (Int × Int))) =>
    (cond (decide (x1.1 = s.1))
      (kc (s.1, ((wr (s.2.1 + x1.2.2)), (s.2.2.1, (s.2.2.2.1, ((wr (s.2.2.2.2.1 + (1 : Int))), ()))))))
      (cond (decide (x1.2.1 = s.1))
        (kc (s.1, ((wr (s.2.1 + x1.2.2)), (s.2.2.1, (s.2.2.2.1, ((wr (s.2.2.2.2.1 + (1 : Int))), ()))))))
        (kc (s.1, (s.2.1, (s.2.2.1, (s.2.2.2.1, ((wr (s.2.2.2.2.1 + (1 : Int))), ())))))))))
    (ke (s.1, (s.2.1, (s.2.2.1, (s.2.2.2.1, (s.2.2.2.2.1, ())))))))
def r_spec_WeightAt (N : Nat) (a0 : (Int × (Int × (Int × (List (Int × (Int × Int))))))) (a1 : Int) : Option Int :=
  (iterK (r_spec_WeightAt_L0 N) N (a1, ((0 : Int), (a0.2.2.2, ((((List.length a0.2.2.2) : Nat) : Int), ((0 : Int), ()))))) fun (s1 : (Int × (Int × ((List (Int × (Int × Int))) × (Int × (Int × Unit)))))) =>
  (some s1.2.1))
noncomputable def e_spec_WeightAt (a : (Int × Int × Int × List (Int × Int × Int)) × Int × Unit) : Option Int := r_spec_WeightAt N0 a.1 a.2.1
def r_spec_l02Turn (_N : Nat) (a0 : Int) (a1 : Int) : Option (Int × Int) :=
  (cond (decide (a1 = (0 : Int)))
    none
    (some (a1, (Int.tmod a0 a1))))
noncomputable def e_spec_l02Turn (a : Int × Int × Unit) : Option (Int × Int) := r_spec_l02Turn N0 a.1 a.2.1
def r_spec_GcdOf_L0 (c_spec_l02Turn : (Int × Int × Unit → Option (Int × Int))) (_N : Nat) (s : (Int × (Int × Unit))) (kc ke : (Int × (Int × Unit)) → Option Int) : Option Int :=
  (cond (!(decide (s.2.1 = (0 : Int))))
    (Option.bind (c_spec_l02Turn (s.1, (s.2.1, ()))) fun (x1 : (Int × Int)) =>
    (kc (x1.1, (x1.2, ()))))
    (ke (s.1, (s.2.1, ()))))
def r_spec_GcdOf (c_spec_l02Turn : (Int × Int × Unit → Option (Int × Int))) (N : Nat) (a0 : Int) (a1 : Int) : Option Int :=
  (cond (decide (a0 < (-(9223372036854775807 : Int))))
    (some (0 : Int))
    (cond (decide (a1 < (-(9223372036854775807 : Int))))
      (some (0 : Int))
      (iterK (r_spec_GcdOf_L0 c_spec_l02Turn N) N ((@ite @Int ((wr ((0 : Int) - a0)) > a0) (@Int.decLt a0 (wr ((0 : Int) - a0))) (wr ((0 : Int) - a0)) a0), ((@ite @Int ((wr ((0 : Int) - a1)) > a1) (@Int.decLt a1 (wr ((0 : Int) - a1))) (wr ((0 : Int) - a1)) a1), ())) fun (s1 : (Int × (Int × Unit))) =>
      (some s1.1))))
noncomputable def e_spec_GcdOf (a : Int × Int × Unit) : Option Int := r_spec_GcdOf e_spec_l02Turn N0 a.1 a.2.1
def r_spec_LaplacianOf_L2 (_c_spec_NetOk : ((Int × Int × Int × List (Int × Int × Int)) × Unit → Option Bool)) (c_spec_WeightAt : ((Int × Int × Int × List (Int × Int × Int)) × Int × Unit → Option Int)) (c_spec_WeightBetween : ((Int × Int × Int × List (Int × Int × Int)) × Int × Int × Unit → Option Int)) (_N : Nat) (s : ((Int × (Int × (Int × (List (Int × (Int × Int)))))) × ((List (List Int)) × (Int × ((List Int) × (Int × Unit)))))) (kc ke : ((Int × (Int × (Int × (List (Int × (Int × Int)))))) × ((List (List Int)) × (Int × ((List Int) × (Int × Unit))))) → Option (List (List Int))) : Option (List (List Int)) :=
  (cond (decide (s.2.2.2.2.1 < s.1.1))
    (cond (decide (s.2.2.1 = s.2.2.2.2.1))
      (Option.bind (c_spec_WeightAt (s.1, (s.2.2.1, ()))) fun (x1 : Int) =>
      (cond (Nat.ble ((List.length s.2.2.2.1) + (List.length (x1 :: ([] : List Int)))) 17179869184)
        (kc (s.1, (s.2.1, (s.2.2.1, ((s.2.2.2.1 ++ (x1 :: ([] : List Int))), ((wr (s.2.2.2.2.1 + (1 : Int))), ()))))))
        none))
      (Option.bind (c_spec_WeightBetween (s.1, (s.2.2.1, (s.2.2.2.2.1, ())))) fun (x2 : Int) =>
      (cond (Nat.ble ((List.length s.2.2.2.1) + (List.length ((wr ((0 : Int) - x2)) :: ([] : List Int)))) 17179869184)
        (kc (s.1, (s.2.1, (s.2.2.1, ((s.2.2.2.1 ++ ((wr ((0 : Int) - x2)) :: ([] : List Int))), ((wr (s.2.2.2.2.1 + (1 : Int))), ()))))))
        none)))
    (ke (s.1, (s.2.1, (s.2.2.1, (s.2.2.2.1, (s.2.2.2.2.1, ())))))))
def r_spec_LaplacianOf_L0 (c_spec_NetOk : ((Int × Int × Int × List (Int × Int × Int)) × Unit → Option Bool)) (c_spec_WeightAt : ((Int × Int × Int × List (Int × Int × Int)) × Int × Unit → Option Int)) (c_spec_WeightBetween : ((Int × Int × Int × List (Int × Int × Int)) × Int × Int × Unit → Option Int)) (N : Nat) (s : ((Int × (Int × (Int × (List (Int × (Int × Int)))))) × ((List (List Int)) × (Int × Unit)))) (kc ke : ((Int × (Int × (Int × (List (Int × (Int × Int)))))) × ((List (List Int)) × (Int × Unit))) → Option (List (List Int))) : Option (List (List Int)) :=
  (cond (decide (s.2.2.1 < s.1.1))
    (iterK (r_spec_LaplacianOf_L2 c_spec_NetOk c_spec_WeightAt c_spec_WeightBetween N) N (s.1, (s.2.1, (s.2.2.1, (([] : List Int), ((0 : Int), ()))))) fun (s1 : ((Int × (Int × (Int × (List (Int × (Int × Int)))))) × ((List (List Int)) × (Int × ((List Int) × (Int × Unit)))))) =>
    (cond (Nat.ble ((List.length s1.2.1) + (List.length (s1.2.2.2.1 :: ([] : List (List Int))))) 17179869184)
      (kc (s1.1, ((s1.2.1 ++ (s1.2.2.2.1 :: ([] : List (List Int)))), ((wr (s1.2.2.1 + (1 : Int))), ()))))
      none))
    (ke (s.1, (s.2.1, (s.2.2.1, ())))))
def r_spec_LaplacianOf (c_spec_NetOk : ((Int × Int × Int × List (Int × Int × Int)) × Unit → Option Bool)) (c_spec_WeightAt : ((Int × Int × Int × List (Int × Int × Int)) × Int × Unit → Option Int)) (c_spec_WeightBetween : ((Int × Int × Int × List (Int × Int × Int)) × Int × Int × Unit → Option Int)) (N : Nat) (a0 : (Int × (Int × (Int × (List (Int × (Int × Int))))))) : Option (List (List Int)) :=
  (Option.bind (c_spec_NetOk (a0, ())) fun (x1 : Bool) =>
  (cond (!x1)
    (some ([] : List (List Int)))
    (iterK (r_spec_LaplacianOf_L0 c_spec_NetOk c_spec_WeightAt c_spec_WeightBetween N) N (a0, (([] : List (List Int)), ((0 : Int), ()))) fun (s2 : ((Int × (Int × (Int × (List (Int × (Int × Int)))))) × ((List (List Int)) × (Int × Unit)))) =>
    (some s2.2.1))))
noncomputable def e_spec_LaplacianOf (a : (Int × Int × Int × List (Int × Int × Int)) × Unit) : Option (List (List Int)) := r_spec_LaplacianOf e_spec_NetOk e_spec_WeightAt e_spec_WeightBetween N0 a.1
def r_spec_l06Inner_L0 (_N : Nat) (s : ((Int × (Int × (Int × (List (Int × (Int × Int)))))) × ((List Int) × (Int × Unit)))) (kc ke : ((Int × (Int × (Int × (List (Int × (Int × Int)))))) × ((List Int) × (Int × Unit))) → Option (List Int)) : Option (List Int) :=
  (cond (decide (s.2.2.1 < s.1.1))
    (cond (Nat.ble ((List.length s.2.1) + (List.length (s.2.2.1 :: ([] : List Int)))) 17179869184)
      (kc (s.1, ((s.2.1 ++ (s.2.2.1 :: ([] : List Int))), ((wr (s.2.2.1 + (1 : Int))), ()))))
      none)
    (ke (s.1, (s.2.1, (s.2.2.1, ())))))
def r_spec_l06Inner (N : Nat) (a0 : (Int × (Int × (Int × (List (Int × (Int × Int))))))) : Option (List Int) :=
  (iterK (r_spec_l06Inner_L0 N) N (a0, (([] : List Int), (a0.2.1, ()))) fun (s1 : ((Int × (Int × (Int × (List (Int × (Int × Int)))))) × ((List Int) × (Int × Unit)))) =>
  (some s1.2.1))
noncomputable def e_spec_l06Inner (a : (Int × Int × Int × List (Int × Int × Int)) × Unit) : Option (List Int) := r_spec_l06Inner N0 a.1
def r_spec_l04Det_L0 (c_spec_l04Det : ((List (List Int)) × (List Int) × (List Int) × Unit → Option Int)) (_N : Nat) (s : ((List (List Int)) × ((List Int) × ((List Int) × (Int × (Int × ((List Int) × (Int × (Int × Unit))))))))) (kc ke : ((List (List Int)) × ((List Int) × ((List Int) × (Int × (Int × ((List Int) × (Int × (Int × Unit)))))))) → Option Int) : Option Int :=
  (cond (decide (s.2.2.2.2.2.2.2.1 < s.2.2.2.2.2.2.1))
    (Option.bind (getI s.2.2.2.2.2.1 s.2.2.2.2.2.2.2.1) fun (x1 : Int) =>
    (Option.bind (getI s.2.1 (0 : Int)) fun (x2 : Int) =>
    (Option.bind (getI s.1 x2) fun (x3 : (List Int)) =>
    (Option.bind (getI x3 x1) fun (x4 : Int) =>
    (cond (!(decide (x4 = (0 : Int))))
      (cond (decide ((0 : Int) ≤ s.2.2.2.2.2.2.2.1))
        (cond (decide (s.2.2.2.2.2.2.2.1 ≤ (((List.length s.2.2.1) : Nat) : Int)))
          (cond (Nat.ble ((List.length ([] : List Int)) + (List.length (List.take ((Int.toNat s.2.2.2.2.2.2.2.1) - (Int.toNat (0 : Int))) (List.drop (Int.toNat (0 : Int)) s.2.2.1)))) 17179869184)
            (cond (decide ((0 : Int) ≤ (wr (s.2.2.2.2.2.2.2.1 + (1 : Int)))))
              (cond (decide ((wr (s.2.2.2.2.2.2.2.1 + (1 : Int))) ≤ (((List.length s.2.2.1) : Nat) : Int)))
                (cond (decide ((((List.length s.2.2.1) : Nat) : Int) ≤ (((List.length s.2.2.1) : Nat) : Int)))
                  (cond (Nat.ble ((List.length (([] : List Int) ++ (List.take ((Int.toNat s.2.2.2.2.2.2.2.1) - (Int.toNat (0 : Int))) (List.drop (Int.toNat (0 : Int)) s.2.2.1)))) + (List.length (List.take ((Int.toNat (((List.length s.2.2.1) : Nat) : Int)) - (Int.toNat (wr (s.2.2.2.2.2.2.2.1 + (1 : Int))))) (List.drop (Int.toNat (wr (s.2.2.2.2.2.2.2.1 + (1 : Int)))) s.2.2.1)))) 17179869184)
                    (cond (decide ((1 : Int) ≤ (((List.length s.2.1) : Nat) : Int)))
                      (cond (decide ((((List.length s.2.1) : Nat) : Int) ≤ (((List.length s.2.1) : Nat) : Int)))
                        (Option.bind (c_spec_l04Det (s.1, ((List.take ((Int.toNat (((List.length s.2.1) : Nat) : Int)) - (Int.toNat (1 : Int))) (List.drop (Int.toNat (1 : Int)) s.2.1)), (((([] : List Int) ++ (List.take ((Int.toNat s.2.2.2.2.2.2.2.1) - (Int.toNat (0 : Int))) (List.drop (Int.toNat (0 : Int)) s.2.2.1))) ++ (List.take ((Int.toNat (((List.length s.2.2.1) : Nat) : Int)) - (Int.toNat (wr (s.2.2.2.2.2.2.2.1 + (1 : Int))))) (List.drop (Int.toNat (wr (s.2.2.2.2.2.2.2.1 + (1 : Int)))) s.2.2.1))), ())))) fun (x5 : Int) =>
                        (kc (s.1, (s.2.1, (s.2.2.1, ((wr (s.2.2.2.1 + (wr ((wr (s.2.2.2.2.1 * x4)) * x5)))), ((wr ((0 : Int) - s.2.2.2.2.1)), (s.2.2.2.2.2.1, (s.2.2.2.2.2.2.1, ((wr (s.2.2.2.2.2.2.2.1 + (1 : Int))), ()))))))))))
                        none)
                      none)
                    none)
                  none)
                none)
              none)
            none)
          none)
        none)
      (kc (s.1, (s.2.1, (s.2.2.1, (s.2.2.2.1, ((wr ((0 : Int) - s.2.2.2.2.1)), (s.2.2.2.2.2.1, (s.2.2.2.2.2.2.1, ((wr (s.2.2.2.2.2.2.2.1 + (1 : Int))), ()))))))))))))))
    (ke (s.1, (s.2.1, (s.2.2.1, (s.2.2.2.1, (s.2.2.2.2.1, (s.2.2.2.2.2.1, (s.2.2.2.2.2.2.1, (s.2.2.2.2.2.2.2.1, ()))))))))))
def r_spec_l04Det (c_spec_l04Det : ((List (List Int)) × (List Int) × (List Int) × Unit → Option Int)) (N : Nat) (a0 : (List (List Int))) (a1 : (List Int)) (a2 : (List Int)) : Option Int :=
  (cond (decide ((((List.length a1) : Nat) : Int) = (0 : Int)))
    (some (1 : Int))
    (iterK (r_spec_l04Det_L0 c_spec_l04Det N) N (a0, (a1, (a2, ((0 : Int), ((1 : Int), (a2, ((((List.length a2) : Nat) : Int), ((0 : Int), ())))))))) fun (s1 : ((List (List Int)) × ((List Int) × ((List Int) × (Int × (Int × ((List Int) × (Int × (Int × Unit))))))))) =>
    (some s1.2.2.2.1)))
noncomputable def e_spec_l04Det_n : Nat → ((List (List Int)) × (List Int) × (List Int) × Unit) → Option Int
  | 0, _ => none
  | n + 1, a => r_spec_l04Det (e_spec_l04Det_n n) N0 a.1 a.2.1 a.2.2.1
noncomputable def e_spec_l04Det (a : (List (List Int)) × (List Int) × (List Int) × Unit) : Option Int := e_spec_l04Det_n N0 a
def r_spec_l06Down (c_spec_LaplacianOf : ((Int × Int × Int × List (Int × Int × Int)) × Unit → Option (List (List Int)))) (c_spec_l06Inner : ((Int × Int × Int × List (Int × Int × Int)) × Unit → Option (List Int))) (c_spec_l04Det : ((List (List Int)) × (List Int) × (List Int) × Unit → Option Int)) (_N : Nat) (a0 : (Int × (Int × (Int × (List (Int × (Int × Int))))))) : Option Int :=
  (Option.bind (c_spec_LaplacianOf (a0, ())) fun (x1 : (List (List Int))) =>
  (Option.bind (c_spec_l06Inner (a0, ())) fun (x2 : (List Int)) =>
  (Option.bind (c_spec_l06Inner (a0, ())) fun (x3 : (List Int)) =>
  (Option.bind (c_spec_l04Det (x1, (x2, (x3, ())))) fun (x4 : Int) =>
  (some x4)))))
noncomputable def e_spec_l06Down (a : (Int × Int × Int × List (Int × Int × Int)) × Unit) : Option Int := r_spec_l06Down e_spec_LaplacianOf e_spec_l06Inner e_spec_l04Det N0 a.1
def r_spec_l06Top (c_spec_l06Inner : ((Int × Int × Int × List (Int × Int × Int)) × Unit → Option (List Int))) (c_spec_LaplacianOf : ((Int × Int × Int × List (Int × Int × Int)) × Unit → Option (List (List Int)))) (c_spec_l04Det : ((List (List Int)) × (List Int) × (List Int) × Unit → Option Int)) (_N : Nat) (a0 : (Int × (Int × (Int × (List (Int × (Int × Int))))))) (a1 : Int) (a2 : Int) : Option Int :=
  (Option.bind (c_spec_l06Inner (a0, ())) fun (x1 : (List Int)) =>
  (Option.bind (c_spec_LaplacianOf (a0, ())) fun (x2 : (List (List Int))) =>
  (cond (Nat.ble ((List.length (a1 :: ([] : List Int))) + (List.length x1)) 17179869184)
    (cond (Nat.ble ((List.length (a2 :: ([] : List Int))) + (List.length x1)) 17179869184)
      (Option.bind (c_spec_l04Det (x2, (((a1 :: ([] : List Int)) ++ x1), (((a2 :: ([] : List Int)) ++ x1), ())))) fun (x3 : Int) =>
      (some x3))
      none)
    none)))
noncomputable def e_spec_l06Top (a : (Int × Int × Int × List (Int × Int × Int)) × Int × Int × Unit) : Option Int := r_spec_l06Top e_spec_l06Inner e_spec_LaplacianOf e_spec_l04Det N0 a.1 a.2.1 a.2.2.1
def r_spec_RatioOk (c_spec_l01In : (Int × Int × Int × Unit → Option Bool)) (c_spec_GcdOf : (Int × Int × Unit → Option Int)) (_N : Nat) (a0 : (Int × Int)) : Option Bool :=
  (Option.bind (c_spec_l01In (a0.2, ((1 : Int), ((1000000000000000 : Int), ())))) fun (x1 : Bool) =>
  (cond x1
    (Option.bind (c_spec_l01In (a0.1, ((-(1000000000000000000 : Int)), ((1000000000000000000 : Int), ())))) fun (x2 : Bool) =>
    (cond x2
      (Option.bind (c_spec_GcdOf (a0.1, (a0.2, ()))) fun (x3 : Int) =>
      (some (decide (x3 = (1 : Int)))))
      (some false)))
    (some false)))
noncomputable def e_spec_RatioOk (a : (Int × Int) × Unit) : Option Bool := r_spec_RatioOk e_spec_l01In e_spec_GcdOf N0 a.1
def r_spec_RatioOf (c_spec_GcdOf : (Int × Int × Unit → Option Int)) (c_spec_RatioOk : ((Int × Int) × Unit → Option Bool)) (_N : Nat) (a0 : Int) (a1 : Int) : Option (Int × Int) :=
  (Option.bind (c_spec_GcdOf (a0, (a1, ()))) fun (x1 : Int) =>
  (cond (decide (x1 = (0 : Int)))
    (some ((0 : Int), (0 : Int)))
    (cond (decide (a1 = (0 : Int)))
      (some ((0 : Int), (0 : Int)))
      (cond (decide (a1 < (0 : Int)))
        (cond (decide ((wr ((0 : Int) - x1)) = (0 : Int)))
          none
          (cond (decide ((wr ((0 : Int) - x1)) = (0 : Int)))
            none
            (Option.bind (c_spec_RatioOk (((wr (Int.tdiv a0 (wr ((0 : Int) - x1)))), (wr (Int.tdiv a1 (wr ((0 : Int) - x1))))), ())) fun (x2 : Bool) =>
            (cond (!x2)
              (some ((0 : Int), (0 : Int)))
              (some ((wr (Int.tdiv a0 (wr ((0 : Int) - x1)))), (wr (Int.tdiv a1 (wr ((0 : Int) - x1))))))))))
        (cond (decide (x1 = (0 : Int)))
          none
          (cond (decide (x1 = (0 : Int)))
            none
            (Option.bind (c_spec_RatioOk (((wr (Int.tdiv a0 x1)), (wr (Int.tdiv a1 x1))), ())) fun (x3 : Bool) =>
            (cond (!x3)
              (some ((0 : Int), (0 : Int)))
              (some ((wr (Int.tdiv a0 x1)), (wr (Int.tdiv a1 x1))))))))))))
noncomputable def e_spec_RatioOf (a : Int × Int × Unit) : Option (Int × Int) := r_spec_RatioOf e_spec_GcdOf e_spec_RatioOk N0 a.1 a.2.1
def r_spec_ResponseOf_L2 (_c_spec_NetOk : ((Int × Int × Int × List (Int × Int × Int)) × Unit → Option Bool)) (_c_spec_l06Down : ((Int × Int × Int × List (Int × Int × Int)) × Unit → Option Int)) (c_spec_l06Top : ((Int × Int × Int × List (Int × Int × Int)) × Int × Int × Unit → Option Int)) (c_spec_RatioOf : (Int × Int × Unit → Option (Int × Int))) (_N : Nat) (s : ((Int × (Int × (Int × (List (Int × (Int × Int)))))) × (Int × ((List (List (Int × Int))) × (Int × ((List (Int × Int)) × (Int × Unit))))))) (kc ke : ((Int × (Int × (Int × (List (Int × (Int × Int)))))) × (Int × ((List (List (Int × Int))) × (Int × ((List (Int × Int)) × (Int × Unit)))))) → Option ((List (List (Int × Int))) × Bool)) : Option ((List (List (Int × Int))) × Bool) :=
  (cond (decide (s.2.2.2.2.2.1 < s.1.2.1))
    (Option.bind (c_spec_l06Top (s.1, (s.2.2.2.1, (s.2.2.2.2.2.1, ())))) fun (x1 : Int) =>
    (Option.bind (c_spec_RatioOf (x1, (s.2.1, ()))) fun (x2 : (Int × Int)) =>
    (cond (Nat.ble ((List.length s.2.2.2.2.1) + (List.length (x2 :: ([] : List (Int × Int))))) 17179869184)
      (kc (s.1, (s.2.1, (s.2.2.1, (s.2.2.2.1, ((s.2.2.2.2.1 ++ (x2 :: ([] : List (Int × Int)))), ((wr (s.2.2.2.2.2.1 + (1 : Int))), ())))))))
      none)))
    (ke (s.1, (s.2.1, (s.2.2.1, (s.2.2.2.1, (s.2.2.2.2.1, (s.2.2.2.2.2.1, ()))))))))
def r_spec_ResponseOf_L0 (c_spec_NetOk : ((Int × Int × Int × List (Int × Int × Int)) × Unit → Option Bool)) (c_spec_l06Down : ((Int × Int × Int × List (Int × Int × Int)) × Unit → Option Int)) (c_spec_l06Top : ((Int × Int × Int × List (Int × Int × Int)) × Int × Int × Unit → Option Int)) (c_spec_RatioOf : (Int × Int × Unit → Option (Int × Int))) (N : Nat) (s : ((Int × (Int × (Int × (List (Int × (Int × Int)))))) × (Int × ((List (List (Int × Int))) × (Int × Unit))))) (kc ke : ((Int × (Int × (Int × (List (Int × (Int × Int)))))) × (Int × ((List (List (Int × Int))) × (Int × Unit)))) → Option ((List (List (Int × Int))) × Bool)) : Option ((List (List (Int × Int))) × Bool) :=
  (cond (decide (s.2.2.2.1 < s.1.2.1))
    (iterK (r_spec_ResponseOf_L2 c_spec_NetOk c_spec_l06Down c_spec_l06Top c_spec_RatioOf N) N (s.1, (s.2.1, (s.2.2.1, (s.2.2.2.1, (([] : List (Int × Int)), ((0 : Int), ())))))) fun (s1 : ((Int × (Int × (Int × (List (Int × (Int × Int)))))) × (Int × ((List (List (Int × Int))) × (Int × ((List (Int × Int)) × (Int × Unit))))))) =>
    (cond (Nat.ble ((List.length s1.2.2.1) + (List.length (s1.2.2.2.2.1 :: ([] : List (List (Int × Int)))))) 17179869184)
      (kc (s1.1, (s1.2.1, ((s1.2.2.1 ++ (s1.2.2.2.2.1 :: ([] : List (List (Int × Int))))), ((wr (s1.2.2.2.1 + (1 : Int))), ())))))
      none))
    (ke (s.1, (s.2.1, (s.2.2.1, (s.2.2.2.1, ()))))))
def r_spec_ResponseOf (c_spec_NetOk : ((Int × Int × Int × List (Int × Int × Int)) × Unit → Option Bool)) (c_spec_l06Down : ((Int × Int × Int × List (Int × Int × Int)) × Unit → Option Int)) (c_spec_l06Top : ((Int × Int × Int × List (Int × Int × Int)) × Int × Int × Unit → Option Int)) (c_spec_RatioOf : (Int × Int × Unit → Option (Int × Int))) (N : Nat) (a0 : (Int × (Int × (Int × (List (Int × (Int × Int))))))) : Option ((List (List (Int × Int))) × Bool) :=
  (Option.bind (c_spec_NetOk (a0, ())) fun (x1 : Bool) =>
  (cond (!x1)
    (some (([] : List (List (Int × Int))), false))
    (Option.bind (c_spec_l06Down (a0, ())) fun (x2 : Int) =>
    (iterK (r_spec_ResponseOf_L0 c_spec_NetOk c_spec_l06Down c_spec_l06Top c_spec_RatioOf N) N (a0, ((wr (a0.2.2.1 * x2)), (([] : List (List (Int × Int))), ((0 : Int), ())))) fun (s3 : ((Int × (Int × (Int × (List (Int × (Int × Int)))))) × (Int × ((List (List (Int × Int))) × (Int × Unit))))) =>
    (some (s3.2.2.1, true))))))
noncomputable def e_spec_ResponseOf (a : (Int × Int × Int × List (Int × Int × Int)) × Unit) : Option ((List (List (Int × Int))) × Bool) := r_spec_ResponseOf e_spec_NetOk e_spec_l06Down e_spec_l06Top e_spec_RatioOf N0 a.1
def r_spec_l05Product (_N : Nat) (a0 : Int) (a1 : Int) : Option (Int × Bool) :=
  (cond (decide (a0 = (0 : Int)))
    (some ((0 : Int), true))
    (cond (decide (a1 = (0 : Int)))
      (some ((0 : Int), true))
      (cond (decide ((@ite @Int ((wr ((0 : Int) - a1)) > a1) (@Int.decLt a1 (wr ((0 : Int) - a1))) (wr ((0 : Int) - a1)) a1) = (0 : Int)))
        none
        (cond (decide ((@ite @Int ((wr ((0 : Int) - a0)) > a0) (@Int.decLt a0 (wr ((0 : Int) - a0))) (wr ((0 : Int) - a0)) a0) > (wr (Int.tdiv (1000000000000000000 : Int) (@ite @Int ((wr ((0 : Int) - a1)) > a1) (@Int.decLt a1 (wr ((0 : Int) - a1))) (wr ((0 : Int) - a1)) a1)))))
          (some ((0 : Int), false))
          (some ((wr (a0 * a1)), true))))))
noncomputable def e_spec_l05Product (a : Int × Int × Unit) : Option (Int × Bool) := r_spec_l05Product N0 a.1 a.2.1
def r_spec_l05Combine (c_spec_RatioOk : ((Int × Int) × Unit → Option Bool)) (c_spec_l05Product : (Int × Int × Unit → Option (Int × Bool))) (c_spec_RatioOf : (Int × Int × Unit → Option (Int × Int))) (_N : Nat) (a0 : (Int × Int)) (a1 : (Int × Int)) (a2 : Int) : Option (Int × Int) :=
  (Option.bind (c_spec_RatioOk (a0, ())) fun (x1 : Bool) =>
  (cond (!x1)
    (some ((0 : Int), (0 : Int)))
    (Option.bind (c_spec_RatioOk (a1, ())) fun (x2 : Bool) =>
    (cond (!x2)
      (some ((0 : Int), (0 : Int)))
      (Option.bind (c_spec_l05Product (a0.1, (a1.2, ()))) fun (x3 : (Int × Bool)) =>
      (Option.bind (c_spec_l05Product (a1.1, (a0.2, ()))) fun (x4 : (Int × Bool)) =>
      (Option.bind (c_spec_l05Product (a0.2, (a1.2, ()))) fun (x5 : (Int × Bool)) =>
      (Option.bind (c_spec_l05Product (a0.1, (a1.1, ()))) fun (x6 : (Int × Bool)) =>
      (cond (!x3.2)
        (some ((0 : Int), (0 : Int)))
        (cond (!x4.2)
          (some ((0 : Int), (0 : Int)))
          (cond (!x5.2)
            (some ((0 : Int), (0 : Int)))
            (cond (!x6.2)
              (some ((0 : Int), (0 : Int)))
              (Option.bind (c_spec_RatioOf ((wr (x3.1 + (wr (a2 * x4.1)))), (x5.1, ()))) fun (x7 : (Int × Int)) =>
              (some x7))))))))))))))
noncomputable def e_spec_l05Combine (a : (Int × Int) × (Int × Int) × Int × Unit) : Option (Int × Int) := r_spec_l05Combine e_spec_RatioOk e_spec_l05Product e_spec_RatioOf N0 a.1 a.2.1 a.2.2.1
def r_spec_RatioSum (c_spec_l05Combine : ((Int × Int) × (Int × Int) × Int × Unit → Option (Int × Int))) (_N : Nat) (a0 : (Int × Int)) (a1 : (Int × Int)) : Option (Int × Int) :=
  (Option.bind (c_spec_l05Combine (a0, (a1, ((1 : Int), ())))) fun (x1 : (Int × Int)) =>
  (some x1))
noncomputable def e_spec_RatioSum (a : (Int × Int) × (Int × Int) × Unit) : Option (Int × Int) := r_spec_RatioSum e_spec_l05Combine N0 a.1 a.2.1
def r_spec_IsResponse_L4 (_c_spec_l01In : (Int × Int × Int × Unit → Option Bool)) (c_spec_RatioOk : ((Int × Int) × Unit → Option Bool)) (c_spec_RatioSum : ((Int × Int) × (Int × Int) × Unit → Option (Int × Int))) (_N : Nat) (s : ((List (List (Int × Int))) × (Int × ((Int × Int) × ((List (List (Int × Int))) × (Int × (Int × ((List (Int × Int)) × (Int × (Int × Unit)))))))))) (kc ke : ((List (List (Int × Int))) × (Int × ((Int × Int) × ((List (List (Int × Int))) × (Int × (Int × ((List (Int × Int)) × (Int × (Int × Unit))))))))) → Option Bool) : Option Bool :=
  (cond (decide (s.2.2.2.2.2.2.2.2.1 < s.2.2.2.2.2.2.2.1))
    (Option.bind (getI s.2.2.2.2.2.2.1 s.2.2.2.2.2.2.2.2.1) fun (x1 : (Int × Int)) =>
    (Option.bind (c_spec_RatioOk (x1, ())) fun (x2 : Bool) =>
    (cond (!x2)
      (some false)
      (Option.bind (getI s.1 s.2.2.2.2.2.2.2.2.1) fun (x3 : (List (Int × Int))) =>
      (Option.bind (getI x3 s.2.1) fun (x4 : (Int × Int)) =>
      (cond (!((intEq x1.1 x4.1) && (intEq x1.2 x4.2)))
        (some false)
        (cond (!(decide (s.2.1 = s.2.2.2.2.2.2.2.2.1)))
          (cond (decide (x1.1 > (0 : Int)))
            (some false)
            (Option.bind (c_spec_RatioSum (s.2.2.1, (x1, ()))) fun (x5 : (Int × Int)) =>
            (kc (s.1, (s.2.1, (x5, (s.2.2.2.1, (s.2.2.2.2.1, (s.2.2.2.2.2.1, (s.2.2.2.2.2.2.1, (s.2.2.2.2.2.2.2.1, ((wr (s.2.2.2.2.2.2.2.2.1 + (1 : Int))), ()))))))))))))
          (Option.bind (c_spec_RatioSum (s.2.2.1, (x1, ()))) fun (x6 : (Int × Int)) =>
          (kc (s.1, (s.2.1, (x6, (s.2.2.2.1, (s.2.2.2.2.1, (s.2.2.2.2.2.1, (s.2.2.2.2.2.2.1, (s.2.2.2.2.2.2.2.1, ((wr (s.2.2.2.2.2.2.2.2.1 + (1 : Int))), ()))))))))))))))))))
    (ke (s.1, (s.2.1, (s.2.2.1, (s.2.2.2.1, (s.2.2.2.2.1, (s.2.2.2.2.2.1, (s.2.2.2.2.2.2.1, (s.2.2.2.2.2.2.2.1, (s.2.2.2.2.2.2.2.2.1, ())))))))))))
def r_spec_IsResponse_L2 (c_spec_l01In : (Int × Int × Int × Unit → Option Bool)) (c_spec_RatioOk : ((Int × Int) × Unit → Option Bool)) (c_spec_RatioSum : ((Int × Int) × (Int × Int) × Unit → Option (Int × Int))) (N : Nat) (s : ((List (List (Int × Int))) × ((List (List (Int × Int))) × (Int × (Int × Unit))))) (kc ke : ((List (List (Int × Int))) × ((List (List (Int × Int))) × (Int × (Int × Unit)))) → Option Bool) : Option Bool :=
  (cond (decide (s.2.2.2.1 < s.2.2.1))
    (Option.bind (getI s.2.1 s.2.2.2.1) fun (x1 : (List (Int × Int))) =>
    (iterK (r_spec_IsResponse_L4 c_spec_l01In c_spec_RatioOk c_spec_RatioSum N) N (s.1, (s.2.2.2.1, (((0 : Int), (1 : Int)), (s.2.1, (s.2.2.1, (s.2.2.2.1, (x1, ((((List.length x1) : Nat) : Int), ((0 : Int), ()))))))))) fun (s2 : ((List (List (Int × Int))) × (Int × ((Int × Int) × ((List (List (Int × Int))) × (Int × (Int × ((List (Int × Int)) × (Int × (Int × Unit)))))))))) =>
    (cond (!(decide (s2.2.2.1.1 = (0 : Int))))
      (some false)
      (cond (!(decide (s2.2.2.1.2 = (1 : Int))))
        (some false)
        (kc (s2.1, (s2.2.2.2.1, (s2.2.2.2.2.1, ((wr (s2.2.2.2.2.2.1 + (1 : Int))), ())))))))))
    (ke (s.1, (s.2.1, (s.2.2.1, (s.2.2.2.1, ()))))))
def r_spec_IsResponse_L0 (_c_spec_l01In : (Int × Int × Int × Unit → Option Bool)) (_c_spec_RatioOk : ((Int × Int) × Unit → Option Bool)) (_c_spec_RatioSum : ((Int × Int) × (Int × Int) × Unit → Option (Int × Int))) (_N : Nat) (s : ((List (List (Int × Int))) × ((List (List (Int × Int))) × (Int × (Int × Unit))))) (kc ke : ((List (List (Int × Int))) × ((List (List (Int × Int))) × (Int × (Int × Unit)))) → Option Bool) : Option Bool :=
  (cond (decide (s.2.2.2.1 < s.2.2.1))
    (Option.bind (getI s.2.1 s.2.2.2.1) fun (x1 : (List (Int × Int))) =>
    (cond (!(decide ((((List.length x1) : Nat) : Int) = (((List.length s.1) : Nat) : Int))))
      (some false)
      (kc (s.1, (s.2.1, (s.2.2.1, ((wr (s.2.2.2.1 + (1 : Int))), ())))))))
    (ke (s.1, (s.2.1, (s.2.2.1, (s.2.2.2.1, ()))))))
def r_spec_IsResponse (c_spec_l01In : (Int × Int × Int × Unit → Option Bool)) (c_spec_RatioOk : ((Int × Int) × Unit → Option Bool)) (c_spec_RatioSum : ((Int × Int) × (Int × Int) × Unit → Option (Int × Int))) (N : Nat) (a0 : (List (List (Int × Int)))) : Option Bool :=
  (Option.bind (c_spec_l01In ((((List.length a0) : Nat) : Int), ((1 : Int), ((5 : Int), ())))) fun (x1 : Bool) =>
  (cond (!x1)
    (some false)
    (iterK (r_spec_IsResponse_L0 c_spec_l01In c_spec_RatioOk c_spec_RatioSum N) N (a0, (a0, ((((List.length a0) : Nat) : Int), ((0 : Int), ())))) fun (s2 : ((List (List (Int × Int))) × ((List (List (Int × Int))) × (Int × (Int × Unit))))) =>
    (iterK (r_spec_IsResponse_L2 c_spec_l01In c_spec_RatioOk c_spec_RatioSum N) N (s2.1, (s2.1, ((((List.length s2.1) : Nat) : Int), ((0 : Int), ())))) fun (_s3 : ((List (List (Int × Int))) × ((List (List (Int × Int))) × (Int × (Int × Unit))))) =>
    (some true)))))
noncomputable def e_spec_IsResponse (a : (List (List (Int × Int))) × Unit) : Option Bool := r_spec_IsResponse e_spec_l01In e_spec_RatioOk e_spec_RatioSum N0 a.1
def r_spec_l05Fits (c_spec_RatioOk : ((Int × Int) × Unit → Option Bool)) (c_spec_l05Product : (Int × Int × Unit → Option (Int × Bool))) (_N : Nat) (a0 : (Int × Int)) (a1 : (Int × Int)) : Option Bool :=
  (Option.bind (c_spec_RatioOk (a0, ())) fun (x1 : Bool) =>
  (cond (!x1)
    (some false)
    (Option.bind (c_spec_RatioOk (a1, ())) fun (x2 : Bool) =>
    (cond (!x2)
      (some false)
      (Option.bind (c_spec_l05Product (a0.1, (a1.2, ()))) fun (x3 : (Int × Bool)) =>
      (Option.bind (c_spec_l05Product (a1.1, (a0.2, ()))) fun (x4 : (Int × Bool)) =>
      (Option.bind (c_spec_l05Product (a0.2, (a1.2, ()))) fun (x5 : (Int × Bool)) =>
      (Option.bind (c_spec_l05Product (a0.1, (a1.1, ()))) fun (x6 : (Int × Bool)) =>
      (cond x3.2
        (cond x4.2
          (cond x5.2
            (some x6.2)
            (some false))
          (some false))
        (some false))))))))))
noncomputable def e_spec_l05Fits (a : (Int × Int) × (Int × Int) × Unit) : Option Bool := r_spec_l05Fits e_spec_RatioOk e_spec_l05Product N0 a.1 a.2.1
def r_spec_RatioTimes (c_spec_l05Fits : ((Int × Int) × (Int × Int) × Unit → Option Bool)) (c_spec_RatioOf : (Int × Int × Unit → Option (Int × Int))) (_N : Nat) (a0 : (Int × Int)) (a1 : (Int × Int)) : Option (Int × Int) :=
  (Option.bind (c_spec_l05Fits (a0, (a1, ()))) fun (x1 : Bool) =>
  (cond (!x1)
    (some ((0 : Int), (0 : Int)))
    (Option.bind (c_spec_RatioOf ((wr (a0.1 * a1.1)), ((wr (a0.2 * a1.2)), ()))) fun (x2 : (Int × Int)) =>
    (some x2))))
noncomputable def e_spec_RatioTimes (a : (Int × Int) × (Int × Int) × Unit) : Option (Int × Int) := r_spec_RatioTimes e_spec_l05Fits e_spec_RatioOf N0 a.1 a.2.1
def r_spec_l08Cross (c_spec_RatioTimes : ((Int × Int) × (Int × Int) × Unit → Option (Int × Int))) (c_spec_RatioOk : ((Int × Int) × Unit → Option Bool)) (_N : Nat) (a0 : (List (List (Int × Int)))) (a1 : Int) (a2 : Int) (a3 : Int) (a4 : Int) : Option Bool :=
  (Option.bind (getI a0 a1) fun (x1 : (List (Int × Int))) =>
  (Option.bind (getI x1 a2) fun (x2 : (Int × Int)) =>
  (Option.bind (getI a0 a3) fun (x3 : (List (Int × Int))) =>
  (Option.bind (getI x3 a4) fun (x4 : (Int × Int)) =>
  (Option.bind (c_spec_RatioTimes (x2, (x4, ()))) fun (x5 : (Int × Int)) =>
  (Option.bind (getI a0 a1) fun (x6 : (List (Int × Int))) =>
  (Option.bind (getI x6 a4) fun (x7 : (Int × Int)) =>
  (Option.bind (getI a0 a3) fun (x8 : (List (Int × Int))) =>
  (Option.bind (getI x8 a2) fun (x9 : (Int × Int)) =>
  (Option.bind (c_spec_RatioTimes (x7, (x9, ()))) fun (x10 : (Int × Int)) =>
  (cond ((intEq x5.1 x10.1) && (intEq x5.2 x10.2))
    (Option.bind (c_spec_RatioOk (x5, ())) fun (x11 : Bool) =>
    (some x11))
    (some false))))))))))))
noncomputable def e_spec_l08Cross (a : (List (List (Int × Int))) × Int × Int × Int × Int × Unit) : Option Bool := r_spec_l08Cross e_spec_RatioTimes e_spec_RatioOk N0 a.1 a.2.1 a.2.2.1 a.2.2.2.1 a.2.2.2.2.1
def r_spec_IsStarMatrix_L0 (_c_spec_IsResponse : ((List (List (Int × Int))) × Unit → Option Bool)) (c_spec_l08Cross : ((List (List (Int × Int))) × Int × Int × Int × Int × Unit → Option Bool)) (_N : Nat) (s : ((List (List (Int × Int))) × (Int × (Int × Unit)))) (kc ke : ((List (List (Int × Int))) × (Int × (Int × Unit))) → Option Bool) : Option Bool :=
  (cond (decide (s.2.2.1 < (wr ((wr ((wr (s.2.1 * s.2.1)) * s.2.1)) * s.2.1))))
    (cond (decide (s.2.1 = (0 : Int)))
      none
      (cond (decide (s.2.1 = (0 : Int)))
        none
        (cond (decide (s.2.1 = (0 : Int)))
          none
          (cond (decide (s.2.1 = (0 : Int)))
            none
            (cond (decide (s.2.1 = (0 : Int)))
              none
              (cond (decide (s.2.1 = (0 : Int)))
                none
                (cond (decide (s.2.1 = (0 : Int)))
                  none
                  (cond (decide (s.2.1 = (0 : Int)))
                    none
                    (cond (decide (s.2.1 = (0 : Int)))
                      none
                      (Option.bind (getI s.1 (Int.tmod s.2.2.1 s.2.1)) fun (x1 : (List (Int × Int))) =>
                      (Option.bind (getI x1 (Int.tmod (wr (Int.tdiv s.2.2.1 s.2.1)) s.2.1)) fun (x2 : (Int × Int)) =>
                      (cond (decide (x2.1 = (0 : Int)))
                        (some false)
                        (cond (!(decide ((Int.tmod s.2.2.1 s.2.1) = (Int.tmod (wr (Int.tdiv s.2.2.1 s.2.1)) s.2.1))))
                          (cond (!(decide ((Int.tmod s.2.2.1 s.2.1) = (Int.tmod (wr (Int.tdiv (wr (Int.tdiv s.2.2.1 s.2.1)) s.2.1)) s.2.1))))
                            (cond (!(decide ((Int.tmod s.2.2.1 s.2.1) = (wr (Int.tdiv (wr (Int.tdiv (wr (Int.tdiv s.2.2.1 s.2.1)) s.2.1)) s.2.1)))))
                              (cond (!(decide ((Int.tmod (wr (Int.tdiv s.2.2.1 s.2.1)) s.2.1) = (Int.tmod (wr (Int.tdiv (wr (Int.tdiv s.2.2.1 s.2.1)) s.2.1)) s.2.1))))
                                (cond (!(decide ((Int.tmod (wr (Int.tdiv s.2.2.1 s.2.1)) s.2.1) = (wr (Int.tdiv (wr (Int.tdiv (wr (Int.tdiv s.2.2.1 s.2.1)) s.2.1)) s.2.1)))))
                                  (cond (!(decide ((Int.tmod (wr (Int.tdiv (wr (Int.tdiv s.2.2.1 s.2.1)) s.2.1)) s.2.1) = (wr (Int.tdiv (wr (Int.tdiv (wr (Int.tdiv s.2.2.1 s.2.1)) s.2.1)) s.2.1)))))
                                    (Option.bind (c_spec_l08Cross (s.1, ((Int.tmod s.2.2.1 s.2.1), ((Int.tmod (wr (Int.tdiv s.2.2.1 s.2.1)) s.2.1), ((Int.tmod (wr (Int.tdiv (wr (Int.tdiv s.2.2.1 s.2.1)) s.2.1)) s.2.1), ((wr (Int.tdiv (wr (Int.tdiv (wr (Int.tdiv s.2.2.1 s.2.1)) s.2.1)) s.2.1)), ())))))) fun (x3 : Bool) =>
                                    (cond (!x3)
                                      (some false)
                                      (kc (s.1, (s.2.1, ((wr (s.2.2.1 + (1 : Int))), ()))))))
                                    (kc (s.1, (s.2.1, ((wr (s.2.2.1 + (1 : Int))), ())))))
                                  (kc (s.1, (s.2.1, ((wr (s.2.2.1 + (1 : Int))), ())))))
                                (kc (s.1, (s.2.1, ((wr (s.2.2.1 + (1 : Int))), ())))))
                              (kc (s.1, (s.2.1, ((wr (s.2.2.1 + (1 : Int))), ())))))
                            (kc (s.1, (s.2.1, ((wr (s.2.2.1 + (1 : Int))), ())))))
                          (kc (s.1, (s.2.1, ((wr (s.2.2.1 + (1 : Int))), ())))))))))))))))))
    (ke (s.1, (s.2.1, (s.2.2.1, ())))))
def r_spec_IsStarMatrix (c_spec_IsResponse : ((List (List (Int × Int))) × Unit → Option Bool)) (c_spec_l08Cross : ((List (List (Int × Int))) × Int × Int × Int × Int × Unit → Option Bool)) (N : Nat) (a0 : (List (List (Int × Int)))) : Option Bool :=
  (Option.bind (c_spec_IsResponse (a0, ())) fun (x1 : Bool) =>
  (cond (!x1)
    (some false)
    (cond (decide ((((List.length a0) : Nat) : Int) < (3 : Int)))
      (some false)
      (iterK (r_spec_IsStarMatrix_L0 c_spec_IsResponse c_spec_l08Cross N) N (a0, ((((List.length a0) : Nat) : Int), ((0 : Int), ()))) fun (_s2 : ((List (List (Int × Int))) × (Int × (Int × Unit)))) =>
      (some true)))))
noncomputable def e_spec_IsStarMatrix (a : (List (List (Int × Int))) × Unit) : Option Bool := r_spec_IsStarMatrix e_spec_IsResponse e_spec_l08Cross N0 a.1
def r_spec_RatioInverse (c_spec_RatioOk : ((Int × Int) × Unit → Option Bool)) (c_spec_RatioOf : (Int × Int × Unit → Option (Int × Int))) (_N : Nat) (a0 : (Int × Int)) : Option (Int × Int) :=
  (Option.bind (c_spec_RatioOk (a0, ())) fun (x1 : Bool) =>
  (cond (!x1)
    (some ((0 : Int), (0 : Int)))
    (Option.bind (c_spec_RatioOf (a0.2, (a0.1, ()))) fun (x2 : (Int × Int)) =>
    (some x2))))
noncomputable def e_spec_RatioInverse (a : (Int × Int) × Unit) : Option (Int × Int) := r_spec_RatioInverse e_spec_RatioOk e_spec_RatioOf N0 a.1
def r_spec_RatioDiff (c_spec_l05Combine : ((Int × Int) × (Int × Int) × Int × Unit → Option (Int × Int))) (_N : Nat) (a0 : (Int × Int)) (a1 : (Int × Int)) : Option (Int × Int) :=
  (Option.bind (c_spec_l05Combine (a0, (a1, ((-(1 : Int)), ())))) fun (x1 : (Int × Int)) =>
  (some x1))
noncomputable def e_spec_RatioDiff (a : (Int × Int) × (Int × Int) × Unit) : Option (Int × Int) := r_spec_RatioDiff e_spec_l05Combine N0 a.1 a.2.1
def r_spec_l08Weight (c_spec_RatioTimes : ((Int × Int) × (Int × Int) × Unit → Option (Int × Int))) (c_spec_RatioInverse : ((Int × Int) × Unit → Option (Int × Int))) (c_spec_RatioDiff : ((Int × Int) × (Int × Int) × Unit → Option (Int × Int))) (_N : Nat) (a0 : (List (List (Int × Int)))) (a1 : Int) : Option (Int × Int) :=
  (cond (decide (a1 = (0 : Int)))
    (cond (decide ((wr ((1 : Int) + (1 : Int))) = a1))
      (Option.bind (getI a0 a1) fun (x1 : (List (Int × Int))) =>
      (Option.bind (getI x1 (1 : Int)) fun (x2 : (Int × Int)) =>
      (Option.bind (getI a0 a1) fun (x3 : (List (Int × Int))) =>
      (Option.bind (getI x3 (wr ((wr ((1 : Int) + (1 : Int))) + (1 : Int)))) fun (x4 : (Int × Int)) =>
      (Option.bind (c_spec_RatioTimes (x2, (x4, ()))) fun (x5 : (Int × Int)) =>
      (Option.bind (getI a0 a1) fun (x6 : (List (Int × Int))) =>
      (Option.bind (getI x6 a1) fun (x7 : (Int × Int)) =>
      (Option.bind (getI a0 (1 : Int)) fun (x8 : (List (Int × Int))) =>
      (Option.bind (getI x8 (wr ((wr ((1 : Int) + (1 : Int))) + (1 : Int)))) fun (x9 : (Int × Int)) =>
      (Option.bind (c_spec_RatioInverse (x9, ())) fun (x10 : (Int × Int)) =>
      (Option.bind (c_spec_RatioTimes (x5, (x10, ()))) fun (x11 : (Int × Int)) =>
      (Option.bind (c_spec_RatioDiff (x7, (x11, ()))) fun (x12 : (Int × Int)) =>
      (some x12)))))))))))))
      (Option.bind (getI a0 a1) fun (x13 : (List (Int × Int))) =>
      (Option.bind (getI x13 (1 : Int)) fun (x14 : (Int × Int)) =>
      (Option.bind (getI a0 a1) fun (x15 : (List (Int × Int))) =>
      (Option.bind (getI x15 (wr ((1 : Int) + (1 : Int)))) fun (x16 : (Int × Int)) =>
      (Option.bind (c_spec_RatioTimes (x14, (x16, ()))) fun (x17 : (Int × Int)) =>
      (Option.bind (getI a0 a1) fun (x18 : (List (Int × Int))) =>
      (Option.bind (getI x18 a1) fun (x19 : (Int × Int)) =>
      (Option.bind (getI a0 (1 : Int)) fun (x20 : (List (Int × Int))) =>
      (Option.bind (getI x20 (wr ((1 : Int) + (1 : Int)))) fun (x21 : (Int × Int)) =>
      (Option.bind (c_spec_RatioInverse (x21, ())) fun (x22 : (Int × Int)) =>
      (Option.bind (c_spec_RatioTimes (x17, (x22, ()))) fun (x23 : (Int × Int)) =>
      (Option.bind (c_spec_RatioDiff (x19, (x23, ()))) fun (x24 : (Int × Int)) =>
      (some x24))))))))))))))
    (cond (decide ((wr ((0 : Int) + (1 : Int))) = a1))
      (Option.bind (getI a0 a1) fun (x25 : (List (Int × Int))) =>
      (Option.bind (getI x25 (0 : Int)) fun (x26 : (Int × Int)) =>
      (Option.bind (getI a0 a1) fun (x27 : (List (Int × Int))) =>
      (Option.bind (getI x27 (wr ((wr ((0 : Int) + (1 : Int))) + (1 : Int)))) fun (x28 : (Int × Int)) =>
      (Option.bind (c_spec_RatioTimes (x26, (x28, ()))) fun (x29 : (Int × Int)) =>
      (Option.bind (getI a0 a1) fun (x30 : (List (Int × Int))) =>
      (Option.bind (getI x30 a1) fun (x31 : (Int × Int)) =>
      (Option.bind (getI a0 (0 : Int)) fun (x32 : (List (Int × Int))) =>
      (Option.bind (getI x32 (wr ((wr ((0 : Int) + (1 : Int))) + (1 : Int)))) fun (x33 : (Int × Int)) =>
      (Option.bind (c_spec_RatioInverse (x33, ())) fun (x34 : (Int × Int)) =>
      (Option.bind (c_spec_RatioTimes (x29, (x34, ()))) fun (x35 : (Int × Int)) =>
      (Option.bind (c_spec_RatioDiff (x31, (x35, ()))) fun (x36 : (Int × Int)) =>
      (some x36)))))))))))))
      (Option.bind (getI a0 a1) fun (x37 : (List (Int × Int))) =>
      (Option.bind (getI x37 (0 : Int)) fun (x38 : (Int × Int)) =>
      (Option.bind (getI a0 a1) fun (x39 : (List (Int × Int))) =>
      (Option.bind (getI x39 (wr ((0 : Int) + (1 : Int)))) fun (x40 : (Int × Int)) =>
      (Option.bind (c_spec_RatioTimes (x38, (x40, ()))) fun (x41 : (Int × Int)) =>
      (Option.bind (getI a0 a1) fun (x42 : (List (Int × Int))) =>
      (Option.bind (getI x42 a1) fun (x43 : (Int × Int)) =>
      (Option.bind (getI a0 (0 : Int)) fun (x44 : (List (Int × Int))) =>
      (Option.bind (getI x44 (wr ((0 : Int) + (1 : Int)))) fun (x45 : (Int × Int)) =>
      (Option.bind (c_spec_RatioInverse (x45, ())) fun (x46 : (Int × Int)) =>
      (Option.bind (c_spec_RatioTimes (x41, (x46, ()))) fun (x47 : (Int × Int)) =>
      (Option.bind (c_spec_RatioDiff (x43, (x47, ()))) fun (x48 : (Int × Int)) =>
      (some x48)))))))))))))))
noncomputable def e_spec_l08Weight (a : (List (List (Int × Int))) × Int × Unit) : Option (Int × Int) := r_spec_l08Weight e_spec_RatioTimes e_spec_RatioInverse e_spec_RatioDiff N0 a.1 a.2.1
def r_spec_StarWeights_L0 (_c_spec_IsStarMatrix : ((List (List (Int × Int))) × Unit → Option Bool)) (c_spec_l08Weight : ((List (List (Int × Int))) × Int × Unit → Option (Int × Int))) (c_spec_RatioOk : ((Int × Int) × Unit → Option Bool)) (_N : Nat) (s : ((List (List (Int × Int))) × ((List (Int × Int)) × (Int × (Int × Unit))))) (kc ke : ((List (List (Int × Int))) × ((List (Int × Int)) × (Int × (Int × Unit)))) → Option ((List (Int × Int)) × Bool)) : Option ((List (Int × Int)) × Bool) :=
  (cond (decide (s.2.2.2.1 < s.2.2.1))
    (Option.bind (c_spec_l08Weight (s.1, (s.2.2.2.1, ()))) fun (x1 : (Int × Int)) =>
    (Option.bind (c_spec_RatioOk (x1, ())) fun (x2 : Bool) =>
    (cond (!x2)
      (some (([] : List (Int × Int)), false))
      (cond (Nat.ble ((List.length s.2.1) + (List.length (x1 :: ([] : List (Int × Int))))) 17179869184)
        (kc (s.1, ((s.2.1 ++ (x1 :: ([] : List (Int × Int)))), (s.2.2.1, ((wr (s.2.2.2.1 + (1 : Int))), ())))))
        none))))
    (ke (s.1, (s.2.1, (s.2.2.1, (s.2.2.2.1, ()))))))
def r_spec_StarWeights (c_spec_IsStarMatrix : ((List (List (Int × Int))) × Unit → Option Bool)) (c_spec_l08Weight : ((List (List (Int × Int))) × Int × Unit → Option (Int × Int))) (c_spec_RatioOk : ((Int × Int) × Unit → Option Bool)) (N : Nat) (a0 : (List (List (Int × Int)))) : Option ((List (Int × Int)) × Bool) :=
  (Option.bind (c_spec_IsStarMatrix (a0, ())) fun (x1 : Bool) =>
  (cond (!x1)
    (some (([] : List (Int × Int)), false))
    (iterK (r_spec_StarWeights_L0 c_spec_IsStarMatrix c_spec_l08Weight c_spec_RatioOk N) N (a0, (([] : List (Int × Int)), ((((List.length a0) : Nat) : Int), ((0 : Int), ())))) fun (s2 : ((List (List (Int × Int))) × ((List (Int × Int)) × (Int × (Int × Unit))))) =>
    (some (s2.2.1, true)))))
noncomputable def e_spec_StarWeights (a : (List (List (Int × Int))) × Unit) : Option ((List (Int × Int)) × Bool) := r_spec_StarWeights e_spec_IsStarMatrix e_spec_l08Weight e_spec_RatioOk N0 a.1
end Go.Sx.R
namespace Go.Sx.R
open Go Go.Sx

theorem beqB_self (b : Bool) : beqB b b = true := by cases b <;> rfl

theorem sm_up {α : Type} [Sm α] (up : ∀ {B B' : Nat} {x : α}, B ≤ B' → Sm.sm B x → Sm.sm B' x) {B B' : Nat} {x : List α} (h : B ≤ B') (hx : Sm.sm B x) : Sm.sm B' x := ⟨Nat.le_trans hx.1 h, fun y hy => up h (hx.2 y hy)⟩
theorem up_wire {B B' : Nat} {x : Int × Int × Int} (h : B ≤ B') (hx : Sm.sm B x) : Sm.sm B' x := hx
theorem up_wireS {B B' : Nat} {x : List (Int × Int × Int)} (h : B ≤ B') (hx : Sm.sm B x) : Sm.sm B' x := sm_up up_wire h hx
abbrev TNet := Int × Int × Int × List (Int × Int × Int)
theorem up_net {B B' : Nat} {x : TNet} (h : B ≤ B') (hx : Sm.sm B x) : Sm.sm B' x := ⟨hx.1, hx.2.1, hx.2.2.1, up_wireS h hx.2.2.2⟩
abbrev B0 : Nat := 1048576
theorem B01 : B0 ≤ B1 := by decide

end Go.Sx.R
namespace Go.Sx.R
open Go Go.Sx

def n_l01In (a : Int × Int × Int × Unit) : Bool := decide (a.2.1 ≤ a.1) && decide (a.1 ≤ a.2.2.1)

theorem p_l01In (a : Int × Int × Int × Unit) : e_spec_l01In a = some (n_l01In a) := by
  obtain ⟨a0, a1, a2, _⟩ := a
  simp only [e_spec_l01In, r_spec_l01In, n_l01In]
  by_cases h : a1 ≤ a0 <;> simp [h]

end Go.Sx.R
namespace Go.Sx.R
open Go Go.Sx

-- lists without doubles
theorem nodup_len {α : Type} [DecidableEq α] : ∀ {l m : List α}, l.Nodup → (∀ x ∈ l, x ∈ m) → l.length ≤ m.length
  | [], m, _, _ => Nat.zero_le _
  | x :: l, m, h, hs => by
    have hx : x ∈ m := hs x (by simp)
    have hd := List.nodup_cons.1 h
    have := nodup_len (l := l) (m := m.erase x) hd.2 fun y hy => (List.mem_erase_of_ne (by rintro rfl; exact hd.1 hy)).2 (hs y (by simp [hy]))
    rw [List.length_erase_of_mem hx] at this
    have hp : 0 < m.length := List.length_pos_of_mem hx
    simp only [List.length_cons]; omega

theorem nodup_all {α : Type} [DecidableEq α] {l m : List α} (h : l.Nodup) (hs : ∀ x ∈ l, x ∈ m) (hl : m.length ≤ l.length) : ∀ x ∈ m, x ∈ l := by
  intro x hx
  by_cases hxl : x ∈ l
  · exact hxl
  · have := nodup_len (l := x :: l) (m := m) (List.nodup_cons.2 ⟨hxl, h⟩) (by
      intro y hy
      rcases List.mem_cons.1 hy with rfl | hy
      · exact hx
      · exact hs y hy)
    simp at this; omega

/-- The numbers below n. -/
def ints (n : Nat) : List Int := (List.range n).map Int.ofNat
theorem mem_ints {n : Nat} {x : Int} : x ∈ ints n ↔ 0 ≤ x ∧ x < n := by
  simp only [ints, List.mem_map, List.mem_range]
  constructor
  · rintro ⟨i, hi, rfl⟩
    simp only [Int.ofNat_eq_natCast]; omega
  · intro h; exact ⟨x.toNat, by omega, by simp only [Int.ofNat_eq_natCast]; omega⟩
theorem len_ints {n : Nat} : (ints n).length = n := by simp [ints]
theorem nodup_ints {n : Nat} : (ints n).Nodup := by
  refine List.Pairwise.map Int.ofNat (fun (a b : Nat) (h : a ≠ b) => ?_) (List.nodup_range (n := n))
  intro e
  simp only [Int.ofNat_eq_natCast] at e
  exact h (by omega)

abbrev W3 := Int × Int × Int

-- looking in lists
theorem p_Has (xs : List Int) (v : Int) (hl : xs.length ≤ BB) : e_spec_l03Has (xs, v, ()) = some (decide (v ∈ xs)) := by
  simp only [e_spec_l03Has, r_spec_l03Has]
  rw [iter_range (R := Bool) xs (fun (_ : Unit) i => (v, xs, (xs.length : Int), i, ())) (fun _ i x k => cond (decide (x = v)) (some true) (k ())) ?_ ?_ (by have := N0_gt; omega) ()]
  · rw [rangeK_stop' (fun x => decide (x = v)) (some true) _ _ _ (fun _ _ _ _ => rfl)]
    have : xs.any (fun x => decide (x = v)) = decide (v ∈ xs) := by
      rw [Bool.eq_iff_iff]; simp
    rw [this]; cases decide (v ∈ xs) <;> rfl
  · intro st i x kc ke hx hi
    simp only [r_spec_l03Has_L0, lt_len, hi, decide_true, cond_true, getI_nat, hx, Option.bind_some]
    rw [wr_succ hi hl]
  · intro st kc ke
    simp only [r_spec_l03Has_L0, not_lt_self, cond_false]

theorem p_ContainsB (xs : List Bool) (v : Bool) (hl : xs.length ≤ BB) : e_slices_Contains_bool (xs, v, ()) = some (decide (v ∈ xs)) := by
  simp only [e_slices_Contains_bool, r_slices_Contains_bool, e_slices_Index_bool, r_slices_Index_bool]
  rw [iter_range (R := Int) xs (fun (_ : Unit) i => (xs, v, (xs.length : Int), i, ())) (fun _ i x k => cond (beqB v x) (some (i : Int)) (k ())) ?_ ?_ (by have := N0_gt; omega) ()]
  · have key : ∀ (l : List Bool) (i : Nat), (rangeK l i () (fun _ i x k => cond (beqB v x) (some (i : Int)) (k ())) fun _ => some (-1 : Int)).bind (fun r => some (decide (r ≥ 0))) = some (decide (v ∈ l)) := by
      intro l
      induction l with
      | nil => intro i; simp [rangeK]
      | cons x l ih =>
        intro i
        simp only [rangeK]
        by_cases e : v = x
        · subst e; rw [beqB_self]; simp
        · have : beqB v x = false := by revert e; cases v <;> cases x <;> simp [beqB]
          rw [this, cond_false, ih (i + 1)]
          simp [e]
    exact key xs 0
  · intro st i x kc ke hx hi
    simp only [r_slices_Index_bool_L0, lt_len, hi, decide_true, cond_true, getI_nat, hx, Option.bind_some]
    rw [wr_succ hi hl]
  · intro st kc ke
    simp only [r_slices_Index_bool_L0, not_lt_self, cond_false]

-- the order of wires
def n_cmp (x y : Int) : Int := if x < y then -1 else if x > y then 1 else 0
theorem p_Compare (x y : Int) : e_cmp_Compare_int (x, y, ()) = some (n_cmp x y) := by
  simp only [e_cmp_Compare_int, r_cmp_Compare_int, e_cmp_isNaN_int, r_cmp_isNaN_int, Option.bind_some, decide_true, Bool.not_true, cond_false, n_cmp]
  by_cases h1 : x < y
  · simp [h1]
  · by_cases h2 : x > y <;> simp [h1, h2]

theorem N0_big : 9223372036854775807 < N0 := N0_gt
theorem N0_succ : ∃ m, N0 = m + 5 := ⟨N0 - 5, by have := N0_big; omega⟩

def n_byEnds (x y : W3) : Int := if n_cmp x.1 y.1 = 0 then n_cmp x.2.1 y.2.1 else n_cmp x.1 y.1
theorem p_byEnds (x y : W3) : e_impl_byEnds (x, y, ()) = some (n_byEnds x y) := by
  simp only [e_impl_byEnds, r_impl_byEnds, p_Compare, Option.bind_some, e_cmp_Or_int, r_cmp_Or_int, n_byEnds]
  obtain ⟨m, hm⟩ := N0_succ
  rw [hm]
  by_cases h1 : n_cmp x.1 y.1 = 0
  · by_cases h2 : n_cmp x.2.1 y.2.1 = 0
    · simp [iterK, r_cmp_Or_int_L0, h1, h2, getI_zero, wr_id, getI]
    · simp [iterK, r_cmp_Or_int_L0, h1, h2, getI_zero, wr_id, getI]
  · simp [iterK, r_cmp_Or_int_L0, h1, getI_zero]

/-- Strictly before. -/
def lex (x y : W3) : Bool := decide (x.1 < y.1) || (decide (x.1 = y.1) && decide (x.2.1 < y.2.1))
theorem byEnds_lex (x y : W3) : decide (n_byEnds x y ≥ 0) = !lex x y := by
  rw [Bool.eq_iff_iff]
  by_cases a : x.1 < y.1
  · have a2 : ¬ x.1 > y.1 := by omega
    simp [n_byEnds, n_cmp, lex, a]
  · by_cases b : x.1 > y.1
    · have e : ¬ x.1 = y.1 := by omega
      simp [n_byEnds, n_cmp, lex, a, b, e]
    · have e : x.1 = y.1 := by omega
      by_cases c : x.2.1 < y.2.1
      · simp [n_byEnds, n_cmp, lex, e, c]
      · by_cases d : x.2.1 > y.2.1 <;> simp [n_byEnds, n_cmp, lex, e, c, d]

/-- A wire at place i that does not fit. -/
def badW (nodes : Int) (ws : List W3) (i : Nat) (x : W3) : Bool :=
  !(decide (0 ≤ x.1) && decide (x.1 < x.2.1) && decide (x.2.1 < nodes) && decide (1 ≤ x.2.2) && decide (x.2.2 ≤ 200)) || (match i with | 0 => false | j + 1 => match ws[j]? with | some y => !lex y x | none => false)

def wiresBad (n : TNet) : Bool := (n.2.2.2.zipIdx 0).any fun p => badW n.1 n.2.2.2 p.2 p.1
def hdrOk (n : TNet) : Bool := decide (1 ≤ n.1) && decide (n.1 ≤ 5) && decide (1 ≤ n.2.1) && decide (n.2.1 ≤ n.1) && decide (1 ≤ n.2.2.1) && decide (n.2.2.1 ≤ 1000)

theorem netL0_impl (n : TNet) (hn : Sm.sm B1 n) (k : _ → Option Bool) :
    iterK (r_impl_NetOk_L0 e_slices_Contains_bool e_impl_byEnds N0) N0 (n, n.2.2.2, (n.2.2.2.length : Int), 0, ()) k = cond (wiresBad n) (some false) (k (n, n.2.2.2, (n.2.2.2.length : Int), (n.2.2.2.length : Int), ())) := by
  have hw : Sm.sm B1 n.2.2.2 := hn.2.2.2
  rw [iter_range (R := Bool) n.2.2.2 (fun (_ : Unit) i => (n, n.2.2.2, (n.2.2.2.length : Int), i, ())) (fun _ i x k => cond (badW n.1 n.2.2.2 i x) (some false) (k ())) ?_ ?_ (len_lt hw N0_gt) ()]
  · rw [rangeK_stop (fun i x => badW n.1 n.2.2.2 i x) (some false) _ _ _ (fun j x k _ => rfl)]
    rfl
  · intro st i x kc ke hx hi
    simp only [r_impl_NetOk_L0, lt_len, hi, decide_true, cond_true, getI_nat, hx, Option.bind_some, wr_len hi hw]
    have hb : ∀ b : Bool, (decide (x.1 < 0) = true → b = true) → True := fun _ _ => trivial
    by_cases h1 : x.1 < 0
    · have : badW n.1 n.2.2.2 i x = true := by simp only [badW, Bool.or_eq_true, Bool.not_eq_true', Bool.and_eq_false_iff, decide_eq_false_iff_not]; left; omega
      simp [h1, this]
    by_cases h2 : x.1 ≥ x.2.1
    · have : badW n.1 n.2.2.2 i x = true := by simp only [badW, Bool.or_eq_true, Bool.not_eq_true', Bool.and_eq_false_iff, decide_eq_false_iff_not]; left; omega
      simp [h1, h2, this]
    by_cases h3 : x.2.1 ≥ n.1
    · have : badW n.1 n.2.2.2 i x = true := by simp only [badW, Bool.or_eq_true, Bool.not_eq_true', Bool.and_eq_false_iff, decide_eq_false_iff_not]; left; omega
      simp [h1, h2, h3, this]
    by_cases h4 : x.2.2 < 1
    · have : badW n.1 n.2.2.2 i x = true := by simp only [badW, Bool.or_eq_true, Bool.not_eq_true', Bool.and_eq_false_iff, decide_eq_false_iff_not]; left; omega
      simp [h1, h2, h3, h4, this]
    by_cases h5 : x.2.2 > 200
    · have : badW n.1 n.2.2.2 i x = true := by simp only [badW, Bool.or_eq_true, Bool.not_eq_true', Bool.and_eq_false_iff, decide_eq_false_iff_not]; left; omega
      simp [h1, h2, h3, h4, h5, this]
    have hg : (!(decide (0 ≤ x.1) && decide (x.1 < x.2.1) && decide (x.2.1 < n.1) && decide (1 ≤ x.2.2) && decide (x.2.2 ≤ 200))) = false := by
      simp only [Bool.not_eq_false', Bool.and_eq_true, decide_eq_true_eq]; omega
    cases i with
    | zero =>
      have hbad : badW n.1 n.2.2.2 0 x = false := by simp only [badW, hg, Bool.or_false]
      simp [h1, h2, h3, h4, h5, hbad]
    | succ j =>
      have hj : n.2.2.2[j]? = some n.2.2.2[j] := List.getElem?_eq_getElem (by omega)
      have hbad : badW n.1 n.2.2.2 (j + 1) x = !lex n.2.2.2[j] x := by simp only [badW, hg, Bool.false_or, hj]
      have hwr : wr (((j + 1 : Nat) : Int) - 1) = (j : Int) := by
        rw [wr_id (by omega) (by have := hw.1; simp only [B1] at this; omega)]; omega
      have hpos : decide (((j + 1 : Nat) : Int) > 0) = true := by rw [decide_eq_true_eq]; omega
      rw [hbad, hpos, hwr, getI_nat, hj]
      simp only [cond_true, Option.bind_some, p_byEnds, byEnds_lex]
      simp [h1, h2, h3, h4, h5]
  · intro st kc ke
    simp only [r_impl_NetOk_L0, not_lt_self, cond_false]

theorem netL0_spec (n : TNet) (hn : Sm.sm B1 n) (k : _ → Option Bool) (hn1 : 1 ≤ n.1) (hn5 : n.1 ≤ 5) :
    iterK (r_spec_NetOk_L0 e_spec_l01In e_spec_l03Reach N0) N0 (n, n.2.2.2, (n.2.2.2.length : Int), 0, ()) k = cond (wiresBad n) (some false) (k (n, n.2.2.2, (n.2.2.2.length : Int), (n.2.2.2.length : Int), ())) := by
  have hw : Sm.sm B1 n.2.2.2 := hn.2.2.2
  rw [iter_range (R := Bool) n.2.2.2 (fun (_ : Unit) i => (n, n.2.2.2, (n.2.2.2.length : Int), i, ())) (fun _ i x k => cond (badW n.1 n.2.2.2 i x) (some false) (k ())) ?_ ?_ (len_lt hw N0_gt) ()]
  · rw [rangeK_stop (fun i x => badW n.1 n.2.2.2 i x) (some false) _ _ _ (fun j x k _ => rfl)]
    rfl
  · intro st i x kc ke hx hi
    simp only [r_spec_NetOk_L0, lt_len, hi, decide_true, cond_true, getI_nat, hx, Option.bind_some, wr_len hi hw, p_l01In, n_l01In]
    have hw1 : wr (n.1 - 1) = n.1 - 1 := wr_id (by omega) (by omega)
    rw [hw1]
    by_cases h1 : 0 ≤ x.1 ∧ x.1 ≤ n.1 - 1
    · have hw2 : wr (x.1 + 1) = x.1 + 1 := wr_id (by omega) (by omega)
      rw [hw2]
      by_cases h2 : x.1 + 1 ≤ x.2.1 ∧ x.2.1 ≤ n.1 - 1
      · by_cases h3 : 1 ≤ x.2.2 ∧ x.2.2 ≤ 200
        · have hg : (!(decide (0 ≤ x.1) && decide (x.1 < x.2.1) && decide (x.2.1 < n.1) && decide (1 ≤ x.2.2) && decide (x.2.2 ≤ 200))) = false := by
            simp only [Bool.not_eq_false', Bool.and_eq_true, decide_eq_true_eq]; omega
          cases i with
          | zero =>
            have hbad : badW n.1 n.2.2.2 0 x = false := by simp only [badW, hg, Bool.or_false]
            simp [h1, h2, h3, hbad]
          | succ j =>
            have hj : n.2.2.2[j]? = some n.2.2.2[j] := List.getElem?_eq_getElem (by omega)
            have hbad : badW n.1 n.2.2.2 (j + 1) x = !lex n.2.2.2[j] x := by simp only [badW, hg, Bool.false_or, hj]
            have hwr : wr (((j + 1 : Nat) : Int) - 1) = (j : Int) := by
              rw [wr_id (by omega) (by have := hw.1; simp only [B1] at this; omega)]; omega
            have hpos : decide (((j + 1 : Nat) : Int) > 0) = true := by rw [decide_eq_true_eq]; omega
            rw [hbad, hpos, hwr, getI_nat, hj]
            simp only [cond_true, Option.bind_some, h1, h2, h3, decide_true, Bool.and_self, Bool.not_true, cond_false, lex]
            by_cases e1 : x.1 < n.2.2.2[j].1
            · have a1 : ¬ n.2.2.2[j].1 < x.1 := by omega
              have a2 : ¬ n.2.2.2[j].1 = x.1 := by omega
              simp [e1, a1, a2]
            · by_cases e2 : x.1 = n.2.2.2[j].1
              · by_cases e3 : x.2.1 ≤ n.2.2.2[j].2.1
                · have a3 : ¬ n.2.2.2[j].2.1 < x.2.1 := by omega
                  simp [e2, e3, a3]
                · have a3 : n.2.2.2[j].2.1 < x.2.1 := by omega
                  simp [e2, e3, a3]
              · have a1 : n.2.2.2[j].1 < x.1 := by omega
                simp [e1, e2, a1]
        · have : badW n.1 n.2.2.2 i x = true := by simp only [badW, Bool.or_eq_true, Bool.not_eq_true', Bool.and_eq_false_iff, decide_eq_false_iff_not]; left; omega
          have h3' : (decide (1 ≤ x.2.2) && decide (x.2.2 ≤ 200)) = false := by simp only [Bool.and_eq_false_iff, decide_eq_false_iff_not]; omega
          simp [h1, h2, h3', this]
      · have : badW n.1 n.2.2.2 i x = true := by simp only [badW, Bool.or_eq_true, Bool.not_eq_true', Bool.and_eq_false_iff, decide_eq_false_iff_not]; left; omega
        have h2' : (decide (x.1 + 1 ≤ x.2.1) && decide (x.2.1 ≤ n.1 - 1)) = false := by simp only [Bool.and_eq_false_iff, decide_eq_false_iff_not]; omega
        simp [h1, h2', this]
    · have : badW n.1 n.2.2.2 i x = true := by simp only [badW, Bool.or_eq_true, Bool.not_eq_true', Bool.and_eq_false_iff, decide_eq_false_iff_not]; left; omega
      have h1' : (decide (0 ≤ x.1) && decide (x.1 ≤ n.1 - 1)) = false := by simp only [Bool.and_eq_false_iff, decide_eq_false_iff_not]; omega
      simp [h1', this]
  · intro st kc ke
    simp only [r_spec_NetOk_L0, not_lt_self, cond_false]
-- what can be reached
inductive Rc (ws : List W3) : Int → Prop
  | zero : Rc ws 0
  | ab {e : W3} : e ∈ ws → Rc ws e.1 → Rc ws e.2.1
  | ba {e : W3} : e ∈ ws → Rc ws e.2.1 → Rc ws e.1

/-- The wires lie among the nodes. -/
def InW (nodes : Nat) (ws : List W3) : Prop := ∀ e ∈ ws, 0 ≤ e.1 ∧ e.1 < e.2.1 ∧ e.2.1 < nodes

theorem Rc.inn {nodes : Nat} {ws : List W3} (h0 : 0 < nodes) (hw : InW nodes ws) {v : Int} (h : Rc ws v) : 0 ≤ v ∧ v < nodes := by
  cases h with
  | zero => omega
  | ab he _ => have := hw _ he; omega
  | ba he _ => have := hw _ he; omega

-- the program's marks
def gt (st : List Bool) (v : Int) : Bool := (st[v.toNat]?).getD false
def upd (st : List Bool) (e : W3) : List Bool := if gt st e.1 = true ∨ gt st e.2.1 = true then (st.set e.1.toNat true).set e.2.1.toNat true else st
def cnt (st : List Bool) : Nat := (st.filter id).length

theorem cnt_le (st : List Bool) : cnt st ≤ st.length := List.length_filter_le _ _

theorem cnt_set : ∀ (st : List Bool) (i : Nat), cnt st ≤ cnt (st.set i true) ∧ (st[i]? = some false → cnt st + 1 ≤ cnt (st.set i true))
  | [], i => by simp [cnt]
  | b :: st, 0 => by cases b <;> simp [cnt]
  | b :: st, i + 1 => by
    have := cnt_set st i
    cases b <;> simp_all [cnt]

theorem gt_set (st : List Bool) (i : Nat) (v : Int) : gt (st.set i true) v = (gt st v || (decide (i = v.toNat) && decide (i < st.length))) := by
  simp only [gt, List.getElem?_set]
  by_cases e : i = v.toNat
  · subst e
    by_cases h : v.toNat < st.length
    · simp [h]
    · simp [h]
  · simp [e]

theorem upd_len (st : List Bool) (e : W3) : (upd st e).length = st.length := by
  unfold upd; split <;> simp

theorem upd_mono {st : List Bool} {e : W3} {v : Int} (h : gt st v = true) : gt (upd st e) v = true := by
  unfold upd; split
  · simp [gt_set, h]
  · exact h

theorem upd_sound {ws : List W3} {st : List Bool} {e : W3} {nodes : Nat} (hl : st.length = nodes) (hw : InW nodes ws) (he : e ∈ ws) (h : ∀ v, 0 ≤ v → gt st v = true → Rc ws v) : ∀ v, 0 ≤ v → gt (upd st e) v = true → Rc ws v := by
  intro v hv hg
  obtain ⟨h1, h2, h3⟩ := hw e he
  unfold upd at hg
  split at hg
  · rename_i hor
    have ha : Rc ws e.1 ∧ Rc ws e.2.1 := by
      rcases hor with hor | hor
      · have := h _ h1 hor; exact ⟨this, .ab he this⟩
      · have := h _ (by omega) hor; exact ⟨.ba he this, this⟩
    simp only [gt_set, Bool.or_eq_true, Bool.and_eq_true, decide_eq_true_eq] at hg
    rcases hg with (hg | hg) | hg
    · exact h v hv hg
    · have : e.1 = v := by omega
      rw [← this]; exact ha.1
    · have : e.2.1 = v := by omega
      rw [← this]; exact ha.2
  · exact h v hv hg

theorem gt_false {st : List Bool} {v : Int} (h : gt st v = false) (hl : v.toNat < st.length) : st[v.toNat]? = some false := by
  have : st[v.toNat]? = some st[v.toNat] := List.getElem?_eq_getElem hl
  unfold gt at h
  rw [this] at h ⊢
  simpa using h

theorem upd_cnt (st : List Bool) (e : W3) : cnt st ≤ cnt (upd st e) := by
  unfold upd; split
  · exact Nat.le_trans (cnt_set st _).1 (cnt_set _ _).1
  · exact Nat.le_refl _

theorem upd_grow {st : List Bool} {e : W3} {nodes : Nat} (hl : st.length = nodes) (hi : 0 ≤ e.1 ∧ e.1 < e.2.1 ∧ e.2.1 < nodes) (h : gt st e.1 ≠ gt st e.2.1) : cnt st + 1 ≤ cnt (upd st e) := by
  have hor : gt st e.1 = true ∨ gt st e.2.1 = true := by
    revert h; cases gt st e.1 <;> cases gt st e.2.1 <;> simp
  unfold upd
  rw [if_pos hor]
  by_cases h1 : gt st e.1 = true
  · have h2 : gt st e.2.1 = false := by
      revert h; rw [h1]; cases gt st e.2.1 <;> simp
    have : gt (st.set e.1.toNat true) e.2.1 = false := by
      rw [gt_set, h2]; simp; omega
    have hs := gt_false this (by simp; omega)
    exact Nat.le_trans (Nat.add_le_add_right (cnt_set st _).1 1) ((cnt_set _ _).2 hs)
  · have h1' : gt st e.1 = false := by simpa using h1
    have hs := gt_false h1' (by omega)
    exact Nat.le_trans ((cnt_set st _).2 hs) (cnt_set _ _).1

theorem upd_fix {st : List Bool} {e : W3} {nodes : Nat} (hl : st.length = nodes) (hi : 0 ≤ e.1 ∧ e.1 < e.2.1 ∧ e.2.1 < nodes) (h : gt st e.1 = gt st e.2.1) : upd st e = st := by
  unfold upd
  split
  · rename_i hor
    have hb : gt st e.1 = true ∧ gt st e.2.1 = true := by
      rw [h] at hor ⊢; rcases hor with hor | hor <;> exact ⟨hor, hor⟩
    have one : ∀ (v : Int), gt st v = true → st.set v.toNat true = st := by
      intro v hv
      apply List.ext_getElem?; intro j
      rw [List.getElem?_set]
      split
      · rename_i ej; subst ej
        unfold gt at hv
        split
        · rename_i hlt
          rw [List.getElem?_eq_getElem hlt] at hv ⊢
          simp at hv; rw [hv]
        · rename_i hlt
          rw [List.getElem?_eq_none (by omega)]
      · rfl
    rw [one _ hb.1, one _ hb.2]
  · rfl

def Closed (ws : List W3) (st : List Bool) : Prop := ∀ e ∈ ws, gt st e.1 = gt st e.2.1

theorem round_fix {nodes : Nat} : ∀ {ws : List W3} {st : List Bool}, st.length = nodes → InW nodes ws → Closed ws st → ws.foldl upd st = st
  | [], _, _, _, _ => rfl
  | e :: ws, st, hl, hw, hc => by
    simp only [List.foldl_cons]
    rw [upd_fix hl (hw e (by simp)) (hc e (by simp))]
    exact round_fix hl (fun x hx => hw x (by simp [hx])) fun x hx => hc x (by simp [hx])

theorem round_mono {nodes : Nat} : ∀ {ws : List W3} {st : List Bool}, cnt st ≤ cnt (ws.foldl upd st)
  | [], _ => Nat.le_refl _
  | e :: ws, st => Nat.le_trans (upd_cnt st e) (round_mono (nodes := nodes) (ws := ws))

theorem round_grow {nodes : Nat} : ∀ {ws : List W3} {st : List Bool}, st.length = nodes → InW nodes ws → Closed ws st ∨ cnt st + 1 ≤ cnt (ws.foldl upd st)
  | [], _, _, _ => .inl fun _ h => by simp at h
  | e :: ws, st, hl, hw => by
    by_cases h : gt st e.1 = gt st e.2.1
    · simp only [List.foldl_cons, upd_fix hl (hw e (by simp)) h]
      rcases round_grow (ws := ws) hl (fun x hx => hw x (by simp [hx])) with hc | hg
      · refine .inl fun x hx => ?_
        rcases List.mem_cons.1 hx with rfl | hx
        · exact h
        · exact hc x hx
      · exact .inr hg
    · refine .inr ?_
      simp only [List.foldl_cons]
      exact Nat.le_trans (upd_grow hl (hw e (by simp)) h) (round_mono (nodes := nodes))

theorem round_len : ∀ {ws : List W3} {st : List Bool}, (ws.foldl upd st).length = st.length
  | [], _ => rfl
  | e :: ws, st => by simp only [List.foldl_cons]; rw [round_len, upd_len]

theorem round_keep {v : Int} : ∀ {ws : List W3} {st : List Bool}, gt st v = true → gt (ws.foldl upd st) v = true
  | [], _, h => h
  | e :: ws, st, h => by simp only [List.foldl_cons]; exact round_keep (upd_mono h)

theorem round_sound {ws0 : List W3} {nodes : Nat} (hw : InW nodes ws0) : ∀ {ws : List W3} {st : List Bool}, (∀ e ∈ ws, e ∈ ws0) → st.length = nodes → (∀ v, 0 ≤ v → gt st v = true → Rc ws0 v) → ∀ v, 0 ≤ v → gt (ws.foldl upd st) v = true → Rc ws0 v
  | [], _, _, _, h => h
  | e :: ws, st, hs, hl, h => by
    simp only [List.foldl_cons]
    exact round_sound hw (fun x hx => hs x (by simp [hx])) ((upd_len st e).trans hl) (upd_sound hl hw (hs e (by simp)) h)

/-- All nodes can be reached. -/
noncomputable def conn (n : TNet) : Bool := open Classical in decide (∀ v : Int, 0 ≤ v → v < n.1 → Rc n.2.2.2 v)

theorem closed_all {ws : List W3} {st : List Bool} (hc : Closed ws st) (h0 : gt st 0 = true) : ∀ v, Rc ws v → gt st v = true := by
  intro v h
  induction h with
  | zero => exact h0
  | ab he _ ih => rw [← hc _ he]; exact ih
  | ba he _ ih => rw [hc _ he]; exact ih

theorem all_true {st : List Bool} {nodes : Nat} (hl : st.length = nodes) : decide (false ∈ st) = false ↔ ∀ v : Int, 0 ≤ v → v < nodes → gt st v = true := by
  constructor
  · intro h v h0 h1
    simp only [decide_eq_false_iff_not] at h
    cases hg : gt st v with
    | true => rfl
    | false => exact absurd (List.mem_of_getElem? (gt_false hg (by omega))) h
  · intro h
    simp only [decide_eq_false_iff_not]
    intro hm
    obtain ⟨i, hi⟩ := List.getElem?_of_mem hm
    have := h (i : Int) (by omega) (by have := get_lt hi; omega)
    simp [gt, hi] at this

end Go.Sx.R
namespace Go.Sx

/-- The rule of loops, with a measure. -/
theorem iter_while {S R : Type} {body : S → (S → Option R) → (S → Option R) → Option R} {ke : S → Option R} (Q : Option R → Prop) (p : S → Prop) (mu : S → Nat)
    (h : ∀ s kc, p s → (∀ s', p s' → mu s' < mu s → Q (kc s')) → Q (body s kc ke)) : ∀ (N : Nat) (s : S), p s → mu s < N → Q (iterK body N s ke)
  | 0, _, _, hN => absurd hN (Nat.not_lt_zero _)
  | N + 1, s, hp, hN => by
    simp only [iterK]
    exact h s _ hp fun s' hp' hlt => iter_while Q p mu h N s' hp' (by omega)

/-- A loop over a list that ends with a fold's state. -/
theorem iter_fold {β σ S R : Type} {body : S → (S → Option R) → (S → Option R) → Option R} (l : List β) (mk : σ → Int → S) (p : Nat → σ → Prop) (g : σ → Nat → β → σ)
    (h : ∀ st (i : Nat) x kc ke, p i st → l[i]? = some x → i < l.length → body (mk st i) kc ke = kc (mk (g st i x) ((i + 1 : Nat) : Int)) ∧ p (i + 1) (g st i x))
    (h2 : ∀ st kc ke, p l.length st → body (mk st l.length) kc ke = ke (mk st l.length)) {N : Nat} (hN : l.length < N) (st : σ) (hp : p 0 st) (ke : S → Option R) :
    iterK body N (mk st 0) ke = ke (mk (foldI g l 0 st) l.length) ∧ p l.length (foldI g l 0 st) := by
  have gen : ∀ (r : List β) (i N : Nat) (st : σ), i + r.length = l.length → l.drop i = r → r.length < N → p i st → iterK body N (mk st i) ke = ke (mk (foldI g r i st) l.length) ∧ p l.length (foldI g r i st) := by
    intro r
    induction r with
    | nil =>
      intro i N st hi hd hN hp
      obtain ⟨m, rfl⟩ : ∃ m, N = m + 1 := ⟨N - 1, by omega⟩
      simp only [iterK, foldI]
      have e : i = l.length := by simpa using hi
      subst e
      exact ⟨h2 _ _ _ hp, hp⟩
    | cons x r ih =>
      intro i N st hi hd hN hp
      obtain ⟨m, rfl⟩ : ∃ m, N = m + 1 := ⟨N - 1, by omega⟩
      simp only [List.length_cons] at hi hN
      have hx : l[i]? = some x := by
        have := congrArg (fun l => l[0]?) hd
        simpa using this
      have q := h st i x (fun s' => iterK body m s' ke) ke hp hx (by omega)
      simp only [iterK, foldI]
      rw [q.1]
      exact ih (i + 1) m _ (by omega) (by rw [← List.drop_drop, hd]; simp) (by omega) q.2
  exact gen l 0 N st (by simp) (by simp) hN hp

/-- A loop over a list: the rule. -/
theorem iter_rule {β σ S R : Type} {body : S → (S → Option R) → (S → Option R) → Option R} {ke : S → Option R} (Q : Option R → Prop) (l : List β) (mk : σ → Int → S) (p : Nat → σ → Prop)
    (h : ∀ st (i : Nat) x kc, p i st → l[i]? = some x → i < l.length → (∀ st', p (i + 1) st' → Q (kc (mk st' ((i + 1 : Nat) : Int)))) → Q (body (mk st i) kc ke))
    (h2 : ∀ st kc, p l.length st → Q (body (mk st l.length) kc ke)) {N : Nat} (hN : l.length < N) (st : σ) (hp : p 0 st) : Q (iterK body N (mk st 0) ke) := by
  have gen : ∀ (d i N : Nat) (st : σ), i + d = l.length → d < N → p i st → Q (iterK body N (mk st i) ke) := by
    intro d
    induction d with
    | zero =>
      intro i N st hi hN hp
      obtain ⟨m, rfl⟩ : ∃ m, N = m + 1 := ⟨N - 1, by omega⟩
      have e : i = l.length := by omega
      subst e
      exact h2 _ _ hp
    | succ d ih =>
      intro i N st hi hN hp
      obtain ⟨m, rfl⟩ : ∃ m, N = m + 1 := ⟨N - 1, by omega⟩
      have hlt : i < l.length := by omega
      exact h st i l[i] _ hp (List.getElem?_eq_getElem hlt) hlt fun st' hp' => ih (i + 1) m st' (by omega) (by omega) hp'
  exact gen l.length 0 N st (by omega) hN hp

end Go.Sx
namespace Go.Sx.R
open Go Go.Sx

theorem getI_gt {st : List Bool} {v : Int} (h0 : 0 ≤ v) (h1 : v < st.length) : getI st v = some (gt st v) := by
  have e : v = ((v.toNat : Nat) : Int) := by omega
  have hl : v.toNat < st.length := by omega
  rw [e, getI_nat, gt, Int.toNat_natCast, List.getElem?_eq_getElem hl]; rfl

def met4 (st : List Bool) (_ : Nat) (x : W3) (k : List Bool → Option Bool) : Option Bool :=
  Option.bind (getI st x.1) fun b => cond b (Option.bind (getI st x.1) fun _ => Option.bind (getI (st.set x.1.toNat true) x.2.1) fun _ => k ((st.set x.1.toNat true).set x.2.1.toNat true))
    (Option.bind (getI st x.2.1) fun b2 => cond b2 (Option.bind (getI st x.1) fun _ => Option.bind (getI (st.set x.1.toNat true) x.2.1) fun _ => k ((st.set x.1.toNat true).set x.2.1.toNat true)) (k st))

theorem met4_upd {st : List Bool} {j : Nat} {x : W3} {k : List Bool → Option Bool} (hi : 0 ≤ x.1 ∧ x.1 < x.2.1 ∧ x.2.1 < st.length) : met4 st j x k = k (upd st x) := by
  have g1 := getI_gt (st := st) (v := x.1) (by omega) (by omega)
  have g2 := getI_gt (st := st) (v := x.2.1) (by omega) (by omega)
  have g3 := getI_gt (st := st.set x.1.toNat true) (v := x.2.1) (by omega) (by simp; omega)
  simp only [met4, g1, g2, g3, Option.bind_some, upd]
  cases h1 : gt st x.1 <;> cases h2 : gt st x.2.1 <;> simp

theorem met_inner (n : TNet) (hn : Sm.sm B1 n) (i : Int) (st : List Bool) (hl : InW st.length n.2.2.2) (k : _ → Option Bool) :
    iterK (r_impl_NetOk_L4 e_slices_Contains_bool e_impl_byEnds N0) N0 (n, st, n.1, i, n.2.2.2, (n.2.2.2.length : Int), 0, ()) k =
      k (n, n.2.2.2.foldl upd st, n.1, i, n.2.2.2, (n.2.2.2.length : Int), (n.2.2.2.length : Int), ()) := by
  have hw : Sm.sm B1 n.2.2.2 := hn.2.2.2
  rw [iter_range (R := Bool) n.2.2.2 (fun (st : List Bool) j => (n, st, n.1, i, n.2.2.2, (n.2.2.2.length : Int), j, ())) met4 ?_ ?_ (len_lt hw N0_gt)]
  · have := (rangeK_foldP (step := met4) (fun _ s => s.length = st.length) (fun s _ x => upd s x) (fun st' => k (n, st', n.1, i, n.2.2.2, (n.2.2.2.length : Int), (n.2.2.2.length : Int), ())) n.2.2.2 0 st rfl
      (fun s j x k hs hx => ⟨met4_upd (by rw [hs]; exact hl x (List.mem_of_getElem? hx)), by rw [upd_len, hs]⟩)).1
    rw [this]
    have key : ∀ (l : List W3) (i : Nat) (s : List Bool), foldI (fun s _ x => upd s x) l i s = l.foldl upd s := by
      intro l
      induction l with
      | nil => intros; rfl
      | cons x l ih => intro i s; simp only [foldI, List.foldl_cons, ih]
    rw [key]
  · intro st j x kc ke hx hj
    simp only [r_impl_NetOk_L4, lt_len, hj, decide_true, cond_true, getI_nat, hx, Option.bind_some, wr_len hj hw, met4]
  · intro st kc ke
    simp only [r_impl_NetOk_L4, not_lt_self, cond_false]

/-- The marks at the end. -/
theorem met_outer (n : TNet) (hn : Sm.sm B1 n) (m : Nat) (hm : n.1 = m) (h1 : 1 ≤ m) (hw : InW m n.2.2.2) (st : List Bool) (hl : st.length = m) (hs : ∀ v, 0 ≤ v → gt st v = true → Rc n.2.2.2 v) (h0 : gt st 0 = true) (hc : 1 ≤ cnt st) (k : _ → Option Bool) :
    ∃ st', st'.length = m ∧ Closed n.2.2.2 st' ∧ (∀ v, 0 ≤ v → gt st' v = true → Rc n.2.2.2 v) ∧ gt st' 0 = true ∧
      iterK (r_impl_NetOk_L2 e_slices_Contains_bool e_impl_byEnds N0) N0 (n, st, n.1, 0, ()) k = k (n, st', n.1, n.1, ()) := by
  have hb : m ≤ 9223372036854775807 := by have := hn.1.2; omega
  have hlen : (List.range m).length = m := by simp
  have hnm : n.1 = ((List.range m).length : Int) := by simp [hm]
  have fp := iter_fold (R := Bool) (body := r_impl_NetOk_L2 e_slices_Contains_bool e_impl_byEnds N0) (List.range m) (fun (st : List Bool) i => (n, st, n.1, i, ()))
    (fun i st => st.length = m ∧ (∀ v, 0 ≤ v → gt st v = true → Rc n.2.2.2 v) ∧ gt st 0 = true ∧ (Closed n.2.2.2 st ∨ i + 1 ≤ cnt st)) (fun st _ _ => n.2.2.2.foldl upd st)
    (fun st j x kc ke ⟨p1, p2, p3, p4⟩ hx hj => by
      refine ⟨?_, round_len.trans p1, round_sound hw (fun e he => he) p1 p2, round_keep p3, ?_⟩
      · have hlt : decide ((j : Int) < n.1) = true := by rw [decide_eq_true_eq, hnm]; exact Int.ofNat_lt.2 hj
        simp only [r_impl_NetOk_L2, hlt, cond_true]
        rw [met_inner n hn _ st (by rw [p1]; exact hw)]
        rw [wr_succ hj (by omega)]
      · rcases p4 with p4 | p4
        · left; rw [round_fix p1 hw p4]; exact p4
        · rcases round_grow p1 hw with q | q
          · left; rw [round_fix p1 hw q]; exact q
          · right; omega)
    (fun st kc ke _ => by
      have hlt : decide ((((List.range m).length : Nat) : Int) < n.1) = false := by rw [decide_eq_false_iff_not, hnm]; omega
      simp only [r_impl_NetOk_L2, hlt, cond_false]) (N := N0) (by have := N0_big; omega) st ⟨hl, hs, h0, .inr hc⟩ k
  refine ⟨foldI (fun st _ _ => n.2.2.2.foldl upd st) (List.range m) 0 st, fp.2.1, ?_, fp.2.2.1, fp.2.2.2.1, ?_⟩
  · rcases fp.2.2.2.2 with q | q
    · exact q
    · have := cnt_le (foldI (fun st _ _ => n.2.2.2.foldl upd st) (List.range m) 0 st)
      rw [fp.2.1] at this
      simp only [hlen] at q; omega
  · rw [fp.1, hlen, hm]

theorem wiresOk {n : TNet} {m : Nat} (hm : n.1 = m) (h : wiresBad n = false) : InW m n.2.2.2 := by
  intro e he
  obtain ⟨i, hi⟩ := List.getElem?_of_mem he
  simp only [wiresBad, List.any_eq_false] at h
  have := h (e, i) (by rw [List.mem_zipIdx_iff_getElem?]; exact hi)
  simp only [badW, Bool.not_eq_true, Bool.or_eq_false_iff, Bool.not_eq_false', Bool.and_eq_true, decide_eq_true_eq] at this
  omega

noncomputable def netok (n : TNet) : Bool := hdrOk n && !wiresBad n && conn n

theorem p_NetOk (n : TNet) (hn : Sm.sm B1 n) : e_impl_NetOk (n, ()) = some (netok n) := by
  simp only [e_impl_NetOk, r_impl_NetOk, netL0_impl n hn]
  by_cases hh : hdrOk n = true
  · have hh' := hh
    simp only [hdrOk, Bool.and_eq_true, decide_eq_true_eq] at hh'
    obtain ⟨⟨⟨⟨⟨q1, q2⟩, q3⟩, q4⟩, q5⟩, q6⟩ := hh'
    have d1 : decide (n.1 < 1) = false := by rw [decide_eq_false_iff_not]; omega
    have d2 : decide (n.1 > 5) = false := by rw [decide_eq_false_iff_not]; omega
    have d3 : decide (n.2.1 < 1) = false := by rw [decide_eq_false_iff_not]; omega
    have d4 : decide (n.2.1 > n.1) = false := by rw [decide_eq_false_iff_not]; omega
    have d5 : decide (n.2.2.1 < 1) = false := by rw [decide_eq_false_iff_not]; omega
    have d6 : decide (n.2.2.1 > 1000) = false := by rw [decide_eq_false_iff_not]; omega
    simp only [d1, d2, d3, d4, d5, d6, cond_false]
    cases hb : wiresBad n with
    | true => simp [netok, hh, hb]
    | false =>
      simp only [cond_false]
      obtain ⟨m, hm⟩ : ∃ m : Nat, n.1 = m := ⟨n.1.toNat, by omega⟩
      have hw := wiresOk hm hb
      have d7 : decide (0 ≤ n.1) = true := by rw [decide_eq_true_eq]; omega
      have hm' : n.1.toNat = m := by omega
      simp only [d7, cond_true, hm', ble_true (show m ≤ 17179869184 by omega)]
      have g0 : getI (List.replicate m false) 0 = some false := by
        rw [getI_zero, List.getElem?_replicate, if_pos (by omega)]
      simp only [g0, Option.bind_some, Int.toNat_zero]
      obtain ⟨st', p1, p2, p3, p4, p5⟩ := met_outer n hn m hm (by omega) hw ((List.replicate m false).set 0 true) (by simp)
        (fun v hv hg => by
          rw [gt_set] at hg
          have hz : gt (List.replicate m false) v = false := by
            simp only [gt, List.getElem?_replicate]; split <;> rfl
          rw [hz] at hg
          simp at hg
          have : v = 0 := by omega
          subst this; exact .zero)
        (by rw [gt_set]; simp; omega)
        (by have := (cnt_set (List.replicate m false) 0).2 (by rw [List.getElem?_replicate, if_pos (by omega)]); omega)
        (fun s3 => Option.bind (e_slices_Contains_bool (s3.2.1, false, ())) fun x4 => some (!x4))
      rw [p5]
      simp only [p_ContainsB st' false (show st'.length ≤ BB by rw [p1]; exact Nat.le_trans (show m ≤ 5 by omega) (by decide)), Option.bind_some, netok, hh, hb, Bool.not_false, Bool.true_and, Option.some.injEq]
      have hall := all_true p1
      by_cases hc : ∀ v : Int, 0 ≤ v → v < n.1 → Rc n.2.2.2 v
      · have e1 : conn n = true := by simp only [conn, decide_eq_true_eq]; exact hc
        rw [e1, hall.2 fun v h0 h1 => closed_all p2 p4 v (hc v h0 (by omega))]; rfl
      · have e1 : conn n = false := by simp only [conn, decide_eq_false_iff_not]; exact hc
        have : decide (false ∈ st') = true := by
          cases hd : decide (false ∈ st') with
          | true => rfl
          | false => exact absurd (fun v h0 h1 => p3 v h0 (hall.1 hd v h0 (by omega))) hc
        rw [e1, this]; rfl
  · simp only [Bool.not_eq_true] at hh
    have e : netok n = false := by simp [netok, hh]
    rw [e]
    have hh' := hh
    simp only [hdrOk, Bool.and_eq_false_iff, decide_eq_false_iff_not] at hh'
    by_cases d1 : n.1 < 1
    · simp [d1]
    by_cases d2 : n.1 > 5
    · simp [d1, d2]
    by_cases d3 : n.2.1 < 1
    · simp [d1, d2, d3]
    by_cases d4 : n.2.1 > n.1
    · simp [d1, d2, d3, d4]
    by_cases d5 : n.2.2.1 < 1
    · simp [d1, d2, d3, d4, d5]
    by_cases d6 : n.2.2.1 > 1000
    · simp [d1, d2, d3, d4, d5, d6]
    omega

end Go.Sx.R
namespace Go.Sx.R
open Go Go.Sx

def addIf (c : Bool) (v : Int) (q : List Int) : List Int := if c = true ∧ v ∉ q then q ++ [v] else q

theorem addIf_mem {c : Bool} {v u : Int} {q : List Int} (h : u ∈ q) : u ∈ addIf c v q := by
  unfold addIf; split
  · simp [h]
  · exact h
theorem addIf_in {v : Int} {q : List Int} : v ∈ addIf true v q := by
  unfold addIf; split
  · simp
  · rename_i h; simpa using h
theorem addIf_get {c : Bool} {v u : Int} {q : List Int} {i : Nat} (h : q[i]? = some u) : (addIf c v q)[i]? = some u := by
  unfold addIf; split
  · rw [List.getElem?_append_left (get_lt h)]; exact h
  · exact h
theorem addIf_len {c : Bool} {v : Int} {q : List Int} : q.length ≤ (addIf c v q).length := by
  unfold addIf; split <;> simp

/-- What holds of the queue. -/
structure QOk (ws : List W3) (q : List Int) : Prop where
  nodup : q.Nodup
  rc : ∀ v ∈ q, Rc ws v
  zero : (0 : Int) ∈ q

theorem QOk.add {ws : List W3} {q : List Int} (h : QOk ws q) {c : Bool} {v : Int} (hv : c = true → Rc ws v) : QOk ws (addIf c v q) := by
  unfold addIf; split
  · rename_i hc
    refine ⟨?_, fun u hu => ?_, by simp [h.zero]⟩
    · rw [List.nodup_append]
      refine ⟨h.nodup, by simp, fun a ha b hb e => ?_⟩
      simp at hb; subst hb; subst e; exact hc.2 ha
    · rcases List.mem_append.1 hu with hu | hu
      · exact h.rc u hu
      · simp at hu; subst hu; exact hv hc.1
  · exact h

theorem QOk.len {ws : List W3} {q : List Int} {m : Nat} (h : QOk ws q) (h0 : 0 < m) (hw : InW m ws) : q.length ≤ m := by
  have := nodup_len (m := ints m) h.nodup fun v hv => mem_ints.2 ((h.rc v hv).inn h0 hw)
  rwa [len_ints] at this

def Done (ws : List W3) (v : Int) (q : List Int) : Prop := ∀ e ∈ ws, (e.1 = v → e.2.1 ∈ q) ∧ (e.2.1 = v → e.1 ∈ q)

def reachG (x : Int) (q : List Int) (_ : Nat) (e : W3) : List Int := addIf (decide (e.2.1 = x)) e.1 (addIf (decide (e.1 = x)) e.2.1 q)

theorem addT {v : Int} {q : List Int} (h : v ∉ q) : addIf true v q = q ++ [v] := by simp [addIf, h]
theorem addN {c : Bool} {v : Int} {q : List Int} (h : v ∈ q) : addIf c v q = q := by simp [addIf, h]
theorem addF {v : Int} {q : List Int} : addIf false v q = q := by simp [addIf]

theorem reach_step (ws : List W3) (hws : Sm.sm B1 ws) (m : Nat) (h0 : 0 < m) (h5 : m ≤ 5) (hw : InW m ws) (i : Nat) (x : Int) (q : List Int) (hq : QOk ws q) (hx : q[i]? = some x) (j : Nat) (e : W3) (he : ws[j]? = some e) (hj : j < ws.length) (kc ke : _ → Option (List Int)) :
    r_spec_l03Reach_L2 e_spec_l03Has N0 (ws, q, (i : Int), ws, (ws.length : Int), (j : Int), ()) kc ke = kc (ws, reachG x q j e, (i : Int), ws, (ws.length : Int), ((j + 1 : Nat) : Int), ()) := by
  have hxq : x ∈ q := List.mem_of_getElem? hx
  have hl := hq.len h0 hw
  have hbb : ∀ k : Nat, k ≤ 7 → k ≤ BB := fun k hk => Nat.le_trans hk (by decide)
  simp only [r_spec_l03Reach_L2, lt_len, hj, decide_true, cond_true, getI_nat, he, hx, Option.bind_some, wr_len hj hws]
  rw [p_Has q e.2.1 (hbb _ (by omega)), p_Has q e.1 (hbb _ (by omega))]
  have hx2 : ∀ v : Int, (q ++ [v])[i]? = some x := fun v => by rw [List.getElem?_append_left (get_lt hx)]; exact hx
  have room : Nat.ble (q.length + 1) 17179869184 = true := ble_true (by omega)
  have room2 : Nat.ble (q.length + 1 + 1) 17179869184 = true := ble_true (by omega)
  rw [p_Has (q ++ [e.2.1]) e.1 (hbb _ (by simp; omega))]
  simp only [List.length_cons, List.length_nil, List.length_append, Nat.zero_add, room, room2, hx2, Option.bind_some, cond_true, reachG]
  by_cases a1 : e.1 = x
  · rw [a1]
    simp only [decide_true, cond_true]
    by_cases a2 : e.2.1 ∈ q
    · simp only [a2, decide_true, Bool.not_true, cond_false, addN a2]
      by_cases a3 : e.2.1 = x
      · simp only [a3, decide_true, cond_true, hxq, Bool.not_true, cond_false, addN hxq]
      · simp only [a3, decide_false, cond_false, addF]
    · simp only [a2, decide_false, Bool.not_false, cond_true, addT a2]
      by_cases a3 : e.2.1 = x
      · exact absurd (a3 ▸ hxq) a2
      · simp only [a3, decide_false, cond_false, addF]
  · simp only [a1, decide_false, cond_false, addF]
    by_cases a3 : e.2.1 = x
    · simp only [a3, decide_true, cond_true]
      by_cases a4 : e.1 ∈ q
      · simp only [a4, decide_true, Bool.not_true, cond_false, addN a4]
      · simp only [a4, decide_false, Bool.not_false, cond_true, addT a4]
    · simp only [a3, decide_false, cond_false, addF]

theorem reach_inner (ws : List W3) (hws : Sm.sm B1 ws) (m : Nat) (h0 : 0 < m) (h5 : m ≤ 5) (hw : InW m ws) (i : Nat) (x : Int) (q : List Int) (hq : QOk ws q) (hx : q[i]? = some x) (ke : _ → Option (List Int)) :
    ∃ q', iterK (r_spec_l03Reach_L2 e_spec_l03Has N0) N0 (ws, q, (i : Int), ws, (ws.length : Int), 0, ()) ke = ke (ws, q', (i : Int), ws, (ws.length : Int), (ws.length : Int), ()) ∧
      QOk ws q' ∧ q'[i]? = some x ∧ (∀ u ∈ q, u ∈ q') ∧ q.length ≤ q'.length ∧ Done ws x q' ∧ ∀ (j : Nat) (u : Int), q[j]? = some u → q'[j]? = some u := by
  have hxr : Rc ws x := hq.rc x (List.mem_of_getElem? hx)
  have := iter_fold (R := List Int) (body := r_spec_l03Reach_L2 e_spec_l03Has N0) ws (fun (q : List Int) j => (ws, q, (i : Int), ws, (ws.length : Int), j, ()))
    (fun j q' => QOk ws q' ∧ q'[i]? = some x ∧ (∀ u ∈ q, u ∈ q') ∧ q.length ≤ q'.length ∧ (∀ (k : Nat) (e : W3), k < j → ws[k]? = some e → (e.1 = x → e.2.1 ∈ q') ∧ (e.2.1 = x → e.1 ∈ q')) ∧ ∀ (k : Nat) (u : Int), q[k]? = some u → q'[k]? = some u) (reachG x)
    (fun q' j e kc ke ⟨p1, p2, p3, p4, p5, p6⟩ he hj => by
      refine ⟨reach_step ws hws m h0 h5 hw i x q' p1 p2 j e he hj kc ke, ?_, ?_, ?_, ?_, ?_, ?_⟩
      · have hem := List.mem_of_getElem? he
        refine (p1.add fun hc => ?_).add fun hc => ?_
        · have : e.1 = x := by simpa using hc
          exact .ab hem (this ▸ hxr)
        · have : e.2.1 = x := by simpa using hc
          exact .ba hem (this ▸ hxr)
      · exact addIf_get (addIf_get p2)
      · exact fun u hu => addIf_mem (addIf_mem (p3 u hu))
      · exact Nat.le_trans p4 (Nat.le_trans addIf_len addIf_len)
      · intro k e' hk hek
        by_cases ek : k = j
        · subst ek
          rw [he] at hek; simp only [Option.some.injEq] at hek; subst hek
          refine ⟨fun h1 => ?_, fun h2 => ?_⟩
          · refine addIf_mem ?_
            rw [decide_eq_true h1]; exact addIf_in
          · simp only [reachG]
            rw [decide_eq_true h2]; exact addIf_in
        · have := p5 k e' (by omega) hek
          exact ⟨fun h => addIf_mem (addIf_mem (this.1 h)), fun h => addIf_mem (addIf_mem (this.2 h))⟩
      · exact fun k u hk => addIf_get (addIf_get (p6 k u hk)))
    (fun q' kc ke _ => by simp only [r_spec_l03Reach_L2, not_lt_self, cond_false]) (N := N0) (len_lt hws N0_gt) q ⟨hq, hx, fun _ h => h, Nat.le_refl _, by simp, fun _ _ h => h⟩ ke
  obtain ⟨e1, p1, p2, p3, p4, p5, p6⟩ := this
  refine ⟨_, e1, p1, p2, p3, p4, fun e he => ?_, p6⟩
  obtain ⟨k, hk⟩ := List.getElem?_of_mem he
  exact p5 k e (get_lt hk) hk

theorem p_Reach (ws : List W3) (hws : Sm.sm B1 ws) (m : Nat) (h0 : 0 < m) (h5 : m ≤ 5) (hw : InW m ws) :
    ∃ q, e_spec_l03Reach (ws, 0, ()) = some q ∧ QOk ws q ∧ ∀ v ∈ q, Done ws v q := by
  simp only [e_spec_l03Reach, r_spec_l03Reach]
  refine iter_while (fun o => ∃ q, o = some q ∧ QOk ws q ∧ ∀ v ∈ q, Done ws v q)
    (fun s : List W3 × List Int × Int × Unit => s.1 = ws ∧ QOk ws s.2.1 ∧ ∃ i : Nat, s.2.2.1 = i ∧ i ≤ s.2.1.length ∧ ∀ (j : Nat) (u : Int), j < i → s.2.1[j]? = some u → Done ws u s.2.1) (fun s => m - s.2.2.1.toNat) ?_ N0 _ ⟨rfl, ⟨by simp, fun v hv => ?_, by simp⟩, 0, rfl, by simp, by simp⟩ (by have := N0_big; simp only [Int.toNat_zero]; omega)
  · rintro ⟨ws', q, at', u⟩ kc ⟨rfl, hq, i, rfl, hi, hd⟩ hk
    simp only [r_spec_l03Reach_L0]
    simp only at hq hi hd
    by_cases hlt : i < q.length
    · simp only [lt_len, hlt, decide_true, cond_true]
      have hx : q[i]? = some q[i] := List.getElem?_eq_getElem hlt
      obtain ⟨q', e1, p1, p2, p3, p4, p5, p6⟩ := reach_inner ws' hws m h0 h5 hw i q[i] q hq hx (fun s1 => kc (s1.1, s1.2.1, wr (s1.2.2.1 + 1), ()))
      rw [e1]
      have hl := hq.len h0 hw
      simp only [wr_succ hlt (by omega)]
      refine hk _ ⟨rfl, p1, i + 1, rfl, by simp only; omega, fun j u hj hu => ?_⟩ (by simp only [Int.toNat_natCast]; omega)
      simp only at hu ⊢
      by_cases ej : j = i
      · subst ej; rw [p2] at hu; simp only [Option.some.injEq] at hu; rw [← hu]; exact p5
      · have hj' : j < q.length := by omega
        have h1 : q[j]? = some q[j] := List.getElem?_eq_getElem hj'
        have h2 := p6 j _ h1
        rw [hu] at h2; simp only [Option.some.injEq] at h2; subst h2
        intro e he
        exact ⟨fun h => p3 _ ((hd j _ (by omega) h1 e he).1 h), fun h => p3 _ ((hd j _ (by omega) h1 e he).2 h)⟩
    · have hd' : decide ((i : Int) < (q.length : Int)) = false := by simp; omega
      simp only [hd', cond_false]
      refine ⟨q, rfl, hq, fun v hv => ?_⟩
      obtain ⟨j, hj⟩ := List.getElem?_of_mem hv
      exact hd j v (by have := get_lt hj; omega) hj
  · simp at hv; subst hv; exact .zero

theorem reach_all {ws : List W3} {q : List Int} (hq : QOk ws q) (hd : ∀ v ∈ q, Done ws v q) : ∀ v, Rc ws v → v ∈ q := by
  intro v h
  induction h with
  | zero => exact hq.zero
  | ab he _ ih => exact (hd _ ih _ he).1 rfl
  | ba he _ ih => exact (hd _ ih _ he).2 rfl

theorem s_NetOk (n : TNet) (hn : Sm.sm B1 n) : e_spec_NetOk (n, ()) = some (netok n) := by
  simp only [e_spec_NetOk, r_spec_NetOk, p_l01In, n_l01In, Option.bind_some]
  by_cases hh : hdrOk n = true
  · have hh' := hh
    simp only [hdrOk, Bool.and_eq_true, decide_eq_true_eq] at hh'
    obtain ⟨⟨⟨⟨⟨q1, q2⟩, q3⟩, q4⟩, q5⟩, q6⟩ := hh'
    simp only [q1, q2, q3, q4, q5, q6, decide_true, Bool.and_self, Bool.not_true, cond_false]
    rw [netL0_spec n hn _ q1 q2]
    cases hb : wiresBad n with
    | true => simp [netok, hh, hb]
    | false =>
      simp only [cond_false]
      obtain ⟨m, hm⟩ : ∃ m : Nat, n.1 = m := ⟨n.1.toNat, by omega⟩
      have hw := wiresOk hm hb
      obtain ⟨q, e1, hq, hd⟩ := p_Reach n.2.2.2 hn.2.2.2 m (by omega) (by omega) hw
      rw [e1]
      simp only [Option.bind_some, netok, hh, hb, Bool.not_false, Bool.true_and, Option.some.injEq]
      have hl := hq.len (by omega) hw
      by_cases hc : ∀ v : Int, 0 ≤ v → v < n.1 → Rc n.2.2.2 v
      · have e2 : conn n = true := by simp only [conn, decide_eq_true_eq]; exact hc
        rw [e2, decide_eq_true_eq]
        have := nodup_len (l := ints m) (m := q) nodup_ints fun v hv => reach_all hq hd v (hc v (mem_ints.1 hv).1 (by have := (mem_ints.1 hv).2; omega))
        rw [len_ints] at this; omega
      · have e2 : conn n = false := by simp only [conn, decide_eq_false_iff_not]; exact hc
        rw [e2, decide_eq_false_iff_not]
        intro hlen
        have hall := nodup_all (m := ints m) hq.nodup (fun v hv => mem_ints.2 ((hq.rc v hv).inn (by omega) hw)) (by rw [len_ints]; omega)
        exact hc fun v h0 h1 => hq.rc v (hall v (mem_ints.2 ⟨h0, by omega⟩))
  · simp only [Bool.not_eq_true] at hh
    have e : netok n = false := by simp [netok, hh]
    rw [e]
    have hh' := hh
    simp only [hdrOk, Bool.and_eq_false_iff, decide_eq_false_iff_not] at hh'
    by_cases d1 : 1 ≤ n.1 ∧ n.1 ≤ 5
    · by_cases d3 : 1 ≤ n.2.1 ∧ n.2.1 ≤ n.1
      · have d5 : (decide (1 ≤ n.2.2.1) && decide (n.2.2.1 ≤ 1000)) = false := by simp only [Bool.and_eq_false_iff, decide_eq_false_iff_not]; omega
        simp [d1, d3, d5]
      · have d3' : (decide (1 ≤ n.2.1) && decide (n.2.1 ≤ n.1)) = false := by simp only [Bool.and_eq_false_iff, decide_eq_false_iff_not]; omega
        simp [d1, d3']
    · have d1' : (decide (1 ≤ n.1) && decide (n.1 ≤ 5)) = false := by simp only [Bool.and_eq_false_iff, decide_eq_false_iff_not]; omega
      simp [d1']
end Go.Sx.R
namespace Go.Sx.R
open Go Go.Sx

theorem find_first {β : Type} (p : β → Bool) : ∀ (l : List β) (i : Nat) (x : β), (∀ (j : Nat) (y : β), j < i → l[j]? = some y → p y = false) → l[i]? = some x → p x = true → l.find? p = some x
  | [], i, x, _, hx, _ => by simp at hx
  | y :: l, 0, x, _, hx, hp => by
    simp at hx; subst hx; simp [hp]
  | y :: l, i + 1, x, h, hx, hp => by
    have h0 := h 0 y (by omega) (by simp)
    simp only [List.find?_cons, h0]
    exact find_first p l i x (fun j z hj hz => h (j + 1) z (by omega) (by simpa using hz)) (by simpa using hx) hp

theorem find_none {β : Type} (p : β → Bool) (l : List β) (h : ∀ (j : Nat) (y : β), l[j]? = some y → p y = false) : l.find? p = none := by
  rw [List.find?_eq_none]
  intro x hx
  obtain ⟨j, hj⟩ := List.getElem?_of_mem hx
  simp [h j x hj]

/-- A wire between two nodes. -/
def isW (a b : Int) (x : W3) : Bool := decide (x.1 = if b < a then b else a) && decide (x.2.1 = if b > a then b else a)
def wbt (ws : List W3) (a b : Int) : Int := if a = b then 0 else match ws.find? (isW a b) with
  | some x => x.2.2
  | none => 0

theorem p_WB (n : TNet) (m : Nat) (hn : Sm.sm B1 n) (hw : InW m n.2.2.2) (a b : Int) : e_impl_WeightBetween (n, a, b, ()) = some (wbt n.2.2.2 a b) := by
  have hws : Sm.sm B1 n.2.2.2 := hn.2.2.2
  simp only [e_impl_WeightBetween, r_impl_WeightBetween]
  refine iter_rule (fun o => o = some (wbt n.2.2.2 a b)) n.2.2.2 (fun (_ : Unit) i => (a, b, n.2.2.2, (n.2.2.2.length : Int), i, ())) (fun i _ => a = b ∨ ∀ (j : Nat) (y : W3), j < i → n.2.2.2[j]? = some y → isW a b y = false)
    (fun st i x kc hp hx hi hk => ?_) (fun st kc hp => ?_) (len_lt hws N0_gt) () (.inr (by simp))
  · simp only [r_impl_WeightBetween_L0, lt_len, hi, decide_true, cond_true, getI_nat, hx, Option.bind_some, wr_len hi hws]
    have hk' := hk ()
    by_cases hab : a = b
    · simp only [hab, decide_true, Bool.not_true, cond_false] at hk' ⊢
      exact hk' (.inl trivial)
    · have hp := hp.resolve_left hab
      simp only [hab, decide_false, Bool.not_false, cond_true]
      have hx3 := hw x (List.mem_of_getElem? hx)
      have next : isW a b x = false → some (wbt n.2.2.2 a b) = some (wbt n.2.2.2 a b) → kc (a, b, n.2.2.2, (n.2.2.2.length : Int), ((i + 1 : Nat) : Int), ()) = some (wbt n.2.2.2 a b) := fun hf _ => hk' (.inr fun j y hj hy => by
        by_cases e : j = i
        · subst e; rw [hx] at hy; simp only [Option.some.injEq] at hy; subst hy; exact hf
        · exact hp j y (by omega) hy)
      have hit : isW a b x = true → some x.2.2 = some (wbt n.2.2.2 a b) := fun ht => by
        rw [wbt, if_neg hab, find_first (isW a b) _ i x hp hx ht]
      by_cases a1 : x.1 = a
      · by_cases a2 : x.2.1 = b
        · simp only [a1, a2, decide_true, cond_true]
          refine hit ?_
          simp only [isW, Bool.and_eq_true, decide_eq_true_eq]
          rw [if_neg (by omega), if_pos (by omega)]; exact ⟨a1, a2⟩
        · have hf : isW a b x = false := by
            simp only [isW, Bool.and_eq_false_iff, decide_eq_false_iff_not]
            by_cases c : b < a
            · left; rw [if_pos c]; omega
            · right; rw [if_pos (by omega)]; exact a2
          have a3 : ¬ (x.1 = b) := by omega
          have a3' : ¬ (a = b) := by omega
          simp only [a1, a2, decide_true, cond_true, decide_false, cond_false, a3']
          exact next hf rfl
      · by_cases a3 : x.1 = b
        · by_cases a4 : x.2.1 = a
          · simp only [a1, a3, a4, decide_true, cond_true, decide_false, cond_false]
            have : ¬ b = a := by omega
            simp only [this, decide_false, cond_false]
            refine hit ?_
            simp only [isW, Bool.and_eq_true, decide_eq_true_eq]
            rw [if_pos (by omega), if_neg (by omega)]; exact ⟨a3, a4⟩
          · have hf : isW a b x = false := by
              simp only [isW, Bool.and_eq_false_iff, decide_eq_false_iff_not]
              by_cases c : b < a
              · right; rw [if_neg (by omega)]; exact a4
              · left; rw [if_neg c]; exact a1
            have : ¬ b = a := by omega
            simp only [a3, a4, decide_true, cond_true, decide_false, cond_false, this]
            exact next hf rfl
        · have hf : isW a b x = false := by
            simp only [isW, Bool.and_eq_false_iff, decide_eq_false_iff_not]
            left; split <;> assumption
          simp only [a1, a3, decide_false, cond_false]
          exact next hf rfl
  · simp only [r_impl_WeightBetween_L0, not_lt_self, cond_false]
    by_cases hab : a = b
    · simp [wbt, hab]
    · rw [wbt, if_neg hab, find_none (isW a b) _ fun j y hy => (hp.resolve_left hab) j y (get_lt hy) hy]

theorem s_Find (ws : List W3) (hws : Sm.sm B1 ws) (a b : Int) : ∃ r, e_spec_l03Find (ws, a, b, ()) = some r ∧ ((r = -1 ∧ ws.find? (isW a b) = none) ∨ ∃ (j : Nat) (x : W3), r = j ∧ ws[j]? = some x ∧ ws.find? (isW a b) = some x) := by
  simp only [e_spec_l03Find, r_spec_l03Find]
  refine iter_rule (fun o => ∃ r : Int, o = some r ∧ ((r = -1 ∧ ws.find? (isW a b) = none) ∨ ∃ (j : Nat) (x : W3), r = j ∧ ws[j]? = some x ∧ ws.find? (isW a b) = some x)) ws (fun (_ : Unit) i => (a, b, ws, (ws.length : Int), i, ())) (fun i _ => ∀ (j : Nat) (y : W3), j < i → ws[j]? = some y → isW a b y = false)
    (fun st i x kc hp hx hi hk => ?_) (fun st kc hp => ?_) (len_lt hws N0_gt) () (by simp)
  · simp only [r_spec_l03Find_L0, lt_len, hi, decide_true, cond_true, getI_nat, hx, Option.bind_some, wr_len hi hws]
    have next : isW a b x = false → _ := fun hf => hk () fun j y hj hy => by
        by_cases e : j = i
        · subst e; rw [hx] at hy; simp only [Option.some.injEq] at hy; subst hy; exact hf
        · exact hp j y (by omega) hy
    by_cases c1 : x.1 = if b < a then b else a
    · by_cases c2 : x.2.1 = if b > a then b else a
      · have d1 := decide_eq_true c1
        have d2 := decide_eq_true c2
        refine ⟨i, ?_, .inr ⟨i, x, rfl, hx, find_first (isW a b) _ i x hp hx (by simp only [isW, d1, d2, Bool.and_self])⟩⟩
        rw [d1, cond_true, d2, cond_true]
      · have d1 := decide_eq_true c1
        have d2 := decide_eq_false c2
        rw [d1, cond_true, d2, cond_false]
        exact next (by simp only [isW, d2, Bool.and_false])
    · have d1 := decide_eq_false c1
      rw [d1, cond_false]
      exact next (by simp only [isW, d1, Bool.false_and])
  · simp only [r_spec_l03Find_L0, not_lt_self, cond_false]
    exact ⟨-1, rfl, .inl ⟨rfl, find_none (isW a b) _ fun j y hy => hp j y (get_lt hy) hy⟩⟩

theorem s_WB (n : TNet) (hn : Sm.sm B1 n) (a b : Int) : e_spec_WeightBetween (n, a, b, ()) = some (wbt n.2.2.2 a b) := by
  simp only [e_spec_WeightBetween, r_spec_WeightBetween]
  obtain ⟨r, e1, h⟩ := s_Find n.2.2.2 hn.2.2.2 a b
  rw [e1, Option.bind_some]
  rcases h with ⟨rfl, h⟩ | ⟨j, x, rfl, hx, h⟩
  · simp [wbt, h]
  · have : decide ((j : Int) < 0) = false := by simp
    rw [this, cond_false, getI_nat, hx]
    by_cases hab : a = b
    · simp [hab, wbt]
    · simp [hab, wbt, h]

/-- What a good network is. -/
theorem netok_facts {n : TNet} (h : netok n = true) : ∃ m : Nat, n.1 = m ∧ 1 ≤ m ∧ m ≤ 5 ∧ InW m n.2.2.2 ∧ 1 ≤ n.2.1 ∧ n.2.1 ≤ m := by
  have hh : hdrOk n = true := by revert h; simp only [netok]; cases hdrOk n <;> simp
  have hb : wiresBad n = false := by revert h; simp only [netok]; cases wiresBad n <;> simp
  simp only [hdrOk, Bool.and_eq_true, decide_eq_true_eq] at hh
  obtain ⟨m, hm⟩ : ∃ m : Nat, n.1 = m := ⟨n.1.toNat, by omega⟩
  exact ⟨m, hm, by omega, by omega, wiresOk hm hb, by omega, by omega⟩

end Go.Sx.R
namespace Go.Sx.R
open Go Go.Sx

/-- The nodes that are no terminals. -/
def rng (lo : Int) (d : Nat) : List Int := (List.range d).map fun i => lo + Int.ofNat i

theorem rng_len {lo : Int} {d : Nat} : (rng lo d).length = d := by simp [rng]

theorem rng_succ (lo : Int) (d : Nat) : rng lo (d + 1) = rng lo d ++ [lo + d] := by
  simp [rng, List.range_succ]

theorem p_inner (n : TNet) (m : Nat) (hm : n.1 = m) (hmB : m ≤ 5) (h1 : 1 ≤ n.2.1) (h2 : n.2.1 ≤ m) : e_impl_inner (n, ()) = some (rng n.2.1 (m - n.2.1.toNat)) := by
  simp only [e_impl_inner, r_impl_inner]
  have hd : (List.range (m - n.2.1.toNat)).length = m - n.2.1.toNat := by simp
  have := iter_fold (R := List Int) (body := r_impl_inner_L0 N0) (List.range (m - n.2.1.toNat)) (fun (q : List Int) i => (n, q, n.2.1 + i, ())) (fun i q => q = rng n.2.1 i) (fun q i _ => q ++ [n.2.1 + (i : Int)])
    (fun q i x kc ke hq hx hi => by
      rw [hd] at hi
      have hlt : decide (n.2.1 + (i : Int) < n.1) = true := by rw [decide_eq_true_eq]; omega
      subst hq
      have hw : wr (n.2.1 + (i : Int) + 1) = n.2.1 + ((i + 1 : Nat) : Int) := by rw [wr_id (by omega) (by omega)]; omega
      simp only [r_impl_inner_L0, hlt, cond_true, List.length_cons, List.length_nil, Nat.zero_add, rng_len, ble_true (show i + 1 ≤ 17179869184 by omega), hw]
      exact ⟨trivial, (rng_succ _ _).symm⟩)
    (fun q kc ke _ => by
      have hlt : decide (n.2.1 + (((List.range (m - n.2.1.toNat)).length : Nat) : Int) < n.1) = false := by rw [decide_eq_false_iff_not, hd]; omega
      simp only [r_impl_inner_L0, hlt, cond_false]) (N := N0) (by have := N0_big; omega) [] (by simp [rng]) (fun s1 => some s1.2.1)
  have e0 : n.2.1 + (0 : Int) = n.2.1 := by omega
  simp only [e0] at this
  rw [this.1, this.2, hd]

end Go.Sx.R
namespace Go.Sx.R
open Go Go.Sx

theorem u64_id {x : Int} (h0 : 0 ≤ x) (h1 : x ≤ 18446744073709551615) : Go.IntKind.wrap Go.IntKind.u64 x = x := by
  simp only [IntKind.wrap, IntKind.bits, IntKind.signed]
  simp
  omega

theorem common_L0 : r_spec_GcdOf_L0 e_spec_l02Turn N0 = r_impl_common_L0 N0 := by
  funext s kc ke
  simp only [r_spec_GcdOf_L0, r_impl_common_L0, e_spec_l02Turn, r_spec_l02Turn]
  cases decide (s.2.1 = 0) <;> rfl

theorem common_loop (a b : Nat) (hb : b ≤ 9223372036854775807) : (iterK (r_impl_common_L0 N0) N0 ((a : Int), (b : Int), ()) fun s1 => some s1.1) = some ((Nat.gcd a b : Nat) : Int) := by
  refine iter_while (fun o => o = some ((Nat.gcd a b : Nat) : Int)) (fun s : Int × Int × Unit => ∃ x y : Nat, s = ((x : Int), (y : Int), ()) ∧ Nat.gcd x y = Nat.gcd a b) (fun s => s.2.1.toNat) ?_ N0 _ ⟨a, b, rfl, rfl⟩ (by have := N0_big; simp only [Int.toNat_natCast]; omega)
  rintro _ kc ⟨x, y, rfl, hg⟩ hk
  simp only [r_impl_common_L0]
  by_cases hy : y = 0
  · subst hy
    simp at hg
    simp [hg]
  · have d : decide ((y : Int) = 0) = false := by rw [decide_eq_false_iff_not]; omega
    simp only [d, Bool.not_false, cond_true, cond_false]
    have e : Int.tmod (x : Int) (y : Int) = ((x % y : Nat) : Int) := by rw [Int.tmod_eq_emod_of_nonneg (by omega)]; simp
    rw [e]
    refine hk _ ⟨y, x % y, rfl, ?_⟩ ?_
    · rw [← hg, Nat.gcd_comm y, ← Nat.gcd_rec, Nat.gcd_comm]
    · simp only [Int.toNat_natCast]
      exact Nat.mod_lt _ (by omega)

theorem p_common (a b : Nat) (hb : b ≤ 9223372036854775807) : e_impl_common ((a : Int), (b : Int), ()) = some ((Nat.gcd a b : Nat) : Int) := by
  simp only [e_impl_common, r_impl_common]
  exact common_loop a b hb

-- weights at nodes
def touch (v : Int) (e : W3) : Int := if e.1 = v ∨ e.2.1 = v then e.2.2 else 0
def wAt (ws : List W3) (v : Int) : Int := (ws.map (touch v)).sum
/-- Sums of numbers that are small and not negative. -/
theorem sum_bounds {β : Type} (h : β → Int) (M : Int) : ∀ (l : List β), (∀ x ∈ l, 0 ≤ h x ∧ h x ≤ M) → 0 ≤ (l.map h).sum ∧ (l.map h).sum ≤ M * l.length
  | [], _ => by simp
  | x :: l, hx => by
    have h1 := sum_bounds h M l fun y hy => hx y (by simp [hy])
    have h2 := hx x (by simp)
    simp only [List.map_cons, List.sum_cons, List.length_cons]
    have : M * ((l.length + 1 : Nat) : Int) = M * l.length + M := by rw [Int.natCast_add, Int.mul_add]; simp
    rw [this]; omega

theorem take_sum {β : Type} (h : β → Int) (M : Int) (l : List β) (hx : ∀ x ∈ l, 0 ≤ h x ∧ h x ≤ M) (i : Nat) : 0 ≤ ((l.take i).map h).sum ∧ ((l.take i).map h).sum ≤ M * l.length := by
  have h1 := sum_bounds h M (l.take i) fun y hy => hx y (List.mem_of_mem_take hy)
  refine ⟨h1.1, Int.le_trans h1.2 ?_⟩
  cases l with
  | nil => simp
  | cons x l =>
    have hM : 0 ≤ M := by have := hx x (by simp); omega
    refine Int.mul_le_mul_of_nonneg_left ?_ hM
    have : ((x :: l).take i).length ≤ (x :: l).length := by simp; omega
    omega

theorem take_succ_sum {β : Type} (h : β → Int) (l : List β) (i : Nat) (x : β) (hx : l[i]? = some x) : ((l.take (i + 1)).map h).sum = ((l.take i).map h).sum + h x := by
  rw [List.take_add_one, hx]
  simp

end Go.Sx.R
namespace Go.Sx.R
open Go Go.Sx

theorem wiresW {n : TNet} (h : netok n = true) : ∀ e ∈ n.2.2.2, 1 ≤ e.2.2 ∧ e.2.2 ≤ 200 := by
  intro e he
  have hb : wiresBad n = false := by revert h; simp only [netok]; cases wiresBad n <;> simp
  obtain ⟨i, hi⟩ := List.getElem?_of_mem he
  simp only [wiresBad, List.any_eq_false] at hb
  have := hb (e, i) (by rw [List.mem_zipIdx_iff_getElem?]; exact hi)
  simp only [badW, Bool.not_eq_true, Bool.or_eq_false_iff, Bool.not_eq_false', Bool.and_eq_true, decide_eq_true_eq] at this
  omega

theorem touch_le {ws : List W3} (hW : ∀ e ∈ ws, 1 ≤ e.2.2 ∧ e.2.2 ≤ 200) (v : Int) : ∀ e ∈ ws, 0 ≤ touch v e ∧ touch v e ≤ 200 := by
  intro e he
  have := hW e he
  unfold touch; split <;> omega

theorem p_WeightAt (n : TNet) (hn : Sm.sm B1 n) (hW : ∀ e ∈ n.2.2.2, 1 ≤ e.2.2 ∧ e.2.2 ≤ 200) (v : Int) : e_impl_WeightAt (n, v, ()) = some (wAt n.2.2.2 v) := by
  have hws : Sm.sm B1 n.2.2.2 := hn.2.2.2
  have hlen : n.2.2.2.length ≤ 1073741824 := hws.1
  simp only [e_impl_WeightAt, r_impl_WeightAt]
  have m := iter_fold (R := Int) (body := r_impl_WeightAt_L0 N0) n.2.2.2 (fun (s : Int) i => (v, s, n.2.2.2, (n.2.2.2.length : Int), i, ())) (fun i s => s = ((n.2.2.2.take i).map (touch v)).sum) (fun s _ x => s + touch v x)
    (fun s i x kc ke hs hx hi => by
      have b1 := take_sum (touch v) 200 n.2.2.2 (touch_le hW v) i
      have b2 := touch_le hW v x (List.mem_of_getElem? hx)
      refine ⟨?_, by rw [take_succ_sum _ _ _ _ hx, hs]⟩
      simp only [r_impl_WeightAt_L0, lt_len, hi, decide_true, cond_true, getI_nat, hx, Option.bind_some, wr_len hi hws]
      by_cases c1 : x.1 = v
      · have ht : touch v x = x.2.2 := by simp [touch, c1]
        have w1 : wr (s + x.2.2) = s + x.2.2 := wr_id (by omega) (by omega)
        simp only [c1, decide_true, cond_true, w1, ht]
      · by_cases c2 : x.2.1 = v
        · have ht : touch v x = x.2.2 := by simp [touch, c2]
          have w1 : wr (s + x.2.2) = s + x.2.2 := wr_id (by omega) (by omega)
          simp only [c1, c2, decide_true, decide_false, cond_true, cond_false, w1, ht]
        · have ht : touch v x = 0 := by simp [touch, c1, c2]
          simp only [c1, c2, decide_false, cond_false, ht, Int.add_zero])
    (fun s kc ke _ => by simp only [r_impl_WeightAt_L0, not_lt_self, cond_false]) (N := N0) (len_lt hws N0_gt) 0 (by simp) (fun s1 => some s1.2.1)
  have e := m.1
  rw [m.2, List.take_length] at e
  exact e

theorem e_WeightAt : e_spec_WeightAt = e_impl_WeightAt := rfl

end Go.Sx.R
namespace Go.Sx.R
open Go Go.Sx

-- lists in strict order
theorem lex_trans {x y z : W3} (h1 : lex x y = true) (h2 : lex y z = true) : lex x z = true := by
  simp only [lex, Bool.or_eq_true, Bool.and_eq_true, decide_eq_true_eq] at *; omega
abbrev Srt (l : List W3) : Prop := l.Pairwise fun x y => lex x y = true

theorem srt_of_adj : ∀ {l : List W3}, (∀ (i : Nat) (x y : W3), l[i]? = some x → l[i + 1]? = some y → lex x y = true) → Srt l
  | [], _ => List.Pairwise.nil
  | [x], _ => by simp [Srt]
  | x :: y :: l, h => by
    have ih : Srt (y :: l) := srt_of_adj fun i a b ha hb => h (i + 1) a b (by simpa using ha) (by simpa using hb)
    have hxy := h 0 x y (by simp) (by simp)
    refine List.pairwise_cons.2 ⟨fun z hz => ?_, ih⟩
    rcases List.mem_cons.1 hz with rfl | hz
    · exact hxy
    · exact lex_trans hxy ((List.pairwise_cons.1 ih).1 z hz)

theorem netok_srt {n : TNet} (h : netok n = true) : Srt n.2.2.2 := by
  have hb : wiresBad n = false := by revert h; simp only [netok]; cases wiresBad n <;> simp
  refine srt_of_adj fun i x y hx hy => ?_
  simp only [wiresBad, List.any_eq_false] at hb
  have := hb (y, i + 1) (by rw [List.mem_zipIdx_iff_getElem?]; exact hy)
  simp only [badW, Bool.not_eq_true, Bool.or_eq_false_iff, hx] at this
  simpa using this.2

/-- In a sorted list a pair of ends stands once. -/
theorem srt_uniq {l : List W3} (h : Srt l) {x y : W3} (hx : x ∈ l) (hy : y ∈ l) (h1 : x.1 = y.1) (h2 : x.2.1 = y.2.1) : x = y := by
  induction l with
  | nil => simp at hx
  | cons z l ih =>
    obtain ⟨hz, hl⟩ := List.pairwise_cons.1 h
    rcases List.mem_cons.1 hx with rfl | hx' <;> rcases List.mem_cons.1 hy with e | hy'
    · exact e.symm
    · have := hz y hy'
      simp only [lex, Bool.or_eq_true, Bool.and_eq_true, decide_eq_true_eq] at this; omega
    · subst e
      have := hz x hx'
      simp only [lex, Bool.or_eq_true, Bool.and_eq_true, decide_eq_true_eq] at this; omega
    · exact ih hl hx' hy'

/-- The weights between, and the wires. -/
theorem wbt_mem {ws : List W3} (hs : Srt ws) {a b : Int} (hab : a < b) {w : Int} (hw : w ≠ 0) : wbt ws a b = w ↔ (a, b, w) ∈ ws := by
  have hp : ∀ x : W3, isW a b x = true ↔ x.1 = a ∧ x.2.1 = b := by
    intro x
    simp only [isW, Bool.and_eq_true, decide_eq_true_eq]
    rw [if_neg (by omega), if_pos (by omega)]
  rw [wbt, if_neg (by omega)]
  constructor
  · intro h
    split at h
    · rename_i x hx
      have h1 := (hp x).1 (List.find?_some hx)
      have h2 := List.mem_of_find?_eq_some hx
      obtain ⟨x1, x2, x3⟩ := x
      simp only at h1 h
      rw [h1.1, h1.2, h] at h2
      exact h2
    · exact absurd h.symm hw
  · intro h
    cases hf : ws.find? (isW a b) with
    | none =>
      rw [List.find?_eq_none] at hf
      exact absurd ((hp (a, b, w)).2 ⟨rfl, rfl⟩) (by simpa using hf _ h)
    | some x =>
      have h1 := (hp x).1 (List.find?_some hf)
      have h2 := List.mem_of_find?_eq_some hf
      have := srt_uniq hs h2 h h1.1 h1.2
      simp only
      rw [this]

-- tables
def IsTab (T : List (List Int)) (m : Nat) (f : Nat → Nat → Int) : Prop := T.length = m ∧ ∀ i, i < m → ∃ row : List Int, T[i]? = some row ∧ row.length = m ∧ ∀ j, j < m → row[j]? = some (f i j)

theorem p_table (n : TNet) (m : Nat) (hn : Sm.sm B1 n) (hm : n.1 = m) (hm5 : m ≤ 5) (hw : InW m n.2.2.2) : ∃ T, e_impl_table (n, ()) = some T ∧ IsTab T m (fun i j => wbt n.2.2.2 (i : Int) (j : Int)) := by
  have hmB : m ≤ 9223372036854775807 := by omega
  have d0 : decide ((0 : Int) ≤ n.1) = true := by rw [decide_eq_true_eq]; omega
  have hmt : n.1.toNat = m := by omega
  have rm : Nat.ble m 17179869184 = true := ble_true (by omega)
  simp only [e_impl_table, r_impl_table, d0, cond_true, hmt, rm, List.length_replicate]
  have hd : (List.range m).length = m := by simp
  have hlm : ((m : Nat) : Int) = ((List.range m).length : Int) := by rw [hd]
  refine iter_rule (R := List (List Int)) (fun o => ∃ T, o = some T ∧ IsTab T m (fun i j => wbt n.2.2.2 (i : Int) (j : Int))) (List.range m) (fun (T : List (List Int)) i => (n, T, (m : Int), i, ()))
    (fun i T => T.length = m ∧ ∀ i', i' < i → ∃ row : List Int, T[i']? = some row ∧ row.length = m ∧ ∀ j, j < m → row[j]? = some (wbt n.2.2.2 (i' : Int) (j : Int)))
    (fun T i x kc ⟨p1, p2⟩ hx hi hk => ?_) (fun T kc ⟨p1, p2⟩ => ?_) (by have := N0_big; omega) _ ⟨by simp, by simp⟩
  · have him : i < m := by rw [hd] at hi; exact hi
    have d1 : decide ((i : Int) < (m : Int)) = true := by rw [decide_eq_true_eq]; omega
    obtain ⟨r0, hr0⟩ := getI_has p1 him
    have hset : (T.set i (List.replicate m (0 : Int)))[i]? = some (List.replicate m (0 : Int)) := by rw [List.getElem?_set_self (by omega)]
    simp only [r_impl_table_L0, d1, cond_true, d0, hmt, rm, hr0, Option.bind_some, Int.toNat_natCast, getI_nat, hset, List.length_replicate]
    refine iter_rule (R := List (List Int)) (fun o => ∃ T, o = some T ∧ IsTab T m (fun i j => wbt n.2.2.2 (i : Int) (j : Int))) (List.range m) (fun (T : List (List Int)) j => (n, T, (i : Int), (m : Int), (i : Int), (m : Int), j, ()))
      (fun j T => T.length = m ∧ (∀ i', i' < i → ∃ row : List Int, T[i']? = some row ∧ row.length = m ∧ ∀ j, j < m → row[j]? = some (wbt n.2.2.2 (i' : Int) (j : Int))) ∧ ∃ row : List Int, T[i]? = some row ∧ row.length = m ∧ ∀ j', j' < j → row[j']? = some (wbt n.2.2.2 (i : Int) (j' : Int)))
      (fun T j y kc2 ⟨q1, q2, row, q3, q4, q5⟩ hy hj hk2 => ?_) (fun T kc2 ⟨q1, q2, row, q3, q4, q5⟩ => ?_) (by have := N0_big; omega) _ ⟨by simpa using p1, fun i' hi' => ?_, List.replicate m 0, hset, by simp, by simp⟩
    · have hjm : j < m := by rw [hd] at hj; exact hj
      have d2 : decide ((j : Int) < (m : Int)) = true := by rw [decide_eq_true_eq]; omega
      obtain ⟨v0, hv0⟩ := getI_has q4 hjm
      simp only [r_impl_table_L2, d2, cond_true, getI_nat, q3, Option.bind_some, p_WB n m hn hw, Int.toNat_natCast]
      rw [← getI_nat row j, hv0, Option.bind_some, wr_succ hjm hmB]
      refine hk2 _ ⟨by simpa using q1, fun i' hi' => ?_, row.set j (wbt n.2.2.2 (i : Int) (j : Int)), by rw [List.getElem?_set_self (by omega)], by simpa using q4, fun j' hj' => ?_⟩
      · rw [List.getElem?_set_ne (by omega)]; exact q2 i' hi'
      · rw [List.getElem?_set]
        by_cases e : j = j'
        · subst e; rw [if_pos rfl, if_pos (by omega)]
        · rw [if_neg e]; exact q5 j' (by omega)
    · have d2 : decide ((((List.range m).length : Nat) : Int) < (m : Int)) = false := by rw [decide_eq_false_iff_not, hd]; omega
      simp only [r_impl_table_L2, d2, cond_false, wr_succ him hmB]
      refine hk _ ⟨q1, fun i' hi' => ?_⟩
      by_cases e : i' = i
      · subst e; exact ⟨row, q3, q4, fun j hj => q5 j (by rw [hd]; exact hj)⟩
      · exact q2 i' (by omega)
    · rw [List.getElem?_set_ne (by omega)]; exact p2 i' hi'
  · have d2 : decide ((((List.range m).length : Nat) : Int) < (m : Int)) = false := by rw [decide_eq_false_iff_not, hd]; omega
    simp only [r_impl_table_L0, d2, cond_false]
    exact ⟨T, rfl, p1, fun i hi => p2 i (by rw [hd]; exact hi)⟩

theorem IsTab.put {T : List (List Int)} {m : Nat} {f : Nat → Nat → Int} (h : IsTab T m f) {a b : Nat} {v : Int} (ha : a < m) {row : List Int} (hr : T[a]? = some row) : IsTab (T.set a (row.set b v)) m (fun i j => if i = a ∧ j = b then v else f i j) := by
  obtain ⟨h1, h2⟩ := h
  refine ⟨by simpa using h1, fun i hi => ?_⟩
  rw [List.getElem?_set]
  by_cases e : a = i
  · subst e
    obtain ⟨row', r1, r2, r3⟩ := h2 a hi
    rw [hr] at r1; simp only [Option.some.injEq] at r1; subst r1
    rw [if_pos rfl, if_pos (by omega)]
    refine ⟨_, rfl, by simpa using r2, fun j hj => ?_⟩
    rw [List.getElem?_set]
    by_cases e2 : b = j
    · subst e2; rw [if_pos rfl, if_pos (by omega)]; simp
    · rw [if_neg e2, r3 j hj]
      have : ¬ (True ∧ j = b) := by simp; omega
      simp; omega
  · rw [if_neg e]
    obtain ⟨row', r1, r2, r3⟩ := h2 i hi
    refine ⟨row', r1, r2, fun j hj => ?_⟩
    rw [r3 j hj]
    have : ¬ (i = a ∧ j = b) := by omega
    simp [this]

end Go.Sx.R
namespace Go.Sx.R
open Go Go.Sx

theorem p_Clone (x : List Int) (hl : x.length ≤ 17179869184) : e_slices_Clone_int (x, ()) = some x := by
  have h : Nat.ble (List.length ([] : List Int) + x.length) 17179869184 = true := ble_true (by simp; omega)
  simp only [e_slices_Clone_int, r_slices_Clone_int, h, cond_true, List.nil_append]
  cases x with
  | nil => exact agree_same
  | cons a l => rfl

def dn (rim : List Int) (i : Nat) (x : Int) : Int := if (rim[(i + 1) % rim.length]?).getD 0 < x then 1 else 0
end Go.Sx.R
namespace Go.Sx.R
open Go Go.Sx

theorem wr_def (x : Int) : wr x = if 9223372036854775808 ≤ x % 18446744073709551616 then x % 18446744073709551616 - 18446744073709551616 else x % 18446744073709551616 := by
  show IntKind.i64.wrap x = _
  unfold IntKind.wrap
  have h1 : ((2 : Int) ^ IntKind.i64.bits) = 18446744073709551616 := by decide
  have h2 : ((2 : Int) ^ (IntKind.i64.bits - 1)) = 9223372036854775808 := by decide
  have h3 : IntKind.i64.signed = true := rfl
  simp only [h1, h2, h3, Bool.true_and, ge_iff_le, decide_eq_true_eq]

theorem wr_congr {x y : Int} (h : (x - y) % 18446744073709551616 = 0) : wr x = wr y := by
  have : x % 18446744073709551616 = y % 18446744073709551616 := by omega
  rw [wr_def, wr_def, this]

theorem wr_off (x : Int) : ∃ k, wr x = x + 18446744073709551616 * k := by
  have h : (wr x - x) % 18446744073709551616 = 0 := by rw [wr_def]; split <;> omega
  exact ⟨(wr x - x) / 18446744073709551616, by omega⟩

theorem wr_addM (x k : Int) : wr (x + 18446744073709551616 * k) = wr x := wr_congr (by omega)
theorem wr_wr (x : Int) : wr (wr x) = wr x := by obtain ⟨k, e⟩ := wr_off x; rw [e, wr_addM]; exact e
theorem wr_addl (x y : Int) : wr (wr x + y) = wr (x + y) := by
  obtain ⟨k, e⟩ := wr_off x
  exact wr_congr (by rw [e]; omega)
theorem wr_addr (x y : Int) : wr (x + wr y) = wr (x + y) := by rw [Int.add_comm, wr_addl, Int.add_comm]
theorem wr_mull (x y : Int) : wr (wr x * y) = wr (x * y) := by
  obtain ⟨k, e⟩ := wr_off x
  rw [e, Int.add_mul, Int.mul_assoc, wr_addM]
theorem wr_mulr (x y : Int) : wr (x * wr y) = wr (x * y) := by rw [Int.mul_comm, wr_mull, Int.mul_comm]

def at2 (m : List (List Int)) (r c : Int) : Int := (getI ((getI m r).getD []) c).getD 0

def dsum (m : List (List Int)) (r : Int) (D : Nat → Int) : List Int → Nat → Int → Int
  | [], _, _ => 0
  | c :: cs, j, sg => sg * at2 m r c * D j + dsum m r D cs (j + 1) (-sg)

/-- The determinant of some rows and columns, along the first row. -/
def detZ (m : List (List Int)) : List Int → List Int → Int
  | [], _ => 1
  | r :: rows, cols => dsum m r (fun j => detZ m rows (cols.eraseIdx j)) cols 0 1

def stepD (m : List (List Int)) (r : Int) (D : Nat → Int) (st : Int × Int) (j : Nat) (c : Int) : Int × Int :=
  (if at2 m r c = 0 then st.1 else wr (st.1 + wr (wr (st.2 * at2 m r c) * wr (D j))), wr (0 - st.2))

theorem fold_det (m : List (List Int)) (r : Int) (D : Nat → Int) : ∀ (cs : List Int) (j : Nat) (s sg : Int), (sg = 1 ∨ sg = -1) → wr s = s → (foldI (stepD m r D) cs j (s, sg)).1 = wr (s + dsum m r D cs j sg)
  | [], _, s, _, _, hs => by simp only [foldI, dsum, Int.add_zero, hs]
  | c :: cs, j, s, sg, hg, hs => by
    have hsg : wr (0 - sg) = -sg := by rcases hg with rfl | rfl <;> rfl
    have h1 : (stepD m r D (s, sg) j c) = (wr (s + sg * at2 m r c * D j), -sg) := by
      simp only [stepD, hsg, Prod.mk.injEq, and_true]
      split
      · rename_i h; rw [h, Int.mul_zero, Int.zero_mul, Int.add_zero, hs]
      · rw [wr_addr, ← wr_addr s, wr_mull, wr_mulr, wr_addr]
    simp only [foldI, dsum, h1]
    rw [fold_det m r D cs (j + 1) _ _ (by rcases hg with rfl | rfl <;> simp) (wr_wr _), wr_addl, Int.add_assoc]

/-- All entries are there. -/
def Ent (m : List (List Int)) (rows cols : List Int) : Prop := ∀ r ∈ rows, ∃ row, getI m r = some row ∧ ∀ c ∈ cols, ∃ x, getI row c = some x

theorem Ent.at {m : List (List Int)} {rows cols : List Int} (h : Ent m rows cols) {r c : Int} (hr : r ∈ rows) (hc : c ∈ cols) : ∃ row, getI m r = some row ∧ getI row c = some (at2 m r c) := by
  obtain ⟨row, e1, h1⟩ := h r hr
  obtain ⟨x, e2⟩ := h1 c hc
  exact ⟨row, e1, by simp only [at2, e1, Option.getD_some, e2]⟩

theorem sgn_next {sg : Int} (hg : sg = 1 ∨ sg = -1) : wr (0 - sg) = 1 ∨ wr (0 - sg) = -1 := by rcases hg with rfl | rfl <;> decide

theorem p_det (m : List (List Int)) : ∀ (rows : List Int) (n : Nat) (cols : List Int), rows.length < n → rows.length ≤ 1073741824 → cols.length ≤ 1073741824 → Ent m rows cols → e_impl_det_n n (m, rows, cols, ()) = some (wr (detZ m rows cols))
  | [], n + 1, cols, _, _, _, _ => by simp [e_impl_det_n, r_impl_det, detZ]; rfl
  | r :: rows, n + 1, cols, hn, hrl, hl, he => by
    simp only [List.length_cons] at hn hrl
    have hd : decide ((((r :: rows).length : Nat) : Int) = 0) = false := by rw [decide_eq_false_iff_not]; simp; omega
    simp only [e_impl_det_n, r_impl_det, hd, cond_false, detZ]
    have q := iter_fold (R := Int) (body := r_impl_det_L0 e_slices_Clone_int e_slices_Delete_int (e_impl_det_n n) N0) cols (fun (st : Int × Int) i => (m, r :: rows, cols, st.1, st.2, cols, (cols.length : Int), i, ()))
      (fun _ st => st.2 = 1 ∨ st.2 = -1) (stepD m r (fun j => detZ m rows (cols.eraseIdx j)))
      (fun st i x kc ke hp hx hi => by
        refine ⟨?_, sgn_next hp⟩
        have hxm := List.mem_of_getElem? hx
        obtain ⟨row, e1, e2⟩ := he.at List.mem_cons_self hxm
        have g0 : getI (r :: rows) 0 = some r := rfl
        have w1 : wr ((i : Int) + 1) = ((i + 1 : Nat) : Int) := wr_succ hi (by omega)
        simp only [r_impl_det_L0, lt_len, hi, decide_true, cond_true, getI_nat, hx, Option.bind_some, g0, e1, e2, w1]
        by_cases hz : at2 m r x = 0
        · simp only [hz, decide_true, Bool.not_true, cond_false, stepD, if_true]
        · have d1 : decide ((1 : Int) ≤ (((r :: rows).length : Nat) : Int)) = true := by rw [decide_eq_true_eq]; simp; omega
          have hdel : e_slices_Delete_int cols ((i : Int), (((i + 1 : Nat) : Int), ())) = some (cols, cols.eraseIdx i) := by
            have hc : decide ((0 : Int) ≤ (i : Int) ∧ (i : Int) ≤ ((i + 1 : Nat) : Int) ∧ ((i + 1 : Nat) : Int) ≤ (cols.length : Int)) = true := by rw [decide_eq_true_eq]; omega
            simp only [e_slices_Delete_int, delFn, hc, cond_true, Int.toNat_natCast, List.eraseIdx_eq_take_drop_succ]
          have hrows : List.take ((((r :: rows).length : Nat) : Int).toNat - Int.toNat 1) (List.drop (Int.toNat 1) (r :: rows)) = rows := by
            show List.take ((((r :: rows).length : Nat) : Int).toNat - 1) (List.drop 1 (r :: rows)) = rows
            rw [Int.toNat_natCast]; simp
          have hrec := p_det m rows n (cols.eraseIdx i) (by omega) (by omega) (by rw [List.length_eraseIdx]; split <;> omega) (fun r' hr' => by
            obtain ⟨row', a1, a2⟩ := he r' (List.mem_cons_of_mem _ hr')
            exact ⟨row', a1, fun c hc => a2 c (List.mem_of_mem_eraseIdx hc)⟩)
          simp only [hz, decide_false, Bool.not_false, cond_true, d1, Int.le_refl, decide_true, p_Clone cols (by omega), Option.bind_some, hdel, hrows, hrec, stepD, if_false])
      (fun st kc ke _ => by simp only [r_impl_det_L0, not_lt_self, cond_false]) (N := N0) (by have := N0_big; omega) (0, 1) (.inl rfl) (fun s1 => some s1.2.2.2.1)
    rw [q.1, fold_det m r _ cols 0 0 1 (.inl rfl) rfl, Int.zero_add]

theorem s_det (m : List (List Int)) : ∀ (rows : List Int) (n : Nat) (cols : List Int), rows.length < n → rows.length ≤ 1073741824 → cols.length ≤ 1073741824 → Ent m rows cols → e_spec_l04Det_n n (m, rows, cols, ()) = some (wr (detZ m rows cols))
  | [], n + 1, cols, _, _, _, _ => by simp [e_spec_l04Det_n, r_spec_l04Det, detZ]; rfl
  | r :: rows, n + 1, cols, hn, hrl, hl, he => by
    simp only [List.length_cons] at hn hrl
    have hd : decide ((((r :: rows).length : Nat) : Int) = 0) = false := by rw [decide_eq_false_iff_not]; simp; omega
    simp only [e_spec_l04Det_n, r_spec_l04Det, hd, cond_false, detZ]
    have q := iter_fold (R := Int) (body := r_spec_l04Det_L0 (e_spec_l04Det_n n) N0) cols (fun (st : Int × Int) i => (m, r :: rows, cols, st.1, st.2, cols, (cols.length : Int), i, ()))
      (fun _ st => st.2 = 1 ∨ st.2 = -1) (stepD m r (fun j => detZ m rows (cols.eraseIdx j)))
      (fun st i x kc ke hp hx hi => by
        refine ⟨?_, sgn_next hp⟩
        have hxm := List.mem_of_getElem? hx
        obtain ⟨row, e1, e2⟩ := he.at List.mem_cons_self hxm
        have g0 : getI (r :: rows) 0 = some r := rfl
        have w1 : wr ((i : Int) + 1) = ((i + 1 : Nat) : Int) := wr_succ hi (by omega)
        simp only [r_spec_l04Det_L0, lt_len, hi, decide_true, cond_true, getI_nat, hx, Option.bind_some, g0, e1, e2, w1]
        by_cases hz : at2 m r x = 0
        · simp only [hz, decide_true, Bool.not_true, cond_false, stepD, if_true]
        · have d1 : decide ((1 : Int) ≤ (((r :: rows).length : Nat) : Int)) = true := by rw [decide_eq_true_eq]; simp; omega
          have d2 : decide ((0 : Int) ≤ (i : Int)) = true := by rw [decide_eq_true_eq]; omega
          have d3 : decide ((i : Int) ≤ (cols.length : Int)) = true := by rw [decide_eq_true_eq]; omega
          have d4 : decide ((0 : Int) ≤ ((i + 1 : Nat) : Int)) = true := by rw [decide_eq_true_eq]; omega
          have d5 : decide (((i + 1 : Nat) : Int) ≤ (cols.length : Int)) = true := by rw [decide_eq_true_eq]; omega
          have t1 : List.take ((i : Int).toNat - Int.toNat 0) (List.drop (Int.toNat 0) cols) = cols.take i := by
            show List.take ((i : Int).toNat - 0) (List.drop 0 cols) = _
            rw [Int.toNat_natCast]; simp
          have t2 : List.take ((cols.length : Int).toNat - (((i + 1 : Nat) : Int)).toNat) (List.drop (((i + 1 : Nat) : Int)).toNat cols) = cols.drop (i + 1) := by
            rw [Int.toNat_natCast, Int.toNat_natCast]
            exact List.take_of_length_le (by simp)
          have b1 : Nat.ble (List.length ([] : List Int) + (cols.take i).length) 17179869184 = true := ble_true (by simp; omega)
          have b2 : Nat.ble ((([] : List Int) ++ cols.take i).length + (cols.drop (i + 1)).length) 17179869184 = true := ble_true (by simp; omega)
          have t3 : ([] : List Int) ++ cols.take i ++ cols.drop (i + 1) = cols.eraseIdx i := by rw [List.eraseIdx_eq_take_drop_succ]; rfl
          have hrows : List.take ((((r :: rows).length : Nat) : Int).toNat - Int.toNat 1) (List.drop (Int.toNat 1) (r :: rows)) = rows := by
            show List.take ((((r :: rows).length : Nat) : Int).toNat - 1) (List.drop 1 (r :: rows)) = rows
            rw [Int.toNat_natCast]; simp
          have hrec := s_det m rows n (cols.eraseIdx i) (by omega) (by omega) (by rw [List.length_eraseIdx]; split <;> omega) (fun r' hr' => by
            obtain ⟨row', a1, a2⟩ := he r' (List.mem_cons_of_mem _ hr')
            exact ⟨row', a1, fun c hc => a2 c (List.mem_of_mem_eraseIdx hc)⟩)
          simp only [hz, decide_false, Bool.not_false, cond_true, d1, d2, d3, d4, d5, t1, t2, b1, b2, t3, Int.le_refl, decide_true, Option.bind_some, hrows, hrec, stepD, if_false])
      (fun st kc ke _ => by simp only [r_spec_l04Det_L0, not_lt_self, cond_false]) (N := N0) (by have := N0_big; omega) (0, 1) (.inl rfl) (fun s1 => some s1.2.2.2.1)
    rw [q.1, fold_det m r _ cols 0 0 1 (.inl rfl) rfl, Int.zero_add]

theorem p_det0 (m : List (List Int)) (rows cols : List Int) (h1 : rows.length ≤ 1073741824) (h2 : cols.length ≤ 1073741824) (he : Ent m rows cols) : e_impl_det (m, rows, cols, ()) = some (wr (detZ m rows cols)) :=
  p_det m rows N0 cols (by have := N0_big; omega) h1 h2 he
theorem s_det0 (m : List (List Int)) (rows cols : List Int) (h1 : rows.length ≤ 1073741824) (h2 : cols.length ≤ 1073741824) (he : Ent m rows cols) : e_spec_l04Det (m, rows, cols, ()) = some (wr (detZ m rows cols)) :=
  s_det m rows N0 cols (by have := N0_big; omega) h1 h2 he

end Go.Sx.R
namespace Go.Sx.R
open Go Go.Sx

theorem IsTab.congr {T : List (List Int)} {m : Nat} {f g : Nat → Nat → Int} (h : IsTab T m f) (e : ∀ i j, i < m → j < m → f i j = g i j) : IsTab T m g :=
  ⟨h.1, fun i hi => by obtain ⟨row, r1, r2, r3⟩ := h.2 i hi; exact ⟨row, r1, r2, fun j hj => by rw [r3 j hj, e i j hi hj]⟩⟩

theorem IsTab.uniq {T U : List (List Int)} {m : Nat} {f : Nat → Nat → Int} (h : IsTab T m f) (h' : IsTab U m f) : T = U := by
  apply List.ext_getElem?; intro i
  by_cases hi : i < m
  · obtain ⟨r, r1, r2, r3⟩ := h.2 i hi
    obtain ⟨s, s1, s2, s3⟩ := h'.2 i hi
    rw [r1, s1]
    congr 1
    apply List.ext_getElem?; intro j
    by_cases hj : j < m
    · rw [r3 j hj, s3 j hj]
    · rw [List.getElem?_eq_none (by omega), List.getElem?_eq_none (by omega)]
  · rw [List.getElem?_eq_none (by have := h.1; omega), List.getElem?_eq_none (by have := h'.1; omega)]

theorem foldI_ixmap {β γ : Type} (f : Nat → γ) : ∀ (l : List β) (i : Nat) (st : List γ), foldI (fun st i _ => st ++ [f i]) l i st = st ++ (List.range' i l.length).map f
  | [], _, st => by simp [foldI]
  | x :: l, i, st => by simp only [foldI, foldI_ixmap f l (i + 1), List.length_cons, List.range'_succ, List.map_cons, List.append_assoc, List.singleton_append]

def lapF (ws : List W3) (i j : Nat) : Int := if i = j then wAt ws (i : Int) else - wbt ws (i : Int) (j : Int)

theorem wbt_bd {ws : List W3} (hW : ∀ e ∈ ws, 1 ≤ e.2.2 ∧ e.2.2 ≤ 200) (a b : Int) : 0 ≤ wbt ws a b ∧ wbt ws a b ≤ 200 := by
  unfold wbt
  split
  · omega
  · split
    · rename_i x hx
      have := hW x (List.mem_of_find?_eq_some hx); omega
    · omega

theorem s_Lap (n : TNet) (m : Nat) (hn : Sm.sm B1 n) (hok : netok n = true) (hm : n.1 = m) (hm5 : m ≤ 5) (hW : ∀ e ∈ n.2.2.2, 1 ≤ e.2.2 ∧ e.2.2 ≤ 200) : ∃ L, e_spec_LaplacianOf (n, ()) = some L ∧ IsTab L m (lapF n.2.2.2) := by
  have hd : (List.range m).length = m := by simp
  simp only [e_spec_LaplacianOf, r_spec_LaplacianOf, s_NetOk n hn, hok, Option.bind_some, Bool.not_true, cond_false]
  have a := iter_fold (R := List (List Int)) (body := r_spec_LaplacianOf_L0 e_spec_NetOk e_spec_WeightAt e_spec_WeightBetween N0) (List.range m) (fun (st : List (List Int)) i => (n, st, i, ())) (fun i st => st.length = i) (fun st i _ => st ++ [(List.range' 0 m).map (lapF n.2.2.2 i)])
    (fun st i x kc ke hs hx hi => by
      rw [hd] at hi
      refine ⟨?_, by simp [hs]⟩
      have d1 : decide ((i : Int) < n.1) = true := by rw [decide_eq_true_eq]; omega
      have b := iter_fold (R := List (List Int)) (body := r_spec_LaplacianOf_L2 e_spec_NetOk e_spec_WeightAt e_spec_WeightBetween N0) (List.range m) (fun (row : List Int) j => (n, st, (i : Int), row, j, ())) (fun j row => row.length = j) (fun row j _ => row ++ [lapF n.2.2.2 i j])
        (fun row j y kc ke hl hy hj => by
          rw [hd] at hj
          refine ⟨?_, by simp [hl]⟩
          have d2 : decide ((j : Int) < n.1) = true := by rw [decide_eq_true_eq]; omega
          have bd := wbt_bd hW (i : Int) (j : Int)
          have w : wr (0 - wbt n.2.2.2 (i : Int) (j : Int)) = - wbt n.2.2.2 (i : Int) (j : Int) := by rw [wr_id (by omega) (by omega)]; omega
          have bl : ∀ v : Int, Nat.ble (row.length + List.length (v :: ([] : List Int))) 17179869184 = true := fun v => ble_true (by simp; omega)
          simp only [r_spec_LaplacianOf_L2, d2, cond_true, e_WeightAt, p_WeightAt n hn hW, s_WB n hn, Option.bind_some, bl, w, wr_succ hj (show m ≤ 9223372036854775807 by omega)]
          by_cases e : i = j
          · subst e; simp only [decide_true, cond_true, lapF, if_true]
          · have d3 : decide ((i : Int) = (j : Int)) = false := by rw [decide_eq_false_iff_not]; omega
            simp only [d3, cond_false, lapF, if_neg e])
        (fun row kc ke _ => by
          have d2 : decide ((((List.range m).length : Nat) : Int) < n.1) = false := by rw [decide_eq_false_iff_not, hd]; omega
          simp only [r_spec_LaplacianOf_L2, d2, cond_false]) (N := N0) (by have := N0_big; omega) [] rfl
      have bl : Nat.ble (st.length + List.length (((List.range' 0 m).map (lapF n.2.2.2 i)) :: ([] : List (List Int)))) 17179869184 = true := ble_true (by simp; omega)
      simp only [r_spec_LaplacianOf_L0, d1, cond_true]
      rw [(b _).1]
      simp only [foldI_ixmap (lapF n.2.2.2 i), List.nil_append, hd, bl, cond_true, wr_succ hi (show m ≤ 9223372036854775807 by omega)])
    (fun st kc ke _ => by
      have d2 : decide ((((List.range m).length : Nat) : Int) < n.1) = false := by rw [decide_eq_false_iff_not, hd]; omega
      simp only [r_spec_LaplacianOf_L0, d2, cond_false]) (N := N0) (by have := N0_big; omega) [] rfl (fun s2 => some s2.2.1)
  refine ⟨_, a.1, ?_⟩
  simp only [foldI_ixmap (fun i => (List.range' 0 m).map (lapF n.2.2.2 i)), List.nil_append, hd]
  refine ⟨by simp, fun i hi => ⟨(List.range' 0 m).map (lapF n.2.2.2 i), ?_, by simp, fun j hj => ?_⟩⟩
  · rw [List.getElem?_map, List.getElem?_range' hi]; simp
  · rw [List.getElem?_map, List.getElem?_range' hj]; simp

theorem p_Lap (n : TNet) (m : Nat) (hn : Sm.sm B1 n) (hok : netok n = true) (hm : n.1 = m) (hm5 : m ≤ 5) (hin : InW m n.2.2.2) (hW : ∀ e ∈ n.2.2.2, 1 ≤ e.2.2 ∧ e.2.2 ≤ 200) : ∃ L, e_impl_LaplacianOf (n, ()) = some L ∧ IsTab L m (lapF n.2.2.2) := by
  have hd : (List.range m).length = m := by simp
  have hmB : m ≤ 9223372036854775807 := by omega
  obtain ⟨T, hT, hTab⟩ := p_table n m hn hm hm5 hin
  simp only [e_impl_LaplacianOf, r_impl_LaplacianOf, p_NetOk n hn, hok, Option.bind_some, Bool.not_true, cond_false, hT]
  have hlm : ((T.length : Nat) : Int) = (m : Int) := by rw [hTab.1]
  rw [hlm]
  refine iter_rule (R := List (List Int)) (fun o => ∃ L, o = some L ∧ IsTab L m (lapF n.2.2.2)) (List.range m) (fun (T : List (List Int)) i => (n, T, (m : Int), i, ()))
    (fun i T => IsTab T m (fun a b => if a < i then lapF n.2.2.2 a b else wbt n.2.2.2 (a : Int) (b : Int))) (fun T i x kc hp hx hi hk => ?_) (fun T kc hp => ?_) (by have := N0_big; omega) T (by simpa using hTab)
  · rw [hd] at hi
    have d1 : decide ((i : Int) < (m : Int)) = true := by rw [decide_eq_true_eq]; omega
    have hlT : ((T.length : Nat) : Int) = (m : Int) := by rw [hp.1]
    simp only [r_impl_LaplacianOf_L0, d1, cond_true, hlT]
    refine iter_rule (R := List (List Int)) (fun o => ∃ L, o = some L ∧ IsTab L m (lapF n.2.2.2)) (List.range m) (fun (T : List (List Int)) j => (n, T, (i : Int), (m : Int), (i : Int), (m : Int), j, ()))
      (fun j T => IsTab T m (fun a b => if a < i then lapF n.2.2.2 a b else if a = i ∧ b < j then - wbt n.2.2.2 (a : Int) (b : Int) else wbt n.2.2.2 (a : Int) (b : Int))) (fun T j y kc2 hq hy hj hk2 => ?_) (fun T kc2 hq => ?_) (by have := N0_big; omega) T (hp.congr fun a b _ _ => by simp)
    · rw [hd] at hj
      have d2 : decide ((j : Int) < (m : Int)) = true := by rw [decide_eq_true_eq]; omega
      obtain ⟨row, r1, r2, r3⟩ := hq.2 i hi
      have g := r3 j hj
      simp only [Nat.lt_irrefl, if_false, and_false] at g
      have bd := wbt_bd hW (i : Int) (j : Int)
      have w : wr (0 - wbt n.2.2.2 (i : Int) (j : Int)) = - wbt n.2.2.2 (i : Int) (j : Int) := by rw [wr_id (by omega) (by omega)]; omega
      simp only [r_impl_LaplacianOf_L2, d2, cond_true, getI_nat, r1, Option.bind_some, g, w, Int.toNat_natCast, wr_succ hj hmB]
      refine hk2 _ ((hq.put (v := - wbt n.2.2.2 (i : Int) (j : Int)) (b := j) hi r1).congr fun a b _ _ => ?_)
      by_cases e : a = i ∧ b = j
      · rw [if_pos e, e.1, e.2, if_neg (by omega), if_pos (by omega)]
      · rw [if_neg e]
        by_cases e1 : a < i
        · rw [if_pos e1, if_pos e1]
        · rw [if_neg e1, if_neg e1]
          by_cases e2 : a = i ∧ b < j
          · rw [if_pos e2, if_pos (by omega)]
          · rw [if_neg e2, if_neg (by omega)]
    · have d2 : decide ((((List.range m).length : Nat) : Int) < (m : Int)) = false := by rw [decide_eq_false_iff_not, hd]; omega
      obtain ⟨row, r1, r2, r3⟩ := hq.2 i hi
      have g := r3 i hi
      simp only [r_impl_LaplacianOf_L2, d2, cond_false, getI_nat, r1, Option.bind_some, p_WeightAt n hn hW, g, Int.toNat_natCast, wr_succ hi hmB]
      refine hk _ ((hq.put (v := wAt n.2.2.2 (i : Int)) (b := i) hi r1).congr fun a b ha hb => ?_)
      rw [hd]
      by_cases e : a = i ∧ b = i
      · rw [if_pos e, e.1, e.2, if_pos (by omega)]; simp [lapF]
      · rw [if_neg e]
        by_cases e1 : a < i
        · rw [if_pos e1, if_pos (by omega)]
        · rw [if_neg e1]
          by_cases e2 : a = i
          · rw [if_pos ⟨e2, hb⟩, if_pos (by omega), lapF, if_neg (by omega)]
          · rw [if_neg (by omega), if_neg (by omega)]
  · have d2 : decide ((((List.range m).length : Nat) : Int) < (m : Int)) = false := by rw [decide_eq_false_iff_not, hd]; omega
    simp only [r_impl_LaplacianOf_L0, d2, cond_false]
    exact ⟨T, rfl, hp.congr fun a b ha _ => by rw [hd, if_pos ha]⟩

theorem lap_both (n : TNet) (m : Nat) (hn : Sm.sm B1 n) (hok : netok n = true) (hm : n.1 = m) (hm5 : m ≤ 5) (hin : InW m n.2.2.2) (hW : ∀ e ∈ n.2.2.2, 1 ≤ e.2.2 ∧ e.2.2 ≤ 200) : ∃ L, e_impl_LaplacianOf (n, ()) = some L ∧ e_spec_LaplacianOf (n, ()) = some L ∧ IsTab L m (lapF n.2.2.2) := by
  obtain ⟨L, h1, h2⟩ := p_Lap n m hn hok hm hm5 hin hW
  obtain ⟨L', h3, h4⟩ := s_Lap n m hn hok hm hm5 hW
  exact ⟨L, h1, by rw [h3, h2.uniq h4], h2⟩

end Go.Sx.R
namespace Go.Sx.R
open Go Go.Sx

theorem p_sizeI (n : Int) (h1 : -9223372036854775807 ≤ n) (h2 : n ≤ 9223372036854775807) : e_impl_size (n, ()) = some (n.natAbs : Int) := by
  simp only [e_impl_size, r_impl_size]
  by_cases h : n < 0
  · have e : Go.IntKind.wrap Go.IntKind.u64 (0 - Go.IntKind.wrap Go.IntKind.u64 n) = (n.natAbs : Int) := by
      simp only [IntKind.wrap, IntKind.bits, IntKind.signed]
      simp
      omega
    simp only [h, decide_true, cond_true, e]
  · simp only [h, decide_false, cond_false]
    rw [u64_id (by omega) (by omega)]
    congr 1; omega

theorem s_GcdI (a b : Int) (ha : -9223372036854775807 ≤ a) (ha2 : a ≤ 9223372036854775807) (hb : -9223372036854775807 ≤ b) (hb2 : b ≤ 9223372036854775807) : e_spec_GcdOf (a, b, ()) = some ((Nat.gcd a.natAbs b.natAbs : Nat) : Int) := by
  simp only [e_spec_GcdOf, r_spec_GcdOf, common_L0]
  have d1 : decide (a < -9223372036854775807) = false := by rw [decide_eq_false_iff_not]; omega
  have d2 : decide (b < -9223372036854775807) = false := by rw [decide_eq_false_iff_not]; omega
  have w1 : wr (0 - a) = 0 - a := wr_id (by omega) (by omega)
  have w2 : wr (0 - b) = 0 - b := wr_id (by omega) (by omega)
  have e1 : (if 0 - a > a then 0 - a else a) = (a.natAbs : Int) := by split <;> omega
  have e2 : (if 0 - b > b then 0 - b else b) = (b.natAbs : Int) := by split <;> omega
  rw [d1, d2, w1, w2]
  simp only [cond_false]
  rw [e1, e2]
  exact common_loop a.natAbs b.natAbs (by omega)

theorem ok_core (N : Int) (p q : Nat) (hN : N.natAbs = p) (hq : 1 ≤ q) (hq2 : q ≤ 9223372036854775807) (hp : p ≤ 9223372036854775807) (hc : Nat.gcd p q = 1) :
    e_spec_RatioOk ((N, (q : Int)), ()) = some (decide (q ≤ 1000000000000000) && decide (p ≤ 1000000000000000000)) := by
  simp only [e_spec_RatioOk, r_spec_RatioOk, p_l01In, n_l01In, Option.bind_some, s_GcdI N (q : Int) (by omega) (by omega) (by omega) (by omega), Int.natAbs_natCast, hN, hc]
  by_cases h1 : q ≤ 1000000000000000
  · have r1 : (decide (1 ≤ (q : Int)) && decide ((q : Int) ≤ 1000000000000000)) = true := by simp only [Bool.and_eq_true, decide_eq_true_eq]; omega
    by_cases h2 : p ≤ 1000000000000000000
    · have r2 : (decide (-1000000000000000000 ≤ N) && decide (N ≤ 1000000000000000000)) = true := by simp only [Bool.and_eq_true, decide_eq_true_eq]; omega
      simp [r1, r2, h1, h2]
    · have r2 : (decide (-1000000000000000000 ≤ N) && decide (N ≤ 1000000000000000000)) = false := by simp only [Bool.and_eq_false_iff, decide_eq_false_iff_not]; omega
      simp [r1, r2, h2]
  · have r1 : (decide (1 ≤ (q : Int)) && decide ((q : Int) ≤ 1000000000000000)) = false := by simp only [Bool.and_eq_false_iff, decide_eq_false_iff_not]; omega
    simp [r1, h1]

theorem tdiv_abs (n : Int) (g : Nat) : (0 ≤ n → Int.tdiv n (g : Int) = ((n.natAbs / g : Nat) : Int)) ∧ (n < 0 → Int.tdiv n (g : Int) = -((n.natAbs / g : Nat) : Int)) := by
  refine ⟨fun h => ?_, fun h => ?_⟩
  · have e : n = ((n.natAbs : Nat) : Int) := by omega
    rw [e, Int.tdiv_eq_ediv_of_nonneg (by omega)]; simp
  · have e : n = -((n.natAbs : Nat) : Int) := by omega
    have : Int.tdiv (-((n.natAbs : Nat) : Int)) (g : Int) = -((n.natAbs / g : Nat) : Int) := by
      rw [Int.neg_tdiv, Int.tdiv_eq_ediv_of_nonneg (by omega)]; simp
    rw [← e] at this; exact this

/-- The ratio of two numbers. -/
theorem ratio_all (n d : Int) (hn : -9223372036854775807 ≤ n) (hn2 : n ≤ 9223372036854775807) (hd : -9223372036854775807 ≤ d) (hd2 : d ≤ 9223372036854775807) : ∃ r, e_impl_RatioOf (n, d, ()) = some r ∧ e_spec_RatioOf (n, d, ()) = some r ∧ Sm.sm B1 r := by
  have zz : Sm.sm B1 (((0 : Int), (0 : Int))) := ⟨⟨by omega, by omega⟩, ⟨by omega, by omega⟩⟩
  simp only [e_impl_RatioOf, r_impl_RatioOf, e_spec_RatioOf, r_spec_RatioOf, p_sizeI n hn hn2, p_sizeI d hd hd2, p_common n.natAbs d.natAbs (by omega), s_GcdI n d hn hn2 hd hd2, Option.bind_some]
  by_cases h0 : d = 0
  · subst h0
    exact ⟨(0, 0), by simp, by simp, zz⟩
  · have hg : 0 < Nat.gcd n.natAbs d.natAbs := Nat.gcd_pos_of_pos_right _ (by omega)
    have hga : Nat.gcd n.natAbs d.natAbs ∣ n.natAbs := Nat.gcd_dvd_left _ _
    have hgb : Nat.gcd n.natAbs d.natAbs ∣ d.natAbs := Nat.gcd_dvd_right _ _
    have hgl : Nat.gcd n.natAbs d.natAbs ≤ d.natAbs := Nat.le_of_dvd (by omega) hgb
    have la : n.natAbs / Nat.gcd n.natAbs d.natAbs ≤ n.natAbs := Nat.div_le_self _ _
    have lb : d.natAbs / Nat.gcd n.natAbs d.natAbs ≤ d.natAbs := Nat.div_le_self _ _
    have pb : 0 < d.natAbs / Nat.gcd n.natAbs d.natAbs := Nat.div_pos hgl hg
    have cop : Nat.gcd (n.natAbs / Nat.gcd n.natAbs d.natAbs) (d.natAbs / Nat.gcd n.natAbs d.natAbs) = 1 := by rw [Nat.gcd_div hga hgb, Nat.div_self hg]
    have tn := tdiv_abs n (Nat.gcd n.natAbs d.natAbs)
    have td := tdiv_abs d (Nat.gcd n.natAbs d.natAbs)
    have ta : Int.tdiv (n.natAbs : Int) ((Nat.gcd n.natAbs d.natAbs : Nat) : Int) = ((n.natAbs / Nat.gcd n.natAbs d.natAbs : Nat) : Int) := by rw [Int.tdiv_eq_ediv_of_nonneg (by omega)]; simp
    have tb : Int.tdiv (d.natAbs : Int) ((Nat.gcd n.natAbs d.natAbs : Nat) : Int) = ((d.natAbs / Nat.gcd n.natAbs d.natAbs : Nat) : Int) := by rw [Int.tdiv_eq_ediv_of_nonneg (by omega)]; simp
    rw [ta, tb]
    generalize hG : Nat.gcd n.natAbs d.natAbs = g at *
    generalize hP : n.natAbs / g = p at *
    generalize hQ : d.natAbs / g = q at *
    have d1 : decide (d = 0) = false := by rw [decide_eq_false_iff_not]; exact h0
    have d2 : decide ((g : Int) = 0) = false := by rw [decide_eq_false_iff_not]; omega
    have ua : Go.IntKind.wrap Go.IntKind.u64 ((p : Nat) : Int) = ((p : Nat) : Int) := u64_id (by omega) (by omega)
    have ub : Go.IntKind.wrap Go.IntKind.u64 ((q : Nat) : Int) = ((q : Nat) : Int) := u64_id (by omega) (by omega)
    have wa : wr ((p : Nat) : Int) = ((p : Nat) : Int) := wr_id (by omega) (by omega)
    have wb : wr ((q : Nat) : Int) = ((q : Nat) : Int) := wr_id (by omega) (by omega)
    have wn : wr (0 - ((p : Nat) : Int)) = -((p : Nat) : Int) := by rw [wr_id (by omega) (by omega)]; omega
    have wa' : wr (-((p : Nat) : Int)) = -((p : Nat) : Int) := wr_id (by omega) (by omega)
    have wg : wr (0 - (g : Int)) = -(g : Int) := by rw [wr_id (by omega) (by omega)]; omega
    have dg : decide (-(g : Int) = 0) = false := by rw [decide_eq_false_iff_not]; omega
    have k1 : decide ((p : Int) > 1000000000000000000) = !decide (p ≤ 1000000000000000000) := by rw [Bool.eq_iff_iff]; simp; omega
    have k2 : decide ((q : Int) > 1000000000000000) = !decide (q ≤ 1000000000000000) := by rw [Bool.eq_iff_iff]; simp; omega
    have ok1 := ok_core (p : Int) p q (by omega) (by omega) (by omega) (by omega) cop
    have ok2 := ok_core (-(p : Int)) p q (by omega) (by omega) (by omega) (by omega) cop
    have fin : ∀ N : Int, N.natAbs = p → ∃ r : Int × Int, (cond (decide ((p : Int) > 1000000000000000000)) (some ((0 : Int), (0 : Int))) (cond (decide ((q : Int) > 1000000000000000)) (some (0, 0)) (some (N, (q : Int))))) = some r ∧
        (cond (!(decide (q ≤ 1000000000000000) && decide (p ≤ 1000000000000000000))) (some ((0 : Int), (0 : Int))) (some (N, (q : Int)))) = some r ∧ Sm.sm B1 r := by
      intro N hN
      rw [k1, k2]
      cases decide (p ≤ 1000000000000000000) with
      | false => exact ⟨(0, 0), rfl, by simp, zz⟩
      | true =>
        cases decide (q ≤ 1000000000000000) with
        | false => exact ⟨(0, 0), rfl, rfl, zz⟩
        | true => exact ⟨(N, (q : Int)), rfl, rfl, ⟨by omega, by omega⟩, ⟨by omega, by omega⟩⟩
    simp only [d1, d2, cond_false, ua, ub, wa, wb, wn]
    by_cases sn : n < 0
    · have t1 := tn.2 sn
      by_cases sd : d < 0
      · have t2 := td.2 sd
        have e1 : Int.tdiv n (-(g : Int)) = (p : Int) := by rw [Int.tdiv_neg, t1]; omega
        have e2 : Int.tdiv d (-(g : Int)) = (q : Int) := by rw [Int.tdiv_neg, t2]; omega
        simp only [sn, sd, decide_true, beqB_self, Bool.not_true, cond_false, cond_true, wg, dg, e1, e2, wa, wb, ok1, Option.bind_some]
        exact fin _ (by omega)
      · have t2 := td.1 (by omega)
        simp only [sn, sd, decide_true, decide_false, beqB, Bool.not_false, cond_false, cond_true, t1, t2, wa', wb, ok2, Option.bind_some]
        exact fin _ (by omega)
    · have t1 := tn.1 (by omega)
      by_cases sd : d < 0
      · have t2 := td.2 sd
        have e1 : Int.tdiv n (-(g : Int)) = -(p : Int) := by rw [Int.tdiv_neg, t1]
        have e2 : Int.tdiv d (-(g : Int)) = (q : Int) := by rw [Int.tdiv_neg, t2]; omega
        simp only [sn, sd, decide_true, decide_false, beqB, Bool.not_false, cond_false, cond_true, wg, dg, e1, e2, wa', wb, ok2, Option.bind_some]
        exact fin _ (by omega)
      · have t2 := td.1 (by omega)
        simp only [sn, sd, decide_false, beqB_self, Bool.not_true, cond_false, t1, t2, wa, wb, ok1, Option.bind_some]
        exact fin _ (by omega)

end Go.Sx.R
namespace Go.Sx.R
open Go Go.Sx

-- bounds of determinants
def l1 (m : List (List Int)) (r : Int) (cols : List Int) : Nat := (cols.map fun c => (at2 m r c).natAbs).sum

theorem dsum_le {m : List (List Int)} {r : Int} {D : Nat → Int} {X : Nat} : ∀ (cs : List Int) (j : Nat) (s : Int), (s = 1 ∨ s = -1) → (∀ i, (D i).natAbs ≤ X) → (dsum m r D cs j s).natAbs ≤ l1 m r cs * X
  | [], _, _, _, _ => by simp [dsum, l1]
  | c :: cs, j, s, hs, hD => by
    have ih := dsum_le (m := m) (r := r) (D := D) (X := X) cs (j + 1) (-s) (by rcases hs with rfl | rfl <;> simp) hD
    have hs1 : s.natAbs = 1 := by rcases hs with rfl | rfl <;> rfl
    have t : (s * at2 m r c * D j).natAbs ≤ (at2 m r c).natAbs * X := by
      rw [Int.natAbs_mul, Int.natAbs_mul, hs1, Nat.one_mul]
      exact Nat.mul_le_mul_left _ (hD j)
    have e : l1 m r (c :: cs) = (at2 m r c).natAbs + l1 m r cs := by simp [l1]
    simp only [dsum]
    rw [e, Nat.add_mul]
    exact Nat.le_trans (Int.natAbs_add_le _ _) (Nat.add_le_add t ih)

theorem l1_erase {m : List (List Int)} {r : Int} : ∀ (cols : List Int) (i : Nat), l1 m r (cols.eraseIdx i) ≤ l1 m r cols
  | [], _ => by simp [l1]
  | c :: cs, 0 => by simp [l1]
  | c :: cs, i + 1 => by
    have := l1_erase (m := m) (r := r) cs i
    simp only [l1, List.eraseIdx_cons_succ, List.map_cons, List.sum_cons] at *; omega

theorem detZ_le {m : List (List Int)} {X : Nat} : ∀ (rows cols : List Int), (∀ r ∈ rows, l1 m r cols ≤ X) → (detZ m rows cols).natAbs ≤ X ^ rows.length
  | [], _, _ => by simp [detZ]
  | r :: rows, cols, h => by
    have hD : ∀ i, (detZ m rows (cols.eraseIdx i)).natAbs ≤ X ^ rows.length := fun i => detZ_le rows (cols.eraseIdx i) fun r' hr' => Nat.le_trans (l1_erase cols i) (h r' (List.mem_cons_of_mem _ hr'))
    have := dsum_le (m := m) (r := r) cols 0 1 (.inl rfl) hD
    simp only [detZ, List.length_cons]
    refine Nat.le_trans this ?_
    rw [Nat.pow_succ, Nat.mul_comm]
    exact Nat.mul_le_mul_left _ (h r List.mem_cons_self)

-- weights at a node
def oth (v : Int) (e : W3) : Int := e.1 + e.2.1 - v
def tch (v : Int) (e : W3) : Bool := decide (e.1 = v ∨ e.2.1 = v)

theorem touch_sum (v : Int) : ∀ (ws : List W3), wAt ws v = ((ws.filter (tch v)).map (touch v)).sum
  | [] => rfl
  | e :: ws => by
    have ih := touch_sum v ws
    simp only [wAt] at *
    by_cases c : e.1 = v ∨ e.2.1 = v
    · rw [List.filter_cons_of_pos (by simp [tch, c])]; simp [ih]
    · rw [List.filter_cons_of_neg (by simp [tch, c])]; simp [ih, touch, c]

theorem wAt_le {ws : List W3} {m : Nat} (hs : Srt ws) (hin : InW m ws) (hm5 : m ≤ 5) (hW : ∀ e ∈ ws, 1 ≤ e.2.2 ∧ e.2.2 ≤ 200) (v : Int) : 0 ≤ wAt ws v ∧ wAt ws v ≤ 1000 := by
  rw [touch_sum]
  have hb := sum_bounds (touch v) 200 (ws.filter (tch v)) fun e he => touch_le hW v e (List.mem_filter.1 he).1
  have hn : ((ws.filter (tch v)).map (oth v)).Nodup := by
    rw [List.Nodup, List.pairwise_map]
    refine (List.Pairwise.filter _ hs).imp_of_mem fun {a b} ha hb hl => ?_
    have ta := (List.mem_filter.1 ha).2
    have tb := (List.mem_filter.1 hb).2
    have ia := hin a (List.mem_filter.1 ha).1
    have ib := hin b (List.mem_filter.1 hb).1
    simp only [tch, decide_eq_true_eq] at ta tb
    simp only [lex, Bool.or_eq_true, Bool.and_eq_true, decide_eq_true_eq] at hl
    simp only [oth]
    omega
  have hl := nodup_len (m := ints 5) hn fun x hx => by
    obtain ⟨e, he, rfl⟩ := List.mem_map.1 hx
    have te := (List.mem_filter.1 he).2
    have ie := hin e (List.mem_filter.1 he).1
    simp only [tch, decide_eq_true_eq] at te
    rw [mem_ints]; simp only [oth]; omega
  rw [len_ints, List.length_map] at hl
  omega

theorem lapF_le {ws : List W3} {m : Nat} (hs : Srt ws) (hin : InW m ws) (hm5 : m ≤ 5) (hW : ∀ e ∈ ws, 1 ≤ e.2.2 ∧ e.2.2 ≤ 200) (i j : Nat) : (lapF ws i j).natAbs ≤ if i = j then 1000 else 200 := by
  simp only [lapF]
  split
  · have := wAt_le hs hin hm5 hW (i : Int); omega
  · have := wbt_bd hW (i : Int) (j : Int); omega

theorem tab_at2 {L : List (List Int)} {m : Nat} {f : Nat → Nat → Int} (h : IsTab L m f) {i j : Nat} (hi : i < m) (hj : j < m) : at2 L (i : Int) (j : Int) = f i j := by
  obtain ⟨row, r1, r2, r3⟩ := h.2 i hi
  simp only [at2, getI_nat, r1, Option.getD_some, r3 j hj]

theorem tab_ent {L : List (List Int)} {m : Nat} {f : Nat → Nat → Int} (h : IsTab L m f) {rows cols : List Int} (hr : ∀ r ∈ rows, 0 ≤ r ∧ r < m) (hc : ∀ c ∈ cols, 0 ≤ c ∧ c < m) : Ent L rows cols := by
  intro r hrm
  obtain ⟨i, rfl⟩ : ∃ i : Nat, r = i := ⟨r.toNat, by have := hr r hrm; omega⟩
  obtain ⟨row, r1, r2, r3⟩ := h.2 i (by have := hr _ hrm; omega)
  refine ⟨row, by rw [getI_nat]; exact r1, fun c hcm => ?_⟩
  obtain ⟨j, rfl⟩ : ∃ j : Nat, c = j := ⟨c.toNat, by have := hc c hcm; omega⟩
  exact ⟨_, by rw [getI_nat]; exact r3 j (by have := hc _ hcm; omega)⟩

theorem l1_lap {ws : List W3} {m : Nat} {L : List (List Int)} (hs : Srt ws) (hin : InW m ws) (hm5 : m ≤ 5) (hW : ∀ e ∈ ws, 1 ≤ e.2.2 ∧ e.2.2 ≤ 200) (h : IsTab L m (lapF ws)) {r : Int} (hr : 0 ≤ r ∧ r < m) :
    ∀ (cols : List Int), cols.Nodup → (∀ c ∈ cols, 0 ≤ c ∧ c < m) → (r ∉ cols → l1 L r cols ≤ 200 * cols.length) ∧ l1 L r cols ≤ 800 + 200 * cols.length
  | [], _, _ => by simp [l1]
  | c :: cs, hn, hc => by
    obtain ⟨n1, n2⟩ := List.nodup_cons.1 hn
    obtain ⟨q1, q2⟩ := l1_lap hs hin hm5 hW h hr cs n2 fun c hcm => hc c (List.mem_cons_of_mem _ hcm)
    obtain ⟨i, rfl⟩ : ∃ i : Nat, r = i := ⟨r.toNat, by omega⟩
    have hcc := hc c List.mem_cons_self
    obtain ⟨j, rfl⟩ : ∃ j : Nat, c = j := ⟨c.toNat, by omega⟩
    have b := lapF_le hs hin hm5 hW i j
    have e : l1 L (i : Int) ((j : Int) :: cs) = (lapF ws i j).natAbs + l1 L (i : Int) cs := by
      simp only [l1, List.map_cons, List.sum_cons, tab_at2 h (show i < m by omega) (show j < m by omega)]
    rw [e]
    simp only [List.length_cons, List.mem_cons, not_or]
    by_cases ij : i = j
    · subst ij
      have := q1 n1
      simp only [if_true] at b
      exact ⟨fun hh => absurd rfl hh.1, by omega⟩
    · rw [if_neg ij] at b
      exact ⟨fun hh => by have := q1 hh.2; omega, by omega⟩

theorem det_lap {ws : List W3} {m : Nat} {L : List (List Int)} (hs : Srt ws) (hin : InW m ws) (hm5 : m ≤ 5) (hW : ∀ e ∈ ws, 1 ≤ e.2.2 ∧ e.2.2 ≤ 200) (h : IsTab L m (lapF ws)) {rows cols : List Int} (hr : ∀ r ∈ rows, 0 ≤ r ∧ r < m) (hc : ∀ c ∈ cols, 0 ≤ c ∧ c < m) (hn : cols.Nodup) : (detZ L rows cols).natAbs ≤ 1800 ^ rows.length := by
  refine detZ_le rows cols fun r hrm => ?_
  have hl : cols.length ≤ 5 := by
    have := nodup_len (m := ints m) hn fun c hcm => by rw [mem_ints]; exact hc c hcm
    rw [len_ints] at this; omega
  have := (l1_lap hs hin hm5 hW h (hr r hrm) cols hn hc).2
  omega

end Go.Sx.R
namespace Go.Sx.R
open Go Go.Sx

/-- A square of lists, filled row by row. -/
def GI {α : Type} (E : Nat) (g : Nat → Nat → α) (i j : Nat) (R : List (List α)) : Prop :=
  R.length = E ∧ ∀ a, a < E → R[a]? = some (if a < i then (List.range' 0 E).map (g a) else if a = i then (List.range' 0 j).map (g a) else [])

section
variable {α : Type} {E : Nat} {g : Nat → Nat → α} {i j : Nat} {R : List (List α)}
theorem GI.get (h : GI E g i j R) (hi : i < E) : R[i]? = some ((List.range' 0 j).map (g i)) := by
  rw [h.2 i hi, if_neg (Nat.lt_irrefl i), if_pos rfl]
theorem GI.step (h : GI E g i j R) (hi : i < E) : GI E g i (j + 1) (R.set i ((List.range' 0 j).map (g i) ++ [g i j])) := by
  refine ⟨by simpa using h.1, fun a ha => ?_⟩
  rw [List.getElem?_set]
  by_cases e : i = a
  · subst e
    rw [if_pos rfl, if_pos (by rw [h.1]; exact hi), if_neg (Nat.lt_irrefl i), if_pos rfl, List.range'_concat, List.map_append]
    simp
  · rw [if_neg e, h.2 a ha]
    by_cases e1 : a < i
    · rw [if_pos e1, if_pos e1]
    · rw [if_neg e1, if_neg e1, if_neg (fun e' => e e'.symm), if_neg (fun e' => e e'.symm)]
theorem GI.row (h : GI E g i E R) : GI E g (i + 1) 0 R := by
  refine ⟨h.1, fun a ha => ?_⟩
  rw [h.2 a ha]
  by_cases e1 : a < i
  · rw [if_pos e1, if_pos (by omega)]
  · rw [if_neg e1]
    by_cases e2 : a = i
    · rw [if_pos e2, if_pos (by omega)]
    · rw [if_neg e2, if_neg (by omega)]
      split <;> rfl
theorem GI.init : GI E g 0 0 (List.replicate E []) := by
  refine ⟨by simp, fun a ha => ?_⟩
  rw [List.getElem?_replicate, if_pos ha, if_neg (by omega)]
  split <;> rfl
theorem GI.done (h : GI E g E 0 R) : R = (List.range' 0 E).map fun a => (List.range' 0 E).map (g a) := by
  apply List.ext_getElem?; intro a
  by_cases ha : a < E
  · rw [h.2 a ha, if_pos ha, List.getElem?_map, List.getElem?_range' ha]; simp
  · rw [List.getElem?_eq_none (by have := h.1; omega), List.getElem?_eq_none (by simp; omega)]
end

theorem same_idx (a : Nat) : samePath (([] : List PS) ++ (PS.idx a :: ([] : List PS))) (([] : List PS) ++ (PS.idx a :: ([] : List PS))) = true := by
  simp [samePath]

/-- What is known of a network that is in order. -/
structure Nk (n : TNet) (m E : Nat) (L : List (List Int)) (inn : List Int) : Prop where
  hn : Sm.sm B1 n
  ok : netok n = true
  hm : n.1 = m
  m1 : 1 ≤ m
  m5 : m ≤ 5
  he : n.2.1 = E
  e1 : 1 ≤ E
  em : E ≤ m
  sc : 1 ≤ n.2.2.1 ∧ n.2.2.1 ≤ 1000
  lp : e_impl_LaplacianOf (n, ()) = some L
  ls : e_spec_LaplacianOf (n, ()) = some L
  tab : IsTab L m (lapF n.2.2.2)
  ip : e_impl_inner (n, ()) = some inn
  is : e_spec_l06Inner (n, ()) = some inn
  inn : inn = rng n.2.1 (m - E)
  srt : Srt n.2.2.2
  inw : InW m n.2.2.2
  hw : ∀ e ∈ n.2.2.2, 1 ≤ e.2.2 ∧ e.2.2 ≤ 200

theorem e_Inner : e_spec_l06Inner = e_impl_inner := rfl

theorem nk_of (n : TNet) (hn : Sm.sm B1 n) (ok : netok n = true) : ∃ m E L inn, Nk n m E L inn := by
  obtain ⟨m, hm, hm1, hm5, hin, he1, he2⟩ := netok_facts ok
  obtain ⟨E, hE⟩ : ∃ E : Nat, n.2.1 = E := ⟨n.2.1.toNat, by omega⟩
  have hW := wiresW ok
  obtain ⟨L, h1, h2, h3⟩ := lap_both n m hn ok hm hm5 hin hW
  have hp := p_inner n m hm hm5 he1 he2
  have et : n.2.1.toNat = E := by omega
  rw [et] at hp
  have hh : hdrOk n = true := by revert ok; simp only [netok]; cases hdrOk n <;> simp
  simp only [hdrOk, Bool.and_eq_true, decide_eq_true_eq] at hh
  exact ⟨m, E, L, _, hn, ok, hm, hm1, hm5, hE, by omega, by omega, by omega, h1, h2, h3, hp, by rw [e_Inner]; exact hp, rfl, netok_srt ok, hin, hW⟩

section
variable {n : TNet} {m E : Nat} {L : List (List Int)} {inn : List Int}

theorem Nk.mem_inn (h : Nk n m E L inn) {c : Int} : c ∈ inn ↔ (E : Int) ≤ c ∧ c < m := by
  have h1 := h.inn; have h2 := h.he; have h3 := h.em
  subst h1
  simp only [rng, List.mem_map, List.mem_range]
  constructor
  · rintro ⟨k, hk, rfl⟩
    have : Int.ofNat k = (k : Int) := rfl
    omega
  · intro hc
    refine ⟨(c - E).toNat, by omega, ?_⟩
    have : Int.ofNat (c - E).toNat = ((c - E).toNat : Int) := rfl
    omega

theorem Nk.nd_inn (h : Nk n m E L inn) : inn.Nodup := by
  have h1 := h.inn
  subst h1
  rw [rng, List.Nodup, List.pairwise_map]
  refine List.nodup_range.imp fun {a b} hab hh => hab ?_
  have e1 : Int.ofNat a = (a : Int) := rfl
  have e2 : Int.ofNat b = (b : Int) := rfl
  omega

theorem Nk.len_inn (h : Nk n m E L inn) : inn.length = m - E := by have h1 := h.inn; subst h1; exact rng_len

theorem Nk.with (h : Nk n m E L inn) {i : Nat} (hi : i < E) : (∀ c ∈ (i : Int) :: inn, 0 ≤ c ∧ c < m) ∧ ((i : Int) :: inn).Nodup ∧ ((i : Int) :: inn).length ≤ 5 := by
  have hem := h.em; have hm5 := h.m5
  refine ⟨fun c hc => ?_, List.nodup_cons.2 ⟨fun hc => ?_, h.nd_inn⟩, ?_⟩
  · rcases List.mem_cons.1 hc with rfl | hc
    · omega
    · have := h.mem_inn.1 hc; omega
  · have := h.mem_inn.1 hc; omega
  · rw [List.length_cons, h.len_inn]; omega

theorem Nk.inn_in (h : Nk n m E L inn) : ∀ c ∈ inn, 0 ≤ c ∧ c < m := fun c hc => by have := h.mem_inn.1 hc; omega

theorem pow1800 {k : Nat} (h : k ≤ 5) : 1800 ^ k ≤ 18895680000000000 := Nat.le_trans (Nat.pow_le_pow_right (by omega) h) (by decide)
theorem pow1800' {k : Nat} (h : k ≤ 4) : 1800 ^ k ≤ 10497600000000 := Nat.le_trans (Nat.pow_le_pow_right (by omega) h) (by decide)

theorem Nk.top_le (h : Nk n m E L inn) {i j : Nat} (hi : i < E) (hj : j < E) : (detZ L ((i : Int) :: inn) ((j : Int) :: inn)).natAbs ≤ 18895680000000000 :=
  Nat.le_trans (det_lap h.srt h.inw h.m5 h.hw h.tab (h.with hi).1 (h.with hj).1 (h.with hj).2.1) (pow1800 (h.with hi).2.2)
theorem Nk.down_le (h : Nk n m E L inn) : (detZ L inn inn).natAbs ≤ 10497600000000 :=
  Nat.le_trans (det_lap h.srt h.inw h.m5 h.hw h.tab h.inn_in h.inn_in h.nd_inn) (pow1800' (by have := h.len_inn; have := h.e1; have := h.m5; omega))

theorem Nk.top (h : Nk n m E L inn) {i j : Nat} (hi : i < E) (hj : j < E) :
    e_impl_det (L, (i : Int) :: inn, (j : Int) :: inn, ()) = some (detZ L ((i : Int) :: inn) ((j : Int) :: inn)) ∧ e_spec_l04Det (L, (i : Int) :: inn, (j : Int) :: inn, ()) = some (detZ L ((i : Int) :: inn) ((j : Int) :: inn)) := by
  have hE := tab_ent h.tab (h.with hi).1 (h.with hj).1
  have b := h.top_le hi hj
  have w : wr (detZ L ((i : Int) :: inn) ((j : Int) :: inn)) = detZ L ((i : Int) :: inn) ((j : Int) :: inn) := wr_id (by omega) (by omega)
  have li := (h.with hi).2.2
  have lj := (h.with hj).2.2
  exact ⟨by rw [p_det0 L _ _ (by omega) (by omega) hE, w], by rw [s_det0 L _ _ (by omega) (by omega) hE, w]⟩

theorem Nk.down (h : Nk n m E L inn) : e_impl_det (L, inn, inn, ()) = some (detZ L inn inn) ∧ e_spec_l04Det (L, inn, inn, ()) = some (detZ L inn inn) := by
  have hE := tab_ent h.tab h.inn_in h.inn_in
  have b := h.down_le
  have w : wr (detZ L inn inn) = detZ L inn inn := wr_id (by omega) (by omega)
  have l := h.len_inn
  have hm5 := h.m5
  exact ⟨by rw [p_det0 L _ _ (by omega) (by omega) hE, w], by rw [s_det0 L _ _ (by omega) (by omega) hE, w]⟩

theorem Nk.sTop (h : Nk n m E L inn) {i j : Nat} (hi : i < E) (hj : j < E) : e_spec_l06Top (n, (i : Int), (j : Int), ()) = some (detZ L ((i : Int) :: inn) ((j : Int) :: inn)) := by
  have l := h.len_inn
  have hm5 := h.m5
  have b : ∀ k : Nat, Nat.ble (List.length ((k : Int) :: ([] : List Int)) + inn.length) 17179869184 = true := fun k => ble_true (by simp; omega)
  simp only [e_spec_l06Top, r_spec_l06Top, h.is, h.ls, Option.bind_some, b, cond_true, List.cons_append, List.nil_append, (h.top hi hj).2]

theorem Nk.sDown (h : Nk n m E L inn) : e_spec_l06Down (n, ()) = some (detZ L inn inn) := by
  simp only [e_spec_l06Down, r_spec_l06Down, h.is, h.ls, Option.bind_some, h.down.2]

def dOf (n : TNet) (L : List (List Int)) (inn : List Int) : Int := n.2.2.1 * detZ L inn inn

theorem Nk.d_le (h : Nk n m E L inn) : (dOf n L inn).natAbs ≤ 10497600000000000 := by
  have b := h.down_le
  have s := h.sc
  rw [dOf, Int.natAbs_mul]
  have : n.2.2.1.natAbs ≤ 1000 := by omega
  exact Nat.le_trans (Nat.mul_le_mul this b) (by decide)

theorem Nk.resp (h : Nk n m E L inn) : e_impl_response (n, ()) = some ((List.range' 0 E).map fun (i : Nat) => (List.range' 0 E).map fun (j : Nat) => detZ L ((i : Int) :: inn) ((j : Int) :: inn), dOf n L inn) := by
  have l := h.len_inn
  have hm5 := h.m5
  have hem := h.em
  have hd : (List.range E).length = E := by simp
  have hEt : n.2.1.toNat = E := by have := h.he; omega
  have d0 : decide ((0 : Int) ≤ n.2.1) = true := by have := h.he; rw [decide_eq_true_eq]; omega
  have hEB : E ≤ 9223372036854775807 := by omega
  have bd := h.d_le
  simp only [e_impl_response, r_impl_response, h.lp, h.ip, Option.bind_some, d0, cond_true, hEt, ble_true (show E ≤ 17179869184 by omega), List.length_replicate]
  refine iter_rule (R := List (List Int) × Int) (fun o => o = some ((List.range' 0 E).map fun (i : Nat) => (List.range' 0 E).map fun (j : Nat) => detZ L ((i : Int) :: inn) ((j : Int) :: inn), dOf n L inn)) (List.range E) (fun (R : List (List Int)) i => (n, L, inn, R, (E : Int), i, ()))
    (fun i R => GI E (fun i j => detZ L ((i : Int) :: inn) ((j : Int) :: inn)) i 0 R) (fun R i x kc hp hx hi hk => ?_) (fun R kc hp => ?_) (by have := N0_big; omega) _ GI.init
  · rw [hd] at hi
    have d1 : decide ((i : Int) < (E : Int)) = true := by rw [decide_eq_true_eq]; omega
    have hlR : ((R.length : Nat) : Int) = (E : Int) := by rw [hp.1]
    simp only [r_impl_response_L0, d1, cond_true, hlR]
    refine iter_rule (R := List (List Int) × Int) (fun o => o = some ((List.range' 0 E).map fun (i : Nat) => (List.range' 0 E).map fun (j : Nat) => detZ L ((i : Int) :: inn) ((j : Int) :: inn), dOf n L inn)) (List.range E) (fun (R : List (List Int)) j => (n, L, inn, R, (i : Int), (E : Int), (i : Int), (E : Int), j, ()))
      (fun j R => GI E (fun i j => detZ L ((i : Int) :: inn) ((j : Int) :: inn)) i j R) (fun R j y kc2 hq hy hj hk2 => ?_) (fun R kc2 hq => ?_) (by have := N0_big; omega) R hp
    · rw [hd] at hj
      have d2 : decide ((j : Int) < (E : Int)) = true := by rw [decide_eq_true_eq]; omega
      have g := hq.get hi
      have b : ∀ k : Nat, Nat.ble (List.length ((k : Int) :: ([] : List Int)) + inn.length) 17179869184 = true := fun k => ble_true (by simp; omega)
      have b2 : ∀ v : Int, Nat.ble (((List.range' 0 j).map fun (j : Nat) => detZ L ((i : Int) :: inn) ((j : Int) :: inn)).length + List.length (v :: ([] : List Int))) 17179869184 = true := fun v => ble_true (by simp; omega)
      simp only [r_impl_response_L2, d2, cond_true, getI_nat, g, Option.bind_some, b, List.cons_append, List.nil_append, (h.top hi hj).1, b2, Int.toNat_natCast, wr_succ hj hEB]
      have hsp := same_idx i
      simp only [List.nil_append] at hsp
      rw [hsp, cond_true]
      exact hk2 _ (hq.step hi)
    · have d2 : decide ((((List.range E).length : Nat) : Int) < (E : Int)) = false := by rw [decide_eq_false_iff_not, hd]; omega
      rw [hd] at hq
      simp only [r_impl_response_L2, d2, cond_false, wr_succ hi hEB]
      exact hk _ hq.row
  · have d2 : decide ((((List.range E).length : Nat) : Int) < (E : Int)) = false := by rw [decide_eq_false_iff_not, hd]; omega
    rw [hd] at hp
    have w : wr (n.2.2.1 * detZ L inn inn) = dOf n L inn := by
      show wr (dOf n L inn) = _
      exact wr_id (by omega) (by omega)
    simp only [r_impl_response_L0, d2, cond_false, h.down.1, Option.bind_some, w, hp.done]
end

end Go.Sx.R
namespace Go.Sx.R
open Go Go.Sx

section
variable {n : TNet} {m E : Nat} {L : List (List Int)} {inn : List Int}

/-- The ratios of the response. -/
noncomputable def rtF (n : TNet) (L : List (List Int)) (inn : List Int) (i j : Nat) : Int × Int := (e_spec_RatioOf (detZ L ((i : Int) :: inn) ((j : Int) :: inn), dOf n L inn, ())).getD (0, 0)

theorem Nk.rt (h : Nk n m E L inn) {i j : Nat} (hi : i < E) (hj : j < E) : e_impl_RatioOf (detZ L ((i : Int) :: inn) ((j : Int) :: inn), dOf n L inn, ()) = some (rtF n L inn i j) ∧
    e_spec_RatioOf (detZ L ((i : Int) :: inn) ((j : Int) :: inn), dOf n L inn, ()) = some (rtF n L inn i j) ∧ Sm.sm B1 (rtF n L inn i j) := by
  have b1 := h.top_le hi hj
  have b2 := h.d_le
  obtain ⟨r, h1, h2, h3⟩ := ratio_all (detZ L ((i : Int) :: inn) ((j : Int) :: inn)) (dOf n L inn) (by omega) (by omega) (by omega) (by omega)
  have e : rtF n L inn i j = r := by simp only [rtF, h2, Option.getD_some]
  rw [e]; exact ⟨h1, h2, h3⟩

noncomputable def respT (n : TNet) (L : List (List Int)) (inn : List Int) (E : Nat) : List (List (Int × Int)) := (List.range' 0 E).map fun (i : Nat) => (List.range' 0 E).map fun (j : Nat) => rtF n L inn i j

theorem range'_get0 {E i : Nat} (hi : i < E) : (List.range' 0 E)[i]? = some i := by rw [List.getElem?_range' hi]; simp

theorem Nk.pResp (h : Nk n m E L inn) : e_impl_ResponseOf (n, ()) = some (respT n L inn E, true) := by
  have hm5 := h.m5
  have hem := h.em
  have hd : (List.range E).length = E := by simp
  have hEB : E ≤ 9223372036854775807 := by omega
  have hRl : (((List.range' 0 E).map fun (i : Nat) => (List.range' 0 E).map fun (j : Nat) => detZ L ((i : Int) :: inn) ((j : Int) :: inn)).length) = E := by simp
  simp only [e_impl_ResponseOf, r_impl_ResponseOf, p_NetOk n h.hn, h.ok, Option.bind_some, Bool.not_true, cond_false, h.resp, hRl, Int.toNat_natCast, ble_true (show E ≤ 17179869184 by omega), cond_true]
  generalize hD : ((List.range' 0 E).map fun (i : Nat) => (List.range' 0 E).map fun (j : Nat) => detZ L ((i : Int) :: inn) ((j : Int) :: inn)) = Dm
  have hrow : ∀ i, i < E → Dm[i]? = some ((List.range' 0 E).map fun (j : Nat) => detZ L ((i : Int) :: inn) ((j : Int) :: inn)) := fun i hi => by
    rw [← hD, List.getElem?_map, range'_get0 hi]; rfl
  refine iter_rule (R := List (List (Int × Int)) × Bool) (fun o => o = some (respT n L inn E, true)) (List.range E) (fun (R : List (List (Int × Int))) i => (Dm, dOf n L inn, R, (E : Int), i, ()))
    (fun i R => GI E (rtF n L inn) i 0 R) (fun R i x kc hp hx hi hk => ?_) (fun R kc hp => ?_) (by have := N0_big; omega) _ GI.init
  · rw [hd] at hi
    have d1 : decide ((i : Int) < (E : Int)) = true := by rw [decide_eq_true_eq]; omega
    have hl : (((List.range' 0 E).map fun (j : Nat) => detZ L ((i : Int) :: inn) ((j : Int) :: inn)).length) = E := by simp
    simp only [r_impl_ResponseOf_L0, d1, cond_true, getI_nat, hrow i hi, Option.bind_some, hl]
    generalize hr : ((List.range' 0 E).map fun (j : Nat) => detZ L ((i : Int) :: inn) ((j : Int) :: inn)) = row
    have hre : ∀ j, j < E → row[j]? = some (detZ L ((i : Int) :: inn) ((j : Int) :: inn)) := fun j hj => by
      rw [← hr, List.getElem?_map, range'_get0 hj]; rfl
    refine iter_rule (R := List (List (Int × Int)) × Bool) (fun o => o = some (respT n L inn E, true)) (List.range E) (fun (R : List (List (Int × Int))) j => (Dm, dOf n L inn, R, (i : Int), (E : Int), (i : Int), row, (E : Int), j, ()))
      (fun j R => GI E (rtF n L inn) i j R) (fun R j y kc2 hq hy hj hk2 => ?_) (fun R kc2 hq => ?_) (by have := N0_big; omega) R hp
    · rw [hd] at hj
      have d2 : decide ((j : Int) < (E : Int)) = true := by rw [decide_eq_true_eq]; omega
      have g := hq.get hi
      have b2 : ∀ v : Int × Int, Nat.ble (((List.range' 0 j).map (rtF n L inn i)).length + List.length (v :: ([] : List (Int × Int)))) 17179869184 = true := fun v => ble_true (by simp; omega)
      simp only [r_impl_ResponseOf_L2, d2, cond_true, getI_nat, hre j hj, g, Option.bind_some, (h.rt hi hj).1, b2, Int.toNat_natCast, wr_succ hj hEB, same_idx i]
      exact hk2 _ (hq.step hi)
    · have d2 : decide ((((List.range E).length : Nat) : Int) < (E : Int)) = false := by rw [decide_eq_false_iff_not, hd]; omega
      rw [hd] at hq
      simp only [r_impl_ResponseOf_L2, d2, cond_false, wr_succ hi hEB]
      exact hk _ hq.row
  · have d2 : decide ((((List.range E).length : Nat) : Int) < (E : Int)) = false := by rw [decide_eq_false_iff_not, hd]; omega
    rw [hd] at hp
    simp only [r_impl_ResponseOf_L0, d2, cond_false, hp.done]
    rfl

theorem Nk.sResp (h : Nk n m E L inn) : e_spec_ResponseOf (n, ()) = some (respT n L inn E, true) := by
  have hm5 := h.m5
  have hem := h.em
  have he := h.he
  have hd : (List.range E).length = E := by simp
  have hEB : E ≤ 9223372036854775807 := by omega
  have bd := h.d_le
  have w : wr (n.2.2.1 * detZ L inn inn) = dOf n L inn := by
    show wr (dOf n L inn) = _
    exact wr_id (by omega) (by omega)
  simp only [e_spec_ResponseOf, r_spec_ResponseOf, s_NetOk n h.hn, h.ok, Option.bind_some, Bool.not_true, cond_false, h.sDown, w]
  have a := iter_fold (R := List (List (Int × Int)) × Bool) (body := r_spec_ResponseOf_L0 e_spec_NetOk e_spec_l06Down e_spec_l06Top e_spec_RatioOf N0) (List.range E) (fun (st : List (List (Int × Int))) i => (n, dOf n L inn, st, i, ())) (fun i st => st.length = i) (fun st i _ => st ++ [(List.range' 0 E).map (rtF n L inn i)])
    (fun st i x kc ke hs hx hi => by
      rw [hd] at hi
      refine ⟨?_, by simp [hs]⟩
      have d1 : decide ((i : Int) < n.2.1) = true := by rw [decide_eq_true_eq]; omega
      have b := iter_fold (R := List (List (Int × Int)) × Bool) (body := r_spec_ResponseOf_L2 e_spec_NetOk e_spec_l06Down e_spec_l06Top e_spec_RatioOf N0) (List.range E) (fun (row : List (Int × Int)) j => (n, dOf n L inn, st, (i : Int), row, j, ())) (fun j row => row.length = j) (fun row j _ => row ++ [rtF n L inn i j])
        (fun row j y kc ke hl hy hj => by
          rw [hd] at hj
          refine ⟨?_, by simp [hl]⟩
          have d2 : decide ((j : Int) < n.2.1) = true := by rw [decide_eq_true_eq]; omega
          have bl : ∀ v : Int × Int, Nat.ble (row.length + List.length (v :: ([] : List (Int × Int)))) 17179869184 = true := fun v => ble_true (by simp; omega)
          simp only [r_spec_ResponseOf_L2, d2, cond_true, h.sTop hi hj, (h.rt hi hj).2.1, Option.bind_some, bl, wr_succ hj hEB])
        (fun row kc ke _ => by
          have d2 : decide ((((List.range E).length : Nat) : Int) < n.2.1) = false := by rw [decide_eq_false_iff_not, hd]; omega
          simp only [r_spec_ResponseOf_L2, d2, cond_false]) (N := N0) (by have := N0_big; omega) [] rfl
      have bl : Nat.ble (st.length + List.length (((List.range' 0 E).map (rtF n L inn i)) :: ([] : List (List (Int × Int))))) 17179869184 = true := ble_true (by simp; omega)
      simp only [r_spec_ResponseOf_L0, d1, cond_true]
      rw [(b _).1]
      simp only [foldI_ixmap (rtF n L inn i), List.nil_append, hd, bl, cond_true, wr_succ hi hEB])
    (fun st kc ke _ => by
      have d2 : decide ((((List.range E).length : Nat) : Int) < n.2.1) = false := by rw [decide_eq_false_iff_not, hd]; omega
      simp only [r_spec_ResponseOf_L0, d2, cond_false]) (N := N0) (by have := N0_big; omega) [] rfl (fun s3 => some (s3.2.2.1, true))
  rw [a.1]
  simp only [foldI_ixmap (fun i => (List.range' 0 E).map (rtF n L inn i)), List.nil_append, hd]
  rfl

theorem Nk.sm_resp (h : Nk n m E L inn) : Sm.sm B1 (respT n L inn E) := by
  have hm5 := h.m5
  have hem := h.em
  have h5 : E ≤ 1073741824 := by omega
  refine ⟨by simpa [respT] using h5, fun row hr => ?_⟩
  obtain ⟨i, hi, rfl⟩ := List.mem_map.1 hr
  refine ⟨by simpa using h5, fun y hy => ?_⟩
  obtain ⟨j, hj, rfl⟩ := List.mem_map.1 hy
  rw [List.mem_range'_1] at hi hj
  exact (h.rt (by omega) (by omega)).2.2
end

theorem resp_both (n : TNet) (hn : Sm.sm B1 n) : ∃ q : List (List (Int × Int)) × Bool, e_impl_ResponseOf (n, ()) = some q ∧ e_spec_ResponseOf (n, ()) = some q ∧ Sm.sm B1 q.1 ∧ q.1.length ≤ 5 ∧ ∀ x ∈ q.1, x.length ≤ 5 := by
  cases hok : netok n with
  | false =>
    refine ⟨([], false), ?_, ?_, by simp [sm_list], by simp, by simp⟩
    · simp only [e_impl_ResponseOf, r_impl_ResponseOf, p_NetOk n hn, hok, Option.bind_some, Bool.not_false, cond_true]
    · simp only [e_spec_ResponseOf, r_spec_ResponseOf, s_NetOk n hn, hok, Option.bind_some, Bool.not_false, cond_true]
  | true =>
    obtain ⟨m, E, L, inn, h⟩ := nk_of n hn hok
    have h5 : E ≤ 5 := by have := h.em; have := h.m5; omega
    refine ⟨_, h.pResp, h.sResp, h.sm_resp, by simpa [respT] using h5, fun x hx => ?_⟩
    obtain ⟨i, _, rfl⟩ := List.mem_map.1 hx
    simpa using h5

end Go.Sx.R
namespace Go.Sx.R
open Go Go.Sx

theorem detZ1 (M : List (List Int)) (r c : Int) : detZ M [r] [c] = at2 M r c := by simp [detZ, dsum]
theorem detZ2 (M : List (List Int)) (r s c d : Int) : detZ M [r, s] [c, d] = at2 M r c * at2 M s d - at2 M r d * at2 M s c := by
  simp [detZ, dsum, List.eraseIdx]; grind
theorem detZ3 (M : List (List Int)) (r s t c d e : Int) : detZ M [r, s, t] [c, d, e] = at2 M r c * (at2 M s d * at2 M t e - at2 M s e * at2 M t d) - at2 M r d * (at2 M s c * at2 M t e - at2 M s e * at2 M t c) + at2 M r e * (at2 M s c * at2 M t d - at2 M s d * at2 M t c) := by
  simp [detZ, dsum, List.eraseIdx]; grind

section
variable {n : TNet} {m E : Nat} {L : List (List Int)} {inn : List Int}

end


end Go.Sx.R
namespace Go.Sx.R
open Go Go.Sx

theorem detZ4 (M : List (List Int)) (r s t u c d e g : Int) : detZ M [r, s, t, u] [c, d, e, g] =
    at2 M r c * (at2 M s d * (at2 M t e * at2 M u g - at2 M t g * at2 M u e) - at2 M s e * (at2 M t d * at2 M u g - at2 M t g * at2 M u d) + at2 M s g * (at2 M t d * at2 M u e - at2 M t e * at2 M u d))
    - at2 M r d * (at2 M s c * (at2 M t e * at2 M u g - at2 M t g * at2 M u e) - at2 M s e * (at2 M t c * at2 M u g - at2 M t g * at2 M u c) + at2 M s g * (at2 M t c * at2 M u e - at2 M t e * at2 M u c))
    + at2 M r e * (at2 M s c * (at2 M t d * at2 M u g - at2 M t g * at2 M u d) - at2 M s d * (at2 M t c * at2 M u g - at2 M t g * at2 M u c) + at2 M s g * (at2 M t c * at2 M u d - at2 M t d * at2 M u c))
    - at2 M r g * (at2 M s c * (at2 M t d * at2 M u e - at2 M t e * at2 M u d) - at2 M s d * (at2 M t c * at2 M u e - at2 M t e * at2 M u c) + at2 M s e * (at2 M t c * at2 M u d - at2 M t d * at2 M u c)) := by
  simp only [detZ, dsum, List.eraseIdx_cons_zero, List.eraseIdx_cons_succ, List.eraseIdx_nil]
  grind

theorem detZ_permP {M : List (List Int)} {l l' : List Int} (h : l.Perm l') : ∀ pre : List Int, (pre ++ l).length ≤ 4 → detZ M (pre ++ l) (pre ++ l) = detZ M (pre ++ l') (pre ++ l') := by
  induction h with
  | nil => intro pre _; rfl
  | cons x _ ih =>
    intro pre hl
    have := ih (pre ++ [x]) (by simpa using hl)
    simpa using this
  | swap x y l =>
    intro pre hl
    simp only [List.length_append, List.length_cons] at hl
    match pre, l, hl with
    | [], [], _ => simp only [List.nil_append, detZ2] <;> grind
    | [], [a], _ => simp only [List.nil_append, detZ3] <;> grind
    | [], [a, b], _ => simp only [List.nil_append, detZ4] <;> grind
    | [p], [], _ => simp only [List.cons_append, List.nil_append, detZ3] <;> grind
    | [p], [a], _ => simp only [List.cons_append, List.nil_append, detZ4] <;> grind
    | [p, q], [], _ => simp only [List.cons_append, List.nil_append, detZ4] <;> grind
    | [], _ :: _ :: _ :: _, hl => simp at hl <;> omega
    | [_], _ :: _ :: _, hl => simp at hl <;> omega
    | [_, _], _ :: _, hl => simp at hl <;> omega
    | _ :: _ :: _ :: _, _, hl => simp at hl <;> omega
  | trans h1 _ ih1 ih2 =>
    intro pre hl
    rw [ih1 pre hl, ih2 pre (by rw [List.length_append, ← h1.length_eq, ← List.length_append]; exact hl)]

theorem detZ_perm {M : List (List Int)} {l l' : List Int} (h : l.Perm l') (hl : l.length ≤ 4) : detZ M l l = detZ M l' l' := detZ_permP h [] hl

/-- A Laplacian on some nodes. -/
structure LapZ (M : List (List Int)) (V : List Int) : Prop where
  sym : ∀ x ∈ V, ∀ y ∈ V, at2 M x y = at2 M y x
  off : ∀ x ∈ V, ∀ y ∈ V, x ≠ y → at2 M x y ≤ 0
  sum : ∀ x ∈ V, (V.map (at2 M x)).sum = 0
  nd : V.Nodup

theorem perm_sum {l l' : List Int} (h : l.Perm l') : l.sum = l'.sum := by
  induction h with
  | nil => rfl
  | cons x _ ih => simp only [List.sum_cons, ih]
  | swap x y l => simp only [List.sum_cons]; omega
  | trans _ _ h1 h2 => rw [h1, h2]

-- signs
theorem mul_nn {a b : Int} (ha : 0 ≤ a) (hb : 0 ≤ b) : 0 ≤ a * b := Int.mul_nonneg ha hb

theorem nn2 {s t w : Int} (hw : 0 ≤ w) (h1 : w ≤ s) (h2 : w ≤ t) : 0 ≤ s * t - w * w := by
  have a : 0 ≤ (s - w) * t := mul_nn (by omega) (by omega)
  have b : 0 ≤ w * (t - w) := mul_nn (by omega) (by omega)
  have e : s * t - w * w = (s - w) * t + w * (t - w) := by grind
  omega

theorem nn3 {s t u p q r : Int} (hp : 0 ≤ p) (hq : 0 ≤ q) (hr : 0 ≤ r) (h1 : p + q ≤ s) (h2 : p + r ≤ t) (h3 : q + r ≤ u) :
    0 ≤ s * (t * u - r * r) - p * (p * u + r * q) - q * (p * r + t * q) := by
  have hs : 0 ≤ s := by omega
  by_cases h0 : s = 0
  · have e1 : p = 0 := by omega
    have e2 : q = 0 := by omega
    subst h0; subst e1; subst e2; simp
  · have k1 : 0 ≤ s * t - p * p - (s * r + p * q) := by
      have a : 0 ≤ s * (t - r - p) := mul_nn hs (by omega)
      have b : 0 ≤ p * (s - p - q) := mul_nn hp (by omega)
      have e : s * t - p * p - (s * r + p * q) = s * (t - r - p) + p * (s - p - q) := by grind
      omega
    have k2 : 0 ≤ s * u - q * q - (s * r + p * q) := by
      have a : 0 ≤ s * (u - r - q) := mul_nn hs (by omega)
      have b : 0 ≤ q * (s - p - q) := mul_nn hq (by omega)
      have e : s * u - q * q - (s * r + p * q) = s * (u - r - q) + q * (s - p - q) := by grind
      omega
    have k3 : 0 ≤ s * r + p * q := by have := mul_nn hs hr; have := mul_nn hp hq; omega
    have key := nn2 k3 (s := s * t - p * p) (t := s * u - q * q) (by omega) (by omega)
    have e : (s * t - p * p) * (s * u - q * q) - (s * r + p * q) * (s * r + p * q) = s * (s * (t * u - r * r) - p * (p * u + r * q) - q * (p * r + t * q)) := by grind
    rw [e] at key
    exact Int.nonneg_of_mul_nonneg_right key (by omega)

end Go.Sx.R
namespace Go.Sx.R
open Go Go.Sx

theorem lex_iff {x y : W3} : lex x y = true ↔ x.1 < y.1 ∨ (x.1 = y.1 ∧ x.2.1 < y.2.1) := by
  simp only [lex, Bool.or_eq_true, Bool.and_eq_true, decide_eq_true_eq]

end Go.Sx.R
namespace Go.Sx.R
open Go Go.Sx

/-- The nodes that are not in a list. -/
def woG (l : List Int) (q : List Int) (i : Nat) (_ : Nat) : List Int := if (i : Int) ∈ l then q else q ++ [(i : Int)]
def wo (m : Nat) (l : List Int) : List Int := foldI (woG l) (List.range m) 0 []

theorem foldI_ind {β σ : Type} (p : Nat → σ → Prop) (g : σ → Nat → β → σ) (hg : ∀ s i x, p i s → p (i + 1) (g s i x)) : ∀ (l : List β) (i : Nat) (s : σ), p i s → p (i + l.length) (foldI g l i s)
  | [], i, s, h => by simpa [foldI] using h
  | x :: l, i, s, h => by
    have := foldI_ind p g hg l (i + 1) (g s i x) (hg s i x h)
    have e : i + (x :: l).length = i + 1 + l.length := by simp; omega
    rw [e]; exact this

theorem wo_facts' (m : Nat) (l : List Int) : (wo m l).length ≤ m ∧ (∀ c ∈ wo m l, 0 ≤ c ∧ c < m ∧ c ∉ l) ∧ (wo m l).Nodup := by
  have := foldI_ind (β := Nat) (fun i (q : List Int) => q.length ≤ i ∧ (∀ c ∈ q, 0 ≤ c ∧ c < i ∧ c ∉ l) ∧ q.Nodup) (woG l) (fun s i x ⟨h1, h2, h3⟩ => by
    simp only [woG]
    split
    · exact ⟨by omega, fun c hc => by have := h2 c hc; exact ⟨this.1, by omega, this.2.2⟩, h3⟩
    · rename_i hni
      refine ⟨by simp; omega, fun c hc => ?_, ?_⟩
      · rcases List.mem_append.1 hc with hc | hc
        · have := h2 c hc; exact ⟨this.1, by omega, this.2.2⟩
        · simp at hc; subst hc; exact ⟨by omega, by omega, hni⟩
      · refine List.nodup_append.2 ⟨h3, by simp, fun a ha b hb => ?_⟩
        simp at hb
        have := h2 a ha
        omega) (List.range m) 0 [] ⟨by simp, by simp, by simp⟩
  simpa [wo] using this

/-- A network that is in order, with its Laplacian. -/
structure Lk (n : TNet) (m : Nat) (L : List (List Int)) : Prop where
  hn : Sm.sm B1 n
  ok : netok n = true
  hm : n.1 = m
  m1 : 1 ≤ m
  m5 : m ≤ 5
  sc : 1 ≤ n.2.2.1 ∧ n.2.2.1 ≤ 1000
  lp : e_impl_LaplacianOf (n, ()) = some L
  ls : e_spec_LaplacianOf (n, ()) = some L
  tab : IsTab L m (lapF n.2.2.2)
  srt : Srt n.2.2.2
  inw : InW m n.2.2.2
  hw : ∀ e ∈ n.2.2.2, 1 ≤ e.2.2 ∧ e.2.2 ≤ 200

section
variable {n : TNet} {m : Nat} {L : List (List Int)}

end

end Go.Sx.R
namespace Go.Sx.R
open Go Go.Sx

abbrev CurV := Option (Value × Int × Int)

/-- A cursor in order. -/
def CurGood (A : Option (Nat × Obj)) (y : CurV) : Prop := ∃ v i h, y = some (v, i, h) ∧ CodeOk A v ∧ 0 ≤ i ∧ i ≤ 9223372036854775807

theorem and255 (x : Int) : 0 ≤ wr (((BitVec.toNat ((BitVec.ofInt (@Go.IntKind.bits @Go.IntKind.i64) x) &&& (BitVec.ofInt (@Go.IntKind.bits @Go.IntKind.i64) (255 : Int)))) : Nat) : Int) ∧
    wr (((BitVec.toNat ((BitVec.ofInt (@Go.IntKind.bits @Go.IntKind.i64) x) &&& (BitVec.ofInt (@Go.IntKind.bits @Go.IntKind.i64) (255 : Int)))) : Nat) : Int) ≤ 255 := by
  have h : (BitVec.toNat ((BitVec.ofInt (@Go.IntKind.bits @Go.IntKind.i64) x) &&& (BitVec.ofInt (@Go.IntKind.bits @Go.IntKind.i64) (255 : Int)))) ≤ 255 := by
    rw [BitVec.toNat_and]
    have e : (BitVec.ofInt (@Go.IntKind.bits @Go.IntKind.i64) (255 : Int)).toNat = 255 := by decide
    rw [e]
    exact Nat.and_le_right
  rw [wr_id (by omega) (by omega)]
  omega

theorem byte_ok {A : Option (Nat × Obj)} {y : CurV} (h : CurGood A y) : ∃ y' x, e_spec_l01Byte A y () = some (y', x) ∧ CurGood A y' ∧ 0 ≤ x ∧ x ≤ 255 := by
  obtain ⟨v, i, k, rfl, hc, h0, h1⟩ := h
  obtain ⟨p, n, c, rfl, hnc, hn, hrd⟩ := id hc
  simp only [e_spec_l01Byte, Option.bind_some, r_spec_l01Byte, rawLen]
  by_cases hi : i < (n : Int)
  · obtain ⟨x, hx, hx0, hx1⟩ := hrd i.toNat (by omega)
    have e : ((i.toNat : Nat) : Int) = i := by omega
    rw [e] at hx
    simp only [hi, decide_true, cond_true, hx, Option.bind_some]
    have hw : wr (i + 1) = i + 1 := wr_id (by omega) (by omega)
    exact ⟨_, _, rfl, ⟨_, _, _, rfl, hc, by omega, by omega⟩, (and255 _).1, (and255 _).2⟩
  · simp only [hi, decide_false, cond_false]
    exact ⟨_, _, rfl, ⟨_, _, _, rfl, hc, h0, h1⟩, (and255 _).1, (and255 _).2⟩

theorem below_ok {A : Option (Nat × Obj)} {y : CurV} (h : CurGood A y) {n : Int} (h1 : 1 ≤ n) (h2 : n ≤ 256) : ∃ y' x, e_spec_l01Below A y (n, ()) = some (y', x) ∧ CurGood A y' ∧ 0 ≤ x ∧ x < n := by
  obtain ⟨y', x, hb, hg, hx0, hx1⟩ := byte_ok h
  have d1 : decide (n ≤ 0) = false := by rw [decide_eq_false_iff_not]; omega
  have d2 : decide (n ≤ 256) = true := by rw [decide_eq_true_eq]; omega
  have d3 : decide (n = 0) = false := by rw [decide_eq_false_iff_not]; omega
  simp only [e_spec_l01Below, r_spec_l01Below, d1, d2, d3, cond_true, cond_false, hb, Option.bind_some]
  refine ⟨_, _, rfl, hg, ?_, ?_⟩
  · rw [Int.tmod_eq_emod_of_nonneg hx0]; exact Int.emod_nonneg _ (by omega)
  · rw [Int.tmod_eq_emod_of_nonneg hx0]; exact Int.emod_lt_of_pos _ (by omega)

theorem new_ok {A : Option (Nat × Obj)} {v : Value} (hc : CodeOk A v) : ∃ y, e_spec_l01New A (v, ()) = some y ∧ CurGood A y := by
  obtain ⟨p, n, c, rfl, hnc, hn, hrd⟩ := id hc
  simp only [e_spec_l01New, r_spec_l01New, rawLen, Option.bind_some]
  refine iter_while (Q := fun (r : Option CurV) => ∃ y, r = some y ∧ CurGood A y) (p := fun s => s.1 = Value.slice p n c ∧ 0 ≤ s.2.2.1 ∧ s.2.2.1 ≤ 4000) (mu := fun s => (4001 - s.2.2.1).toNat) ?_ N0 _ ⟨rfl, by simp, by simp⟩ (by have := N0_big; show (4001 - (0 : Int)).toNat < N0; omega)
  rintro ⟨v, h, i, u⟩ kc ⟨h1, h2, h3⟩ hk
  simp only at h1 h2 h3
  subst h1
  have fin : ∃ y, (some (some (Value.slice p n c, (0 : Int), h)) : Option CurV) = some y ∧ CurGood A y := ⟨_, rfl, _, _, _, rfl, hc, by omega, by omega⟩
  simp only [r_spec_l01New_L0, rawLen, Option.bind_some]
  by_cases hi : i < (n : Int)
  · simp only [hi, decide_true, cond_true]
    by_cases hi2 : i < 4000
    · obtain ⟨x, hx, _⟩ := hrd i.toNat (by omega)
      have e : ((i.toNat : Nat) : Int) = i := by omega
      rw [e] at hx
      have hw : wr (i + 1) = i + 1 := wr_id (by omega) (by omega)
      simp only [hi2, decide_true, cond_true, hx, Option.bind_some, hw]
      exact hk _ ⟨rfl, by show (0 : Int) ≤ i + 1; omega, by show i + 1 ≤ 4000; omega⟩ (by show (4001 - (i + 1)).toNat < (4001 - i).toNat; omega)
    · simp only [hi2, decide_false, cond_false]; exact fin
  · simp only [hi, decide_false, cond_false]; exact fin

/-- Wires in order, of nodes below m, of weights up to K. -/
structure Wok (m : Nat) (K : Int) (l : List W3) : Prop where
  srt : Srt l
  inw : InW m l
  w : ∀ e ∈ l, 1 ≤ e.2.2 ∧ e.2.2 ≤ K

end Go.Sx.R
namespace Go.Sx.R
open Go Go.Sx

/-- A network in order, by its parts. -/
theorem netok_of {n : TNet} {m : Nat} (hm : n.1 = m) (h1 : 1 ≤ m) (h5 : m ≤ 5) (he : 1 ≤ n.2.1) (hem : n.2.1 ≤ n.1) (hs : 1 ≤ n.2.2.1) (hs2 : n.2.2.1 ≤ 1000) (hw : Wok m 200 n.2.2.2) (hc : ∀ v : Int, 0 ≤ v → v < n.1 → Rc n.2.2.2 v) : netok n = true := by
  have hh : hdrOk n = true := by
    simp only [hdrOk, Bool.and_eq_true, decide_eq_true_eq]
    omega
  have hb : wiresBad n = false := by
    simp only [wiresBad, List.any_eq_false]
    rintro ⟨x, i⟩ hp
    have hx : n.2.2.2[i]? = some x := by simpa using List.mem_zipIdx_iff_getElem?.1 hp
    have hxm := List.mem_of_getElem? hx
    have a := hw.inw x hxm
    have b := hw.w x hxm
    have d1 : decide (0 ≤ x.1) = true := by rw [decide_eq_true_eq]; omega
    have d2 : decide (x.1 < x.2.1) = true := by rw [decide_eq_true_eq]; omega
    have d3 : decide (x.2.1 < n.1) = true := by rw [decide_eq_true_eq]; omega
    have d4 : decide (1 ≤ x.2.2) = true := by rw [decide_eq_true_eq]; omega
    have d5 : decide (x.2.2 ≤ 200) = true := by rw [decide_eq_true_eq]; omega
    simp only [badW, d1, d2, d3, d4, d5, Bool.and_self, Bool.not_true, Bool.false_or]
    cases i with
    | zero => simp
    | succ j =>
      simp only
      cases hj : n.2.2.2[j]? with
      | none => simp
      | some y =>
        have hlt : j + 1 < n.2.2.2.length := (List.getElem?_eq_some_iff.1 hx).1
        have := List.pairwise_iff_getElem.1 hw.srt j (j + 1) (by omega) hlt (by omega)
        have e1 : n.2.2.2[j] = y := by rw [List.getElem?_eq_getElem (by omega)] at hj; simpa using hj
        have e2 : n.2.2.2[j + 1] = x := by rw [List.getElem?_eq_getElem hlt] at hx; simpa using hx
        rw [e1, e2] at this
        simp [this]
  have hcn : conn n = true := by
    unfold conn
    simp only [decide_eq_true_eq]; exact hc
  simp only [netok, hh, hb, hcn, Bool.not_false, Bool.and_self]

theorem Wok.up {m : Nat} {K K' : Int} {l : List W3} (h : Wok m K l) (hk : K ≤ K') : Wok m K' l := ⟨h.srt, h.inw, fun e he => by have := h.w e he; omega⟩

theorem Wok.sm {m : Nat} (hm : m ≤ 5) {K : Int} (hK : K ≤ 1000000) {l : List W3} (h : Wok m K l) (hl : l.length ≤ 1000) : Sm.sm B0 l :=
  ⟨by simp only [B0]; omega, fun e he => by
    have a := h.inw e he
    have b := h.w e he
    exact ⟨(⟨by omega, by omega⟩ : Sm.sm B0 e.1), (⟨by omega, by omega⟩ : Sm.sm B0 e.2.1), (⟨by omega, by omega⟩ : Sm.sm B0 e.2.2)⟩⟩

end Go.Sx.R
namespace Go.Sx.R
open Go Go.Sx

/-- The response as it is returned: nil where the network is not in order. -/
noncomputable def respV (n : TNet) : List (List (Int × Int)) := ((e_spec_ResponseOf (n, ())).map (·.1)).getD []

theorem p_Resp (n : TNet) (hn : Sm.sm B1 n) : e_impl_ResponseOf (n, ()) = some (respV n, netok n) ∧ e_spec_ResponseOf (n, ()) = some (respV n, netok n) ∧ Sm.sm B1 (respV n) := by
  obtain ⟨q, q1, q2, q3, _⟩ := resp_both n hn
  have e1 : respV n = q.1 := by simp only [respV, q2, Option.map_some, Option.getD_some]
  have e2 : q.2 = netok n := by
    cases hok : netok n with
    | true =>
      obtain ⟨m, E, L, inn, h⟩ := nk_of n hn hok
      rw [h.pResp] at q1
      rw [← Option.some.inj q1]
    | false =>
      simp only [e_impl_ResponseOf, r_impl_ResponseOf, p_NetOk n hn, hok, Option.bind_some, Bool.not_false, cond_true] at q1
      rw [← Option.some.inj q1]
  obtain ⟨a, b⟩ := q
  simp only at e1 e2
  subst e1; subst e2
  exact ⟨q1, q2, q3⟩

end Go.Sx.R
namespace Go.Sx.R
open Go Go.Sx

theorem nn4 {s t u v p q r a b c : Int} (hp : 0 ≤ p) (hq : 0 ≤ q) (hr : 0 ≤ r) (ha : 0 ≤ a) (hb : 0 ≤ b) (hc : 0 ≤ c) (h1 : p + q + r ≤ s) (h2 : p + a + b ≤ t) (h3 : q + a + c ≤ u) (h4 : r + b + c ≤ v) :
    0 ≤ s * (t * (u * v - c * c) - a * (a * v + c * b) - b * (a * c + u * b)) - p * (p * (u * v - c * c) + a * (q * v + c * r) + b * (q * c + u * r))
      - q * (p * (a * v + c * b) + t * (q * v + c * r) - b * (q * b - a * r)) - r * (p * (a * c + u * b) + t * (q * c + u * r) + a * (q * b - a * r)) := by
  have hs : 0 ≤ s := by omega
  by_cases h0 : s = 0
  · have e1 : p = 0 := by omega
    have e2 : q = 0 := by omega
    have e3 : r = 0 := by omega
    subst h0; subst e1; subst e2; subst e3; simp
  · have A : 0 ≤ s * a + p * q := by have := mul_nn hs ha; have := mul_nn hp hq; omega
    have B : 0 ≤ s * b + p * r := by have := mul_nn hs hb; have := mul_nn hp hr; omega
    have C : 0 ≤ s * c + q * r := by have := mul_nn hs hc; have := mul_nn hq hr; omega
    have k1 : (s * a + p * q) + (s * b + p * r) ≤ s * t - p * p := by
      have x : 0 ≤ s * (t - p - a - b) := mul_nn hs (by omega)
      have y : 0 ≤ p * (s - p - q - r) := mul_nn hp (by omega)
      have e : s * t - p * p - ((s * a + p * q) + (s * b + p * r)) = s * (t - p - a - b) + p * (s - p - q - r) := by grind
      omega
    have k2 : (s * a + p * q) + (s * c + q * r) ≤ s * u - q * q := by
      have x : 0 ≤ s * (u - q - a - c) := mul_nn hs (by omega)
      have y : 0 ≤ q * (s - p - q - r) := mul_nn hq (by omega)
      have e : s * u - q * q - ((s * a + p * q) + (s * c + q * r)) = s * (u - q - a - c) + q * (s - p - q - r) := by grind
      omega
    have k3 : (s * b + p * r) + (s * c + q * r) ≤ s * v - r * r := by
      have x : 0 ≤ s * (v - r - b - c) := mul_nn hs (by omega)
      have y : 0 ≤ r * (s - p - q - r) := mul_nn hr (by omega)
      have e : s * v - r * r - ((s * b + p * r) + (s * c + q * r)) = s * (v - r - b - c) + r * (s - p - q - r) := by grind
      omega
    have key := nn3 A B C k1 k2 k3
    have e : (s * t - p * p) * ((s * u - q * q) * (s * v - r * r) - (s * c + q * r) * (s * c + q * r)) - (s * a + p * q) * ((s * a + p * q) * (s * v - r * r) + (s * c + q * r) * (s * b + p * r)) - (s * b + p * r) * ((s * a + p * q) * (s * c + q * r) + (s * u - q * q) * (s * b + p * r))
      = s * s * (s * (t * (u * v - c * c) - a * (a * v + c * b) - b * (a * c + u * b)) - p * (p * (u * v - c * c) + a * (q * v + c * r) + b * (q * c + u * r))
      - q * (p * (a * v + c * b) + t * (q * v + c * r) - b * (q * b - a * r)) - r * (p * (a * c + u * b) + t * (q * c + u * r) + a * (q * b - a * r))) := by grind
    rw [e] at key
    have hs1 : 0 < s := by omega
    exact Int.nonneg_of_mul_nonneg_right key (Int.mul_pos hs1 hs1)

theorem sum_sub {g : Int → Int} : ∀ {l V : List Int}, l.Nodup → V.Nodup → (∀ i ∈ l, i ∈ V) → (∀ i ∈ V, i ∉ l → g i ≤ 0) → (V.map g).sum ≤ (l.map g).sum
  | [], V, _, _, _, h => by
    have : ∀ V : List Int, (∀ i ∈ V, g i ≤ 0) → (V.map g).sum ≤ 0 := by
      intro V
      induction V with
      | nil => intro _; simp
      | cons x V ih => intro h; simp only [List.map_cons, List.sum_cons]; have := h x (by simp); have := ih fun i hi => h i (by simp [hi]); omega
    simpa using this V fun i hi => h i hi (by simp)
  | x :: l, V, hl, hV, hs, h => by
    have hx := hs x (by simp)
    have hp := List.perm_cons_erase hx
    have hn := List.nodup_cons.1 hl
    have ih := sum_sub (g := g) (l := l) (V := V.erase x) hn.2 (hV.erase x) (fun i hi => (List.mem_erase_of_ne (by rintro rfl; exact hn.1 hi)).2 (hs i (by simp [hi]))) (fun i hi hil => by
      have := (hV.mem_erase_iff).1 hi
      exact h i this.2 (by simp [this.1, hil]))
    rw [perm_sum (hp.map g)]
    simp only [List.map_cons, List.sum_cons]
    omega

/-- A node's sum of weights is no less than that over some others. -/
theorem LapZ.diag {M : List (List Int)} {V : List Int} (h : LapZ M V) {x : Int} {l : List Int} (hx : x ∈ V) (hl : (x :: l).Nodup) (hs : ∀ i ∈ l, i ∈ V) : 0 ≤ at2 M x x + (l.map (at2 M x)).sum := by
  have := sum_sub (g := at2 M x) hl h.nd (fun i hi => by rcases List.mem_cons.1 hi with rfl | hi; exact hx; exact hs i hi) (fun i hi hn => h.off x hx i hi (by rintro rfl; exact hn (by simp)))
  rw [h.sum x hx] at this
  simpa using this

/-- One node more: no less than its weight to somewhere else allows. -/
theorem LapZ.step {M : List (List Int)} {V : List Int} (h : LapZ M V) {x y : Int} {r : List Int} (hl : (x :: r).Nodup) (hs : ∀ i ∈ x :: r, i ∈ V) (hy : y ∈ V) (hyl : y ∉ x :: r) (h3 : r.length ≤ 3) : -at2 M x y * detZ M r r ≤ detZ M (x :: r) (x :: r) := by
  have hx := hs x (by simp)
  have hyx : x ≠ y := by rintro rfl; exact hyl (by simp)
  have off : ∀ i ∈ x :: r, ∀ j ∈ x :: r, i ≠ j → 0 ≤ -at2 M i j := fun i hi j hj hij => by have := h.off i (hs i hi) j (hs j hj) hij; omega
  have dx : 0 ≤ at2 M x x + ((y :: r).map (at2 M x)).sum := h.diag hx (by
    have := List.nodup_cons.1 hl
    refine List.nodup_cons.2 ⟨?_, List.nodup_cons.2 ⟨fun hm => hyl (by simp [hm]), this.2⟩⟩
    intro hm
    rcases List.mem_cons.1 hm with e | hm
    · exact hyx e
    · exact this.1 hm) (fun i hi => by rcases List.mem_cons.1 hi with rfl | hi; exact hy; exact hs i (by simp [hi]))
  match r, h3 with
  | [], _ =>
    simp only [List.map_cons, List.map_nil, List.sum_cons, List.sum_nil] at dx
    rw [detZ1]
    have e1 : detZ M [] [] = 1 := by simp [detZ]
    rw [e1]
    omega
  | [a], _ =>
    have d1 := h.diag (x := a) (l := [x]) (hs a (by simp)) (by simp at hl ⊢; exact fun e => hl e.symm) (by simpa using hx)
    simp only [List.map_cons, List.map_nil, List.sum_cons, List.sum_nil] at dx d1
    have s1 := h.sym a (hs a (by simp)) x hx
    have hxa : x ≠ a := by simp at hl; exact hl
    have o1 := off x (by simp) a (by simp) hxa
    have key := nn2 (s := at2 M x x + at2 M x y) (t := at2 M a a) (w := -at2 M x a) o1 (by omega) (by omega)
    simp only [detZ1, detZ2, s1]
    have e : at2 M x x * at2 M a a - at2 M x a * at2 M x a - -at2 M x y * at2 M a a = (at2 M x x + at2 M x y) * at2 M a a - -at2 M x a * -at2 M x a := by grind
    omega
  | [a, b], _ =>
    simp only [List.nodup_cons, List.mem_cons, List.not_mem_nil, or_false, not_or, List.nodup_nil, and_true, not_false_eq_true] at hl
    obtain ⟨⟨n1, n2⟩, n3⟩ := hl
    have d1 := h.diag (x := a) (l := [x, b]) (hs a (by simp)) (by simp; exact ⟨⟨fun e => n1 e.symm, n3⟩, n2⟩) (by simp; exact ⟨hx, hs b (by simp)⟩)
    have d2 := h.diag (x := b) (l := [x, a]) (hs b (by simp)) (by simp; exact ⟨⟨fun e => n2 e.symm, fun e => n3 e.symm⟩, n1⟩) (by simp; exact ⟨hx, hs a (by simp)⟩)
    simp only [List.map_cons, List.map_nil, List.sum_cons, List.sum_nil] at dx d1 d2
    have s1 := h.sym a (hs a (by simp)) x hx
    have s2 := h.sym b (hs b (by simp)) x hx
    have s3 := h.sym b (hs b (by simp)) a (hs a (by simp))
    have key := nn3 (s := at2 M x x + at2 M x y) (t := at2 M a a) (u := at2 M b b) (p := -at2 M x a) (q := -at2 M x b) (r := -at2 M a b) (off _ (by simp) _ (by simp) n1) (off _ (by simp) _ (by simp) n2) (off _ (by simp) _ (by simp) n3) (by omega) (by omega) (by omega)
    simp only [detZ2, detZ3, s1, s2, s3]
    generalize at2 M x x = X at *
    generalize at2 M a a = A at *
    generalize at2 M b b = B at *
    generalize at2 M x y = Y at *
    generalize at2 M x a = P at *
    generalize at2 M x b = Q at *
    generalize at2 M a b = R at *
    have e : X * (A * B - R * R) - P * (P * B - R * Q) + Q * (P * R - A * Q) - -Y * (A * B - R * R) = (X + Y) * (A * B - -R * -R) - -P * (-P * B + -R * -Q) - -Q * (-P * -R + A * -Q) := by grind
    omega
  | [a, b, c], _ =>
    simp only [List.nodup_cons, List.mem_cons, List.not_mem_nil, or_false, not_or, List.nodup_nil, and_true, not_false_eq_true] at hl
    obtain ⟨⟨n1, n2, n3⟩, ⟨n4, n5⟩, n6⟩ := hl
    have d1 := h.diag (x := a) (l := [x, b, c]) (hs a (by simp)) (by simp; exact ⟨⟨fun e => n1 e.symm, n4, n5⟩, ⟨n2, n3⟩, n6⟩) (by simp; exact ⟨hx, hs b (by simp), hs c (by simp)⟩)
    have d2 := h.diag (x := b) (l := [x, a, c]) (hs b (by simp)) (by simp; exact ⟨⟨fun e => n2 e.symm, fun e => n4 e.symm, n6⟩, ⟨n1, n3⟩, n5⟩) (by simp; exact ⟨hx, hs a (by simp), hs c (by simp)⟩)
    have d3 := h.diag (x := c) (l := [x, a, b]) (hs c (by simp)) (by simp; exact ⟨⟨fun e => n3 e.symm, fun e => n5 e.symm, fun e => n6 e.symm⟩, ⟨n1, n2⟩, n4⟩) (by simp; exact ⟨hx, hs a (by simp), hs b (by simp)⟩)
    simp only [List.map_cons, List.map_nil, List.sum_cons, List.sum_nil] at dx d1 d2 d3
    have s1 := h.sym a (hs a (by simp)) x hx
    have s2 := h.sym b (hs b (by simp)) x hx
    have s3 := h.sym c (hs c (by simp)) x hx
    have s4 := h.sym b (hs b (by simp)) a (hs a (by simp))
    have s5 := h.sym c (hs c (by simp)) a (hs a (by simp))
    have s6 := h.sym c (hs c (by simp)) b (hs b (by simp))
    have key := nn4 (s := at2 M x x + at2 M x y) (t := at2 M a a) (u := at2 M b b) (v := at2 M c c) (p := -at2 M x a) (q := -at2 M x b) (r := -at2 M x c) (a := -at2 M a b) (b := -at2 M a c) (c := -at2 M b c)
      (off _ (by simp) _ (by simp) n1) (off _ (by simp) _ (by simp) n2) (off _ (by simp) _ (by simp) n3) (off _ (by simp) _ (by simp) n4) (off _ (by simp) _ (by simp) n5) (off _ (by simp) _ (by simp) n6) (by omega) (by omega) (by omega) (by omega)
    simp only [detZ3, detZ4, s1, s2, s3, s4, s5, s6]
    generalize at2 M x x = X at *
    generalize at2 M a a = A at *
    generalize at2 M b b = B at *
    generalize at2 M c c = C at *
    generalize at2 M x y = Y at *
    generalize at2 M x a = P at *
    generalize at2 M x b = Q at *
    generalize at2 M x c = R at *
    generalize at2 M a b = S at *
    generalize at2 M a c = T at *
    generalize at2 M b c = U at *
    clear d1 d2 d3 dx off
    have e : (X * (A * (B * C - U * U) - S * (S * C - U * T) + T * (S * U - B * T)) - P * (P * (B * C - U * U) - S * (Q * C - U * R) + T * (Q * U - B * R)) + Q * (P * (S * C - U * T) - A * (Q * C - U * R) + T * (Q * T - S * R)) - R * (P * (S * U - B * T) - A * (Q * U - B * R) + S * (Q * T - S * R))) - -Y * (A * (B * C - U * U) - S * (S * C - U * T) + T * (S * U - B * T))
      = (X + Y) * (A * (B * C - -U * -U) - -S * (-S * C + -U * -T) - -T * (-S * -U + B * -T)) - -P * (-P * (B * C - -U * -U) + -S * (-Q * C + -U * -R) + -T * (-Q * -U + B * -R)) - -Q * (-P * (-S * C + -U * -T) + A * (-Q * C + -U * -R) - -T * (-Q * -T - -S * -R)) - -R * (-P * (-S * -U + B * -T) + A * (-Q * -U + B * -R) + -S * (-Q * -T - -S * -R)) := by grind
    omega

/-- Hangs together: every part has a wire that leads out of it. -/
def Hang (M : List (List Int)) (V : List Int) : Prop := ∀ l : List Int, l ≠ [] → (∀ i ∈ l, i ∈ V) → (∃ y ∈ V, y ∉ l) → ∃ x ∈ l, ∃ y ∈ V, y ∉ l ∧ at2 M x y ≤ -1

/-- Principal minors of a network that hangs together. -/
theorem LapZ.pos {M : List (List Int)} {V : List Int} (h : LapZ M V) (hh : Hang M V) : ∀ (k : Nat) (l : List Int), l.length = k → k ≤ 4 → l.Nodup → (∀ i ∈ l, i ∈ V) → (∃ y ∈ V, y ∉ l) → 1 ≤ detZ M l l
  | 0, l, hk, _, _, _, _ => by
    have : l = [] := List.length_eq_zero_iff.1 hk
    subst this; simp [detZ]
  | k + 1, l, hk, h4, hn, hs, hy => by
    have hne : l ≠ [] := by rintro rfl; simp at hk
    obtain ⟨x, hx, y, hyV, hyl, hxy⟩ := hh l hne hs hy
    have hp := List.perm_cons_erase hx
    have hlen : (l.erase x).length = k := by rw [List.length_erase_of_mem hx, hk]; rfl
    have hn' : (x :: l.erase x).Nodup := hp.nodup_iff.1 hn
    have hm : ∀ i, i ∈ x :: l.erase x ↔ i ∈ l := fun i => hp.symm.mem_iff
    have ih := LapZ.pos h hh k (l.erase x) hlen (by omega) (List.nodup_cons.1 hn').2 (fun i hi => hs i (List.mem_of_mem_erase hi)) ⟨x, hs x hx, (List.nodup_cons.1 hn').1⟩
    have st := h.step (x := x) (y := y) (r := l.erase x) hn' (fun i hi => hs i ((hm i).1 hi)) hyV (fun hi => hyl ((hm y).1 hi)) (by omega)
    rw [detZ_perm hp (by omega)]
    have : 1 * 1 ≤ -at2 M x y * detZ M (l.erase x) (l.erase x) := Int.mul_le_mul (by omega) ih (by omega) (by omega)
    omega

end Go.Sx.R
namespace Go.Sx.R
open Go Go.Sx

theorem wbt_comm (ws : List W3) (a b : Int) : wbt ws a b = wbt ws b a := by
  by_cases h : a = b
  · rw [h]
  · have e : isW a b = isW b a := by
      funext x
      have e1 : (if b < a then b else a) = (if a < b then a else b) := by split <;> split <;> omega
      have e2 : (if b > a then b else a) = (if a > b then a else b) := by split <;> split <;> omega
      simp only [isW, e1, e2]
    simp only [wbt, e, h, if_false, Ne.symm h]

theorem netok_rc {n : TNet} (h : netok n = true) {v : Int} (h0 : 0 ≤ v) (h1 : v < n.1) : Rc n.2.2.2 v := by
  revert h
  simp only [netok, Bool.and_eq_true]
  intro h
  have := h.2
  simp only [conn, decide_eq_true_eq] at this
  exact this v h0 h1

end Go.Sx.R
namespace Go.Sx.R
open Go Go.Sx

def sg : Nat → Int
  | 0 => 1
  | n + 1 => - sg n

end Go.Sx.R
namespace Go.Sx.R
open Go Go.Sx

theorem map_sum_add {β : Type} (f g : β → Int) : ∀ (l : List β), (l.map fun c => f c + g c).sum = (l.map f).sum + (l.map g).sum
  | [] => rfl
  | x :: l => by simp only [List.map_cons, List.sum_cons, map_sum_add f g l]; omega

theorem sum_at (o w : Int) : ∀ (l : List Int), l.Nodup → ((l.map fun c => if c = o then w else 0).sum = if o ∈ l then w else 0)
  | [], _ => rfl
  | x :: l, h => by
    obtain ⟨h1, h2⟩ := List.nodup_cons.1 h
    simp only [List.map_cons, List.sum_cons, sum_at o w l h2, List.mem_cons]
    by_cases e : x = o
    · subst e; simp [h1]
    · have : ¬ o = x := fun h => e h.symm
      simp [e, this]

theorem wbt_cons (e : W3) (ws : List W3) (a c : Int) : wbt (e :: ws) a c = if a = c then 0 else if isW a c e = true then e.2.2 else wbt ws a c := by
  unfold wbt
  by_cases h : a = c
  · rw [if_pos h, if_pos h]
  · rw [if_neg h, if_neg h, if_neg h, List.find?_cons]
    cases isW a c e <;> rfl

theorem wbt_sum (a : Int) (l : List Int) (hl : l.Nodup) : ∀ (ws : List W3), Srt ws → (∀ e ∈ ws, e.1 < e.2.1) → (∀ e ∈ ws, e.1 ∈ l ∧ e.2.1 ∈ l) → (l.map fun c => wbt ws a c).sum = wAt ws a
  | [], _, _, _ => by
    have : ∀ c, wbt [] a c = 0 := fun c => by unfold wbt; split <;> rfl
    simp only [this, wAt, List.map_nil, List.sum_nil]
    induction l with
    | nil => rfl
    | cons x l ih => simpa using ih (List.nodup_cons.1 hl).2
  | e :: ws, hs, hi, hm => by
    obtain ⟨s1, s2⟩ := List.pairwise_cons.1 hs
    have ih := wbt_sum a l hl ws s2 (fun e he => hi e (List.mem_cons_of_mem _ he)) (fun e he => hm e (List.mem_cons_of_mem _ he))
    have he := hi e List.mem_cons_self
    have hme := hm e List.mem_cons_self
    have hw : wAt (e :: ws) a = touch a e + wAt ws a := by simp [wAt]
    rw [hw]
    by_cases t : e.1 = a ∨ e.2.1 = a
    · have ht : touch a e = e.2.2 := by simp [touch, t]
      -- the other end
      obtain ⟨o, ho, hol, hoa⟩ : ∃ o, (∀ c, (isW a c e = true) ↔ c = o) ∧ o ∈ l ∧ a ≠ o := by
        rcases t with t | t
        · refine ⟨e.2.1, fun c => ?_, hme.2, by omega⟩
          simp only [isW, Bool.or_eq_true, Bool.and_eq_true, decide_eq_true_eq]; omega
        · refine ⟨e.1, fun c => ?_, hme.1, by omega⟩
          simp only [isW, Bool.or_eq_true, Bool.and_eq_true, decide_eq_true_eq]; omega
      have h0 : wbt ws a o = 0 := by
        unfold wbt
        rw [if_neg hoa]
        split
        · rename_i x hx
          exfalso
          have h1 := List.find?_some hx
          have h2 := s1 x (List.mem_of_find?_eq_some hx)
          have h3 := (ho o).2 rfl
          have h4 := hi x (List.mem_cons_of_mem _ (List.mem_of_find?_eq_some hx))
          simp only [isW, Bool.or_eq_true, Bool.and_eq_true, decide_eq_true_eq] at h1 h3
          simp only [lex, Bool.or_eq_true, Bool.and_eq_true, decide_eq_true_eq] at h2
          omega
        · rfl
      have hc : ∀ c, wbt (e :: ws) a c = wbt ws a c + if c = o then e.2.2 else 0 := fun c => by
        rw [wbt_cons]
        by_cases ac : a = c
        · subst ac
          have : wbt ws a a = 0 := by unfold wbt; rw [if_pos rfl]
          rw [if_pos rfl, this, if_neg hoa]; rfl
        · rw [if_neg ac]
          by_cases co : c = o
          · rw [if_pos ((ho c).2 co), if_pos co, co, h0]; omega
          · rw [if_neg (fun h => co ((ho c).1 h)), if_neg co]; omega
      simp only [hc, map_sum_add, ih, sum_at o e.2.2 l hl, if_pos hol, ht]
      omega
    · have ht : touch a e = 0 := by simp [touch, t]
      have hc : ∀ c, wbt (e :: ws) a c = wbt ws a c := fun c => by
        rw [wbt_cons]
        by_cases ac : a = c
        · subst ac
          have : wbt ws a a = 0 := by unfold wbt; rw [if_pos rfl]
          rw [if_pos rfl, this]
        · rw [if_neg ac, if_neg]
          simp only [isW, Bool.or_eq_true, Bool.and_eq_true, decide_eq_true_eq]; omega
      simp only [hc, ih, ht]
      omega

theorem lap_zero {ws : List W3} {m : Nat} (hs : Srt ws) (hin : InW m ws) {L : List (List Int)} (h : IsTab L m (lapF ws)) {cols : List Int} (hn : cols.Nodup) (hc : ∀ c, c ∈ cols ↔ 0 ≤ c ∧ c < m) {r : Int} (hr : 0 ≤ r ∧ r < m) : (cols.map fun c => at2 L r c).sum = 0 := by
  obtain ⟨i, rfl⟩ : ∃ i : Nat, r = i := ⟨r.toNat, by omega⟩
  have e : cols.map (fun c => at2 L (i : Int) c) = cols.map fun c => (if c = (i : Int) then wAt ws (i : Int) else 0) + -(wbt ws (i : Int) c) := by
    refine List.map_congr_left fun c hcm => ?_
    have hcc := (hc c).1 hcm
    obtain ⟨j, rfl⟩ : ∃ j : Nat, c = j := ⟨c.toNat, by omega⟩
    rw [tab_at2 h (by omega) (by omega), lapF]
    by_cases ij : i = j
    · subst ij
      have : wbt ws (i : Int) (i : Int) = 0 := by unfold wbt; rw [if_pos rfl]
      rw [if_pos rfl, if_pos rfl, this]; omega
    · rw [if_neg ij, if_neg (by omega)]; omega
  have neg : ∀ (l : List Int), (l.map fun c => -(wbt ws (i : Int) c)).sum = -(l.map fun c => wbt ws (i : Int) c).sum := by
    intro l
    induction l with
    | nil => rfl
    | cons x l ih => simp only [List.map_cons, List.sum_cons, ih]; omega
  rw [e, map_sum_add, sum_at _ _ _ hn, if_pos ((hc (i : Int)).2 ⟨by omega, hr.2⟩), neg, wbt_sum (i : Int) cols hn ws hs (fun e he => (hin e he).2.1) (fun e he => ⟨(hc _).2 (by have := hin e he; omega), (hc _).2 (by have := hin e he; omega)⟩)]
  omega

end Go.Sx.R
namespace Go.Sx.R
open Go Go.Sx

theorem wo_all (m : Nat) (l : List Int) : ∀ c : Int, 0 ≤ c → c < m → c ∉ l → c ∈ wo m l := by
  have := foldI_ind (β := Nat) (fun i (q : List Int) => ∀ c : Int, 0 ≤ c → c < i → c ∉ l → c ∈ q) (woG l) (fun s i x h c h0 h1 h2 => by
    simp only [woG]
    by_cases hi : c = i
    · subst hi; rw [if_neg h2]; simp
    · have := h c h0 (by omega) h2
      split
      · exact this
      · simp [this]) (List.range m) 0 [] (by intro c h0 h1; omega)
  simpa [wo] using this

theorem mem_wo {m : Nat} {l : List Int} {c : Int} : c ∈ wo m l ↔ 0 ≤ c ∧ c < m ∧ c ∉ l :=
  ⟨fun h => (wo_facts' m l).2.1 c h, fun h => wo_all m l c h.1 h.2.1 h.2.2⟩

theorem wo_nd (m : Nat) (l : List Int) : (wo m l).Nodup := (wo_facts' m l).2.2

theorem perm_of {l l' : List Int} (h : l.Nodup) (h' : l'.Nodup) (he : ∀ c, c ∈ l ↔ c ∈ l') : l.Perm l' :=
  (List.perm_ext_iff_of_nodup h h').2 he

theorem wo_cons {m : Nat} {x : Int} {l : List Int} (h0 : 0 ≤ x) (h1 : x < m) (hx : x ∉ l) : (wo m l).Perm (x :: wo m (x :: l)) := by
  refine perm_of (wo_nd _ _) (List.nodup_cons.2 ⟨fun h => (mem_wo.1 h).2.2 (by simp), wo_nd _ _⟩) fun c => ?_
  simp only [mem_wo, List.mem_cons, not_or]
  by_cases hc : c = x
  · subst hc; simp [h0, h1, hx]
  · simp [hc]

section
variable {n : TNet} {m : Nat} {L : List (List Int)}

theorem Lk.a2 (h : Lk n m L) {i j : Int} (hi : 0 ≤ i ∧ i < m) (hj : 0 ≤ j ∧ j < m) : at2 L i j = if i = j then wAt n.2.2.2 i else -wbt n.2.2.2 i j := by
  obtain ⟨a, rfl⟩ : ∃ a : Nat, i = a := ⟨i.toNat, by omega⟩
  obtain ⟨b, rfl⟩ : ∃ b : Nat, j = b := ⟨j.toNat, by omega⟩
  rw [tab_at2 h.tab (by omega) (by omega), lapF]
  by_cases e : a = b
  · subst e; rw [if_pos rfl, if_pos rfl]
  · rw [if_neg e, if_neg (by omega)]

theorem Lk.lapZ (h : Lk n m L) : LapZ L (wo m []) where
  sym x hx y hy := by
    have hx := mem_wo.1 hx
    have hy := mem_wo.1 hy
    rw [h.a2 ⟨hx.1, hx.2.1⟩ ⟨hy.1, hy.2.1⟩, h.a2 ⟨hy.1, hy.2.1⟩ ⟨hx.1, hx.2.1⟩]
    by_cases e : x = y
    · subst e; rfl
    · rw [if_neg e, if_neg (Ne.symm e), wbt_comm]
  off x hx y hy hxy := by
    have hx := mem_wo.1 hx
    have hy := mem_wo.1 hy
    rw [h.a2 ⟨hx.1, hx.2.1⟩ ⟨hy.1, hy.2.1⟩, if_neg hxy]
    have := wbt_bd h.hw x y
    omega
  sum x hx := by
    have hx := mem_wo.1 hx
    exact lap_zero h.srt h.inw h.tab (wo_nd m []) (fun c => by simp [mem_wo]) ⟨hx.1, hx.2.1⟩
  nd := wo_nd m []

theorem Lk.wire (h : Lk n m L) {e : W3} (he : e ∈ n.2.2.2) : at2 L e.1 e.2.1 ≤ -1 ∧ at2 L e.2.1 e.1 ≤ -1 := by
  have hi := h.inw e he
  have hw := h.hw e he
  have hb : wbt n.2.2.2 e.1 e.2.1 = e.2.2 := (wbt_mem h.srt hi.2.1 (by omega)).2 he
  have hb' : wbt n.2.2.2 e.2.1 e.1 = e.2.2 := by rw [wbt_comm]; exact hb
  rw [h.a2 (by omega) (by omega), h.a2 (by omega) (by omega), if_neg (by omega), if_neg (by omega), hb, hb']
  omega

theorem rc_side {ws : List W3} {l : List Int} (h : ∀ e ∈ ws, (e.1 ∈ l ↔ e.2.1 ∈ l)) : ∀ v, Rc ws v → (v ∈ l ↔ (0 : Int) ∈ l) := by
  intro v hv
  induction hv with
  | zero => exact Iff.rfl
  | ab he _ ih => exact (h _ he).symm.trans ih
  | ba he _ ih => exact (h _ he).trans ih

theorem Lk.hang (h : Lk n m L) : Hang L (wo m []) := by
  intro l hl hs ⟨y, hy, hyl⟩
  apply Classical.byContradiction
  intro hno
  have side : ∀ e ∈ n.2.2.2, (e.1 ∈ l ↔ e.2.1 ∈ l) := by
    intro e he
    have hi := h.inw e he
    have hw := h.wire he
    constructor
    · intro h1
      apply Classical.byContradiction
      intro h2
      exact hno ⟨_, h1, _, mem_wo.2 ⟨by omega, hi.2.2, by simp⟩, h2, hw.1⟩
    · intro h1
      apply Classical.byContradiction
      intro h2
      exact hno ⟨_, h1, _, mem_wo.2 ⟨hi.1, by omega, by simp⟩, h2, hw.2⟩
  have all : ∀ v, 0 ≤ v → v < n.1 → (v ∈ l ↔ (0 : Int) ∈ l) := fun v h0 h1 => rc_side side v (netok_rc h.ok h0 h1)
  have hm := h.hm
  obtain ⟨x, hx⟩ := List.exists_mem_of_ne_nil l hl
  have hx' := mem_wo.1 (hs x hx)
  have hy' := mem_wo.1 hy
  exact hyl ((all y hy'.1 (by omega)).2 ((all x hx'.1 (by omega)).1 hx))

end

/-- A ratio in lowest terms. -/
def ratZ (a b : Int) : Int × Int := (Int.tdiv a (Nat.gcd a.natAbs b.natAbs : Nat), Int.tdiv b (Nat.gcd a.natAbs b.natAbs : Nat))

theorem ratZ_spec {a b : Int} (hb : 1 ≤ b) : ∃ g : Nat, 1 ≤ g ∧ a = (ratZ a b).1 * g ∧ b = (ratZ a b).2 * g ∧ 1 ≤ (ratZ a b).2 ∧ Nat.gcd (ratZ a b).1.natAbs (ratZ a b).2.natAbs = 1 := by
  have hg : 0 < Nat.gcd a.natAbs b.natAbs := Nat.gcd_pos_of_pos_right _ (by omega)
  have d1 : ((Nat.gcd a.natAbs b.natAbs : Nat) : Int) ∣ a := Int.ofNat_dvd_left.2 (Nat.gcd_dvd_left _ _)
  have d2 : ((Nat.gcd a.natAbs b.natAbs : Nat) : Int) ∣ b := Int.ofNat_dvd_left.2 (Nat.gcd_dvd_right _ _)
  have e1 : a = (ratZ a b).1 * (Nat.gcd a.natAbs b.natAbs : Nat) := (Int.tdiv_mul_cancel d1).symm
  have e2 : b = (ratZ a b).2 * (Nat.gcd a.natAbs b.natAbs : Nat) := (Int.tdiv_mul_cancel d2).symm
  have p2 : 1 ≤ (ratZ a b).2 := by
    apply Classical.byContradiction
    intro hn
    have : (ratZ a b).2 * ((Nat.gcd a.natAbs b.natAbs : Nat) : Int) ≤ 0 := Int.mul_nonpos_of_nonpos_of_nonneg (by omega) (by omega)
    omega
  refine ⟨_, hg, e1, e2, p2, ?_⟩
  have a1 : (ratZ a b).1.natAbs = a.natAbs / Nat.gcd a.natAbs b.natAbs := by
    show (Int.tdiv a _).natAbs = _
    rw [Int.natAbs_tdiv]; rfl
  have a2 : (ratZ a b).2.natAbs = b.natAbs / Nat.gcd a.natAbs b.natAbs := by
    show (Int.tdiv b _).natAbs = _
    rw [Int.natAbs_tdiv]; rfl
  rw [a1, a2, Nat.gcd_div (Nat.gcd_dvd_left _ _) (Nat.gcd_dvd_right _ _), Nat.div_self hg]

theorem ratZ_cross {a b : Int} (hb : 1 ≤ b) : (ratZ a b).1 * b = a * (ratZ a b).2 := by
  obtain ⟨g, _, e1, e2, _, _⟩ := ratZ_spec (a := a) hb
  generalize (ratZ a b).1 = p at *
  generalize (ratZ a b).2 = q at *
  rw [e1, e2]; grind

theorem ratZ_le {a b : Int} (hb : 1 ≤ b) : (ratZ a b).1.natAbs ≤ a.natAbs ∧ 1 ≤ (ratZ a b).2 ∧ (ratZ a b).2 ≤ b := by
  obtain ⟨g, hg, e1, e2, e3, _⟩ := ratZ_spec (a := a) hb
  refine ⟨?_, e3, ?_⟩
  · have : a.natAbs = (ratZ a b).1.natAbs * g := by
      have := congrArg Int.natAbs e1
      rwa [Int.natAbs_mul, Int.natAbs_natCast] at this
    rw [this]; exact Nat.le_mul_of_pos_right _ hg
  · have : (ratZ a b).2 * 1 ≤ (ratZ a b).2 * (g : Int) := Int.mul_le_mul_of_nonneg_left (by omega) (by omega)
    omega

theorem ratZ_zero {a b : Int} (hb : 1 ≤ b) : (ratZ a b).1 = 0 ↔ a = 0 := by
  obtain ⟨g, hg, e1, e2, e3, _⟩ := ratZ_spec (a := a) hb
  constructor
  · intro h; rw [e1, h, Int.zero_mul]
  · intro h; unfold ratZ; simp [h]

theorem ratZ_neg {a b : Int} (hb : 1 ≤ b) : (ratZ a b).1 < 0 ↔ a < 0 := by
  obtain ⟨g, hg, e1, e2, e3, _⟩ := ratZ_spec (a := a) hb
  constructor
  · intro h; rw [e1]; exact Int.mul_neg_of_neg_of_pos h (by omega)
  · intro h
    apply Classical.byContradiction
    intro hn
    have : 0 ≤ (ratZ a b).1 * (g : Int) := Int.mul_nonneg (by omega) (by omega)
    omega

/-- Two ratios are alike when their cross products are. -/
theorem ratZ_eq {a b c d : Int} (hb : 1 ≤ b) (hd : 1 ≤ d) : ratZ a b = ratZ c d ↔ a * d = c * b := by
  obtain ⟨g, hg, e1, e2, e3, e4⟩ := ratZ_spec (a := a) hb
  obtain ⟨k, hk, f1, f2, f3, f4⟩ := ratZ_spec (a := c) hd
  constructor
  · intro h
    rw [← h] at f1 f2
    generalize (ratZ a b).1 = p at *
    generalize (ratZ a b).2 = q at *
    rw [e1, e2, f1, f2]; grind
  · intro h
    have hx : (ratZ a b).1 * (ratZ c d).2 = (ratZ c d).1 * (ratZ a b).2 := by
      have hh : ((ratZ a b).1 * (ratZ c d).2) * ((g : Int) * k) = ((ratZ c d).1 * (ratZ a b).2) * ((g : Int) * k) := by
        generalize (ratZ a b).1 = p at *
        generalize (ratZ a b).2 = q at *
        generalize (ratZ c d).1 = r at *
        generalize (ratZ c d).2 = s at *
        rw [e1, e2, f1, f2] at h; grind
      exact Int.eq_of_mul_eq_mul_right (by
        have : (0 : Int) < (g : Int) * k := Int.mul_pos (by omega) (by omega)
        omega) hh
    generalize hp : (ratZ a b).1 = p at *
    generalize hq : (ratZ a b).2 = q at *
    generalize hr : (ratZ c d).1 = r at *
    generalize hs : (ratZ c d).2 = s at *
    have hn : p.natAbs * s.natAbs = r.natAbs * q.natAbs := by
      have := congrArg Int.natAbs hx
      rwa [Int.natAbs_mul, Int.natAbs_mul] at this
    have d1 : q.natAbs ∣ s.natAbs := by
      have : q.natAbs ∣ p.natAbs * s.natAbs := ⟨r.natAbs, by rw [hn, Nat.mul_comm]⟩
      exact Nat.Coprime.dvd_of_dvd_mul_left (Nat.Coprime.symm e4) this
    have d2 : s.natAbs ∣ q.natAbs := by
      have : s.natAbs ∣ r.natAbs * q.natAbs := ⟨p.natAbs, by rw [← hn, Nat.mul_comm]⟩
      exact Nat.Coprime.dvd_of_dvd_mul_left (Nat.Coprime.symm f4) this
    have hqs : q = s := by have := Nat.dvd_antisymm d1 d2; omega
    have hpr : p = r := by
      subst hqs
      exact Int.eq_of_mul_eq_mul_right (by omega) hx
    exact Prod.ext (by rw [hp, hr, hpr]) (by rw [hq, hs, hqs])

theorem p_Ratio {a b : Int} (ha : a.natAbs ≤ 1000000000000000000) (hb : 1 ≤ b) (hb2 : b ≤ 1000000000000000) : e_impl_RatioOf (a, b, ()) = some (ratZ a b) := by
  simp only [e_impl_RatioOf, r_impl_RatioOf, p_sizeI a (by omega) (by omega), p_sizeI b (by omega) (by omega), p_common a.natAbs b.natAbs (by omega), Option.bind_some]
  have hg : 0 < Nat.gcd a.natAbs b.natAbs := Nat.gcd_pos_of_pos_right _ (by omega)
  have tn := tdiv_abs a (Nat.gcd a.natAbs b.natAbs)
  have td := tdiv_abs b (Nat.gcd a.natAbs b.natAbs)
  have la : a.natAbs / Nat.gcd a.natAbs b.natAbs ≤ a.natAbs := Nat.div_le_self _ _
  have lb : b.natAbs / Nat.gcd a.natAbs b.natAbs ≤ b.natAbs := Nat.div_le_self _ _
  have ta : Int.tdiv (a.natAbs : Int) ((Nat.gcd a.natAbs b.natAbs : Nat) : Int) = ((a.natAbs / Nat.gcd a.natAbs b.natAbs : Nat) : Int) := by rw [Int.tdiv_eq_ediv_of_nonneg (by omega)]; simp
  have tb : Int.tdiv (b.natAbs : Int) ((Nat.gcd a.natAbs b.natAbs : Nat) : Int) = ((b.natAbs / Nat.gcd a.natAbs b.natAbs : Nat) : Int) := by rw [Int.tdiv_eq_ediv_of_nonneg (by omega)]; simp
  rw [ta, tb]
  unfold ratZ
  rw [td.1 (by omega)]
  generalize hG : Nat.gcd a.natAbs b.natAbs = g at *
  generalize hP : a.natAbs / g = p at *
  generalize hQ : b.natAbs / g = q at *
  have d1 : decide (b = 0) = false := by rw [decide_eq_false_iff_not]; omega
  have d2 : decide ((g : Int) = 0) = false := by rw [decide_eq_false_iff_not]; omega
  have ua : Go.IntKind.wrap Go.IntKind.u64 ((p : Nat) : Int) = ((p : Nat) : Int) := u64_id (by omega) (by omega)
  have ub : Go.IntKind.wrap Go.IntKind.u64 ((q : Nat) : Int) = ((q : Nat) : Int) := u64_id (by omega) (by omega)
  have wa : wr ((p : Nat) : Int) = ((p : Nat) : Int) := wr_id (by omega) (by omega)
  have wb : wr ((q : Nat) : Int) = ((q : Nat) : Int) := wr_id (by omega) (by omega)
  have wn : wr (0 - ((p : Nat) : Int)) = -((p : Nat) : Int) := by rw [wr_id (by omega) (by omega)]; omega
  have k1 : decide ((p : Int) > 1000000000000000000) = false := by rw [decide_eq_false_iff_not]; omega
  have k2 : decide ((q : Int) > 1000000000000000) = false := by rw [decide_eq_false_iff_not]; omega
  have sb : decide (b < 0) = false := by rw [decide_eq_false_iff_not]; omega
  simp only [d1, d2, cond_false, ua, ub, wa, wb, wn, k1, k2, sb]
  by_cases sa : a < 0
  · simp only [sa, decide_true, beqB, Bool.not_false, cond_true, tn.2 sa]
  · simp only [sa, decide_false, beqB_self, Bool.not_true, cond_false, tn.1 (by omega)]

end Go.Sx.R
namespace Go.Sx.R
open Go Go.Sx

section
variable {n : TNet} {m : Nat} {L : List (List Int)}

end

theorem intEq_self (a : Int) : intEq a a = true := by simp [intEq]

end Go.Sx.R
namespace Go.Sx.R
open Go Go.Sx

section
variable {n : TNet} {m : Nat} {L : List (List Int)} {a b : Nat}

theorem nodup_map_on {β γ : Type} (g : β → γ) : ∀ {l : List β}, l.Nodup → (∀ x ∈ l, ∀ y ∈ l, g x = g y → x = y) → (l.map g).Nodup
  | [], _, _ => by simp
  | x :: l, hn, h => by
    have hn := List.nodup_cons.1 hn
    rw [List.map_cons, List.nodup_cons]
    refine ⟨fun hm => ?_, nodup_map_on g hn.2 fun a ha b hb => h a (by simp [ha]) b (by simp [hb])⟩
    obtain ⟨y, hy, e⟩ := List.mem_map.1 hm
    have := h y (by simp [hy]) x (by simp) e
    subst this
    exact hn.1 hy

end
end Go.Sx.R
namespace Go.Sx.R
open Go Go.Sx

section
variable {n : TNet} {m E : Nat} {L : List (List Int)} {inn : List Int}

theorem Nk.lk (h : Nk n m E L inn) : Lk n m L := ⟨h.hn, h.ok, h.hm, h.m1, h.m5, h.sc, h.lp, h.ls, h.tab, h.srt, h.inw, h.hw⟩

theorem Nk.down1 (h : Nk n m E L inn) (hE : 2 ≤ E) : 1 ≤ detZ L inn inn ∧ detZ L inn inn ≤ 5832000000 := by
  have lk := h.lk
  have l := h.len_inn
  have hm5 := h.m5
  have hem := h.em
  refine ⟨lk.lapZ.pos lk.hang _ inn rfl (by omega) h.nd_inn (fun i hi => mem_wo.2 ⟨(h.inn_in i hi).1, (h.inn_in i hi).2, by simp⟩) ⟨0, mem_wo.2 ⟨by omega, by omega, by simp⟩, fun hh => by have := h.mem_inn.1 hh; omega⟩, ?_⟩
  have := det_lap h.srt h.inw h.m5 h.hw h.tab h.inn_in h.inn_in h.nd_inn
  have p : 1800 ^ inn.length ≤ 5832000000 := Nat.le_trans (Nat.pow_le_pow_right (by omega) (show inn.length ≤ 3 by omega)) (by decide)
  omega

theorem Nk.dOf1 (h : Nk n m E L inn) (hE : 2 ≤ E) : 1 ≤ dOf n L inn ∧ dOf n L inn ≤ 5832000000000 := by
  have d := h.down1 hE
  have s := h.sc
  simp only [dOf]
  constructor
  · have : 1 * 1 ≤ n.2.2.1 * detZ L inn inn := Int.mul_le_mul s.1 d.1 (by omega) (by omega)
    omega
  · have : n.2.2.1 * detZ L inn inn ≤ 1000 * 5832000000 := Int.mul_le_mul s.2 d.2 (by omega) (by omega)
    omega

/-- A response's ratio. -/
theorem Nk.rtZ (h : Nk n m E L inn) (hE : 2 ≤ E) {i j : Nat} (hi : i < E) (hj : j < E) : rtF n L inn i j = ratZ (detZ L ((i : Int) :: inn) ((j : Int) :: inn)) (dOf n L inn) := by
  have d := h.dOf1 hE
  have t := h.top_le hi hj
  have r := (h.rt hi hj).1
  rw [p_Ratio (by omega) d.1 (by omega)] at r
  exact (Option.some.inj r).symm

theorem Nk.respV (h : Nk n m E L inn) : respV n = respT n L inn E := by
  simp only [Go.Sx.R.respV, h.sResp, Option.map_some, Option.getD_some]


end
end Go.Sx.R
namespace Go.Sx.R
open Go Go.Sx

section
variable {n : TNet} {m E : Nat} {L : List (List Int)} {inn : List Int}

def topF (L : List (List Int)) (inn : List Int) (i j : Nat) : Int := detZ L ((i : Int) :: inn) ((j : Int) :: inn)

end

end Go.Sx.R
namespace Go.Sx.R
open Go Go.Sx

theorem sum_lin2 (a b : Int) (F G : Int → Int) : ∀ l : List Int, (l.map fun y => a * F y + b * G y).sum = a * (l.map F).sum + b * (l.map G).sum
  | [] => by simp
  | y :: l => by simp only [List.map_cons, List.sum_cons, sum_lin2 a b F G l, Int.mul_add]; omega

/-- The rows of the response add up to nothing, all nodes as columns. -/
theorem col_all {M : List (List Int)} {V : List Int} : ∀ (R inn : List Int), R.length = inn.length + 1 → R.length ≤ 4 → (∀ r ∈ R, (V.map (at2 M r)).sum = 0) → (V.map fun j => detZ M R (j :: inn)).sum = 0 := by
  intro R inn hl h4 hs
  match R, inn, hl, h4 with
  | [r], [], _, _ =>
    have e : (fun j => detZ M [r] [j]) = at2 M r := by funext j; rw [detZ1]
    rw [e]; exact hs r (by simp)
  | [r, s], [c], _, _ =>
    have e : (fun j => detZ M [r, s] [j, c]) = fun j => at2 M s c * at2 M r j + -at2 M r c * at2 M s j := by funext j; rw [detZ2]; grind
    rw [e, sum_lin2, hs r (by simp), hs s (by simp)]; simp
  | [r, s, t], [c, d], _, _ =>
    have e : (fun j => detZ M [r, s, t] [j, c, d]) = fun j => 1 * ((fun j => (at2 M s c * at2 M t d - at2 M s d * at2 M t c) * at2 M r j + -(at2 M r c * at2 M t d - at2 M r d * at2 M t c) * at2 M s j) j) + (at2 M r c * at2 M s d - at2 M r d * at2 M s c) * at2 M t j := by
      funext j; rw [detZ3]; grind
    rw [e, sum_lin2, sum_lin2, hs r (by simp), hs s (by simp), hs t (by simp)]; simp
  | [r, s, t, u], [c, d, e], _, _ =>
    have e' : (fun j => detZ M [r, s, t, u] [j, c, d, e]) = fun j => 1 * ((fun j => (at2 M s c * (at2 M t d * at2 M u e - at2 M t e * at2 M u d) - at2 M s d * (at2 M t c * at2 M u e - at2 M t e * at2 M u c) + at2 M s e * (at2 M t c * at2 M u d - at2 M t d * at2 M u c)) * at2 M r j
        + -(at2 M r c * (at2 M t d * at2 M u e - at2 M t e * at2 M u d) - at2 M r d * (at2 M t c * at2 M u e - at2 M t e * at2 M u c) + at2 M r e * (at2 M t c * at2 M u d - at2 M t d * at2 M u c)) * at2 M s j) j)
        + 1 * ((fun j => (at2 M r c * (at2 M s d * at2 M u e - at2 M s e * at2 M u d) - at2 M r d * (at2 M s c * at2 M u e - at2 M s e * at2 M u c) + at2 M r e * (at2 M s c * at2 M u d - at2 M s d * at2 M u c)) * at2 M t j
        + -(at2 M r c * (at2 M s d * at2 M t e - at2 M s e * at2 M t d) - at2 M r d * (at2 M s c * at2 M t e - at2 M s e * at2 M t c) + at2 M r e * (at2 M s c * at2 M t d - at2 M s d * at2 M t c)) * at2 M u j) j) := by
      funext j; rw [detZ4]; grind
    rw [e', sum_lin2, sum_lin2, sum_lin2, hs r (by simp), hs s (by simp), hs t (by simp), hs u (by simp)]; simp
  | [], _, hl, _ => simp at hl
  | [_], _ :: _, hl, _ => simp at hl
  | [_, _], [], hl, _ => simp at hl
  | [_, _], _ :: _ :: _, hl, _ => simp at hl
  | [_, _, _], [], hl, _ => simp at hl
  | [_, _, _], [_], hl, _ => simp at hl
  | [_, _, _], _ :: _ :: _ :: _, hl, _ => simp at hl
  | [_, _, _, _], [], hl, _ => simp at hl
  | [_, _, _, _], [_], hl, _ => simp at hl
  | [_, _, _, _], [_, _], hl, _ => simp at hl
  | [_, _, _, _], _ :: _ :: _ :: _ :: _, hl, _ => simp at hl
  | _ :: _ :: _ :: _ :: _ :: _, _, _, h4 => simp at h4 <;> omega

/-- A column twice. -/
theorem col_twice {M : List (List Int)} : ∀ (R inn : List Int), R.length = inn.length + 1 → R.length ≤ 4 → ∀ c ∈ inn, detZ M R (c :: inn) = 0 := by
  intro R inn hl h4 c hc
  match R, inn, hl, h4 with
  | [r], [], _, _ => simp at hc
  | [r, s], [x], _, _ =>
    simp only [List.mem_cons, List.not_mem_nil, or_false] at hc
    subst hc; rw [detZ2]; grind
  | [r, s, t], [x, y], _, _ =>
    simp only [List.mem_cons, List.not_mem_nil, or_false] at hc
    rcases hc with rfl | rfl <;> rw [detZ3] <;> grind
  | [r, s, t, u], [x, y, z], _, _ =>
    simp only [List.mem_cons, List.not_mem_nil, or_false] at hc
    rcases hc with rfl | rfl | rfl <;> rw [detZ4] <;> grind
  | [], _, hl, _ => simp at hl
  | [_], _ :: _, hl, _ => simp at hl
  | [_, _], [], hl, _ => simp at hl
  | [_, _], _ :: _ :: _, hl, _ => simp at hl
  | [_, _, _], [], hl, _ => simp at hl
  | [_, _, _], [_], hl, _ => simp at hl
  | [_, _, _], _ :: _ :: _ :: _, hl, _ => simp at hl
  | [_, _, _, _], [], hl, _ => simp at hl
  | [_, _, _, _], [_], hl, _ => simp at hl
  | [_, _, _, _], [_, _], hl, _ => simp at hl
  | [_, _, _, _], _ :: _ :: _ :: _ :: _, hl, _ => simp at hl
  | _ :: _ :: _ :: _ :: _ :: _, _, _, h4 => simp at h4 <;> omega

section
variable {n : TNet} {m E : Nat} {L : List (List Int)} {inn : List Int}

/-- The ends, in order. -/
def endsL (E : Nat) : List Int := (List.range' 0 E).map fun (i : Nat) => (i : Int)

theorem mem_endsL {E : Nat} {c : Int} : c ∈ endsL E ↔ 0 ≤ c ∧ c < E := by
  simp only [endsL, List.mem_map, List.mem_range'_1]
  constructor
  · rintro ⟨k, hk, rfl⟩; omega
  · intro h; exact ⟨c.toNat, by omega, by omega⟩

theorem nd_endsL (E : Nat) : (endsL E).Nodup := nodup_map_on _ (List.nodup_range') fun x _ y _ e => by omega

theorem Nk.rows (h : Nk n m E L inn) (hE : 2 ≤ E) {i : Nat} (hi : i < E) : ((endsL E).map fun j => detZ L ((i : Int) :: inn) (j :: inn)).sum = 0 := by
  have lk := h.lk
  have l := h.len_inn
  have hm5 := h.m5
  have hem := h.em
  have pV : (wo m []).Perm (endsL E ++ inn) := by
    refine perm_of (wo_nd _ _) ?_ fun c => ?_
    · rw [List.nodup_append]
      exact ⟨nd_endsL E, h.nd_inn, fun a ha b hb => by have := mem_endsL.1 ha; have := h.mem_inn.1 hb; omega⟩
    · rw [List.mem_append, mem_endsL, h.mem_inn, mem_wo]
      simp only [List.not_mem_nil, not_false_eq_true, and_true]; omega
  have s := col_all (M := L) (V := wo m []) ((i : Int) :: inn) inn (by simp) (by simp; omega) fun r hr => lk.lapZ.sum r (mem_wo.2 (by
    have := (h.with hi).1 r hr
    exact ⟨this.1, this.2, by simp⟩))
  rw [perm_sum (pV.map fun j => detZ L ((i : Int) :: inn) (j :: inn)), List.map_append, List.sum_append] at s
  have z : (inn.map fun j => detZ L ((i : Int) :: inn) (j :: inn)).sum = 0 := by
    have e : inn.map (fun j => detZ L ((i : Int) :: inn) (j :: inn)) = inn.map fun _ => 0 := List.map_congr_left fun c hc => col_twice _ _ (by simp) (by simp; omega) c hc
    rw [e]
    have : ∀ l : List Int, (l.map fun _ => (0 : Int)).sum = 0 := by
      intro l
      induction l with
      | nil => rfl
      | cons x l ih => simp only [List.map_cons, List.sum_cons, ih]; rfl
    exact this inn
  omega

end

end Go.Sx.R
namespace Go.Sx.R
open Go Go.Sx

theorem p_GcdI2 (a b : Int) (ha : -1000000000000000000 ≤ a) (ha2 : a ≤ 1000000000000000000) (hb : -1000000000000000000 ≤ b) (hb2 : b ≤ 1000000000000000000) : e_impl_GcdOf (a, b, ()) = some ((Nat.gcd a.natAbs b.natAbs : Nat) : Int) := by
  have d1 : decide (a = -9223372036854775808) = false := by rw [decide_eq_false_iff_not]; omega
  have d2 : decide (b = -9223372036854775808) = false := by rw [decide_eq_false_iff_not]; omega
  have hg : Nat.gcd a.natAbs b.natAbs ≤ 1000000000000000000 := by
    by_cases h : b.natAbs = 0
    · rw [h, Nat.gcd_zero_right]; omega
    · exact Nat.le_trans (Nat.gcd_le_right _ (by omega)) (by omega)
  have w : wr ((Nat.gcd a.natAbs b.natAbs : Nat) : Int) = ((Nat.gcd a.natAbs b.natAbs : Nat) : Int) := wr_id (by omega) (by omega)
  simp only [e_impl_GcdOf, r_impl_GcdOf, d1, d2, cond_false, p_sizeI a (by omega) (by omega), p_sizeI b (by omega) (by omega), p_common a.natAbs b.natAbs (by omega), Option.bind_some, w]

/-- A fraction in lowest terms that is not too large. -/
def rOk (r : Int × Int) : Bool := decide (1 ≤ r.2) && decide (r.2 ≤ 1000000000000000) && (decide (-1000000000000000000 ≤ r.1) && decide (r.1 ≤ 1000000000000000000)) && decide (((Nat.gcd r.1.natAbs r.2.natAbs : Nat) : Int) = 1)

theorem rOk_bd {r : Int × Int} (h : rOk r = true) : 1 ≤ r.2 ∧ r.2 ≤ 1000000000000000 ∧ -1000000000000000000 ≤ r.1 ∧ r.1 ≤ 1000000000000000000 := by
  simp only [rOk, Bool.and_eq_true, decide_eq_true_eq] at h; omega

theorem p_rOk (r : Int × Int) : e_impl_RatioOk (r, ()) = some (rOk r) := by
  simp only [e_impl_RatioOk, r_impl_RatioOk, rOk]
  by_cases h1 : 1 ≤ r.2
  · by_cases h2 : r.2 ≤ 1000000000000000
    · by_cases h3 : -1000000000000000000 ≤ r.1
      · by_cases h4 : r.1 ≤ 1000000000000000000
        · have g1 := p_GcdI2 r.1 r.2 h3 h4 (by omega) (by omega)
          simp [h1, h2, h3, h4, g1]
        · simp [h1, h2, h3, h4]
      · simp [h1, h2, h3]
    · simp [h1, h2]
  · simp [h1]

theorem s_rOk (r : Int × Int) : e_spec_RatioOk (r, ()) = some (rOk r) := by
  simp only [e_spec_RatioOk, r_spec_RatioOk, p_l01In, n_l01In, Option.bind_some, rOk]
  by_cases h1 : 1 ≤ r.2
  · by_cases h2 : r.2 ≤ 1000000000000000
    · by_cases h3 : -1000000000000000000 ≤ r.1
      · by_cases h4 : r.1 ≤ 1000000000000000000
        · have g2 := s_GcdI r.1 r.2 (by omega) (by omega) (by omega) (by omega)
          simp [h1, h2, h3, h4, g2]
        · simp [h1, h2, h3, h4]
      · simp [h1, h2, h3]
    · simp [h1, h2]
  · simp [h1]

/-- Whether a product is small enough. -/
def fitP (a b : Int) : Bool := decide (a = 0) || decide (b = 0) || decide (a.natAbs ≤ 1000000000000000000 / b.natAbs)

theorem fit_bd {a b : Int} (h : fitP a b = true) : (a * b).natAbs ≤ 1000000000000000000 := by
  simp only [fitP, Bool.or_eq_true, decide_eq_true_eq] at h
  rw [Int.natAbs_mul]
  rcases h with (h | h) | h
  · subst h; simp
  · subst h; simp
  · exact Nat.le_trans (Nat.mul_le_mul_right _ h) (Nat.div_mul_le_self _ _)

theorem p_fits (a b : Int) (ha : -1000000000000000000 ≤ a) (ha2 : a ≤ 1000000000000000000) (hb : -1000000000000000000 ≤ b) (hb2 : b ≤ 1000000000000000000) : e_impl_fits (a, b, ()) = some (fitP a b) := by
  simp only [e_impl_fits, r_impl_fits, fitP]
  by_cases h1 : a = 0
  · simp [h1]
  · by_cases h2 : b = 0
    · simp [h1, h2]
    · have z : decide (((b.natAbs : Nat) : Int) = 0) = false := by rw [decide_eq_false_iff_not]; omega
      have t : Int.tdiv 1000000000000000000 ((b.natAbs : Nat) : Int) = ((1000000000000000000 / b.natAbs : Nat) : Int) := by rw [Int.tdiv_eq_ediv_of_nonneg (by omega)]; rfl
      have hle : 1000000000000000000 / b.natAbs ≤ 1000000000000000000 := Nat.div_le_self _ _
      generalize 1000000000000000000 / b.natAbs = Q at t hle ⊢
      have u := u64_id (x := (Q : Int)) (by omega) (by omega)
      have e : decide (((a.natAbs : Nat) : Int) ≤ (Q : Int)) = decide (a.natAbs ≤ Q) := by rw [decide_eq_decide]; omega
      simp only [h1, h2, decide_false, cond_false, p_sizeI a (by omega) (by omega), p_sizeI b (by omega) (by omega), Option.bind_some, z, t, u, e, Bool.false_or]

theorem s_prod (a b : Int) (ha : -1000000000000000000 ≤ a) (ha2 : a ≤ 1000000000000000000) (hb : -1000000000000000000 ≤ b) (hb2 : b ≤ 1000000000000000000) : e_spec_l05Product (a, b, ()) = some (if fitP a b = true then (a * b, true) else (0, false)) := by
  simp only [e_spec_l05Product, r_spec_l05Product]
  by_cases h1 : a = 0
  · subst h1; simp [fitP]
  · by_cases h2 : b = 0
    · subst h2; simp [fitP]
    · have wa : wr (0 - a) = 0 - a := wr_id (by omega) (by omega)
      have wb : wr (0 - b) = 0 - b := wr_id (by omega) (by omega)
      have ea : (@ite Int (0 - a > a) (Int.decLt a (0 - a)) (0 - a) a) = ((a.natAbs : Nat) : Int) := by split <;> omega
      have eb : (@ite Int (0 - b > b) (Int.decLt b (0 - b)) (0 - b) b) = ((b.natAbs : Nat) : Int) := by split <;> omega
      have z : decide (((b.natAbs : Nat) : Int) = 0) = false := by rw [decide_eq_false_iff_not]; omega
      have t : Int.tdiv 1000000000000000000 ((b.natAbs : Nat) : Int) = ((1000000000000000000 / b.natAbs : Nat) : Int) := by rw [Int.tdiv_eq_ediv_of_nonneg (by omega)]; rfl
      have hle : 1000000000000000000 / b.natAbs ≤ 1000000000000000000 := Nat.div_le_self _ _
      have hfq : fitP a b = (decide (a = 0) || decide (b = 0) || decide (a.natAbs ≤ 1000000000000000000 / b.natAbs)) := rfl
      generalize 1000000000000000000 / b.natAbs = Q at t hle hfq ⊢
      have wt : wr (Q : Int) = (Q : Int) := wr_id (by omega) (by omega)
      rw [wa, wb, ea, eb, z, t, wt]
      simp only [h1, h2, decide_false, cond_false]
      by_cases h3 : a.natAbs ≤ Q
      · have hf : fitP a b = true := by simp only [hfq, h3, decide_true, Bool.or_true]
        have bd := fit_bd hf
        have w : wr (a * b) = a * b := wr_id (by omega) (by omega)
        have d : decide (((a.natAbs : Nat) : Int) > (Q : Int)) = false := by rw [decide_eq_false_iff_not]; omega
        rw [d, w, if_pos hf]; rfl
      · have hf : ¬ fitP a b = true := by simp only [hfq, h1, h2, h3, decide_false, Bool.or_false, Bool.false_eq_true, not_false_eq_true]
        have d : decide (((a.natAbs : Nat) : Int) > (Q : Int)) = true := by rw [decide_eq_true_eq]; omega
        rw [d, if_neg hf]; rfl

/-- Whether two fractions can be calculated with. -/
def calc2 (a b : Int × Int) : Bool := rOk a && rOk b && fitP a.1 b.2 && fitP b.1 a.2 && fitP a.2 b.2 && fitP a.1 b.1

theorem p_calc (a b : Int × Int) : e_impl_calculable (a, b, ()) = some (calc2 a b) := by
  simp only [e_impl_calculable, r_impl_calculable, p_rOk, Option.bind_some, calc2]
  cases h1 : rOk a with
  | false => rfl
  | true =>
    cases h2 : rOk b with
    | false => rfl
    | true =>
      have b1 := rOk_bd h1
      have b2 := rOk_bd h2
      simp only [cond_true, p_fits a.1 b.2 (by omega) (by omega) (by omega) (by omega), p_fits b.1 a.2 (by omega) (by omega) (by omega) (by omega), p_fits a.2 b.2 (by omega) (by omega) (by omega) (by omega), p_fits a.1 b.1 (by omega) (by omega) (by omega) (by omega), Option.bind_some]
      cases fitP a.1 b.2 <;> cases fitP b.1 a.2 <;> cases fitP a.2 b.2 <;> cases fitP a.1 b.1 <;> rfl

theorem calc_parts {a b : Int × Int} (h : calc2 a b = true) : rOk a = true ∧ rOk b = true ∧ fitP a.1 b.2 = true ∧ fitP b.1 a.2 = true ∧ fitP a.2 b.2 = true ∧ fitP a.1 b.1 = true := by
  simp only [calc2, Bool.and_eq_true] at h
  exact ⟨h.1.1.1.1.1, h.1.1.1.1.2, h.1.1.1.2, h.1.1.2, h.1.2, h.2⟩

theorem z_sm : Sm.sm B1 ((0, 0) : Int × Int) := ⟨⟨by omega, by omega⟩, ⟨by omega, by omega⟩⟩

/-- The sum (sign 1) or the difference (sign -1). -/
noncomputable def sumV (sg : Int) (a b : Int × Int) : Int × Int := if calc2 a b = true then (e_spec_RatioOf (a.1 * b.2 + sg * (b.1 * a.2), a.2 * b.2, ())).getD (0, 0) else (0, 0)
noncomputable def timV (a b : Int × Int) : Int × Int := if calc2 a b = true then (e_spec_RatioOf (a.1 * b.1, a.2 * b.2, ())).getD (0, 0) else (0, 0)
noncomputable def invV (a : Int × Int) : Int × Int := if rOk a = true then (e_spec_RatioOf (a.2, a.1, ())).getD (0, 0) else (0, 0)

theorem s_Combine (a b : Int × Int) (sg : Int) (hsg : sg = 1 ∨ sg = -1) : e_spec_l05Combine (a, b, sg, ()) = some (sumV sg a b) ∧ Sm.sm B1 (sumV sg a b) ∧
    (calc2 a b = true → e_impl_RatioOf (a.1 * b.2 + sg * (b.1 * a.2), a.2 * b.2, ()) = some (sumV sg a b)) := by
  simp only [e_spec_l05Combine, r_spec_l05Combine, s_rOk, Option.bind_some]
  cases hc : calc2 a b with
  | true =>
    obtain ⟨k1, k2, k3, k4, k5, k6⟩ := calc_parts hc
    have b1 := rOk_bd k1
    have b2 := rOk_bd k2
    have f1 := fit_bd k3
    have f2 := fit_bd k4
    have f3 := fit_bd k5
    have f4 := fit_bd k6
    have w1 : wr (sg * (b.1 * a.2)) = sg * (b.1 * a.2) := by rcases hsg with rfl | rfl <;> exact wr_id (by omega) (by omega)
    have hb : (a.1 * b.2 + sg * (b.1 * a.2)).natAbs ≤ 2000000000000000000 := by rcases hsg with rfl | rfl <;> omega
    have w2 : wr (a.1 * b.2 + sg * (b.1 * a.2)) = a.1 * b.2 + sg * (b.1 * a.2) := wr_id (by omega) (by omega)
    obtain ⟨r, r1, r2, r3⟩ := ratio_all (a.1 * b.2 + sg * (b.1 * a.2)) (a.2 * b.2) (by omega) (by omega) (by omega) (by omega)
    have e : sumV sg a b = r := by simp only [sumV, hc, if_true, r2, Option.getD_some]
    rw [e]
    refine ⟨?_, r3, fun _ => r1⟩
    simp only [k1, k2, Bool.not_true, cond_false, s_prod a.1 b.2 (by omega) (by omega) (by omega) (by omega), s_prod b.1 a.2 (by omega) (by omega) (by omega) (by omega), s_prod a.2 b.2 (by omega) (by omega) (by omega) (by omega), s_prod a.1 b.1 (by omega) (by omega) (by omega) (by omega), Option.bind_some, k3, k4, k5, k6, if_true, w1, w2, r2]
  | false =>
    have e : sumV sg a b = (0, 0) := by simp [sumV, hc]
    rw [e]
    refine ⟨?_, z_sm, by simp⟩
    cases h1 : rOk a with
    | false => rfl
    | true =>
      cases h2 : rOk b with
      | false => rfl
      | true =>
        have b1 := rOk_bd h1
        have b2 := rOk_bd h2
        simp only [Bool.not_true, cond_false, s_prod a.1 b.2 (by omega) (by omega) (by omega) (by omega), s_prod b.1 a.2 (by omega) (by omega) (by omega) (by omega), s_prod a.2 b.2 (by omega) (by omega) (by omega) (by omega), s_prod a.1 b.1 (by omega) (by omega) (by omega) (by omega), Option.bind_some]
        simp only [calc2, h1, h2, Bool.true_and] at hc
        cases q1 : fitP a.1 b.2 with
        | false => simp
        | true =>
          cases q2 : fitP b.1 a.2 with
          | false => simp
          | true =>
            cases q3 : fitP a.2 b.2 with
            | false => simp
            | true =>
              cases q4 : fitP a.1 b.1 with
              | false => simp
              | true => simp [q1, q2, q3, q4] at hc

theorem sum_both (a b : Int × Int) : e_impl_RatioSum (a, b, ()) = some (sumV 1 a b) ∧ e_spec_RatioSum (a, b, ()) = some (sumV 1 a b) ∧ Sm.sm B1 (sumV 1 a b) := by
  obtain ⟨s1, s2, s3⟩ := s_Combine a b 1 (.inl rfl)
  refine ⟨?_, ?_, s2⟩
  · simp only [e_impl_RatioSum, r_impl_RatioSum, p_calc, Option.bind_some]
    cases hc : calc2 a b with
    | false => simp [sumV, hc]
    | true =>
      obtain ⟨k1, k2, k3, k4, k5, k6⟩ := calc_parts hc
      have f1 := fit_bd k3
      have f2 := fit_bd k4
      have f3 := fit_bd k5
      have w1 : wr (a.1 * b.2) = a.1 * b.2 := wr_id (by omega) (by omega)
      have w2 : wr (b.1 * a.2) = b.1 * a.2 := wr_id (by omega) (by omega)
      have w3 : wr (a.2 * b.2) = a.2 * b.2 := wr_id (by omega) (by omega)
      have w4 : wr (a.1 * b.2 + b.1 * a.2) = a.1 * b.2 + 1 * (b.1 * a.2) := by rw [Int.one_mul]; exact wr_id (by omega) (by omega)
      simp only [Bool.not_true, cond_false, w1, w2, w3, w4, s3 hc, Option.bind_some]
  · simp only [e_spec_RatioSum, r_spec_RatioSum, s1, Option.bind_some]

theorem diff_both (a b : Int × Int) : e_impl_RatioDiff (a, b, ()) = some (sumV (-1) a b) ∧ e_spec_RatioDiff (a, b, ()) = some (sumV (-1) a b) ∧ Sm.sm B1 (sumV (-1) a b) := by
  obtain ⟨s1, s2, s3⟩ := s_Combine a b (-1) (.inr rfl)
  refine ⟨?_, ?_, s2⟩
  · simp only [e_impl_RatioDiff, r_impl_RatioDiff, p_calc, Option.bind_some]
    cases hc : calc2 a b with
    | false => simp [sumV, hc]
    | true =>
      obtain ⟨k1, k2, k3, k4, k5, k6⟩ := calc_parts hc
      have f1 := fit_bd k3
      have f2 := fit_bd k4
      have f3 := fit_bd k5
      have w1 : wr (a.1 * b.2) = a.1 * b.2 := wr_id (by omega) (by omega)
      have w2 : wr (b.1 * a.2) = b.1 * a.2 := wr_id (by omega) (by omega)
      have w3 : wr (a.2 * b.2) = a.2 * b.2 := wr_id (by omega) (by omega)
      have w4 : wr (a.1 * b.2 - b.1 * a.2) = a.1 * b.2 + -1 * (b.1 * a.2) := by rw [wr_id (by omega) (by omega)]; omega
      simp only [Bool.not_true, cond_false, w1, w2, w3, w4, s3 hc, Option.bind_some]
  · simp only [e_spec_RatioDiff, r_spec_RatioDiff, s1, Option.bind_some]

theorem s_Fits (a b : Int × Int) : e_spec_l05Fits (a, b, ()) = some (calc2 a b) := by
  simp only [e_spec_l05Fits, r_spec_l05Fits, s_rOk, Option.bind_some, calc2]
  cases h1 : rOk a with
  | false => rfl
  | true =>
    cases h2 : rOk b with
    | false => rfl
    | true =>
      have b1 := rOk_bd h1
      have b2 := rOk_bd h2
      simp only [Bool.not_true, cond_false, s_prod a.1 b.2 (by omega) (by omega) (by omega) (by omega), s_prod b.1 a.2 (by omega) (by omega) (by omega) (by omega), s_prod a.2 b.2 (by omega) (by omega) (by omega) (by omega), s_prod a.1 b.1 (by omega) (by omega) (by omega) (by omega), Option.bind_some]
      cases fitP a.1 b.2 <;> cases fitP b.1 a.2 <;> cases fitP a.2 b.2 <;> cases fitP a.1 b.1 <;> rfl

theorem times_both (a b : Int × Int) : e_impl_RatioTimes (a, b, ()) = some (timV a b) ∧ e_spec_RatioTimes (a, b, ()) = some (timV a b) ∧ Sm.sm B1 (timV a b) := by
  simp only [e_impl_RatioTimes, r_impl_RatioTimes, e_spec_RatioTimes, r_spec_RatioTimes, p_calc, s_Fits, Option.bind_some]
  cases hc : calc2 a b with
  | false =>
    have e : timV a b = (0, 0) := by simp [timV, hc]
    rw [e]; exact ⟨rfl, rfl, z_sm⟩
  | true =>
    obtain ⟨k1, k2, k3, k4, k5, k6⟩ := calc_parts hc
    have f3 := fit_bd k5
    have f4 := fit_bd k6
    have w1 : wr (a.1 * b.1) = a.1 * b.1 := wr_id (by omega) (by omega)
    have w3 : wr (a.2 * b.2) = a.2 * b.2 := wr_id (by omega) (by omega)
    obtain ⟨r, r1, r2, r3⟩ := ratio_all (a.1 * b.1) (a.2 * b.2) (by omega) (by omega) (by omega) (by omega)
    have e : timV a b = r := by simp only [timV, hc, if_true, r2, Option.getD_some]
    rw [e]
    exact ⟨by simp only [Bool.not_true, cond_false, w1, w3, r1, Option.bind_some], by simp only [Bool.not_true, cond_false, w1, w3, r2, Option.bind_some], r3⟩

theorem inv_both (a : Int × Int) : e_impl_RatioInverse (a, ()) = some (invV a) ∧ e_spec_RatioInverse (a, ()) = some (invV a) ∧ Sm.sm B1 (invV a) := by
  simp only [e_impl_RatioInverse, r_impl_RatioInverse, e_spec_RatioInverse, r_spec_RatioInverse, p_rOk, s_rOk, Option.bind_some]
  cases hc : rOk a with
  | false =>
    have e : invV a = (0, 0) := by simp [invV, hc]
    rw [e]; exact ⟨rfl, rfl, z_sm⟩
  | true =>
    have b1 := rOk_bd hc
    obtain ⟨r, r1, r2, r3⟩ := ratio_all a.2 a.1 (by omega) (by omega) (by omega) (by omega)
    have e : invV a = r := by simp only [invV, hc, if_true, r2, Option.getD_some]
    rw [e]
    exact ⟨by simp only [Bool.not_true, cond_false, r1, Option.bind_some], by simp only [Bool.not_true, cond_false, r2, Option.bind_some], r3⟩

end Go.Sx.R
namespace Go.Sx.R
open Go Go.Sx

abbrev Mat := List (List (Int × Int))
/-- An entry. -/
def en (m : Mat) (i j : Nat) : Int × Int := (((m[i]?).getD [])[j]?).getD (0, 0)
def Sq (m : Mat) : Prop := ∀ row ∈ m, row.length = m.length

theorem Sq.get {m : Mat} (h : Sq m) {i j : Nat} (hi : i < m.length) (hj : j < m.length) : ∃ row, m[i]? = some row ∧ row.length = m.length ∧ row[j]? = some (en m i j) := by
  obtain ⟨row, hr⟩ : ∃ row, m[i]? = some row := ⟨_, List.getElem?_eq_getElem hi⟩
  have hl := h row (List.mem_of_getElem? hr)
  obtain ⟨x, hx⟩ : ∃ x, row[j]? = some x := ⟨_, List.getElem?_eq_getElem (by omega)⟩
  exact ⟨row, hr, hl, by simp only [en, hr, Option.getD_some, hx]⟩

theorem en_row {m : Mat} {i j : Nat} {row : List (Int × Int)} {x : Int × Int} (hr : m[i]? = some row) (hx : row[j]? = some x) : en m i j = x := by simp only [en, hr, Option.getD_some, hx]

/-- The sum of a row. -/
noncomputable def rowS (row : List (Int × Int)) : Int × Int := row.foldl (sumV 1) (0, 1)

theorem take_foldl {β σ : Type} (g : σ → β → σ) (s : σ) {l : List β} {i : Nat} {x : β} (h : l[i]? = some x) : (l.take (i + 1)).foldl g s = g ((l.take i).foldl g s) x := by
  rw [List.take_add_one, h, List.foldl_append]; rfl

/-- A response matrix. -/
def IsR (m : Mat) : Prop := 1 ≤ m.length ∧ m.length ≤ 5 ∧ Sq m ∧ (∀ row ∈ m, ∀ x ∈ row, rOk x = true) ∧ (∀ i j, i < m.length → j < m.length → en m i j = en m j i ∧ (i ≠ j → (en m i j).1 ≤ 0)) ∧ ∀ row ∈ m, rowS row = (0, 1)
noncomputable def isRB (m : Mat) : Bool := open Classical in decide (IsR m)
theorem isRB_false {m : Mat} (h : ¬ IsR m) : isRB m = false := by simp only [isRB, decide_eq_false_iff_not]; exact h
theorem isRB_true {m : Mat} (h : IsR m) : isRB m = true := by simp only [isRB, decide_eq_true_eq]; exact h

theorem intEq2 {x y : Int × Int} : (intEq x.1 y.1 && intEq x.2 y.2) = decide (x = y) := by
  rw [Bool.eq_iff_iff]
  simp only [intEq, Bool.and_eq_true, decide_eq_true_eq]
  exact ⟨fun h => Prod.ext h.1 h.2, fun h => by rw [h]; exact ⟨rfl, rfl⟩⟩

theorem p_ContR (row : List (Int × Int)) (hl : row.length ≤ 1073741824) : e_slices_ContainsFunc_impl_Ratio (row, (), ()) = some (row.any fun r => !rOk r) := by
  simp only [e_slices_ContainsFunc_impl_Ratio, r_slices_ContainsFunc_impl_Ratio, e_slices_IndexFunc_impl_Ratio, r_slices_IndexFunc_impl_Ratio]
  have q := iter_rule (R := Int) (body := r_slices_IndexFunc_impl_Ratio_L0 e_impl_IsResponse_1 N0) (ke := fun _ => some (-1)) (fun o => ∃ v, o = some v ∧ decide (v ≥ 0) = row.any fun r => !rOk r) row (fun (_ : Unit) i => (row, (), (row.length : Int), i, ())) (fun i _ => ∀ x ∈ row.take i, rOk x = true) (fun st i x kc hp hx hi hk => ?_) (fun st kc hp => ?_) (N := N0) (by have := N0_big; omega) () (by simp)
  · obtain ⟨v, e1, e2⟩ := q
    rw [e1]; simp only [Option.bind_some, e2]
  · simp only [r_slices_IndexFunc_impl_Ratio_L0, lt_len, hi, decide_true, cond_true, getI_nat, hx, Option.bind_some, e_impl_IsResponse_1, r_impl_IsResponse_1, p_rOk, wr_succ hi (show row.length ≤ 9223372036854775807 by omega)]
    cases h : rOk x with
    | false =>
      simp only [Bool.not_false, cond_true]
      refine ⟨_, rfl, ?_⟩
      have : (row.any fun r => !rOk r) = true := by
        rw [List.any_eq_true]; exact ⟨x, List.mem_of_getElem? hx, by rw [h]; rfl⟩
      rw [this, decide_eq_true_eq]; omega
    | true =>
      simp only [Bool.not_true, cond_false]
      refine hk () fun y hy => ?_
      rw [List.take_add_one, hx] at hy
      simp only [List.mem_append, Option.toList_some, List.mem_singleton] at hy
      rcases hy with hy | rfl
      · exact hp y hy
      · exact h
  · rw [List.take_length] at hp
    simp only [r_slices_IndexFunc_impl_Ratio_L0, not_lt_self, cond_false]
    refine ⟨-1, rfl, ?_⟩
    have : (row.any fun r => !rOk r) = false := by
      rw [List.any_eq_false]; intro x hx; rw [hp x hx]; simp
    rw [this]; decide

theorem p_IsR (m : Mat) : e_impl_IsResponse (m, ()) = some (isRB m) := by
  simp only [e_impl_IsResponse, r_impl_IsResponse]
  by_cases h1 : m.length < 1
  · have d : decide (((m.length : Nat) : Int) < 1) = true := by rw [decide_eq_true_eq]; omega
    rw [d, cond_true, isRB_false fun h => by have := h.1; omega]
  have d1 : decide (((m.length : Nat) : Int) < 1) = false := by rw [decide_eq_false_iff_not]; omega
  by_cases h2 : m.length > 5
  · have d : decide (((m.length : Nat) : Int) > 5) = true := by rw [decide_eq_true_eq]; omega
    rw [d1, cond_false, d, cond_true, isRB_false fun h => by have := h.2.1; omega]
  have d2 : decide (((m.length : Nat) : Int) > 5) = false := by rw [decide_eq_false_iff_not]; omega
  simp only [d1, d2, cond_false]
  have hB : m.length ≤ 9223372036854775807 := by omega
  have hN := N0_big
  refine iter_rule (R := Bool) (fun o => o = some (isRB m)) m (fun (_ : Unit) i => (m, m, (m.length : Int), i, ())) (fun i _ => ∀ row ∈ m.take i, row.length = m.length ∧ ∀ x ∈ row, rOk x = true) (fun st i row kc hp hr hi hk => ?_) (fun st kc hp => ?_) (N := N0) (by omega) () (by simp)
  · have hrm := List.mem_of_getElem? hr
    simp only [r_impl_IsResponse_L0, lt_len, hi, decide_true, cond_true, getI_nat, hr, Option.bind_some, wr_succ hi hB]
    by_cases hl : row.length = m.length
    · have d : decide (((row.length : Nat) : Int) = ((m.length : Nat) : Int)) = true := by rw [decide_eq_true_eq]; omega
      simp only [d, Bool.not_true, cond_false, p_ContR row (by omega), Option.bind_some]
      cases ha : row.any fun r => !rOk r with
      | true =>
        simp only [cond_true]
        obtain ⟨x, hx, hk2⟩ := List.any_eq_true.1 ha
        rw [isRB_false fun h => by have := h.2.2.2.1 row hrm x hx; rw [this] at hk2; cases hk2]
      | false =>
        simp only [cond_false]
        refine hk () fun y hy => ?_
        rw [List.take_add_one, hr] at hy
        simp only [List.mem_append, Option.toList_some, List.mem_singleton] at hy
        rcases hy with hy | rfl
        · exact hp y hy
        · refine ⟨hl, fun x hx => ?_⟩
          have := List.any_eq_false.1 ha x hx
          simpa using this
    · have d : decide (((row.length : Nat) : Int) = ((m.length : Nat) : Int)) = false := by rw [decide_eq_false_iff_not]; omega
      simp only [d, Bool.not_false, cond_true]
      rw [isRB_false fun h => hl (h.2.2.1 row hrm)]
  · rw [List.take_length] at hp
    simp only [r_impl_IsResponse_L0, not_lt_self, cond_false]
    have hSq : Sq m := fun row hr => (hp row hr).1
    refine iter_rule (R := Bool) (fun o => o = some (isRB m)) m (fun (_ : Unit) i => (m, m, (m.length : Int), i, ())) (fun i _ => (∀ i', i' < i → ∀ j, j < m.length → en m i' j = en m j i' ∧ (i' ≠ j → (en m i' j).1 ≤ 0)) ∧ ∀ row ∈ m.take i, rowS row = (0, 1)) (fun st i row kc hq hr hi hk => ?_) (fun st kc hq => ?_) (N := N0) (by omega) () ⟨fun _ h => absurd h (Nat.not_lt_zero _), by simp⟩
    · have hrm := List.mem_of_getElem? hr
      have hrl := hSq row hrm
      simp only [r_impl_IsResponse_L2, lt_len, hi, decide_true, cond_true, getI_nat, hr, Option.bind_some]
      refine iter_rule (R := Bool) (fun o => o = some (isRB m)) row (fun (s : Int × Int) j => (m, (i : Int), s, m, (m.length : Int), (i : Int), row, (row.length : Int), j, ())) (fun j s => s = (row.take j).foldl (sumV 1) (0, 1) ∧ ∀ j', j' < j → en m i j' = en m j' i ∧ (i ≠ j' → (en m i j').1 ≤ 0)) (fun s j x kc2 ⟨s1, s2⟩ hx hj hk2 => ?_) (fun s kc2 ⟨s1, s2⟩ => ?_) (N := N0) (by omega) (0, 1) ⟨by simp, fun _ h => absurd h (Nat.not_lt_zero _)⟩
      · have hjm : j < m.length := by omega
        obtain ⟨row2, g1, g2, g3⟩ := hSq.get hjm hi
        have hex := en_row hr hx
        simp only [r_impl_IsResponse_L4, lt_len, hj, decide_true, cond_true, getI_nat, hx, g1, g3, Option.bind_some, intEq2, (sum_both s x).1, wr_succ hj (show row.length ≤ 9223372036854775807 by omega)]
        by_cases e1 : x = en m j i
        · simp only [e1, decide_true, Bool.not_true, cond_false]
          have fin : (i ≠ j → x.1 ≤ 0) → (fun o => o = some (isRB m)) (kc2 (m, (i : Int), sumV 1 s x, m, (m.length : Int), (i : Int), row, (row.length : Int), ((j + 1 : Nat) : Int), ())) := fun hle => hk2 _ ⟨by rw [take_foldl _ _ hx, ← s1], fun j' hj' => by
            by_cases e : j' = j
            · subst e; rw [hex]; exact ⟨e1, hle⟩
            · exact s2 j' (by omega)⟩
          rw [← e1]
          by_cases e2 : i = j
          · have d : decide ((i : Int) = (j : Int)) = true := by rw [decide_eq_true_eq]; omega
            simp only [d, Bool.not_true, cond_false]
            exact fin fun h => absurd e2 h
          · have d : decide ((i : Int) = (j : Int)) = false := by rw [decide_eq_false_iff_not]; omega
            simp only [d, Bool.not_false, cond_true]
            by_cases e3 : x.1 > 0
            · simp only [e3, decide_true, cond_true]
              rw [isRB_false fun h => by have := (h.2.2.2.2.1 i j hi hjm).2 e2; rw [hex] at this; omega]
            · simp only [e3, decide_false, cond_false]
              exact fin fun _ => by omega
        · simp only [e1, decide_false, Bool.not_false, cond_true]
          rw [isRB_false fun h => e1 (by have := (h.2.2.2.2.1 i j hi hjm).1; rw [hex] at this; exact this)]
      · rw [List.take_length] at s1
        simp only [r_impl_IsResponse_L4, not_lt_self, cond_false, wr_succ hi hB]
        have hsum : (intEq s.1 0 && intEq s.2 1) = decide (s = (0, 1)) := intEq2 (x := s) (y := (0, 1))
        rw [hsum]
        by_cases e : s = (0, 1)
        · simp only [e, decide_true, Bool.not_true, cond_false]
          refine hk () ⟨fun i' hi' j hj => ?_, fun y hy => ?_⟩
          · by_cases e2 : i' = i
            · subst e2; exact s2 j (by omega)
            · exact hq.1 i' (by omega) j hj
          · rw [List.take_add_one, hr] at hy
            simp only [List.mem_append, Option.toList_some, List.mem_singleton] at hy
            rcases hy with hy | rfl
            · exact hq.2 y hy
            · rw [rowS, ← s1, e]
        · simp only [e, decide_false, Bool.not_false, cond_true]
          rw [isRB_false fun h => e (by have := h.2.2.2.2.2 row hrm; rw [rowS, ← s1] at this; exact this)]
    · rw [List.take_length] at hq
      simp only [r_impl_IsResponse_L2, not_lt_self, cond_false]
      rw [isRB_true ⟨by omega, by omega, hSq, fun row hr => (hp row hr).2, fun i j hi hj => hq.1 i hi j hj, hq.2⟩]

theorem s_IsR (m : Mat) (hm : m.length ≤ 1073741824) : e_spec_IsResponse (m, ()) = some (isRB m) := by
  simp only [e_spec_IsResponse, r_spec_IsResponse, p_l01In, n_l01In, Option.bind_some]
  by_cases h1 : 1 ≤ m.length ∧ m.length ≤ 5
  case neg =>
    have d : (decide ((1 : Int) ≤ ((m.length : Nat) : Int)) && decide (((m.length : Nat) : Int) ≤ 5)) = false := by simp only [Bool.and_eq_false_iff, decide_eq_false_iff_not]; omega
    simp only [d, Bool.not_false, cond_true]
    rw [isRB_false fun h => h1 ⟨h.1, h.2.1⟩]
  have d : (decide ((1 : Int) ≤ ((m.length : Nat) : Int)) && decide (((m.length : Nat) : Int) ≤ 5)) = true := by simp only [Bool.and_eq_true, decide_eq_true_eq]; omega
  simp only [d, Bool.not_true, cond_false]
  have hB : m.length ≤ 9223372036854775807 := by omega
  have hN := N0_big
  refine iter_rule (R := Bool) (fun o => o = some (isRB m)) m (fun (_ : Unit) i => (m, m, (m.length : Int), i, ())) (fun i _ => ∀ row ∈ m.take i, row.length = m.length) (fun st i row kc hp hr hi hk => ?_) (fun st kc hp => ?_) (N := N0) (by omega) () (by simp)
  · have hrm := List.mem_of_getElem? hr
    simp only [r_spec_IsResponse_L0, lt_len, hi, decide_true, cond_true, getI_nat, hr, Option.bind_some, wr_succ hi hB]
    by_cases hl : row.length = m.length
    · have d : decide (((row.length : Nat) : Int) = ((m.length : Nat) : Int)) = true := by rw [decide_eq_true_eq]; omega
      simp only [d, Bool.not_true, cond_false]
      refine hk () fun y hy => ?_
      rw [List.take_add_one, hr] at hy
      simp only [List.mem_append, Option.toList_some, List.mem_singleton] at hy
      rcases hy with hy | rfl
      · exact hp y hy
      · exact hl
    · have d : decide (((row.length : Nat) : Int) = ((m.length : Nat) : Int)) = false := by rw [decide_eq_false_iff_not]; omega
      simp only [d, Bool.not_false, cond_true]
      rw [isRB_false fun h => hl (h.2.2.1 row hrm)]
  · rw [List.take_length] at hp
    simp only [r_spec_IsResponse_L0, not_lt_self, cond_false]
    have hSq : Sq m := hp
    refine iter_rule (R := Bool) (fun o => o = some (isRB m)) m (fun (_ : Unit) i => (m, m, (m.length : Int), i, ())) (fun i _ => (∀ i', i' < i → ∀ j, j < m.length → en m i' j = en m j i' ∧ (i' ≠ j → (en m i' j).1 ≤ 0)) ∧ ∀ row ∈ m.take i, (∀ x ∈ row, rOk x = true) ∧ rowS row = (0, 1)) (fun st i row kc hq hr hi hk => ?_) (fun st kc hq => ?_) (N := N0) (by omega) () ⟨fun _ h => absurd h (Nat.not_lt_zero _), by simp⟩
    · have hrm := List.mem_of_getElem? hr
      have hrl := hSq row hrm
      simp only [r_spec_IsResponse_L2, lt_len, hi, decide_true, cond_true, getI_nat, hr, Option.bind_some]
      refine iter_rule (R := Bool) (fun o => o = some (isRB m)) row (fun (s : Int × Int) j => (m, (i : Int), s, m, (m.length : Int), (i : Int), row, (row.length : Int), j, ())) (fun j s => s = (row.take j).foldl (sumV 1) (0, 1) ∧ (∀ j', j' < j → en m i j' = en m j' i ∧ (i ≠ j' → (en m i j').1 ≤ 0)) ∧ ∀ x ∈ row.take j, rOk x = true) (fun s j x kc2 ⟨s1, s2, s3⟩ hx hj hk2 => ?_) (fun s kc2 ⟨s1, s2, s3⟩ => ?_) (N := N0) (by omega) (0, 1) ⟨by simp, fun _ h => absurd h (Nat.not_lt_zero _), by simp⟩
      · have hjm : j < m.length := by omega
        obtain ⟨row2, g1, g2, g3⟩ := hSq.get hjm hi
        have hex := en_row hr hx
        have hxm := List.mem_of_getElem? hx
        simp only [r_spec_IsResponse_L4, lt_len, hj, decide_true, cond_true, getI_nat, hx, g1, g3, Option.bind_some, intEq2, (sum_both s x).2.1, s_rOk, wr_succ hj (show row.length ≤ 9223372036854775807 by omega)]
        cases hok : rOk x with
        | false =>
          simp only [Bool.not_false, cond_true]
          rw [isRB_false fun h => by have := h.2.2.2.1 row hrm x hxm; rw [hok] at this; cases this]
        | true =>
          simp only [Bool.not_true, cond_false]
          by_cases e1 : x = en m j i
          · simp only [e1, decide_true, Bool.not_true, cond_false]
            have fin : (i ≠ j → x.1 ≤ 0) → (fun o => o = some (isRB m)) (kc2 (m, (i : Int), sumV 1 s x, m, (m.length : Int), (i : Int), row, (row.length : Int), ((j + 1 : Nat) : Int), ())) := fun hle => hk2 _ ⟨by rw [take_foldl _ _ hx, ← s1], fun j' hj' => by
              by_cases e : j' = j
              · subst e; rw [hex]; exact ⟨e1, hle⟩
              · exact s2 j' (by omega), fun y hy => by
              rw [List.take_add_one, hx] at hy
              simp only [List.mem_append, Option.toList_some, List.mem_singleton] at hy
              rcases hy with hy | rfl
              · exact s3 y hy
              · exact hok⟩
            rw [← e1]
            by_cases e2 : i = j
            · have d : decide ((i : Int) = (j : Int)) = true := by rw [decide_eq_true_eq]; omega
              simp only [d, Bool.not_true, cond_false]
              exact fin fun h => absurd e2 h
            · have d : decide ((i : Int) = (j : Int)) = false := by rw [decide_eq_false_iff_not]; omega
              simp only [d, Bool.not_false, cond_true]
              by_cases e3 : x.1 > 0
              · simp only [e3, decide_true, cond_true]
                rw [isRB_false fun h => by have := (h.2.2.2.2.1 i j hi hjm).2 e2; rw [hex] at this; omega]
              · simp only [e3, decide_false, cond_false]
                exact fin fun _ => by omega
          · simp only [e1, decide_false, Bool.not_false, cond_true]
            rw [isRB_false fun h => e1 (by have := (h.2.2.2.2.1 i j hi hjm).1; rw [hex] at this; exact this)]
      · rw [List.take_length] at s1 s3
        simp only [r_spec_IsResponse_L4, not_lt_self, cond_false, wr_succ hi hB]
        by_cases e : s = (0, 1)
        · have e1 : decide (s.1 = 0) = true := by rw [e]; rfl
          have e2 : decide (s.2 = 1) = true := by rw [e]; rfl
          simp only [e1, e2, Bool.not_true, cond_false]
          refine hk () ⟨fun i' hi' j hj => ?_, fun y hy => ?_⟩
          · by_cases e2 : i' = i
            · subst e2; exact s2 j (by omega)
            · exact hq.1 i' (by omega) j hj
          · rw [List.take_add_one, hr] at hy
            simp only [List.mem_append, Option.toList_some, List.mem_singleton] at hy
            rcases hy with hy | rfl
            · exact hq.2 y hy
            · exact ⟨s3, by rw [rowS, ← s1, e]⟩
        · have hf : isRB m = false := isRB_false fun h => e (by have := h.2.2.2.2.2 row hrm; rw [rowS, ← s1] at this; exact this)
          rw [hf]
          by_cases e1 : s.1 = 0
          · have e2 : ¬ s.2 = 1 := fun h => e (Prod.ext e1 h)
            simp only [e1, e2, decide_true, decide_false, Bool.not_true, Bool.not_false, cond_true, cond_false]
          · simp only [e1, decide_false, Bool.not_false, cond_true]
    · rw [List.take_length] at hq
      simp only [r_spec_IsResponse_L2, not_lt_self, cond_false]
      rw [isRB_true ⟨by omega, by omega, hSq, fun row hr => (hq.2 row hr).1, fun i j hi hj => hq.1 i hi j hj, fun row hr => (hq.2 row hr).2⟩]

end Go.Sx.R
